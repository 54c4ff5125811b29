/- Part 17. -/
import Derived.Test.YtflblkahfegaoaaGreatSLMp
set_option linter.unusedSimpArgs false
set_option linter.unusedVariables false
set_option maxRecDepth 4000
namespace Go.HL.St1
open Go.HL Go.HL.Tl Go.HL.Sr Go.HL.Es Go.Proofs
theorem KV {P:Program} {K:Value->World->Prop} {w w0:World} {C:al} {t kt ke:TypeId} {k:IntKind} {n:Int} (hu:P.underlying t=some (.map kt ke)) (s:St w0 C w) (hk:∀b w',St w0 (C*aF b [] 0) w'->K (.map (some b)) w'):aI P (.mkm t true) [.int k n] K w:=by intro _;refine bm (s:=Instr.makeMap t (some (.int k n))) (v:= .map (some w.heap.size)) (w':=w.alloc (.map (dt []) 0)) ?_ (hk _ _ (s.alloc trivial));simp [Instr.makeMap,newObj,Sem.run,dt,Sem.bind,run_underlying hu,asInt,asIntOf]
attribute [local irreducible] aI
theorem Jr:∀(xs:List Int),0<xs.length->Lib.minOf xs∈xs
 | [],h=>by simp at h
 |x::t,_=>by
  have key:∀(l:List Int) (a:Int),l.foldl min a=a\/l.foldl min a∈l:=by
   intro l
   induction l with
   |nil=>intro a;exact .inl rfl
   |cons y r ih=>
    intro a;simp only [List.foldl_cons,List.mem_cons];rcases ih (min a y) with h|h
    ·rw [h]
     rcases Int.le_total a y with h2|h2
     ·rw [Int.min_eq_left h2];exact .inl rfl
     ·rw [Int.min_eq_right h2];exact .inr (.inl rfl)
    ·exact .inr (.inr h)
  rcases key (x::t) x with h|h
  ·show List.foldl min x (x::t)∈_
   rw [h];exact List.mem_cons_self
  ·exact h
theorem LH (xs:List Int) (v:Value) (w0 w:World) (A:al) (h:WR w0 A v xs) (h0:0<xs.length) (hm:xs.length<=1048576) (s:St w0 A w):
  ak Tryz.prog 359 [v] (λr w'=>r= .int .i64 (Lib.minOf xs)/\St w0 A w') w:=by
 obtain ⟨g,o,c,rfl,hc⟩:=h.at h0;refine Calls.mono (Any.slices_Min_int h4a g o xs.length c xs w h0 (Nat.le_refl _) (by omega) (λj hj=>hc w s j _ (bu hj))) ?_;rintro e w' ⟨rfl,rfl⟩;exact ⟨_,rfl,by rw [List.take_length],s⟩
theorem Lk (xs:List Int) (x:Int) (v:Value) (w0 w:World) (A:al) (h:WR w0 A v xs) (hx:x∈xs) (hm:xs.length<=1048576) (s:St w0 A w):
  ak Tryz.prog 358 [v,.int .i64 x] (λr w'=>(∃k:Nat,k<xs.length/\r= .int .i64 k)/\St w0 A w') w:=by
 have h0:0<xs.length:=List.length_pos_of_mem hx;obtain ⟨g,o,c,rfl,hc⟩:=h.at h0;refine Calls.mono (Any.slices_Index_int TK g o xs.length c xs x w (Nat.le_refl _) (by omega) (λj hj=>hc w s j _ (bu hj))) ?_;rintro e w' ⟨rfl,rfl⟩;refine ⟨_,rfl,?_,s⟩;obtain ⟨k,hk,hkx⟩:∃k,k<xs.length/\(xs.getD k 0=x/\∀j,j<k->xs.getD j 0≠x):=by
  clear hc h
  induction xs with
  |nil=>simp at hx
  |cons y t ih=>
   by_cases e:y=x
   ·exact ⟨0,by simp,by simpa using e,λj hj=>by omega⟩
   ·have hx':x∈t:=by rcases List.mem_cons.1 hx with h|h;exact absurd h.symm e;exact h
    obtain ⟨k,hk,h1,h2⟩:=ih hx' (by simp at hm;omega) (List.length_pos_of_mem hx');refine ⟨k+1,by simp;omega,by simpa using h1,λj hj=> ?_⟩;rcases j with _|j
    ·simpa using e
    ·have:=h2 j (by omega)
     simpa using this
 exact ⟨k,hk,by rw [Lib.idxOf_hit xs xs.length k x hk (Nat.le_refl _) hkx.1 hkx.2]⟩
def bCa:Nat->PO
 |0=> .lenL
 |1=>(.bin .neq)
 |2=>(.bin .lss)
 |3=>(.idxL 1)
 |4=>(.ext 0)
 |5=>(.ext 1)
 |6=>(.bin .add)
 |7=> .chkp
 |8=>(.fld 4)
 |9=>(.fld 1)
 |10=>(.fld 2)
 |11=>(.fld 3)
 |12=>(.un .not)
 |_=> .same
def Zw:Nat->EO
 |0=>(.mkm 346 true)
 |1=>(.ld false 1)
 |2=>(.look 346 true)
 |3=>(.lK 346)
 |4=>(.st 1)
 |_=> .an
def dOa:Nat->Value
 |0=>(.map none)
 |1=>(.int .i64 0)
 |2=>(.int .i64 1)
 |3=>(.bool true)
 |4=>(.tuple #[])
 |5=>(.bool false)
 |_=>undef
def RU:dk:=⟨bCa,Zw,dOa⟩
def hwa:ai:=⟨[0,1,4,5,6,7,9,18,19,20],41,[.slot 2],aW RU [] 0x39e79bffdd00c2b6ee67737575090f86fb5090f86b6ce6789a614f444054030e8bc0b2fff748009d7db5d5d424050920d0198406d424050901a789c737566cc51a6cc59b313d1500c29fb699db3150f84d3df901c307df901c3068bc2bc071b57de90f8263de90f8202771a659d9207e57c03a4001fc027ef7cc3d3c000f00a2f02cbffdd200271c71b57257104057c00163257104057c001c4103c027dd2002⟩
theorem Qe:aj S1 356 400=some hwa:=by kernel_rfl
def hxa:ai:=⟨[0,1,4,5,6,7],71,[.slot 2],aW RU [] 0xb39bffdd0042b6ee6773bedceda6325750b8195f41cc313d0730f50b81b4f41cc307d0730f4d3c1fa074f07ebc1ede68bc0b2fff740409e7a57db485610162edc7db566e0c0584059b8301d3d1330c1f44cc3997484574f072c1405050174f072c1405f074059dcee271c699d959b8145566e04126e059b813d0f30b4d3c1ca041d3c1ca07c1e973bedcefbef74440f4c910f80c1c910f80f4f414420c1f414420f4d3c1fa074f07ebc1f4f41cc307d0730f4d3c1fe074f07fbc1c106abc2bc073bedcefb71c6d5c959910c0e026325664430380a6443034f414420c1f414420f4d3c1fe074f07fbc1f4f41cc307d0730f4d3c1fa074f07ebc1c1027dd2042⟩
theorem Qf:aj S1 357 400=some hxa:=by kernel_rfl
def wO (xs:List Int) (i:Nat) (x:Int):Option Nat:=(List.range i).find? λk=>decide (x=xs.getD k 0)
def mD (xs:List Int) (i:Nat):List En:=(List.range i).map λk=>⟨xs.getD k 0,.int .i64 k,k⟩
theorem yV (xs:List Int) (i:Nat) (x:Int):dp (mD xs i) x=(wO xs i x).map λk=> .int .i64 (k:Int):=by
 unfold mD wO
 induction List.range i with
 |nil=>rfl
 |cons a t ih=>
  simp only [List.map_cons,dp,List.find?_cons]
  by_cases h:x=xs.getD a 0
  ·rw [if_pos h,decide_eq_true h];rfl
  ·rw [if_neg h,decide_eq_false h];exact ih
theorem B4 (xs:List Int) (i:Nat):mD xs (i+1)=mD xs i++ [⟨xs.getD i 0,.int .i64 i,i⟩]:=by simp [mD,List.range_succ]
theorem H2 {xs:List Int} {i k:Nat} {x:Int} (h:wO xs i x=some k):k<i/\x=xs.getD k 0:=by have h1:=List.mem_of_find?_eq_some h;have h2:=List.find?_some h;simp at h1;exact ⟨h1,by simpa using h2⟩
theorem Ea {xs:List Int} {i:Nat} (h:xs.Nodup) (hi:i<xs.length):wO xs i (xs.getD i 0)=none:=by
 unfold wO;rw [List.find?_eq_none];intro k hk;have hk:k<i:=by simpa using hk
 have e1:xs.getD i 0=xs[i]:=by simp [List.getD,hi]
 have e2:xs.getD k 0=xs[k]'(by omega):=by simp [List.getD,show k<xs.length by omega]
 rw [e1,e2];simp only [decide_eq_true_eq];intro e;have:=(List.getElem_inj (h₀:=hi) (h₁:=by omega) h).1 e;omega
theorem xQ:qw Tryz.prog 346 3 3 (.int .i64 0):=⟨by kernel_rfl,by kernel_rfl,by kernel_rfl⟩
theorem yT (xs:List Int) (av:Value) (a:Option Addr) (c:Nat) (w0 w:World) (A:al) (h:WR w0 A av xs) (hm:xs.length<=1048576) (hn:xs.Nodup) (h1:∀x∈xs,1<=x) (s:St w0 A w):
  ak Tryz.prog 356 [av,.slice a xs.length c] (λr w'=>∃m,r= .map (some m)/\St w0 (A*aF m (mD xs xs.length) xs.length) w') w:=by
 obtain ⟨n,hl⟩:∃n,xs.length=n:=⟨_,rfl⟩;have h0:=h;obtain ⟨a1,c1,rfl⟩:=h.val;unfold WR at h;rw [hl] at h⊢
 refine go Qe ?_;refine KV xQ.ty s λm w s=> ?_;simp;refine pT [4,5,6,9] (λx w=>∃(i:Nat) (o4 o5 o6:Value),x= [o4,o5,o6,.int .i64 i]/\i<=n/\St w0 (A*aF m (mD xs i) i) w) (λenv _=>n -ax env 9) ⟨0,_,_,_,rfl,by omega,s⟩ ?_;rintro LQ _ w ⟨i,o4,o5,o6,rfl,hi,t⟩ hN hX hR;simp;refine bU (λk=> ?_) (λk=> ?_)
 ·have k:i<n:=by omega
  clear hX hR;obtain ⟨g,o,c',e,hc⟩:=h.at (by omega);cases e;refine ⟨by simp,?_⟩;simp [k];refine af (hc _ t.an i _ (bu (by omega))) ?_;simp;obtain ⟨x,hx⟩:∃x,xs.getD i 0=x:=⟨_,rfl⟩;have hxi:xs[i]?.getD 0=x:=by rw [<-hx];simp [List.getD]
  have hx1:1<=x:=by have:=h1 (xs[i]'(by omega)) (List.getElem_mem _);rw [<-hx];simpa [List.getD,show i<xs.length by omega] using this
  have hg:dp (mD xs i) x=none:=by rw [yV,<-hx,Ea hn (by omega)];rfl
  try rw [hxi]
  refine gj xQ t.look ?_;rw [hg];simp;refine bU (λq2=> ?_) (λq2=> ?_)
  ·exfalso;omega
  refine mK xQ t hg λw t=> ?_;simp;have e1:mD xs i++ [⟨x,.int .i64 i,i⟩]=mD xs (i+1):=by rw [B4,hx]
  rw [e1] at t;simp (disch:=omega) only [wrap64];exact hN [_,_,_,.int .i64 (i+1)] w ⟨i+1,_,_,_,rfl,by omega,t⟩ (by simp [ax];omega)
 ·refine hX _ _ _ ?_
  obtain rfl:i=n:=by omega
  simp;exact t
def nf (xs:List Int) (gone:List Bool) (x:Int):Option Nat:=(wO xs xs.length x).bind λk=>if gone.getD k false=true then none else some k
def nx (xs:List Int) (wss:List (List Int)) (gone:List Bool) (i:Nat):Nat:=((wss.getD i []).findSome? (nf xs gone)).getD i
theorem RK {xs:List Int} {gone:List Bool} {x:Int} {k:Nat} (h:nf xs gone x=some k):k<xs.length/\gone.getD k false=false/\wO xs xs.length x=some k:=by
 unfold nf at h;cases hw:wO xs xs.length x with
 |none=>rw [hw] at h;cases h
 |some j=>
  rw [hw] at h;simp only [Option.bind_some] at h;split at h
  ·cases h
  ·cases h
   exact ⟨(H2 hw).1,Bool.eq_false_iff.2 ‹¬_›,rfl⟩
theorem qI {α β:Type} (f:α->Option β):∀(l:List α) (p:Nat),(∀j (h:j<l.length),j<p->f l[j]=none)->l.findSome? f=(l.drop p).findSome? f
 | [],p,_=>by simp
 |x::t,0,_=>rfl
 |x::t,p+1,h=>by
  have h0:=h 0 (by simp) (by omega);simp only [List.getElem_cons_zero] at h0;rw [List.findSome?_cons,h0,List.drop_succ_cons];exact qI f t p λj hj hp=>by
   have:=h (j+1) (by simp;omega) (by omega)
   simpa using this
structure tF (xs:List Int) (wss:List (List Int)) (gone:List Bool) (ps:List Int):Prop where
 len:ps.length=xs.length
 each:∀k,k<xs.length->∃p:Nat,ps.getD k 0=p/\p<=(wss.getD k []).length/\∀j,j<p->nf xs gone ((wss.getD k []).getD j 0)=none
structure WWR (w0:World) (A:al) (v:Value) (wvs:List Value) (wss:List (List Int)):Prop where
 row:Row w0 A v wvs.length 1 wvs
 len:wvs.length=wss.length
 each:∀k,k<wss.length->WR w0 A (wvs.getD k undef) (wss.getD k [])
abbrev J6 (mt m:Nat) (xs:List Int) (gone:List Bool) (ps:List Int) (av wv gv pv:Value):al:=
 pt mt (.cells #[av,wv,.map (some m),gv,pv] 393 (0,0))*aF m (mD xs xs.length) xs.length*own 4 1 gv xs.length (jH gone)*own 3 1 pv xs.length (ints ps)
theorem RL {xs:List Int} {wss:List (List Int)} {gone:List Bool} {i:Nat} (hi:i<xs.length):nx xs wss gone i<xs.length:=by
 unfold nx;cases h:(wss.getD i []).findSome? (nf xs gone) with
 |none=>exact hi
 |some k=>
  obtain ⟨x,_,hx⟩:=List.exists_of_findSome?_eq_some h;exact (RK hx).1
end Go.HL.St1
namespace Go.HL.St1
open Go.HL Go.HL.Tl Go.HL.Sr Go.HL.Es Go.Proofs
attribute [local irreducible] aI
theorem gd {α:Type} {l:List α} {i:Nat} {d:α} (h:i<l.length):l[i]?=some (l.getD i d):=by simp [List.getD,h]
theorem KF {l:List Bool} {i:Nat} (h:i<l.length):(jH l)[i]?=some (.bool (l.getD i false)):=by simp [jH,List.getD,h]
theorem QS {xs:List Int} {wss:List (List Int)} {gone:List Bool} {i p k:Nat} (hp:p<(wss.getD i []).length) (hb:∀j,j<p->nf xs gone ((wss.getD i []).getD j 0)=none) (hk:nf xs gone ((wss.getD i []).getD p 0)=some k):nx xs wss gone i=k:=by
 unfold nx;obtain ⟨l,hl⟩:∃l,wss.getD i []=l:=⟨_,rfl⟩;rw [hl] at hp hb hk⊢;rw [qI (nf xs gone) l p (λj hj hjp=>by have:=hb j hjp;simpa [List.getD,hj] using this),List.drop_eq_getElem_cons hp,List.findSome?_cons];have:l.getD p 0=l[p]:=by simp [List.getD,hp]
 rw [this] at hk;rw [hk];rfl
theorem QR {xs:List Int} {wss:List (List Int)} {gone:List Bool} {i:Nat} (hb:∀j,j<(wss.getD i []).length->nf xs gone ((wss.getD i []).getD j 0)=none):nx xs wss gone i=i:=by unfold nx;obtain ⟨l,hl⟩:∃l,wss.getD i []=l:=⟨_,rfl⟩;rw [hl] at hb⊢;rw [qI (nf xs gone) l l.length (λj hj hjp=>by have:=hb j hjp;simpa [List.getD,hj] using this),List.drop_length];rfl
theorem QY {xs:List Int} {wss:List (List Int)} {gone:List Bool} {ps:List Int} {i p:Nat} (h:tF xs wss gone ps) (hi:i<xs.length) (hpi:ps.getD i 0=p) (hp:p<(wss.getD i []).length) (hb:∀j,j<p->nf xs gone ((wss.getD i []).getD j 0)=none) (hn:nf xs gone ((wss.getD i []).getD p 0)=none):
  tF xs wss gone (ps.set i ((p+1:Nat):Int)):=by
 refine ⟨by rw [List.length_set,h.len],λk hk=> ?_⟩
 by_cases e:k=i
 ·subst e
  refine ⟨p+1,by simp [List.getD,h.len,hk],by omega,λj hj=> ?_⟩
  by_cases e2:j=p
  ·rw [e2];exact hn
  ·exact hb j (by omega)
 ·obtain ⟨q,h1,h2,h3⟩:=h.each k hk
  refine ⟨q,?_,h2,h3⟩;rw [<-h1];simp [List.getD,List.getElem?_set_ne (Ne.symm e)]
theorem QX {xs:List Int} {wss:List (List Int)} {gone gone':List Bool} {ps:List Int} (h:tF xs wss gone ps) (hg:∀k,gone.getD k false=true->gone'.getD k false=true):tF xs wss gone' ps:=by
 refine ⟨h.len,λk hk=> ?_⟩;obtain ⟨p,h1,h2,h3⟩:=h.each k hk;refine ⟨p,h1,h2,λj hj=> ?_⟩;have:=h3 j hj;unfold nf at this⊢;cases hw:wO xs xs.length ((wss.getD k []).getD j 0) with
 |none=>rfl
 |some q=>
  rw [hw] at this;simp only [Option.bind_some] at this⊢;split at this
  ·rw [if_pos (hg q ‹_›)]
  ·cases this
set_option maxHeartbeats 1000000 in
theorem Ds (mt m:Nat) (xs:List Int) (wss:List (List Int)) (wvs:List Value) (gone:List Bool) (ps:List Int) (i:Nat) (av wv gv pv:Value) (w0 w:World) (A:al) (hm:xs.length<=1048576) (hi:i<xs.length) (hw:WWR w0 A wv wvs wss) (hwl:wss.length=xs.length) (hwb:∀k,(wss.getD k []).length<=1048576) (hg:gone.length=xs.length) (hP:tF xs wss gone ps)
  (s:St w0 (A*J6 mt m xs gone ps av wv gv pv) w):
  ak Tryz.prog 357 [.pointer (some ⟨mt,0,none⟩),.int .i64 i] (λr w'=>∃x:List Int,r= .int .i64 (nx xs wss gone i)/\tF xs wss gone x/\St w0 (A*J6 mt m xs gone x av wv gv pv) w') w:=by
 obtain ⟨n,hn⟩:∃n,xs.length=n:=⟨_,rfl⟩;obtain ⟨R,hR0⟩:∃R,nx xs wss gone i=R:=⟨_,rfl⟩;rw [hR0];have hvl:=hw.len;obtain ⟨g1,o1,c1,ewv,hrow⟩:=hw.row.at (by omega);have e1:wvs.length=n:=by omega
 rw [e1] at ewv;have hwi:=hw.each i (by omega);obtain ⟨vi,hvi⟩:∃v,wvs.getD i undef=v:=⟨_,rfl⟩;rw [hvi] at hwi;obtain ⟨li,hli⟩:∃l,wss.getD i []=l:=⟨_,rfl⟩;obtain ⟨N,hN0⟩:∃N,li.length=N:=⟨_,rfl⟩;have hNb:=hwb i;rw [hli,hN0] at hNb;rw [hli] at hwi;have hwi0:=hwi;unfold WR at hwi;rw [hN0] at hwi;obtain ⟨a2,c2,rfl⟩:=hwi.val;subst ewv;have s:St w0 (A*pt mt (.cells #[av,.slice (some ⟨g1,o1,none⟩) n c1,.map (some m),gv,pv] 393 (0,0))*aF m (mD xs xs.length) xs.length*own 4 1 gv xs.length (jH gone)*own 3 1 pv xs.length (ints ps)) w:=s.to (by simp only [J6];ac_rfl);rw [hn] at s hg;obtain ⟨g3,c3,rfl,_,_⟩:=(s.av gv).aU (by omega);obtain ⟨g4,c4,rfl,_,_⟩:=(s.av pv).aU (by omega)
 have put:∀(ps:List Int) w,St w0 (A*pt mt (.cells #[av,.slice (some ⟨g1,o1,none⟩) n c1,.map (some m),.slice (some ⟨g3,0,none⟩) n c3,.slice (some ⟨g4,0,none⟩) n c4] 393 (0,0))*aF m (mD xs n) n*own 4 1 (.slice (some ⟨g3,0,none⟩) n c3) n (jH gone)*own 3 1 (.slice (some ⟨g4,0,none⟩) n c4) n (ints ps)) w->
   St w0 (A*J6 mt m xs gone ps av (.slice (some ⟨g1,o1,none⟩) n c1) (.slice (some ⟨g3,0,none⟩) n c3) (.slice (some ⟨g4,0,none⟩) n c4)) w:=λps w s=>by
  have s:=s.to (B:=A*(pt mt (.cells #[av,.slice (some ⟨g1,o1,none⟩) n c1,.map (some m),.slice (some ⟨g3,0,none⟩) n c3,.slice (some ⟨g4,0,none⟩) n c4] 393 (0,0))*aF m (mD xs n) n*own 4 1 (.slice (some ⟨g3,0,none⟩) n c3) n (jH gone)*own 3 1 (.slice (some ⟨g4,0,none⟩) n c4) n (ints ps))) (by ac_rfl);rw [<-hn] at s⊢;exact s
 obtain ⟨M,hM⟩:∃M:List Int->al,M=λps=>A*pt mt (.cells #[av,.slice (some ⟨g1,o1,none⟩) n c1,.map (some m),.slice (some ⟨g3,0,none⟩) n c3,.slice (some ⟨g4,0,none⟩) n c4] 393 (0,0))*aF m (mD xs n) n*own 4 1 (.slice (some ⟨g3,0,none⟩) n c3) n (jH gone)*own 3 1 (.slice (some ⟨g4,0,none⟩) n c4) n (ints ps):=⟨_,rfl⟩;have s:St w0 (M ps) w:=by rw [hM];exact s
 have put:∀ps w,St w0 (M ps) w->St w0 (A*J6 mt m xs gone ps av (.slice (some ⟨g1,o1,none⟩) n c1) (.slice (some ⟨g3,0,none⟩) n c3) (.slice (some ⟨g4,0,none⟩) n c4)) w:=λps w s=>put ps w (by rw [hM] at s;exact s);have cM:∀ps w,St w0 (M ps) w->∀j u,#[av,.slice (some ⟨g1,o1,none⟩) n c1,.map (some m),.slice (some ⟨g3,0,none⟩) n c3,.slice (some ⟨g4,0,none⟩) n c4][j]?=some u->w.cell? ⟨mt,j,none⟩=some u:=λps w s j u hu=>by rw [hM] at s;rw [cell_of (s.at mt).look];exact hu
 have cI:∀ps w,St w0 (M ps) w->w.heap[m]?=some (.map (dt (mD xs n)) n):=λps w s=>by rw [hM] at s;exact (s.at m).look
 have cW:∀ps w,St w0 (M ps) w->w.cell? ⟨g1,o1+i,none⟩=some (.slice a2 N c2):=λps w s=>by rw [hM] at s;rw [hrow w s.an i _ (gd (d:=undef) (by omega)),hvi]
 have cP:∀ps w,ps.length=n->St w0 (M ps) w->w.cell? ⟨g4,i,none⟩=some (.int .i64 (ps.getD i 0)):=λps w hl s=>by rw [hM] at s;obtain ⟨g',_,e,_,h⟩:=s.aU (by omega);cases e;exact h i _ (bu (by omega))
 have cG:∀ps w k,k<n->St w0 (M ps) w->w.cell? ⟨g3,k,none⟩=some (.bool (gone.getD k false)):=λps w k hk s=>by rw [hM] at s;obtain ⟨g',_,e,_,h⟩:=(s.av (.slice (some ⟨g3,0,none⟩) n c3)).aU (by omega);cases e;exact h k _ (KF (by omega))
 have cL:∀ps w p,p<N->St w0 (M ps) w->∃g o,a2=some ⟨g,o,none⟩/\w.cell? ⟨g,o+p,none⟩=some (.int .i64 (li.getD p 0)):=λps w p hp s=>by obtain ⟨g,o,c,e,h⟩:=hwi.at (by omega);cases e;rw [hM] at s;exact ⟨g,o,rfl,h w s.an p _ (bu (by omega))⟩
 refine go Qf ?_;refine pT [3,4,5] (λx w=>∃(ps:List Int) (o3 o4 o5:Value),x= [o3,o4,o5]/\tF xs wss gone ps/\St w0 (M ps) w)
  (λ_ w=>N -((w.cell? ⟨g4,i,none⟩).map λv=>match v with| .int _ k=>k.toNat|_=>0).getD 0) ⟨ps,_,_,_,rfl,hP,s⟩ ?_
 rintro LQ _ w ⟨qs,o3,o4,o5,rfl,hQ,t⟩ hN hX hR;have t0:=t;have hpl:=hQ.len;rw [hn] at hpl;obtain ⟨p,hp1,hp2,hp3⟩:=hQ.each i hi;have hp4:=hp2;rw [hli,hN0] at hp2;have hmw:∀w (qs:List Int) (p:Nat),qs.length=n->qs.getD i 0=(p:Int)->St w0 (M qs) w->((w.cell? ⟨g4,i,none⟩).map λv=>match v with| .int _ k=>k.toNat|_=>0).getD 0=p:=λw qs p h1 h2 s=>by rw [cP qs w h1 s,h2];simp
 have cp:∀w,St w0 (M qs) w->w.cell? ⟨g4,i,none⟩=some (.int .i64 p):=λw s=>by rw [<-hp1];exact cP qs w hpl s
 simp;refine wz ?_;have hin:i<n:=by omega
 refine bc (λw s=>cM qs w s 4 _ rfl) ?_;simp [hin];refine bc (λw s=>cp w s) ?_;simp;refine bc (λw s=>cM qs w s 1 _ rfl) ?_;simp [hin];refine bc (λw s=>cW qs w s) ?_;simp;intro w t;refine bU (λk=> ?_) (λk=> ?_)
 ·have k:p<N:=by omega
  obtain ⟨g,o,rfl,_⟩:=cL qs w p k t;have cl:∀w,St w0 (M qs) w->w.cell? ⟨g,o+p,none⟩=some (.int .i64 (li.getD p 0)):=λw s=>by obtain ⟨_,_,e,h⟩:=cL qs w p k s;cases e;exact h
  obtain ⟨x,hx⟩:∃x,li.getD p 0=x:=⟨_,rfl⟩;rw [hx] at cl;refine yk ?_;refine bc (λw s=>cM qs w s 1 _ rfl) ?_;simp [hin];refine bc (λw s=>cW qs w s) ?_;simp;refine bc (λw s=>cM qs w s 4 _ rfl) ?_;simp [hin];refine bc (λw s=>cp w s) ?_;simp [k];refine bc (λw s=>cl w s) ?_;simp;intro w t;refine af (cM qs w t 2 _ rfl) ?_;simp;refine gj xQ (cI qs w t) ?_;rw [yV];have hset:∀(l:List Int) (i:Nat) (x:Int),(ints l).set i (.int .i64 x)=ints (l.set i x):=λl i x=>by simp [ints,List.map_set]
  have hxp:(wss.getD i []).getD p 0=x:=by rw [hli];exact hx
  have nxt:nf xs gone x=none->∀w w',St w0 (M qs) w->St w0 (M (qs.set i ((p+1:Nat):Int))) w'->
    tF xs wss gone (qs.set i ((p+1:Nat):Int))/\N -((w'.cell? ⟨g4,i,none⟩).map λv=>match v with| .int _ k=>k.toNat|_=>0).getD 0<N -((w.cell? ⟨g4,i,none⟩).map λv=>match v with| .int _ k=>k.toNat|_=>0).getD 0:=λhn' w w' s s'=>by
   refine ⟨QY hQ hi hp1 (by rw [hli,hN0];exact k) hp3 (by rw [hxp];exact hn'),?_⟩;rw [hmw w qs p hpl hp1 s,hmw w' _ (p+1) (by rw [List.length_set];exact hpl) (by simp [List.getD,hpl,hin]) s'];omega
  have wp:IntKind.i64.wrap ((p:Int)+1)=((p+1:Nat):Int):=by rw [wrap64 (by omega) (by omega)];omega
  cases hwh:wO xs n x with
  |none=>
   have hnf:nf xs gone x=none:=by unfold nf;rw [hn,hwh];rfl
   simp;refine af (cM qs w t 4 _ rfl) ?_;simp [hin];refine af (cp w t) ?_;simp [hin,wp];have t':=t;rw [hM] at t';refine cH t' (by simp [ints];omega) rfl λw' t2=> ?_;rw [hset] at t2;have t2:St w0 (M (qs.set i ((p+1:Nat):Int))) w':=by rw [hM];exact t2
   obtain ⟨h1,h2⟩:=nxt hnf _ _ t0 t2;exact hN [_,_,_] w' ⟨_,_,_,_,rfl,h1,t2⟩ h2
  |some kk=>
   obtain ⟨hkk,_⟩:=H2 hwh;simp;refine af (cM qs w t 3 _ rfl) ?_;simp [hkk];refine af (cG qs w kk hkk t) ?_;simp;refine bU (λq=> ?_) (λq=> ?_)
   ·have hnf:nf xs gone x=some kk:=by unfold nf;rw [hn,hwh];simp [List.getD,q]
    refine hR _ _ ?_;clear hN hX hR;simp;refine ⟨?_,qs,hQ,put qs w t⟩;rw [<-hR0,QS (by rw [hli,hN0];exact k) hp3 (by rw [hxp];exact hnf)]
   ·have hnf:nf xs gone x=none:=by unfold nf;rw [hn,hwh];simp [List.getD,q]
    refine af (cM qs w t 4 _ rfl) ?_;simp [hin];refine af (cp w t) ?_;simp [hin,wp];have t':=t;rw [hM] at t';refine cH t' (by simp [ints];omega) rfl λw' t2=> ?_;rw [hset] at t2;have t2:St w0 (M (qs.set i ((p+1:Nat):Int))) w':=by rw [hM];exact t2
    obtain ⟨h1,h2⟩:=nxt hnf _ _ t0 t2;exact hN [_,_,_] w' ⟨_,_,_,_,rfl,h1,t2⟩ h2
 ·refine hX _ _ _ ?_
  obtain rfl:p=N:=by omega
  clear hN hX hR;simp;refine ⟨?_,qs,hQ,put qs w t⟩;rw [<-hR0,QR];rw [hli];intro j hj;exact hli▸hp3 j (by omega)
end Go.HL.St1
namespace Go.HL
theorem CZ {p:Nat->Prop} (h:∃f,p f):∃f,p f/\∀g,p g->f<=g:=by
 obtain ⟨f,hf⟩:=h
 induction f using Nat.strongRecOn with
 |ind f ih=>
  by_cases hg:∃g,g<f/\p g
  ·obtain ⟨g,h1,h2⟩:=hg;exact ih g h1 h2
  ·exact ⟨f,hf,λg hg'=>Nat.le_of_not_lt λh=>hg ⟨g,h,hg'⟩⟩
open Classical in
noncomputable def AF (p:Nat->Prop):Nat:=if h:∃f,p f then Classical.choose (CZ h) else 0
theorem rK {p:Nat->Prop} {f:Nat} (h:p f):p (AF p)/\AF p<=f:=by have he:∃f,p f:=⟨f,h⟩;unfold AF;rw [dif_pos he];have:=Classical.choose_spec (CZ he);exact ⟨this.1,this.2 f h⟩
theorem lpG {P:Program} {F:PF P} {env:List Value} {w:World} {Q:EX->List Value->World->Prop} {x:HC} (ks:List Nat) (I:Nat->List Value->World->Prop) {f0:Nat} {vs0:List Value} (h0:I f0 vs0 w)
  (h:∀(LQ:EX->List Value->World->Prop) (f:Nat) (vs:List Value) (w:World),I f vs w->(∀f' vs' w',I f' vs' w'->f'<f->LQ .nrm (lK env ks vs') w')->(∀i env' w',Q (.ex i) env' w'->LQ (.ex i) env' w')->
   (∀env' w',Q .ret env' w'->LQ .ret env' w')->x.wp F LQ (lK env ks vs) w) (hu:lK env ks vs0=env:=by rfl):BI F x Q env w:=by
 refine pT ks (λvs w=>∃f,I f vs w) (λe w=>AF λf=>∃vs,lK env ks vs=e/\I f vs w) ⟨f0,h0⟩ ?_ hu;rintro LQ vs w ⟨f,hf⟩ hN hX hR;obtain ⟨⟨vs1,e1,h1⟩,_⟩:=rK (p:=λf=>∃vs',lK env ks vs'=lK env ks vs/\I f vs' w) ⟨vs,rfl,hf⟩;have:=h LQ _ vs1 w h1 (λf' vs' w' h' hlt=>hN vs' w' ⟨f',h'⟩ ?_) hX hR
 ·rw [e1] at this;exact this
 ·exact Nat.lt_of_le_of_lt (rK (p:=λf=>∃vs'',lK env ks vs''=lK env ks vs'/\I f vs'' w') ⟨vs',rfl,h'⟩).2 hlt
end Go.HL
namespace Go.HL.St1
open Go.HL Go.HL.Tl Go.HL.Sr Go.HL.Es Go.Proofs
structure BS where
 at':Nat
 way:List Nat
 gone:List Bool
 got:List Int
def dV (s:BS):List Nat:=if s.way= [] then [s.at'] else s.way
def fQ (l:List Nat):Nat:=l.getLastD 0
def eZ (gone:List Bool) (cyc:List Nat):Nat->List Bool
 |0=>gone
 |k+1=>(eZ gone cyc k).set (cyc.getD k 0) true
def oc (xs got:List Int) (cyc:List Nat):Nat->List Int
 |0=>got
 |k+1=>(oc xs got cyc k).set (cyc.getD k 0) (xs.getD (cyc.getD ((k+1) %cyc.length) 0) 0)
def ku (l:List Nat) (x:Nat):List Nat:=l.drop (l.idxOf x)
def kS (xs:List Int) (wss:List (List Int)) (s:BS):BS:=
 if s.way= []/\s.gone.getD s.at' false=true then ⟨s.at'+1,[],s.gone,s.got⟩
 else if nx xs wss s.gone (fQ (dV s))∈dV s then
  ⟨s.at',[],eZ s.gone (ku (dV s) (nx xs wss s.gone (fQ (dV s)))) (ku (dV s) (nx xs wss s.gone (fQ (dV s)))).length,oc xs s.got (ku (dV s) (nx xs wss s.gone (fQ (dV s)))) (ku (dV s) (nx xs wss s.gone (fQ (dV s)))).length⟩
 else ⟨s.at',dV s++ [nx xs wss s.gone (fQ (dV s))],s.gone,s.got⟩
def kR (n:Nat) (s:BS):Prop:=n<=s.at'/\s.way= []
instance (n:Nat) (s:BS):Decidable (kR n s):=inferInstanceAs (Decidable (_/\_))
def iU (xs:List Int) (wss:List (List Int)):Nat->BS->BS
 |0,s=>s
 |f+1,s=>if kR xs.length s then s else iU xs wss f (kS xs wss s)
def sb (n:Nat) (l:List Nat):Nat:=(List.range n).countP λk=>decide (k∉l)
def left (g:List Bool):Nat:=g.countP λb=> !b
structure BV (n:Nat) (s:BS):Prop where
 at':s.at'<=n
 nodup:s.way.Nodup
 way:∀k∈s.way,k<n/\s.gone.getD k false=false
 len:s.way.length+sb n s.way<=n
 gone:s.gone.length=n
 got:s.got.length=n
def iV (n:Nat) (s:BS):Nat:=(n -s.at')+(n+2)*left s.gone+sb n s.way
theorem xn {p q:Nat->Bool} {x:Nat}:∀{l:List Nat},(∀k,q k=true->p k=true)->x∈l->p x=true->q x=false->l.countP q<l.countP p
 |a::t,h,hx,hp,hq=>by
  have hle:t.countP q<=t.countP p:=List.countP_mono_left λk _ hk=>h k hk;rw [List.countP_cons,List.countP_cons];rcases List.mem_cons.1 hx with e|hx
  ·subst e;rw [hp,hq];simp;omega
  ·have ih:=xn (l:=t) h hx hp hq
   cases hqa:q a with
   |false=>simp;omega
   |true=>rw [h a hqa];simp;omega
theorem nd (n:Nat):sb n []=n:=by simp [sb]
theorem QT (n:Nat) (l:List Nat):sb n l<=n:=by
 have:=List.countP_le_length (p:=λk=>decide (k∉l)) (l:=List.range n)
 simpa [sb] using this
theorem xY {n x:Nat} {l:List Nat} (hx:x<n) (h:x∉l):sb n (l++ [x])<sb n l:=by unfold sb;refine xn (x:=x) (λk hk=> ?_) (by simpa using hx) (by simpa using h) (by simp);simp only [List.mem_append,List.mem_singleton,not_or,decide_eq_true_eq] at hk⊢;exact hk.1
theorem rL:∀(g:List Bool) (i:Nat),left (g.set i true)<=left g
 | [],i=>by simp [left]
 |b::t,0=>by simp [left,List.countP_cons]
 |b::t,i+1=>by have:=rL t i;simp only [left,List.set_cons_succ,List.countP_cons] at this⊢;omega
theorem rM:∀(g:List Bool) (i:Nat),i<g.length->g.getD i false=false->left (g.set i true)<left g
 | [],i,h,_=>by simp at h
 |b::t,0,_,h=>by
  have:b=false:=by simpa using h
  subst this;simp [left,List.countP_cons]
 |b::t,i+1,hl,h=>by have:=rM t i (by simpa using hl) (by simpa using h);simp only [left,List.set_cons_succ,List.countP_cons] at this⊢;omega
theorem nO (gone:List Bool) (cyc:List Nat):∀k,(eZ gone cyc k).length=gone.length
 |0=>rfl
 |k+1=>by rw [eZ,List.length_set,nO gone cyc k]
theorem mP (xs got:List Int) (cyc:List Nat):∀k,(oc xs got cyc k).length=got.length
 |0=>rfl
 |k+1=>by rw [oc,List.length_set,mP xs got cyc k]
theorem oE (gone:List Bool) (cyc:List Nat) (j:Nat) (h:gone.getD j false=true):∀k,(eZ gone cyc k).getD j false=true
 |0=>h
 |k+1=>by
  have ih:=oE gone cyc j h k;rw [eZ]
  by_cases e:cyc.getD k 0=j
  ·rw [e]
   have hj:j<(eZ gone cyc k).length:=by
    rcases Nat.lt_or_ge j (eZ gone cyc k).length with h|h2
    ·exact h
    ·rw [List.getD_eq_getElem?_getD,List.getElem?_eq_none (by omega)] at ih;cases ih
   simp [List.getD,hj]
  ·rw [List.getD_eq_getElem?_getD,List.getElem?_set_ne e,<-List.getD_eq_getElem?_getD];exact ih
theorem uJ {gone:List Bool} {cyc:List Nat} (h0:cyc.getD 0 0<gone.length) (h1:gone.getD (cyc.getD 0 0) false=false):∀k,0<k->left (eZ gone cyc k)<left gone
 |0,h=>by omega
 |1,_=>by rw [eZ,eZ];exact rM _ _ h0 h1
 |k+2,_=>by have:=uJ h0 h1 (k+1) (by omega);rw [eZ];exact Nat.lt_of_le_of_lt (rL _ _) this
theorem uV {l:List Nat} (h:l≠ []):fQ l∈l:=by unfold fQ;rw [List.getLastD_eq_getLast?,List.getLast?_eq_some_getLast h];exact List.getLast_mem h
theorem QP {xs:List Int} {wss:List (List Int)} {gone:List Bool} {i:Nat} (hi:gone.getD i false=false):gone.getD (nx xs wss gone i) false=false:=by
 unfold nx;cases h:(wss.getD i []).findSome? (nf xs gone) with
 |none=>exact hi
 |some k=>
  obtain ⟨x,_,hx⟩:=List.exists_of_findSome?_eq_some h;exact (RK hx).2.1
theorem qC {l:List Nat} {x:Nat} (h:x∈l):0<(ku l x).length/\(ku l x).getD 0 0=x/\∀y∈ku l x,y∈l:=by have hi:l.idxOf x<l.length:=List.idxOf_lt_length_iff.2 h;unfold ku;refine ⟨by rw [List.length_drop];omega,?_,λy hy=>List.mem_of_mem_drop hy⟩;rw [List.getD_eq_getElem?_getD,List.getElem?_drop,Nat.add_zero,List.getElem?_eq_getElem hi];simp
theorem vY {n:Nat} {s:BS} (h:BV n s) (hd:¬kR n s) (hg:¬(s.way= []/\s.gone.getD s.at' false=true)):dV s≠ []/\(dV s).Nodup/\(∀k∈dV s,k<n/\s.gone.getD k false=false)/\(dV s).length+sb n (dV s)<=n/\sb n (dV s)<=sb n s.way:=by
 unfold dV
 by_cases e:s.way= []
 ·rw [if_pos e]
  have hat:s.at'<n:=by
   have:=h.at';rcases Nat.lt_or_ge s.at' n with h1|h1
   ·exact h1
   ·exact absurd ⟨h1,e⟩ hd
  have hp:=xY (l:= []) hat (by simp);rw [List.nil_append,nd] at hp;refine ⟨by simp,by simp,λk hk=> ?_,by simp only [List.length_singleton];omega,by rw [e,nd];omega⟩;have:k=s.at':=by simpa using hk
  subst this;refine ⟨hat,?_⟩;cases hgg:s.gone.getD s.at' false with
  |false=>rfl
  |true=>exact absurd ⟨e,hgg⟩ hg
 ·rw [if_neg e]
  exact ⟨e,h.nodup,h.way,h.len,Nat.le_refl _⟩
theorem mC {xs:List Int} {wss:List (List Int)} {s:BS} (h:BV xs.length s) (hd:¬kR xs.length s):BV xs.length (kS xs wss s)/\iV xs.length (kS xs wss s)<iV xs.length s:=by
 obtain ⟨n,hn⟩:∃n,xs.length=n:=⟨_,rfl⟩;rw [hn] at h hd⊢;unfold kS
 by_cases h1:s.way= []/\s.gone.getD s.at' false=true
 ·rw [if_pos h1]
  have hat:s.at'<n:=by
   rcases Nat.lt_or_ge s.at' n with h2|h2
   ·exact h2
   ·exact absurd ⟨h2,h1.1⟩ hd
  refine ⟨⟨hat,by simp,by simp,by simp [nd],h.gone,h.got⟩,?_⟩;simp only [iV,h1.1];omega
 rw [if_neg h1];obtain ⟨w1,w2,w3,w4,w5⟩:=vY h hd h1;obtain ⟨W,hW⟩:∃W,dV s=W:=⟨_,rfl⟩;rw [hW] at w1 w2 w3 w4 w5⊢;have hlast:=w3 _ (uV w1);obtain ⟨x,hx⟩:∃x,nx xs wss s.gone (fQ W)=x:=⟨_,rfl⟩;have hxl:x<n:=by rw [<-hx,<-hn];exact RL (by rw [hn];exact hlast.1)
 have hxg:s.gone.getD x false=false:=by rw [<-hx];exact QP hlast.2
 rw [hx]
 by_cases h2:x∈W
 ·rw [if_pos h2]
  obtain ⟨c1,c2,c3⟩:=qC h2;refine ⟨⟨h.at',by simp,by simp,by simp [nd],by rw [nO];exact h.gone,by rw [mP];exact h.got⟩,?_⟩;have hlt:=uJ (gone:=s.gone) (cyc:=ku W x) (by rw [c2,h.gone];exact hxl) (by rw [c2];exact hxg) _ c1;have hm:(n+2)*(left (eZ s.gone (ku W x) (ku W x).length)+1)<=(n+2)*left s.gone:=Nat.mul_le_mul_left _ hlt;rw [Nat.mul_add] at hm;have:=QT n [];simp only [iV];omega
 ·rw [if_neg h2]
  have hp:=xY hxl h2;refine ⟨⟨h.at',?_,λk hk=> ?_,?_,h.gone,h.got⟩,?_⟩
  ·rw [List.nodup_append]
   exact ⟨w2,by simp,λa ha b hb=>by
    have:b=x:=by simpa using hb
    subst this;exact λe=>h2 (e▸ha)⟩
  ·rcases List.mem_append.1 hk with hk|hk
   ·exact w3 k hk
   ·have:k=x:=by simpa using hk
    subst this;exact ⟨hxl,hxg⟩
  ·simp only [List.length_append,List.length_singleton];omega
  ·simp only [iV];omega
def oa (n:Nat):BS:=⟨0,[],List.replicate n false,List.replicate n 0⟩
theorem yU (n:Nat):BV n (oa n):=⟨by simp [oa],by simp [oa],by simp [oa],by simp [oa,nd],by simp [oa],by simp [oa]⟩
def mA (xs:List Int) (wss:List (List Int)):List Int:=(iU xs wss (iV xs.length (oa xs.length)) (oa xs.length)).got
theorem EF {xs:List Int} {wss:List (List Int)} {s:BS} {f:Nat} (h:BV xs.length s) (hd:¬kR xs.length s) (hf:iV xs.length s<=f):∃f',iV xs.length (kS xs wss s)<=f'/\iU xs wss f' (kS xs wss s)=iU xs wss f s:=by have:=(mC (wss:=wss) h hd).2;obtain ⟨f',rfl⟩:∃f',f=f'+1:=⟨f -1,by omega⟩;exact ⟨f',by omega,by rw [iU,if_neg hd]⟩
theorem EE {xs:List Int} {wss:List (List Int)} {s:BS} (h:kR xs.length s):∀f,iU xs wss f s=s
 |0=>rfl
 |f+1=>by rw [iU,if_pos h]
def j8 (n:Nat) (f:Nat->Int):List Int:=(List.range n).map f
theorem mc (n:Nat) (f:Nat->Int):(j8 n f).length=n:=by simp [j8]
theorem FU {n i:Nat} (f:Nat->Int) (h:i<n):(j8 n f).getD i 0=f i:=by simp [j8,List.getD,h]
theorem AR (n x:Nat) (f:Nat->Int) (v:Int):(j8 n f).set x v=j8 n λk=>if k=x then v else f k:=by
 apply List.ext_getElem?;intro k
 by_cases hk:k<n
 ·by_cases e:k=x
  ·subst e;simp [j8,hk]
  ·rw [List.getElem?_set_ne (Ne.symm e)];simp [j8,hk,e]
 ·rw [List.getElem?_eq_none (by simp [j8];omega),List.getElem?_eq_none (by simp [j8];omega)]
theorem AQ {n:Nat} {f g:Nat->Int} (h:∀k,k<n->f k=g k):j8 n f=j8 n g:=by unfold j8;exact List.map_congr_left λk hk=>h k (by simpa using hk)
def lG (l:List Nat) (k:Nat):Int:=if k∈l then (l.idxOf k:Int)+1 else 0
theorem CJ {l:List Nat} {x:Nat} (h:x∉l) (n:Nat):(j8 n (lG l)).set x ((l.length:Int)+1)=j8 n (lG (l++ [x])):=by
 rw [AR];refine AQ λk hk=> ?_;unfold lG
 by_cases e:k=x
 ·subst e
  rw [if_pos rfl,if_pos (by simp),List.idxOf_append,if_neg h];simp
 ·rw [if_neg e]
  by_cases hm:k∈l
  ·rw [if_pos hm,if_pos (by simp [hm]),List.idxOf_append,if_pos hm]
  ·rw [if_neg hm,if_neg (by simp [hm,e])]
end Go.HL.St1
namespace Go.HL.St1
open Go.HL Go.HL.Tl Go.HL.Sr Go.HL.Es Go.Proofs
attribute [local irreducible] aI
def n4 (es:List PE):List Int:=es.map (·.item)
def Ee (es:List PE):List (List Int):=es.map (·.ws)
def KC (es:List PE) (g:List Int) (i:Nat):List Gf:=(if g.getD i 0=0 then [] else [⟨(en es i).acc,g.getD i 0,0⟩])++cg (en es i).acc (en es i).ab
def pg (es:List PE) (g:List Int) (n:Nat):List Gf:=(List.range n).flatMap (KC es g)
def tK (es:List PE):List Gf:=pg es (mA (n4 es) (Ee es)) es.length
theorem xd (es:List PE) (g:List Int) (n:Nat):pg es g (n+1)=pg es g n++KC es g n:=by simp [pg,List.range_succ]
theorem Nl (es:List PE) (g:List Int) (i:Nat):(KC es g i).length<=2:=by unfold KC;have:=tV (en es i).acc (en es i).ab;split<;>simp<;>omega
theorem tL (es:List PE) (g:List Int):∀n,(pg es g n).length<=2*n
 |0=>by simp [pg]
 |n+1=>by have:=tL es g n;have:=Nl es g n;rw [xd,List.length_append];omega
def LZ (d:al) (f:Value->al):Option Value->al
 |none=>d
 |some v=>f v
@[simp] theorem p9 (d:al) (f:Value->al):LZ d f none=d:=rfl
@[simp] theorem L0 (d:al) (f:Value->al) (v:Value):LZ d f (some v)=f v:=rfl
def F8 (n:Nat) (v:Value) (o:Obj):al:=λh=>∃b,v= .slice (some ⟨b,0,none⟩) n n/\pt b o h
@[simp] theorem Mv (n b:Nat) (o:Obj):F8 n (.slice (some ⟨b,0,none⟩) n n) o=pt b o:=by
 funext h;apply propext;constructor
 ·rintro ⟨b',e,hh⟩
  cases e;exact hh
 ·intro hh;exact ⟨b,rfl,hh⟩
theorem HN {w0 w:World} {A:al} {n:Nat} {v:Value} {o:Obj} (s:St w0 (A*F8 n v o) w):∃b,v= .slice (some ⟨b,0,none⟩) n n:=by obtain ⟨g,h1,h2,h3,d,e,a,b,hb,_⟩:=s.holds;exact ⟨b,hb⟩
end Go.HL.St1
namespace Go.HL.Pu
open Go.HL Go.HL.Nm Go.Proofs
def nms (l:List Ac):List (List UInt8):=l.map Ac.name
structure NI (ns:List (List UInt8)):Prop where
 chk:∀n∈ns,(fN n).2=0
 nod:(ns.map gU).Nodup
 bank:ns[0]?=some cK
theorem LO {lim:Int} (h:1<=lim/\lim<=64):PI lim ⟨lim,[⟨cK,0⟩],0,0⟩:=
 ⟨rfl,h,by simp;omega,by simp,Int.le_refl _,rfl,by show (0:Int)<=_;decide,λi hi=>by
  have:i=0:=by simpa using hi
  subst this;simp [cK]⟩
end Go.HL.Pu
namespace Go.HL.St0
open Go.HL Go.Proofs
attribute [local irreducible] aI
structure SU where
 seats:Int
 queue:Int
 quantum:Int
 settle:Int
 rate:Int
 burst:Int
 idle:Int
 acc:Int
 ae:Int
 bp:Int
 log:Int
 slot:Int
def SU.cs (x:SU):List Value:= [.int .i64 x.seats,.int .i64 x.queue,.int .i64 x.quantum,.int .i64 x.settle,.int .i64 x.rate,.int .i64 x.burst,.int .i64 x.idle,.int .i64 x.acc,.int .i64 x.ae,.int .i64 x.bp,.int .i64 x.log,.int .i64 x.slot]
def jG (x:SU):Prop:=1<=x.acc/\x.acc<=64/\0<=x.ae/\x.ae<=512/\1<=x.bp/\x.bp<=64
instance (x:SU):Decidable (jG x):=inferInstanceAs (Decidable (_/\_))
noncomputable abbrev S0:PF Tryz.prog:=PF.none _
def bWa:Nat->PO
 |0=>(.fld 7)
 |1=>(.bin .geq)
 |2=>(.bin .leq)
 |3=>(.fld 8)
 |4=>(.fld 9)
 |5=>(.un .not)
 |6=>(.ext 0)
 |7=>(.ext 1)
 |8=>(.build (rl [(13,(.int .i64 0)),(3,(.pointer none)),(1,(.int .i64 0)),(1,(.map none))]) [(0,12),(12,1),(13,1),(14,1),(15,1),(16,1),(17,1)] [0,2,3,4,6])
 |9=>(.eqNil false (.pointer 108) (.pointer none))
 |10=> .chkp
 |11=>(.fld 13)
 |_=> .same
def ZQ:Nat->EO
 |0=>(.box 25)
 |1=>(.ld false 1)
 |2=>(.ld true 12)
 |3=>(.call 85)
 |4=>(.call 105)
 |5=>(.call 106)
 |6=>(.call 107)
 |7=>(.mkm 106 false)
 |8=>(.box 108)
 |9=>(.call 54)
 |10=>(.call 177)
 |_=> .an
def d8a:Nat->Value
 |0=>(.bool false)
 |1=>(.int .i64 1)
 |2=>(.tuple #[])
 |3=>(.int .i64 64)
 |4=>(.int .i64 0)
 |5=>(.int .i64 512)
 |6=>(.pointer none)
 |7=>(.int .i64 2)
 |_=>undef
def MC:dk:=⟨bWa,ZQ,d8a⟩
def l85:ai:=⟨[0,1,2],31,[.slot 2],aW MC [] 0x39bffedc8de95f7df7dfdd2002480480480480e2271f8de95f7df7f74800920120120110e271f8de95f7dfdd200248048044589c7e37a57dfdd200248044789c7e37a57f7480091fa271fdd5d4344a042091fb50d12810a65d2095c41111f8147ec41111f95d4147a0511f5051e819974825710444470511f1044447575151182445d454460a65d2095c410d1141445c410d1155d444440510f51111019974825710434430510f10434435750d1082e350d1082997482571040e01e31040e15d41cc1d41cc1d310400710409e2699d92002cc1f00⟩
theorem VX:aj S0 85 400=some l85:=by kernel_rfl
def l44:ai:=⟨[0,1,2,3,4,6,8],38,[.slot 2,.slot 3],aW MC [] 0xe79e6ffe28bb699d921034420b4514532e10190150133eba514532e10190150133e931f10429e271cdd59b31869b31e6cc6f454041a7ee271cdd59b81859b81e6e069b3174c410c1c410e7ee271cdd59b81849b81e6e069b3134c41001c41028bc0b2ffda6764870d21828a271b566e05626e059b30f10429e26996764840d2182cc1f00⟩
theorem Vr:aj S0 44 400=some l44:=by kernel_rfl
def l54:ai:=⟨[0,2],9,[.slot 1],aW MC [] 0x2ce6ffdcef7cc1d34f0a04b041d3c2812c1f0a068bc0b2fff748605c6d5f3e63cfa7dd2181⟩
theorem Da (x:SU) (w0 w:World) (A:al) (s:St w0 A w):ak Tryz.prog 85 [.agg x.cs.toArray] (λr w'=>r= .bool (decide (jG x))/\St w0 A w') w:=by
 refine go VX ?_;refine gY λb w s=> ?_;refine aX ?_
 by_cases c1:1<=x.acc
 case neg=>simp [c1,jG];exact s.an
 simp [c1];refine aX ?_
 by_cases c2:x.acc<=64
 case neg=>simp [c2,jG];exact s.an
 simp [c2];refine aX ?_
 by_cases c3:0<=x.ae
 case neg=>simp [c3,jG];exact s.an
 simp [c3];refine aX ?_
 by_cases c4:x.ae<=512
 case neg=>simp [c4,jG];exact s.an
 simp [c4];refine aX ?_
 by_cases c5:1<=x.bp
 case neg=>simp [c5,jG];exact s.an
 simp [c5];refine aX ?_;simp [c1,c2,c3,c4,c5,jG];exact s.an
def YM (x:SU) (clock last:Int) (p g e m:Nat):List Value:=x.cs++([.int .i64 clock,.pointer (some ⟨p,0,none⟩),.pointer (some ⟨g,0,none⟩),.pointer (some ⟨e,0,none⟩),.int .i64 last,.map (some m)]:List Value)
abbrev J8 (q:Nat) (x:SU) (clock last:Int) (p g e m:Nat):al:=pt q (.cells (YM x clock last p g e m).toArray 108 (0,0))
abbrev V3 (q:Nat) (x:SU) (p g e m:Nat):al:=J8 q x 0 0 p g e m*Es.aV p g e x.ae ⟨⟨x.acc,[⟨Pu.cK,0⟩],0,0⟩,[],[]⟩*aF m [] 0
set_option maxHeartbeats 1000000 in
theorem iT (x:SU) (w0 w:World) (A:al) (s:St w0 A w):ak Tryz.prog 44 [.agg x.cs.toArray] (λr w'=>(jG x/\∃q p g e m,r= .tuple #[.pointer (some ⟨q,0,none⟩),.int .i64 0]/\St w0 (A*V3 q x p g e m) w')\/(¬jG x/\r= .tuple #[.pointer none,.int .i64 2]/\St w0 A w')) w:=by
 refine go Vr ?_;refine gY λb w s=> ?_;refine dq (vs:=x.cs) ?_;refine dA (Da x w0 w _ s) λw s=> ?_
 by_cases hm:jG x
 case neg=>simp [hm];exact s.an
 simp [hm];refine aX ?_;refine ad ((Pu.iT x.acc w0 w _ s).mono ?_);intro _ w h;rw [if_pos ⟨hm.1,hm.2.1⟩] at h;obtain ⟨p,rfl,s⟩:=h;simp;refine aX ?_;refine ad ((Gd.iT x.ae w0 w _ s).mono ?_);intro _ w h;rw [if_pos ⟨hm.2.2.1,hm.2.2.2.1⟩] at h;obtain ⟨g,rfl,s⟩:=h;simp;refine ad ((Es.iT p g x.acc x.ae ⟨x.acc,[⟨Pu.cK,0⟩],0,0⟩ [] w0 w _ (Pu.LO ⟨hm.1,hm.2.1⟩) rfl s).mono ?_);rintro _ w ⟨e,rfl,s⟩;simp;refine dq (vs:=x.cs) ?_;refine um s λm w s=> ?_;simp [SU.cs];refine gY λq w s=> ?_;have h:St w0 (_*J8 q x 0 0 p g e m) w:=s;exact ⟨p,g,e,m,h.an⟩
end Go.HL.St0
namespace Go.HL.Tl
open Go.HL Go.Proofs
theorem fw (l:List UInt8):∀u∈aM l,u.oneCell'=true:=by intro u h;simp only [aM,List.mem_map] at h;obtain ⟨x,_,rfl⟩:=h;rfl
theorem gi (a b:List UInt8):aM (a++b)=aM a++aM b:=by simp [aM]
theorem tR (a:List UInt8):(aM a).length=a.length:=by simp [aM]
def jo:Nat->Nat->List UInt8
 |0,n=> [UInt8.ofNat n]
 |k+1,n=>if n<128 then [UInt8.ofNat n] else UInt8.ofNat (n %128+128)::jo k (n /128)
def bg (n:Nat):List UInt8:=jo 9 n
theorem vI:∀(k n:Nat),1<=(jo k n).length/\(jo k n).length<=k+1
 |0,n=>by simp [jo]
 |k+1,n=>by
  unfold jo;split
  ·simp
  ·have:=vI k (n /128)
   simp;omega
theorem cd (n:Nat):1<=(bg n).length/\(bg n).length<=10:=vI 9 n
theorem u8_or (m:Int) (h:0<=m):IntKind.u8.wrap ((((IntKind.u8.wrap m %2^IntKind.u8.bits).toNat|||128 %2^IntKind.u8.bits:Nat)):Int)=((m.toNat %128+128:Nat):Int):=by
 have key:∀b:Fin 256,IntKind.u8.wrap (((((b.val:Nat):Int) %2^IntKind.u8.bits).toNat|||128 %2^IntKind.u8.bits:Nat):Int)=((b.val %128+128:Nat):Int):=by decide+kernel
 have e:IntKind.u8.wrap m=((m.toNat %256:Nat):Int):=by simp [IntKind.wrap,IntKind.bits,IntKind.signed];omega
 rw [e];have:=key ⟨m.toNat %256,Nat.mod_lt _ (by decide)⟩;simp only at this;rw [this];omega
structure Nd (n:Nat) (m:Int) (k:Nat) (acc:List UInt8):Prop where
 pos:0<=m
 lt:m<2*128^k
 len:acc.length+k=9
 eq:bg n=acc++jo k m.toNat
 big:m<18446744073709551616
theorem Nd.start {n:Int} (h:0<=n/\n<18446744073709551616):Nd n.toNat n 9 []:=⟨h.1,by omega,rfl,rfl,h.2⟩
theorem Nd.more {n:Nat} {m:Int} {k:Nat} {acc:List UInt8} (h:Nd n m k acc) (hm:127<m):∃j,k=j+1/\Nd n (m /128) j (acc++ [UInt8.ofNat (m.toNat %128+128)]):=by
 obtain ⟨h0,h1,h2,h3,h4⟩:=h;cases k with
 |zero=>simp at h1;omega
 |succ j=>
  refine ⟨j,rfl,by omega,?_,by simp;omega,?_,by omega⟩
  ·rw [Int.pow_succ] at h1;omega
  ·rw [h3]
   have:¬m.toNat<128:=by omega
   simp only [jo,if_neg this,List.append_assoc,List.singleton_append];have e:(m /128).toNat=m.toNat /128:=by omega
   rw [e]
theorem Nd.last {n:Nat} {m:Int} {k:Nat} {acc:List UInt8} (h:Nd n m k acc) (hm:m<=127):bg n=acc++ [UInt8.ofNat m.toNat]:=by
 rw [h.eq];have h0:=h.pos;cases k with
 |zero=>rfl
 |succ j=>
  have:m.toNat<128:=by omega
  simp only [jo,if_pos this]
theorem ina (m:Int):m.fdiv (2^min 7 IntKind.u64.bits)=m /128:=by
 have:(2:Int)^min 7 IntKind.u64.bits=128:=by decide
 rw [this];exact Int.fdiv_eq_ediv_of_nonneg _ (by decide)
theorem Zd {n:Nat} (h:n<256):(#[.int .u8 (n:Int)]:Array Value)=(aM [UInt8.ofNat n]).toArray:=by simp [aM];omega
theorem Rv {m:Int} (h:0<=m/\m<256):(#[.int .u8 m]:Array Value)=(aM [UInt8.ofNat m.toNat]).toArray:=by simp [aM];omega
theorem D5 (m:Int) (h:0<=m/\m<256):IntKind.u8.wrap m=m:=by simp [IntKind.wrap,IntKind.bits,IntKind.signed];omega
theorem rj (m:Int) (h:0<=m/\m<18446744073709551616):IntKind.u64.wrap m=m:=by simp [IntKind.wrap,IntKind.bits,IntKind.signed];omega
noncomputable abbrev T0:PF Tryz.prog:=PF.none _
def KM:Value->Value
 | .slice a n _=> .slice a n n
 |v=>v
theorem jT {w0 w:World} {A:al} {e size n:Nat} {v:Value} {xs:List Value} (s:St w0 (A*own e size v n xs) w):St w0 (A*own e size (KM v) n xs) w:=by
 rcases s.own with ⟨hl,⟨rfl,rfl,rfl,s'⟩|⟨g,cap,cur,rfl,h1,h2,h3,h4,s'⟩⟩
 ·exact s
 ·exact s'.qe (Nat.le_refl n) (Nat.le_trans h1 h2) (Nat.le_trans (Nat.mul_le_mul_right _ h1) h3) h4
theorem add_zero:(λx:Addr=>x.add 0)=id:=by funext x;cases x;rfl
def cIa:Nat->PO
 |0=>(.bin .gtr)
 |1=>(.convI .u8)
 |2=>(.bin .or)
 |3=>(.bin .shr)
 |4=> .lenL
 |5=>(.slL 1 false true true)
 |6=>(.bin .geq)
 |7=>(.bin .rem)
 |8=>(.bin .add)
 |9=>(.bin .quo)
 |_=> .same
def aDa:Nat->EO
 |0=>(.mks 52 5 1 1 (.int .u8 0))
 |1=>(.bsl 5 1 1 #[(.int .u8 0)] [0])
 |2=>(.app 52 52 5 1 1 (.int .u8 0))
 |_=> .an
def eWa:Nat->Value
 |0=>(.slice none 0 0)
 |1=>(.int .i64 0)
 |2=>(.int .i64 10)
 |3=>(.int .u64 127)
 |4=>(.int .u8 128)
 |5=>(.int .u64 7)
 |6=>(.int .u64 128)
 |_=>undef
def dFa:dk:=⟨cIa,aDa,eWa⟩
def Ug:ai:=⟨[0,2,3],26,[.slot 1],aW dFa [] 0xb39e6ffdc71cdd5532571084571084402141532571084571084402171084c42127ee2df80b2cd0082d3c041f01b6eb2db277375751500030351500039dcee2df80b2cd0082d35115f01081d4457c042f01068bc2bc071b5750d00006350d00000278b7cc2d42481027dd2001⟩
theorem OB:aj T0 147 400=some Ug:=by kernel_rfl
theorem jQ (n:Int) (w0 w:World) (A:al) (hn:0<=n/\n<18446744073709551616) (s:St w0 A w):
  ak Tryz.prog 147 [.int .u64 n] (λr w'=>St w0 (A*own 5 1 r (bg n.toNat).length (aM (bg n.toNat))) w') w:=by
 refine aE OB (by simp [Ug]) ?_;simp [Ug];refine nI (l:=0) (c:=10) s (by decide) (by decide) (by decide) rfl λbv w1 s1=> ?_;simp;have s1:St w0 (A*own 5 1 bv 0 []) w1:=by simpa using s1
 refine dB (λenv w'=>∃(m:Int) (v:Value) (k:Nat) (acc:List UInt8),env= [.int .u64 m,.slice none 0 0,v]/\Nd n.toNat m k acc/\St w0 (A*own 5 1 v acc.length (aM acc)) w')
  (λenv _=>ax env 0) ⟨n,_,9,[],rfl,Nd.start hn,s1⟩ ?_
 rintro LQ env w' ⟨m,v,k,acc,rfl,hS,s1⟩ hN hX hR;have h0:=hS.pos;have hl:=hS.len;simp;refine aN (λhc=> ?_) (λhc=> ?_)
 ·simp at hc
  obtain ⟨j,rfl,hS'⟩:=hS.more hc;simp;rw [u8_or m h0];refine cw s1 rfl λb w2 s2=> ?_;simp;rw [Zd (by omega)] at s2;refine bE (m:=1) (news:=aM [UInt8.ofNat (m.toNat %128+128)]) s2.swap rfl (by simpa using s2.aJ) (fw _) (by decide) rfl (by unfold maxLen;omega) (by omega) λv2 w3 s3=> ?_;simp;rw [ina];refine hN _ _ ⟨m /128,v2,j,_,rfl,hS',?_⟩ (by simp [ax];omega);rw [gi,List.length_append];exact s3.swap.drop
 ·simp at hc
  simp;refine hX _ _ _ ?_;simp;rw [D5 m (by omega)];refine cw s1 rfl λb w2 s2=> ?_;simp;rw [Rv (by omega)] at s2;refine bE (m:=1) (news:=aM [UInt8.ofNat m.toNat]) s2.swap rfl (by simpa using s2.aJ) (fw _) (by decide) rfl (by unfold maxLen;omega) (by omega) λv2 w3 s3=> ?_;simp;have e:=hS.last (by omega);obtain ⟨g,vcap,rfl,hcap,_⟩:=s3.aU (by omega);simp;refine ⟨⟨⟨by omega,by omega⟩,by omega⟩,?_⟩;rw [e,gi,List.length_append];exact jT s3.swap.drop
end Go.HL.Tl
