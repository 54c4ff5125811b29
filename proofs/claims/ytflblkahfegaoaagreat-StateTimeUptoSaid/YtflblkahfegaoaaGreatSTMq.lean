/- Part 17. -/
import Derived.Test.YtflblkahfegaoaaGreatSTMp
set_option linter.unusedSimpArgs false
set_option linter.unusedVariables false
set_option maxRecDepth 4000
namespace Go.HL.St1
open Go.HL Go.HL.Tl Go.HL.Sr Go.HL.Es Go.Proofs
theorem Kb {P:Program} {K:Value→World→Prop} {w w0:World} {C:al} {t kt ke:TypeId} {k:IntKind} {n:Int} (hu:P.underlying t=some (.map kt ke)) (s:St w0 C w) (hk:∀b w',St w0 (C*ay b [] 0) w'→K (.map (some b)) w'):aG P (.mkm t true) [.int k n] K w:=by
 intro _;refine aN (s:=Instr.makeMap t (some (.int k n))) (v:= .map (some w.heap.size)) (w':=w.alloc (.map (bc []) 0)) ?_ (hk _ _ (s.alloc trivial));simp [Instr.makeMap,newObj,Sem.run,bc,Sem.bind,run_underlying hu,asInt,asIntOf]
attribute [local irreducible] aG
theorem IL:∀(xs:List Int),0<xs.length→Lib.minOf xs∈xs
 | [],h=>by simp at h
 |x::t,_=>by
  have key:∀(l:List Int) (a:Int),l.foldl min a=a∨l.foldl min a∈l:=by
   intro l
   induction l with
   |nil=>intro a;exact .inl rfl
   |cons y r ih=>
    intro a;simp only [List.foldl_cons,List.mem_cons];rcases ih (min a y) with h|h
    ·rw [h]
     rcases Int.le_total a y with h2|h2
     ·rw [Int.min_eq_left h2];exact .inl rfl
     ·rw [Int.min_eq_right h2];exact .inr (.inl rfl)
    ·exact .inr (.inr h)
  rcases key (x::t) x with h|h
  ·show List.foldl min x (x::t)∈_
   rw [h];exact List.mem_cons_self
  ·exact h
theorem K2 (xs:List Int) (v:Value) (w0 w:World) (A:al) (h:WR w0 A v xs) (h0:0<xs.length) (hm:xs.length≤1048576) (s:St w0 A w):
  ak Tryz.prog 359 [v] (fun r w'=>r= .int .i64 (Lib.minOf xs)∧St w0 A w') w:=by
 obtain ⟨g,o,c,rfl,hc⟩:=h.at h0;refine Calls.mono (Any.slices_Min_int hwa g o xs.length c xs w h0 (Nat.le_refl _) (by omega) (fun j hj=>hc w s j _ (bm hj))) ?_;rintro e w' ⟨rfl,rfl⟩;exact ⟨_,rfl,by rw [List.take_length],s⟩
theorem KC (xs:List Int) (x:Int) (v:Value) (w0 w:World) (A:al) (h:WR w0 A v xs) (hx:x∈xs) (hm:xs.length≤1048576) (s:St w0 A w):
  ak Tryz.prog 358 [v,.int .i64 x] (fun r w'=>(∃k:Nat,k<xs.length∧r= .int .i64 k)∧St w0 A w') w:=by
 have h0:0<xs.length:=List.length_pos_of_mem hx;obtain ⟨g,o,c,rfl,hc⟩:=h.at h0;refine Calls.mono (Any.slices_Index_int S7 g o xs.length c xs x w (Nat.le_refl _) (by omega) (fun j hj=>hc w s j _ (bm hj))) ?_;rintro e w' ⟨rfl,rfl⟩;refine ⟨_,rfl,?_,s⟩;obtain ⟨k,hk,hkx⟩:∃k,k<xs.length∧(xs.getD k 0=x∧∀j,j<k→xs.getD j 0≠x):=by
  clear hc h
  induction xs with
  |nil=>simp at hx
  |cons y t ih=>
   by_cases e:y=x
   ·exact ⟨0,by simp,by simpa using e,fun j hj=>by omega⟩
   ·have hx':x∈t:=by rcases List.mem_cons.1 hx with h|h;exact absurd h.symm e;exact h
    obtain ⟨k,hk,h1,h2⟩:=ih hx' (by simp at hm;omega) (List.length_pos_of_mem hx');refine ⟨k+1,by simp;omega,by simpa using h1,fun j hj=> ?_⟩;rcases j with _|j
    ·simpa using e
    ·have:=h2 j (by omega)
     simpa using this
 exact ⟨k,hk,by rw [Lib.idxOf_hit xs xs.length k x hk (Nat.le_refl _) hkx.1 hkx.2]⟩
def a3a:Nat→PO
 |0=> .lenL
 |1=>(.bin .neq)
 |2=>(.bin .lss)
 |3=>(.idxL 1)
 |4=>(.ext 0)
 |5=>(.ext 1)
 |6=>(.bin .add)
 |7=> .chkp
 |8=>(.fld 4)
 |9=>(.fld 1)
 |10=>(.fld 2)
 |11=>(.fld 3)
 |12=>(.un .not)
 |_=> .same
def YU:Nat→EO
 |0=>(.mkm 346 true)
 |1=>(.ld false 1)
 |2=>(.look 346 true)
 |3=>(.lh 346)
 |4=>(.st 1)
 |_=> .an
def dga:Nat→Value
 |0=>(.map none)
 |1=>(.int .i64 0)
 |2=>(.int .i64 1)
 |3=>(.bool true)
 |4=>(.tuple #[])
 |5=>(.bool false)
 |_=>undef
def Ri:cX:=⟨a3a,YU,dga⟩
def gOa:ai:=⟨[0,1,4,5,6,7,9,18,19,20],41,[.slot 2],aP Ri [] 0x39e79bffdd00c2b6ee67737575090f86fb5090f86b6ce6789a614f444054030e8bc0b2fff748009d7db5d5d424050920d0198406d424050901a789c737566cc51a6cc59b313d1500c29fb699db3150f84d3df901c307df901c3068bc2bc071b57de90f8263de90f8202771a659d9207e57c03a4001fc027ef7cc3d3c000f00a2f02cbffdd200271c71b57257104057c00163257104057c001c4103c027dd2002⟩
theorem Pw:aj S1 356 400=some gOa:=by kernel_rfl
def gPa:ai:=⟨[0,1,4,5,6,7],71,[.slot 2],aP Ri [] 0xb39bffdd0042b6ee6773bedceda6325750b8195f41cc313d0730f50b81b4f41cc307d0730f4d3c1fa074f07ebc1ede68bc0b2fff740409e7a57db485610162edc7db566e0c0584059b8301d3d1330c1f44cc3997484574f072c1405050174f072c1405f074059dcee271c699d959b8145566e04126e059b813d0f30b4d3c1ca041d3c1ca07c1e973bedcefbef74440f4c910f80c1c910f80f4f414420c1f414420f4d3c1fa074f07ebc1f4f41cc307d0730f4d3c1fe074f07fbc1c106abc2bc073bedcefb71c6d5c959910c0e026325664430380a6443034f414420c1f414420f4d3c1fe074f07fbc1f4f41cc307d0730f4d3c1fa074f07ebc1c1027dd2042⟩
theorem Px:aj S1 357 400=some gPa:=by kernel_rfl
def vV (xs:List Int) (i:Nat) (x:Int):Option Nat:=(List.range i).find? fun k=>decide (x=xs.getD k 0)
def ml (xs:List Int) (i:Nat):List En:=(List.range i).map fun k=>⟨xs.getD k 0,.int .i64 k,k⟩
theorem yw (xs:List Int) (i:Nat) (x:Int):cO (ml xs i) x=(vV xs i x).map fun k=> .int .i64 (k:Int):=by
 unfold ml vV
 induction List.range i with
 |nil=>rfl
 |cons a t ih=>
  simp only [List.map_cons,cO,List.find?_cons]
  by_cases h:x=xs.getD a 0
  ·rw [if_pos h,decide_eq_true h];rfl
  ·rw [if_neg h,decide_eq_false h];exact ih
theorem Bu (xs:List Int) (i:Nat):ml xs (i+1)=ml xs i++ [⟨xs.getD i 0,.int .i64 i,i⟩]:=by simp [ml,List.range_succ]
theorem Hx {xs:List Int} {i k:Nat} {x:Int} (h:vV xs i x=some k):k<i∧x=xs.getD k 0:=by
 have h1:=List.mem_of_find?_eq_some h;have h2:=List.find?_some h;simp at h1;exact ⟨h1,by simpa using h2⟩
theorem DI {xs:List Int} {i:Nat} (h:xs.Nodup) (hi:i<xs.length):vV xs i (xs.getD i 0)=none:=by
 unfold vV;rw [List.find?_eq_none];intro k hk;have hk:k<i:=by simpa using hk
 have e1:xs.getD i 0=xs[i]:=by simp [List.getD,hi]
 have e2:xs.getD k 0=xs[k]'(by omega):=by simp [List.getD,show k<xs.length by omega]
 rw [e1,e2];simp only [decide_eq_true_eq];intro e;have:=(List.getElem_inj (h₀:=hi) (h₁:=by omega) h).1 e;omega
theorem xp:pY Tryz.prog 346 3 3 (.int .i64 0):=⟨by kernel_rfl,by kernel_rfl,by kernel_rfl⟩
theorem yr (xs:List Int) (av:Value) (a:Option Addr) (c:Nat) (w0 w:World) (A:al) (h:WR w0 A av xs) (hm:xs.length≤1048576) (hn:xs.Nodup) (h1:∀x∈xs,1≤x) (s:St w0 A w):
  ak Tryz.prog 356 [av,.slice a xs.length c] (fun r w'=>∃m,r= .map (some m)∧St w0 (A*ay m (ml xs xs.length) xs.length) w') w:=by
 obtain ⟨n,hl⟩:∃n,xs.length=n:=⟨_,rfl⟩;have h0:=h;obtain ⟨a1,c1,rfl⟩:=h.val;unfold WR at h;rw [hl] at h⊢
 refine go Pw ?_;refine Kb xp.ty s fun m w s=> ?_;simp;refine oF [4,5,6,9] (fun x w=>∃(i:Nat) (o4 o5 o6:Value),x= [o4,o5,o6,.int .i64 i]∧i≤n∧St w0 (A*ay m (ml xs i) i) w) (fun env _=>n -ax env 9) ⟨0,_,_,_,rfl,by omega,s⟩ ?_;rintro LQ _ w ⟨i,o4,o5,o6,rfl,hi,t⟩ hN hX hR;simp;refine bS (fun k=> ?_) (fun k=> ?_)
 ·have k:i<n:=by omega
  clear hX hR;obtain ⟨g,o,c',e,hc⟩:=h.at (by omega);cases e;refine ⟨by simp,?_⟩;simp [k];refine ae (hc _ t.an i _ (bm (by omega))) ?_;simp;obtain ⟨x,hx⟩:∃x,xs.getD i 0=x:=⟨_,rfl⟩;have hxi:xs[i]?.getD 0=x:=by rw [←hx];simp [List.getD]
  have hx1:1≤x:=by
   have:=h1 (xs[i]'(by omega)) (List.getElem_mem _);rw [←hx];simpa [List.getD,show i<xs.length by omega] using this
  have hg:cO (ml xs i) x=none:=by rw [yw,←hx,DI hn (by omega)];rfl
  try rw [hxi]
  refine fN xp t.look ?_;rw [hg];simp;refine bS (fun q2=> ?_) (fun q2=> ?_)
  ·exfalso;omega
  refine kD xp t hg fun w t=> ?_;simp;have e1:ml xs i++ [⟨x,.int .i64 i,i⟩]=ml xs (i+1):=by rw [Bu,hx]
  rw [e1] at t;simp (disch:=omega) only [wrap64];exact hN [_,_,_,.int .i64 (i+1)] w ⟨i+1,_,_,_,rfl,by omega,t⟩ (by simp [ax];omega)
 ·refine hX _ _ _ ?_
  obtain rfl:i=n:=by omega
  simp;exact t
def nf (xs:List Int) (gone:List Bool) (x:Int):Option Nat:=(vV xs xs.length x).bind fun k=>if gone.getD k false=true then none else some k
def nx (xs:List Int) (wss:List (List Int)) (gone:List Bool) (i:Nat):Nat:=((wss.getD i []).findSome? (nf xs gone)).getD i
theorem Q6 {xs:List Int} {gone:List Bool} {x:Int} {k:Nat} (h:nf xs gone x=some k):k<xs.length∧gone.getD k false=false∧vV xs xs.length x=some k:=by
 unfold nf at h;cases hw:vV xs xs.length x with
 |none=>rw [hw] at h;cases h
 |some j=>
  rw [hw] at h;simp only [Option.bind_some] at h;split at h
  ·cases h
  ·cases h
   exact ⟨(Hx hw).1,Bool.eq_false_iff.2 ‹¬_›,rfl⟩
theorem qg {α β:Type} (f:α→Option β):∀(l:List α) (p:Nat),(∀j (h:j<l.length),j<p→f l[j]=none)→l.findSome? f=(l.drop p).findSome? f
 | [],p,_=>by simp
 |x::t,0,_=>rfl
 |x::t,p+1,h=>by
  have h0:=h 0 (by simp) (by omega);simp only [List.getElem_cons_zero] at h0;rw [List.findSome?_cons,h0,List.drop_succ_cons];exact qg f t p fun j hj hp=>by
   have:=h (j+1) (by simp;omega) (by omega)
   simpa using this
structure sV (xs:List Int) (wss:List (List Int)) (gone:List Bool) (ps:List Int):Prop where
 len:ps.length=xs.length
 each:∀k,k<xs.length→∃p:Nat,ps.getD k 0=p∧p≤(wss.getD k []).length∧∀j,j<p→nf xs gone ((wss.getD k []).getD j 0)=none
structure WWR (w0:World) (A:al) (v:Value) (wvs:List Value) (wss:List (List Int)):Prop where
 row:Row w0 A v wvs.length 1 wvs
 len:wvs.length=wss.length
 each:∀k,k<wss.length→WR w0 A (wvs.getD k undef) (wss.getD k [])
abbrev Jt (mt m:Nat) (xs:List Int) (gone:List Bool) (ps:List Int) (av wv gv pv:Value):al:=
 pt mt (.cells #[av,wv,.map (some m),gv,pv] 393 (0,0))*ay m (ml xs xs.length) xs.length*own 4 1 gv xs.length (jb gone)*own 3 1 pv xs.length (ints ps)
theorem Q7 {xs:List Int} {wss:List (List Int)} {gone:List Bool} {i:Nat} (hi:i<xs.length):nx xs wss gone i<xs.length:=by
 unfold nx;cases h:(wss.getD i []).findSome? (nf xs gone) with
 |none=>exact hi
 |some k=>
  obtain ⟨x,_,hx⟩:=List.exists_of_findSome?_eq_some h;exact (Q6 hx).1
end Go.HL.St1
namespace Go.HL.St1
open Go.HL Go.HL.Tl Go.HL.Sr Go.HL.Es Go.Proofs
attribute [local irreducible] aG
theorem gd {α:Type} {l:List α} {i:Nat} {d:α} (h:i<l.length):l[i]?=some (l.getD i d):=by simp [List.getD,h]
theorem JW {l:List Bool} {i:Nat} (h:i<l.length):(jb l)[i]?=some (.bool (l.getD i false)):=by simp [jb,List.getD,h]
theorem Qk {xs:List Int} {wss:List (List Int)} {gone:List Bool} {i p k:Nat} (hp:p<(wss.getD i []).length) (hb:∀j,j<p→nf xs gone ((wss.getD i []).getD j 0)=none) (hk:nf xs gone ((wss.getD i []).getD p 0)=some k):nx xs wss gone i=k:=by
 unfold nx;obtain ⟨l,hl⟩:∃l,wss.getD i []=l:=⟨_,rfl⟩;rw [hl] at hp hb hk⊢;rw [qg (nf xs gone) l p (fun j hj hjp=>by have:=hb j hjp;simpa [List.getD,hj] using this),List.drop_eq_getElem_cons hp,List.findSome?_cons];have:l.getD p 0=l[p]:=by simp [List.getD,hp]
 rw [this] at hk;rw [hk];rfl
theorem Qj {xs:List Int} {wss:List (List Int)} {gone:List Bool} {i:Nat} (hb:∀j,j<(wss.getD i []).length→nf xs gone ((wss.getD i []).getD j 0)=none):nx xs wss gone i=i:=by
 unfold nx;obtain ⟨l,hl⟩:∃l,wss.getD i []=l:=⟨_,rfl⟩;rw [hl] at hb⊢;rw [qg (nf xs gone) l l.length (fun j hj hjp=>by have:=hb j hjp;simpa [List.getD,hj] using this),List.drop_length];rfl
theorem Qp {xs:List Int} {wss:List (List Int)} {gone:List Bool} {ps:List Int} {i p:Nat} (h:sV xs wss gone ps) (hi:i<xs.length) (hpi:ps.getD i 0=p) (hp:p<(wss.getD i []).length) (hb:∀j,j<p→nf xs gone ((wss.getD i []).getD j 0)=none) (hn:nf xs gone ((wss.getD i []).getD p 0)=none):
  sV xs wss gone (ps.set i ((p+1:Nat):Int)):=by
 refine ⟨by rw [List.length_set,h.len],fun k hk=> ?_⟩
 by_cases e:k=i
 ·subst e
  refine ⟨p+1,by simp [List.getD,h.len,hk],by omega,fun j hj=> ?_⟩
  by_cases e2:j=p
  ·rw [e2];exact hn
  ·exact hb j (by omega)
 ·obtain ⟨q,h1,h2,h3⟩:=h.each k hk
  refine ⟨q,?_,h2,h3⟩;rw [←h1];simp [List.getD,List.getElem?_set_ne (Ne.symm e)]
theorem Qo {xs:List Int} {wss:List (List Int)} {gone gone':List Bool} {ps:List Int} (h:sV xs wss gone ps) (hg:∀k,gone.getD k false=true→gone'.getD k false=true):sV xs wss gone' ps:=by
 refine ⟨h.len,fun k hk=> ?_⟩;obtain ⟨p,h1,h2,h3⟩:=h.each k hk;refine ⟨p,h1,h2,fun j hj=> ?_⟩;have:=h3 j hj;unfold nf at this⊢;cases hw:vV xs xs.length ((wss.getD k []).getD j 0) with
 |none=>rfl
 |some q=>
  rw [hw] at this;simp only [Option.bind_some] at this⊢;split at this
  ·rw [if_pos (hg q ‹_›)]
  ·cases this
set_option maxHeartbeats 1000000 in
theorem CQ (mt m:Nat) (xs:List Int) (wss:List (List Int)) (wvs:List Value) (gone:List Bool) (ps:List Int) (i:Nat) (av wv gv pv:Value) (w0 w:World) (A:al) (hm:xs.length≤1048576) (hi:i<xs.length) (hw:WWR w0 A wv wvs wss) (hwl:wss.length=xs.length) (hwb:∀k,(wss.getD k []).length≤1048576) (hg:gone.length=xs.length) (hP:sV xs wss gone ps)
  (s:St w0 (A*Jt mt m xs gone ps av wv gv pv) w):
  ak Tryz.prog 357 [.pointer (some ⟨mt,0,none⟩),.int .i64 i] (fun r w'=>∃x:List Int,r= .int .i64 (nx xs wss gone i)∧sV xs wss gone x∧St w0 (A*Jt mt m xs gone x av wv gv pv) w') w:=by
 obtain ⟨n,hn⟩:∃n,xs.length=n:=⟨_,rfl⟩;obtain ⟨R,hR0⟩:∃R,nx xs wss gone i=R:=⟨_,rfl⟩;rw [hR0];have hvl:=hw.len;obtain ⟨g1,o1,c1,ewv,hrow⟩:=hw.row.at (by omega);have e1:wvs.length=n:=by omega
 rw [e1] at ewv;have hwi:=hw.each i (by omega);obtain ⟨vi,hvi⟩:∃v,wvs.getD i undef=v:=⟨_,rfl⟩;rw [hvi] at hwi;obtain ⟨li,hli⟩:∃l,wss.getD i []=l:=⟨_,rfl⟩;obtain ⟨N,hN0⟩:∃N,li.length=N:=⟨_,rfl⟩;have hNb:=hwb i;rw [hli,hN0] at hNb;rw [hli] at hwi;have hwi0:=hwi;unfold WR at hwi;rw [hN0] at hwi;obtain ⟨a2,c2,rfl⟩:=hwi.val;subst ewv;have s:St w0 (A*pt mt (.cells #[av,.slice (some ⟨g1,o1,none⟩) n c1,.map (some m),gv,pv] 393 (0,0))*ay m (ml xs xs.length) xs.length*own 4 1 gv xs.length (jb gone)*own 3 1 pv xs.length (ints ps)) w:=s.to (by simp only [Jt];ac_rfl);rw [hn] at s hg;obtain ⟨g3,c3,rfl,_,_⟩:=(s.av gv).aO (by omega);obtain ⟨g4,c4,rfl,_,_⟩:=(s.av pv).aO (by omega)
 have put:∀(ps:List Int) w,St w0 (A*pt mt (.cells #[av,.slice (some ⟨g1,o1,none⟩) n c1,.map (some m),.slice (some ⟨g3,0,none⟩) n c3,.slice (some ⟨g4,0,none⟩) n c4] 393 (0,0))*ay m (ml xs n) n*own 4 1 (.slice (some ⟨g3,0,none⟩) n c3) n (jb gone)*own 3 1 (.slice (some ⟨g4,0,none⟩) n c4) n (ints ps)) w→
   St w0 (A*Jt mt m xs gone ps av (.slice (some ⟨g1,o1,none⟩) n c1) (.slice (some ⟨g3,0,none⟩) n c3) (.slice (some ⟨g4,0,none⟩) n c4)) w:=fun ps w s=>by
  have s:=s.to (B:=A*(pt mt (.cells #[av,.slice (some ⟨g1,o1,none⟩) n c1,.map (some m),.slice (some ⟨g3,0,none⟩) n c3,.slice (some ⟨g4,0,none⟩) n c4] 393 (0,0))*ay m (ml xs n) n*own 4 1 (.slice (some ⟨g3,0,none⟩) n c3) n (jb gone)*own 3 1 (.slice (some ⟨g4,0,none⟩) n c4) n (ints ps))) (by ac_rfl);rw [←hn] at s⊢;exact s
 obtain ⟨M,hM⟩:∃M:List Int→al,M=fun ps=>A*pt mt (.cells #[av,.slice (some ⟨g1,o1,none⟩) n c1,.map (some m),.slice (some ⟨g3,0,none⟩) n c3,.slice (some ⟨g4,0,none⟩) n c4] 393 (0,0))*ay m (ml xs n) n*own 4 1 (.slice (some ⟨g3,0,none⟩) n c3) n (jb gone)*own 3 1 (.slice (some ⟨g4,0,none⟩) n c4) n (ints ps):=⟨_,rfl⟩;have s:St w0 (M ps) w:=by rw [hM];exact s
 have put:∀ps w,St w0 (M ps) w→St w0 (A*Jt mt m xs gone ps av (.slice (some ⟨g1,o1,none⟩) n c1) (.slice (some ⟨g3,0,none⟩) n c3) (.slice (some ⟨g4,0,none⟩) n c4)) w:=fun ps w s=>put ps w (by rw [hM] at s;exact s);have cM:∀ps w,St w0 (M ps) w→∀j u,#[av,.slice (some ⟨g1,o1,none⟩) n c1,.map (some m),.slice (some ⟨g3,0,none⟩) n c3,.slice (some ⟨g4,0,none⟩) n c4][j]?=some u→w.cell? ⟨mt,j,none⟩=some u:=fun ps w s j u hu=>by rw [hM] at s;rw [cell_of (s.at mt).look];exact hu
 have cI:∀ps w,St w0 (M ps) w→w.heap[m]?=some (.map (bc (ml xs n)) n):=fun ps w s=>by rw [hM] at s;exact (s.at m).look
 have cW:∀ps w,St w0 (M ps) w→w.cell? ⟨g1,o1+i,none⟩=some (.slice a2 N c2):=fun ps w s=>by rw [hM] at s;rw [hrow w s.an i _ (gd (d:=undef) (by omega)),hvi]
 have cP:∀ps w,ps.length=n→St w0 (M ps) w→w.cell? ⟨g4,i,none⟩=some (.int .i64 (ps.getD i 0)):=fun ps w hl s=>by
  rw [hM] at s;obtain ⟨g',_,e,_,h⟩:=s.aO (by omega);cases e;exact h i _ (bm (by omega))
 have cG:∀ps w k,k<n→St w0 (M ps) w→w.cell? ⟨g3,k,none⟩=some (.bool (gone.getD k false)):=fun ps w k hk s=>by
  rw [hM] at s;obtain ⟨g',_,e,_,h⟩:=(s.av (.slice (some ⟨g3,0,none⟩) n c3)).aO (by omega);cases e;exact h k _ (JW (by omega))
 have cL:∀ps w p,p<N→St w0 (M ps) w→∃g o,a2=some ⟨g,o,none⟩∧w.cell? ⟨g,o+p,none⟩=some (.int .i64 (li.getD p 0)):=fun ps w p hp s=>by
  obtain ⟨g,o,c,e,h⟩:=hwi.at (by omega);cases e;rw [hM] at s;exact ⟨g,o,rfl,h w s.an p _ (bm (by omega))⟩
 refine go Px ?_;refine oF [3,4,5] (fun x w=>∃(ps:List Int) (o3 o4 o5:Value),x= [o3,o4,o5]∧sV xs wss gone ps∧St w0 (M ps) w)
  (fun _ w=>N -((w.cell? ⟨g4,i,none⟩).map fun v=>match v with| .int _ k=>k.toNat|_=>0).getD 0) ⟨ps,_,_,_,rfl,hP,s⟩ ?_
 rintro LQ _ w ⟨qs,o3,o4,o5,rfl,hQ,t⟩ hN hX hR;have t0:=t;have hpl:=hQ.len;rw [hn] at hpl;obtain ⟨p,hp1,hp2,hp3⟩:=hQ.each i hi;have hp4:=hp2;rw [hli,hN0] at hp2;have hmw:∀w (qs:List Int) (p:Nat),qs.length=n→qs.getD i 0=(p:Int)→St w0 (M qs) w→((w.cell? ⟨g4,i,none⟩).map fun v=>match v with| .int _ k=>k.toNat|_=>0).getD 0=p:=fun w qs p h1 h2 s=>by
  rw [cP qs w h1 s,h2];simp
 have cp:∀w,St w0 (M qs) w→w.cell? ⟨g4,i,none⟩=some (.int .i64 p):=fun w s=>by rw [←hp1];exact cP qs w hpl s
 simp;refine tf ?_;have hin:i<n:=by omega
 refine aV (fun w s=>cM qs w s 4 _ rfl) ?_;simp [hin];refine aV (fun w s=>cp w s) ?_;simp;refine aV (fun w s=>cM qs w s 1 _ rfl) ?_;simp [hin];refine aV (fun w s=>cW qs w s) ?_;simp;intro w t;refine bS (fun k=> ?_) (fun k=> ?_)
 ·have k:p<N:=by omega
  obtain ⟨g,o,rfl,_⟩:=cL qs w p k t;have cl:∀w,St w0 (M qs) w→w.cell? ⟨g,o+p,none⟩=some (.int .i64 (li.getD p 0)):=fun w s=>by
   obtain ⟨_,_,e,h⟩:=cL qs w p k s;cases e;exact h
  obtain ⟨x,hx⟩:∃x,li.getD p 0=x:=⟨_,rfl⟩;rw [hx] at cl;refine vU ?_;refine aV (fun w s=>cM qs w s 1 _ rfl) ?_;simp [hin];refine aV (fun w s=>cW qs w s) ?_;simp;refine aV (fun w s=>cM qs w s 4 _ rfl) ?_;simp [hin];refine aV (fun w s=>cp w s) ?_;simp [k];refine aV (fun w s=>cl w s) ?_;simp;intro w t;refine ae (cM qs w t 2 _ rfl) ?_;simp;refine fN xp (cI qs w t) ?_;rw [yw];have hset:∀(l:List Int) (i:Nat) (x:Int),(ints l).set i (.int .i64 x)=ints (l.set i x):=fun l i x=>by simp [ints,List.map_set]
  have hxp:(wss.getD i []).getD p 0=x:=by rw [hli];exact hx
  have nxt:nf xs gone x=none→∀w w',St w0 (M qs) w→St w0 (M (qs.set i ((p+1:Nat):Int))) w'→
    sV xs wss gone (qs.set i ((p+1:Nat):Int))∧N -((w'.cell? ⟨g4,i,none⟩).map fun v=>match v with| .int _ k=>k.toNat|_=>0).getD 0<N -((w.cell? ⟨g4,i,none⟩).map fun v=>match v with| .int _ k=>k.toNat|_=>0).getD 0:=fun hn' w w' s s'=>by
   refine ⟨Qp hQ hi hp1 (by rw [hli,hN0];exact k) hp3 (by rw [hxp];exact hn'),?_⟩;rw [hmw w qs p hpl hp1 s,hmw w' _ (p+1) (by rw [List.length_set];exact hpl) (by simp [List.getD,hpl,hin]) s'];omega
  have wp:IntKind.i64.wrap ((p:Int)+1)=((p+1:Nat):Int):=by rw [wrap64 (by omega) (by omega)];omega
  cases hwh:vV xs n x with
  |none=>
   have hnf:nf xs gone x=none:=by unfold nf;rw [hn,hwh];rfl
   simp;refine ae (cM qs w t 4 _ rfl) ?_;simp [hin];refine ae (cp w t) ?_;simp [hin,wp];have t':=t;rw [hM] at t';refine cw t' (by simp [ints];omega) rfl fun w' t2=> ?_;rw [hset] at t2;have t2:St w0 (M (qs.set i ((p+1:Nat):Int))) w':=by rw [hM];exact t2
   obtain ⟨h1,h2⟩:=nxt hnf _ _ t0 t2;exact hN [_,_,_] w' ⟨_,_,_,_,rfl,h1,t2⟩ h2
  |some kk=>
   obtain ⟨hkk,_⟩:=Hx hwh;simp;refine ae (cM qs w t 3 _ rfl) ?_;simp [hkk];refine ae (cG qs w kk hkk t) ?_;simp;refine bS (fun q=> ?_) (fun q=> ?_)
   ·have hnf:nf xs gone x=some kk:=by unfold nf;rw [hn,hwh];simp [List.getD,q]
    refine hR _ _ ?_;clear hN hX hR;simp;refine ⟨?_,qs,hQ,put qs w t⟩;rw [←hR0,Qk (by rw [hli,hN0];exact k) hp3 (by rw [hxp];exact hnf)]
   ·have hnf:nf xs gone x=none:=by unfold nf;rw [hn,hwh];simp [List.getD,q]
    refine ae (cM qs w t 4 _ rfl) ?_;simp [hin];refine ae (cp w t) ?_;simp [hin,wp];have t':=t;rw [hM] at t';refine cw t' (by simp [ints];omega) rfl fun w' t2=> ?_;rw [hset] at t2;have t2:St w0 (M (qs.set i ((p+1:Nat):Int))) w':=by rw [hM];exact t2
    obtain ⟨h1,h2⟩:=nxt hnf _ _ t0 t2;exact hN [_,_,_] w' ⟨_,_,_,_,rfl,h1,t2⟩ h2
 ·refine hX _ _ _ ?_
  obtain rfl:p=N:=by omega
  clear hN hX hR;simp;refine ⟨?_,qs,hQ,put qs w t⟩;rw [←hR0,Qj];rw [hli];intro j hj;exact hli▸hp3 j (by omega)
end Go.HL.St1
namespace Go.HL
theorem Cw {p:Nat→Prop} (h:∃f,p f):∃f,p f∧∀g,p g→f≤g:=by
 obtain ⟨f,hf⟩:=h
 induction f using Nat.strongRecOn with
 |ind f ih=>
  by_cases hg:∃g,g<f∧p g
  ·obtain ⟨g,h1,h2⟩:=hg;exact ih g h1 h2
  ·exact ⟨f,hf,fun g hg'=>Nat.le_of_not_lt fun h=>hg ⟨g,h,hg'⟩⟩
open Classical in
noncomputable def Ab (p:Nat→Prop):Nat:=if h:∃f,p f then Classical.choose (Cw h) else 0
theorem qZ {p:Nat→Prop} {f:Nat} (h:p f):p (Ab p)∧Ab p≤f:=by
 have he:∃f,p f:=⟨f,h⟩;unfold Ab;rw [dif_pos he];have:=Classical.choose_spec (Cw he);exact ⟨this.1,this.2 f h⟩
theorem lpG {P:Program} {F:PF P} {env:List Value} {w:World} {Q:EX→List Value→World→Prop} {x:HC} (ks:List Nat) (I:Nat→List Value→World→Prop) {f0:Nat} {vs0:List Value} (h0:I f0 vs0 w)
  (h:∀(LQ:EX→List Value→World→Prop) (f:Nat) (vs:List Value) (w:World),I f vs w→(∀f' vs' w',I f' vs' w'→f'<f→LQ .nrm (lh env ks vs') w')→(∀i env' w',Q (.ex i) env' w'→LQ (.ex i) env' w')→
   (∀env' w',Q .ret env' w'→LQ .ret env' w')→x.wp F LQ (lh env ks vs) w) (hu:lh env ks vs0=env:=by rfl):Bb F x Q env w:=by
 refine oF ks (fun vs w=>∃f,I f vs w) (fun e w=>Ab fun f=>∃vs,lh env ks vs=e∧I f vs w) ⟨f0,h0⟩ ?_ hu;rintro LQ vs w ⟨f,hf⟩ hN hX hR;obtain ⟨⟨vs1,e1,h1⟩,_⟩:=qZ (p:=fun f=>∃vs',lh env ks vs'=lh env ks vs∧I f vs' w) ⟨vs,rfl,hf⟩;have:=h LQ _ vs1 w h1 (fun f' vs' w' h' hlt=>hN vs' w' ⟨f',h'⟩ ?_) hX hR
 ·rw [e1] at this;exact this
 ·exact Nat.lt_of_le_of_lt (qZ (p:=fun f=>∃vs'',lh env ks vs''=lh env ks vs'∧I f vs'' w') ⟨vs',rfl,h'⟩).2 hlt
end Go.HL
namespace Go.HL.St1
open Go.HL Go.HL.Tl Go.HL.Sr Go.HL.Es Go.Proofs
structure BS where
 at':Nat
 way:List Nat
 gone:List Bool
 got:List Int
def dD (s:BS):List Nat:=if s.way= [] then [s.at'] else s.way
def fu (l:List Nat):Nat:=l.getLastD 0
def ed (gone:List Bool) (cyc:List Nat):Nat→List Bool
 |0=>gone
 |k+1=>(ed gone cyc k).set (cyc.getD k 0) true
def nM (xs got:List Int) (cyc:List Nat):Nat→List Int
 |0=>got
 |k+1=>(nM xs got cyc k).set (cyc.getD k 0) (xs.getD (cyc.getD ((k+1) %cyc.length) 0) 0)
def j0 (l:List Nat) (x:Nat):List Nat:=l.drop (l.idxOf x)
def kq (xs:List Int) (wss:List (List Int)) (s:BS):BS:=
 if s.way= []∧s.gone.getD s.at' false=true then ⟨s.at'+1,[],s.gone,s.got⟩
 else if nx xs wss s.gone (fu (dD s))∈dD s then
  ⟨s.at',[],ed s.gone (j0 (dD s) (nx xs wss s.gone (fu (dD s)))) (j0 (dD s) (nx xs wss s.gone (fu (dD s)))).length,nM xs s.got (j0 (dD s) (nx xs wss s.gone (fu (dD s)))) (j0 (dD s) (nx xs wss s.gone (fu (dD s)))).length⟩
 else ⟨s.at',dD s++ [nx xs wss s.gone (fu (dD s))],s.gone,s.got⟩
def kp (n:Nat) (s:BS):Prop:=n≤s.at'∧s.way= []
instance (n:Nat) (s:BS):Decidable (kp n s):=inferInstanceAs (Decidable (_∧_))
def iq (xs:List Int) (wss:List (List Int)):Nat→BS→BS
 |0,s=>s
 |f+1,s=>if kp xs.length s then s else iq xs wss f (kq xs wss s)
def rz (n:Nat) (l:List Nat):Nat:=(List.range n).countP fun k=>decide (k∉l)
def left (g:List Bool):Nat:=g.countP fun b=> !b
structure BV (n:Nat) (s:BS):Prop where
 at':s.at'≤n
 nodup:s.way.Nodup
 way:∀k∈s.way,k<n∧s.gone.getD k false=false
 len:s.way.length+rz n s.way≤n
 gone:s.gone.length=n
 got:s.got.length=n
def ir (n:Nat) (s:BS):Nat:=(n -s.at')+(n+2)*left s.gone+rz n s.way
theorem wL {p q:Nat→Bool} {x:Nat}:∀{l:List Nat},(∀k,q k=true→p k=true)→x∈l→p x=true→q x=false→l.countP q<l.countP p
 |a::t,h,hx,hp,hq=>by
  have hle:t.countP q≤t.countP p:=List.countP_mono_left fun k _ hk=>h k hk;rw [List.countP_cons,List.countP_cons];rcases List.mem_cons.1 hx with e|hx
  ·subst e;rw [hp,hq];simp;omega
  ·have ih:=wL (l:=t) h hx hp hq
   cases hqa:q a with
   |false=>simp;omega
   |true=>rw [h a hqa];simp;omega
theorem mL (n:Nat):rz n []=n:=by simp [rz]
theorem Ql (n:Nat) (l:List Nat):rz n l≤n:=by
 have:=List.countP_le_length (p:=fun k=>decide (k∉l)) (l:=List.range n)
 simpa [rz] using this
theorem xw {n x:Nat} {l:List Nat} (hx:x<n) (h:x∉l):rz n (l++ [x])<rz n l:=by
 unfold rz;refine wL (x:=x) (fun k hk=> ?_) (by simpa using hx) (by simpa using h) (by simp);simp only [List.mem_append,List.mem_singleton,not_or,decide_eq_true_eq] at hk⊢;exact hk.1
theorem q4:∀(g:List Bool) (i:Nat),left (g.set i true)≤left g
 | [],i=>by simp [left]
 |b::t,0=>by simp [left,List.countP_cons]
 |b::t,i+1=>by
  have:=q4 t i;simp only [left,List.set_cons_succ,List.countP_cons] at this⊢;omega
theorem q5:∀(g:List Bool) (i:Nat),i<g.length→g.getD i false=false→left (g.set i true)<left g
 | [],i,h,_=>by simp at h
 |b::t,0,_,h=>by
  have:b=false:=by simpa using h
  subst this;simp [left,List.countP_cons]
 |b::t,i+1,hl,h=>by
  have:=q5 t i (by simpa using hl) (by simpa using h);simp only [left,List.set_cons_succ,List.countP_cons] at this⊢;omega
theorem nz (gone:List Bool) (cyc:List Nat):∀k,(ed gone cyc k).length=gone.length
 |0=>rfl
 |k+1=>by rw [ed,List.length_set,nz gone cyc k]
theorem mz (xs got:List Int) (cyc:List Nat):∀k,(nM xs got cyc k).length=got.length
 |0=>rfl
 |k+1=>by rw [nM,List.length_set,mz xs got cyc k]
theorem om (gone:List Bool) (cyc:List Nat) (j:Nat) (h:gone.getD j false=true):∀k,(ed gone cyc k).getD j false=true
 |0=>h
 |k+1=>by
  have ih:=om gone cyc j h k;rw [ed]
  by_cases e:cyc.getD k 0=j
  ·rw [e]
   have hj:j<(ed gone cyc k).length:=by
    rcases Nat.lt_or_ge j (ed gone cyc k).length with h|h2
    ·exact h
    ·rw [List.getD_eq_getElem?_getD,List.getElem?_eq_none (by omega)] at ih;cases ih
   simp [List.getD,hj]
  ·rw [List.getD_eq_getElem?_getD,List.getElem?_set_ne e,←List.getD_eq_getElem?_getD];exact ih
theorem uh {gone:List Bool} {cyc:List Nat} (h0:cyc.getD 0 0<gone.length) (h1:gone.getD (cyc.getD 0 0) false=false):∀k,0<k→left (ed gone cyc k)<left gone
 |0,h=>by omega
 |1,_=>by rw [ed,ed];exact q5 _ _ h0 h1
 |k+2,_=>by
  have:=uh h0 h1 (k+1) (by omega);rw [ed];exact Nat.lt_of_le_of_lt (q4 _ _) this
theorem uy {l:List Nat} (h:l≠ []):fu l∈l:=by
 unfold fu;rw [List.getLastD_eq_getLast?,List.getLast?_eq_some_getLast h];exact List.getLast_mem h
theorem Qi {xs:List Int} {wss:List (List Int)} {gone:List Bool} {i:Nat} (hi:gone.getD i false=false):gone.getD (nx xs wss gone i) false=false:=by
 unfold nx;cases h:(wss.getD i []).findSome? (nf xs gone) with
 |none=>exact hi
 |some k=>
  obtain ⟨x,_,hx⟩:=List.exists_of_findSome?_eq_some h;exact (Q6 hx).2.1
theorem qd {l:List Nat} {x:Nat} (h:x∈l):0<(j0 l x).length∧(j0 l x).getD 0 0=x∧∀y∈j0 l x,y∈l:=by
 have hi:l.idxOf x<l.length:=List.idxOf_lt_length_iff.2 h;unfold j0;refine ⟨by rw [List.length_drop];omega,?_,fun y hy=>List.mem_of_mem_drop hy⟩;rw [List.getD_eq_getElem?_getD,List.getElem?_drop,Nat.add_zero,List.getElem?_eq_getElem hi];simp
theorem vv {n:Nat} {s:BS} (h:BV n s) (hd:¬kp n s) (hg:¬(s.way= []∧s.gone.getD s.at' false=true)):dD s≠ []∧(dD s).Nodup∧(∀k∈dD s,k<n∧s.gone.getD k false=false)∧(dD s).length+rz n (dD s)≤n∧rz n (dD s)≤rz n s.way:=by
 unfold dD
 by_cases e:s.way= []
 ·rw [if_pos e]
  have hat:s.at'<n:=by
   have:=h.at';rcases Nat.lt_or_ge s.at' n with h1|h1
   ·exact h1
   ·exact absurd ⟨h1,e⟩ hd
  have hp:=xw (l:= []) hat (by simp);rw [List.nil_append,mL] at hp;refine ⟨by simp,by simp,fun k hk=> ?_,by simp only [List.length_singleton];omega,by rw [e,mL];omega⟩;have:k=s.at':=by simpa using hk
  subst this;refine ⟨hat,?_⟩;cases hgg:s.gone.getD s.at' false with
  |false=>rfl
  |true=>exact absurd ⟨e,hgg⟩ hg
 ·rw [if_neg e]
  exact ⟨e,h.nodup,h.way,h.len,Nat.le_refl _⟩
theorem mj {xs:List Int} {wss:List (List Int)} {s:BS} (h:BV xs.length s) (hd:¬kp xs.length s):BV xs.length (kq xs wss s)∧ir xs.length (kq xs wss s)<ir xs.length s:=by
 obtain ⟨n,hn⟩:∃n,xs.length=n:=⟨_,rfl⟩;rw [hn] at h hd⊢;unfold kq
 by_cases h1:s.way= []∧s.gone.getD s.at' false=true
 ·rw [if_pos h1]
  have hat:s.at'<n:=by
   rcases Nat.lt_or_ge s.at' n with h2|h2
   ·exact h2
   ·exact absurd ⟨h2,h1.1⟩ hd
  refine ⟨⟨hat,by simp,by simp,by simp [mL],h.gone,h.got⟩,?_⟩;simp only [ir,h1.1];omega
 rw [if_neg h1];obtain ⟨w1,w2,w3,w4,w5⟩:=vv h hd h1;obtain ⟨W,hW⟩:∃W,dD s=W:=⟨_,rfl⟩;rw [hW] at w1 w2 w3 w4 w5⊢;have hlast:=w3 _ (uy w1);obtain ⟨x,hx⟩:∃x,nx xs wss s.gone (fu W)=x:=⟨_,rfl⟩;have hxl:x<n:=by rw [←hx,←hn];exact Q7 (by rw [hn];exact hlast.1)
 have hxg:s.gone.getD x false=false:=by rw [←hx];exact Qi hlast.2
 rw [hx]
 by_cases h2:x∈W
 ·rw [if_pos h2]
  obtain ⟨c1,c2,c3⟩:=qd h2;refine ⟨⟨h.at',by simp,by simp,by simp [mL],by rw [nz];exact h.gone,by rw [mz];exact h.got⟩,?_⟩;have hlt:=uh (gone:=s.gone) (cyc:=j0 W x) (by rw [c2,h.gone];exact hxl) (by rw [c2];exact hxg) _ c1;have hm:(n+2)*(left (ed s.gone (j0 W x) (j0 W x).length)+1)≤(n+2)*left s.gone:=Nat.mul_le_mul_left _ hlt;rw [Nat.mul_add] at hm;have:=Ql n [];simp only [ir];omega
 ·rw [if_neg h2]
  have hp:=xw hxl h2;refine ⟨⟨h.at',?_,fun k hk=> ?_,?_,h.gone,h.got⟩,?_⟩
  ·rw [List.nodup_append]
   exact ⟨w2,by simp,fun a ha b hb=>by
    have:b=x:=by simpa using hb
    subst this;exact fun e=>h2 (e▸ha)⟩
  ·rcases List.mem_append.1 hk with hk|hk
   ·exact w3 k hk
   ·have:k=x:=by simpa using hk
    subst this;exact ⟨hxl,hxg⟩
  ·simp only [List.length_append,List.length_singleton];omega
  ·simp only [ir];omega
def nL (n:Nat):BS:=⟨0,[],List.replicate n false,List.replicate n 0⟩
theorem yu (n:Nat):BV n (nL n):=⟨by simp [nL],by simp [nL],by simp [nL],by simp [nL,mL],by simp [nL],by simp [nL]⟩
def mh (xs:List Int) (wss:List (List Int)):List Int:=(iq xs wss (ir xs.length (nL xs.length)) (nL xs.length)).got
theorem D8 {xs:List Int} {wss:List (List Int)} {s:BS} {f:Nat} (h:BV xs.length s) (hd:¬kp xs.length s) (hf:ir xs.length s≤f):∃f',ir xs.length (kq xs wss s)≤f'∧iq xs wss f' (kq xs wss s)=iq xs wss f s:=by
 have:=(mj (wss:=wss) h hd).2;obtain ⟨f',rfl⟩:∃f',f=f'+1:=⟨f -1,by omega⟩;exact ⟨f',by omega,by rw [iq,if_neg hd]⟩
theorem D7 {xs:List Int} {wss:List (List Int)} {s:BS} (h:kp xs.length s):∀f,iq xs wss f s=s
 |0=>rfl
 |f+1=>by rw [iq,if_pos h]
def jE (n:Nat) (f:Nat→Int):List Int:=(List.range n).map f
theorem lN (n:Nat) (f:Nat→Int):(jE n f).length=n:=by simp [jE]
theorem Fo {n i:Nat} (f:Nat→Int) (h:i<n):(jE n f).getD i 0=f i:=by simp [jE,List.getD,h]
theorem Am (n x:Nat) (f:Nat→Int) (v:Int):(jE n f).set x v=jE n fun k=>if k=x then v else f k:=by
 apply List.ext_getElem?;intro k
 by_cases hk:k<n
 ·by_cases e:k=x
  ·subst e;simp [jE,hk]
  ·rw [List.getElem?_set_ne (Ne.symm e)];simp [jE,hk,e]
 ·rw [List.getElem?_eq_none (by simp [jE];omega),List.getElem?_eq_none (by simp [jE];omega)]
theorem Al {n:Nat} {f g:Nat→Int} (h:∀k,k<n→f k=g k):jE n f=jE n g:=by
 unfold jE;exact List.map_congr_left fun k hk=>h k (by simpa using hk)
def kY (l:List Nat) (k:Nat):Int:=if k∈l then (l.idxOf k:Int)+1 else 0
theorem Cj {l:List Nat} {x:Nat} (h:x∉l) (n:Nat):(jE n (kY l)).set x ((l.length:Int)+1)=jE n (kY (l++ [x])):=by
 rw [Am];refine Al fun k hk=> ?_;unfold kY
 by_cases e:k=x
 ·subst e
  rw [if_pos rfl,if_pos (by simp),List.idxOf_append,if_neg h];simp
 ·rw [if_neg e]
  by_cases hm:k∈l
  ·rw [if_pos hm,if_pos (by simp [hm]),List.idxOf_append,if_pos hm]
  ·rw [if_neg hm,if_neg (by simp [hm,e])]
end Go.HL.St1
namespace Go.HL.St1
open Go.HL Go.HL.Tl Go.HL.Sr Go.HL.Es Go.Proofs
attribute [local irreducible] aG
def nK (es:List PE):List Int:=es.map (·.item)
def DM (es:List PE):List (List Int):=es.map (·.ws)
def JT (es:List PE) (g:List Int) (i:Nat):List Gf:=(if g.getD i 0=0 then [] else [⟨(en es i).acc,g.getD i 0,0⟩])++cg (en es i).acc (en es i).ab
def oP (es:List PE) (g:List Int) (n:Nat):List Gf:=(List.range n).flatMap (JT es g)
def tc (es:List PE):List Gf:=oP es (mh (nK es) (DM es)) es.length
theorem wy (es:List PE) (g:List Int) (n:Nat):oP es g (n+1)=oP es g n++JT es g n:=by simp [oP,List.range_succ]
theorem MF (es:List PE) (g:List Int) (i:Nat):(JT es g i).length≤2:=by
 unfold JT;have:=tq (en es i).acc (en es i).ab;split<;>simp<;>omega
theorem td (es:List PE) (g:List Int):∀n,(oP es g n).length≤2*n
 |0=>by simp [oP]
 |n+1=>by
  have:=td es g n;have:=MF es g n;rw [wy,List.length_append];omega
def Lf (d:al) (f:Value→al):Option Value→al
 |none=>d
 |some v=>f v
@[simp] theorem pF (d:al) (f:Value→al):Lf d f none=d:=rfl
@[simp] theorem Lg (d:al) (f:Value→al) (v:Value):Lf d f (some v)=f v:=rfl
def Fx (n:Nat) (v:Value) (o:Obj):al:=fun h=>∃b,v= .slice (some ⟨b,0,none⟩) n n∧pt b o h
@[simp] theorem LM (n b:Nat) (o:Obj):Fx n (.slice (some ⟨b,0,none⟩) n n) o=pt b o:=by
 funext h;apply propext;constructor
 ·rintro ⟨b',e,hh⟩
  cases e;exact hh
 ·intro hh;exact ⟨b,rfl,hh⟩
theorem Hi {w0 w:World} {A:al} {n:Nat} {v:Value} {o:Obj} (s:St w0 (A*Fx n v o) w):∃b,v= .slice (some ⟨b,0,none⟩) n n:=by
 obtain ⟨g,h1,h2,h3,d,e,a,b,hb,_⟩:=s.holds;exact ⟨b,hb⟩
end Go.HL.St1
namespace Go.HL.Pu
open Go.HL Go.HL.Nm Go.Proofs
def nms (l:List Ac):List (List UInt8):=l.map Ac.name
structure NI (ns:List (List UInt8)):Prop where
 chk:∀n∈ns,(jn n).2=0
 nod:(ns.map iP).Nodup
 bank:ns[0]?=some cK
theorem K6 {lim:Int} (h:1≤lim∧lim≤64):PI lim ⟨lim,[⟨cK,0⟩],0,0⟩:=
 ⟨rfl,h,by simp;omega,by simp,Int.le_refl _,rfl,by show (0:Int)≤_;decide,fun i hi=>by
  have:i=0:=by simpa using hi
  subst this;simp [cK]⟩
end Go.HL.Pu
namespace Go.HL.St0
open Go.HL Go.Proofs
attribute [local irreducible] aG
structure SU where
 seats:Int
 queue:Int
 quantum:Int
 settle:Int
 rate:Int
 burst:Int
 idle:Int
 acc:Int
 af:Int
 bA:Int
 log:Int
 slot:Int
def SU.cs (x:SU):List Value:= [.int .i64 x.seats,.int .i64 x.queue,.int .i64 x.quantum,.int .i64 x.settle,.int .i64 x.rate,.int .i64 x.burst,.int .i64 x.idle,.int .i64 x.acc,.int .i64 x.af,.int .i64 x.bA,.int .i64 x.log,.int .i64 x.slot]
def jT (x:SU):Prop:=1≤x.acc∧x.acc≤64∧0≤x.af∧x.af≤512∧1≤x.bA∧x.bA≤64
instance (x:SU):Decidable (jT x):=inferInstanceAs (Decidable (_∧_))
noncomputable abbrev S0:PF Tryz.prog:=PF.none _
def bna:Nat→PO
 |0=>(.fld 7)
 |1=>(.bin .geq)
 |2=>(.bin .leq)
 |3=>(.fld 8)
 |4=>(.fld 9)
 |5=>(.un .not)
 |6=>(.ext 0)
 |7=>(.ext 1)
 |8=>(.build (rl [(13,(.int .i64 0)),(3,(.pointer none)),(1,(.int .i64 0)),(1,(.map none))]) [(0,12),(12,1),(13,1),(14,1),(15,1),(16,1),(17,1)] [0,2,3,4,6])
 |9=>(.eqNil false (.pointer 108) (.pointer none))
 |10=> .chkp
 |11=>(.fld 13)
 |_=> .same
def Zf:Nat→EO
 |0=>(.box 25)
 |1=>(.ld false 1)
 |2=>(.ld true 12)
 |3=>(.call 85)
 |4=>(.call 105)
 |5=>(.call 106)
 |6=>(.call 107)
 |7=>(.mkm 106 false)
 |8=>(.box 108)
 |9=>(.call 54)
 |10=>(.call 177)
 |_=> .an
def dAa:Nat→Value
 |0=>(.bool false)
 |1=>(.int .i64 1)
 |2=>(.tuple #[])
 |3=>(.int .i64 64)
 |4=>(.int .i64 0)
 |5=>(.int .i64 512)
 |6=>(.pointer none)
 |7=>(.int .i64 2)
 |_=>undef
def LW:cX:=⟨bna,Zf,dAa⟩
def l85:ai:=⟨[0,1,2],31,[.slot 2],aP LW [] 0x39bffedc8de95f7df7dfdd2002480480480480e2271f8de95f7df7f74800920120120110e271f8de95f7dfdd200248048044589c7e37a57dfdd200248044789c7e37a57f7480091fa271fdd5d4344a042091fb50d12810a65d2095c41111f8147ec41111f95d4147a0511f5051e819974825710444470511f1044447575151182445d454460a65d2095c410d1141445c410d1155d444440510f51111019974825710434430510f10434435750d1082e350d1082997482571040e01e31040e15d41cc1d41cc1d310400710409e2699d92002cc1f00⟩
theorem Vo:aj S0 85 400=some l85:=by kernel_rfl
def l44:ai:=⟨[0,1,2,3,4,6,8],38,[.slot 2,.slot 3],aP LW [] 0xe79e6ffe28bb699d921034420b4514532e10190150133eba514532e10190150133e931f10429e271cdd59b31869b31e6cc6f454041a7ee271cdd59b81859b81e6e069b3174c410c1c410e7ee271cdd59b81849b81e6e069b3134c41001c41028bc0b2ffda6764870d21828a271b566e05626e059b30f10429e26996764840d2182cc1f00⟩
theorem UO:aj S0 44 400=some l44:=by kernel_rfl
def l54:ai:=⟨[0,2],9,[.slot 1],aP LW [] 0x2ce6ffdcef7cc1d34f0a04b041d3c2812c1f0a068bc0b2fff748605c6d5f3e63cfa7dd2181⟩
theorem KZ (x:SU) (w0 w:World) (A:al) (s:St w0 A w):ak Tryz.prog 85 [.agg x.cs.toArray] (fun r w'=>r= .bool (decide (jT x))∧St w0 A w') w:=by
 refine go Vo ?_;refine gI fun b w s=> ?_;refine aY ?_
 by_cases c1:1≤x.acc
 case neg=>simp [c1,jT];exact s.an
 simp [c1];refine aY ?_
 by_cases c2:x.acc≤64
 case neg=>simp [c2,jT];exact s.an
 simp [c2];refine aY ?_
 by_cases c3:0≤x.af
 case neg=>simp [c3,jT];exact s.an
 simp [c3];refine aY ?_
 by_cases c4:x.af≤512
 case neg=>simp [c4,jT];exact s.an
 simp [c4];refine aY ?_
 by_cases c5:1≤x.bA
 case neg=>simp [c5,jT];exact s.an
 simp [c5];refine aY ?_;simp [c1,c2,c3,c4,c5,jT];exact s.an
def A8 (x:SU) (clock last:Int) (p g e m:Nat):List Value:=x.cs++([.int .i64 clock,.pointer (some ⟨p,0,none⟩),.pointer (some ⟨g,0,none⟩),.pointer (some ⟨e,0,none⟩),.int .i64 last,.map (some m)]:List Value)
abbrev Fy (q:Nat) (x:SU) (clock last:Int) (p g e m:Nat):al:=pt q (.cells (A8 x clock last p g e m).toArray 108 (0,0))
abbrev Vx (q:Nat) (x:SU) (p g e m:Nat):al:=Fy q x 0 0 p g e m*Es.aI p g e x.af ⟨⟨x.acc,[⟨Pu.cK,0⟩],0,0⟩,[],[]⟩*ay m [] 0
set_option maxHeartbeats 1000000 in
theorem im (x:SU) (w0 w:World) (A:al) (s:St w0 A w):ak Tryz.prog 44 [.agg x.cs.toArray] (fun r w'=>(jT x∧∃q p g e m,r= .tuple #[.pointer (some ⟨q,0,none⟩),.int .i64 0]∧St w0 (A*Vx q x p g e m) w')∨(¬jT x∧r= .tuple #[.pointer none,.int .i64 2]∧St w0 A w')) w:=by
 refine go UO ?_;refine gI fun b w s=> ?_;refine cY (vs:=x.cs) ?_;refine eQ (KZ x w0 w _ s) fun w s=> ?_
 by_cases hm:jT x
 case neg=>simp [hm];exact s.an
 simp [hm];refine aY ?_;refine ad ((Pu.im x.acc w0 w _ s).mono ?_);intro _ w h;rw [if_pos ⟨hm.1,hm.2.1⟩] at h;obtain ⟨p,rfl,s⟩:=h;simp;refine aY ?_;refine ad ((Gd.im x.af w0 w _ s).mono ?_);intro _ w h;rw [if_pos ⟨hm.2.2.1,hm.2.2.2.1⟩] at h;obtain ⟨g,rfl,s⟩:=h;simp;refine ad ((Es.im p g x.acc x.af ⟨x.acc,[⟨Pu.cK,0⟩],0,0⟩ [] w0 w _ (Pu.K6 ⟨hm.1,hm.2.1⟩) rfl s).mono ?_);rintro _ w ⟨e,rfl,s⟩;simp;refine cY (vs:=x.cs) ?_;refine pd s fun m w s=> ?_;simp [SU.cs];refine gI fun q w s=> ?_;have h:St w0 (_*Fy q x 0 0 p g e m) w:=s;exact ⟨p,g,e,m,h.an⟩
end Go.HL.St0
namespace Go.HL.Tl
open Go.HL Go.Proofs
theorem eO (l:List UInt8):∀u∈aJ l,u.oneCell'=true:=by intro u h;simp only [aJ,List.mem_map] at h;obtain ⟨x,_,rfl⟩:=h;rfl
theorem fM (a b:List UInt8):aJ (a++b)=aJ a++aJ b:=by simp [aJ]
theorem tj (a:List UInt8):(aJ a).length=a.length:=by simp [aJ]
def lR:Nat→Nat→List UInt8
 |0,n=> [UInt8.ofNat n]
 |k+1,n=>if n<128 then [UInt8.ofNat n] else UInt8.ofNat (n %128+128)::lR k (n /128)
def bQ (n:Nat):List UInt8:=lR 9 n
theorem uY:∀(k n:Nat),1≤(lR k n).length∧(lR k n).length≤k+1
 |0,n=>by simp [lR]
 |k+1,n=>by
  unfold lR;split
  ·simp
  ·have:=uY k (n /128)
   simp;omega
theorem dY (n:Nat):1≤(bQ n).length∧(bQ n).length≤10:=uY 9 n
theorem u8_or (m:Int) (h:0≤m):IntKind.u8.wrap ((((IntKind.u8.wrap m %2^IntKind.u8.bits).toNat|||128 %2^IntKind.u8.bits:Nat)):Int)=((m.toNat %128+128:Nat):Int):=by
 have key:∀b:Fin 256,IntKind.u8.wrap (((((b.val:Nat):Int) %2^IntKind.u8.bits).toNat|||128 %2^IntKind.u8.bits:Nat):Int)=((b.val %128+128:Nat):Int):=by decide+kernel
 have e:IntKind.u8.wrap m=((m.toNat %256:Nat):Int):=by simp [IntKind.wrap,IntKind.bits,IntKind.signed];omega
 rw [e];have:=key ⟨m.toNat %256,Nat.mod_lt _ (by decide)⟩;simp only at this;rw [this];omega
structure Mx (n:Nat) (m:Int) (k:Nat) (acc:List UInt8):Prop where
 pos:0≤m
 lt:m<2*128^k
 len:acc.length+k=9
 eq:bQ n=acc++lR k m.toNat
 big:m<18446744073709551616
theorem Mx.start {n:Int} (h:0≤n∧n<18446744073709551616):Mx n.toNat n 9 []:=⟨h.1,by omega,rfl,rfl,h.2⟩
theorem Mx.more {n:Nat} {m:Int} {k:Nat} {acc:List UInt8} (h:Mx n m k acc) (hm:127<m):∃j,k=j+1∧Mx n (m /128) j (acc++ [UInt8.ofNat (m.toNat %128+128)]):=by
 obtain ⟨h0,h1,h2,h3,h4⟩:=h;cases k with
 |zero=>simp at h1;omega
 |succ j=>
  refine ⟨j,rfl,by omega,?_,by simp;omega,?_,by omega⟩
  ·rw [Int.pow_succ] at h1;omega
  ·rw [h3]
   have:¬m.toNat<128:=by omega
   simp only [lR,if_neg this,List.append_assoc,List.singleton_append];have e:(m /128).toNat=m.toNat /128:=by omega
   rw [e]
theorem Mx.last {n:Nat} {m:Int} {k:Nat} {acc:List UInt8} (h:Mx n m k acc) (hm:m≤127):bQ n=acc++ [UInt8.ofNat m.toNat]:=by
 rw [h.eq];have h0:=h.pos;cases k with
 |zero=>rfl
 |succ j=>
  have:m.toNat<128:=by omega
  simp only [lR,if_pos this]
theorem hPa (m:Int):m.fdiv (2^min 7 IntKind.u64.bits)=m /128:=by
 have:(2:Int)^min 7 IntKind.u64.bits=128:=by decide
 rw [this];exact Int.fdiv_eq_ediv_of_nonneg _ (by decide)
theorem YB {n:Nat} (h:n<256):(#[.int .u8 (n:Int)]:Array Value)=(aJ [UInt8.ofNat n]).toArray:=by simp [aJ];omega
theorem QT {m:Int} (h:0≤m∧m<256):(#[.int .u8 m]:Array Value)=(aJ [UInt8.ofNat m.toNat]).toArray:=by simp [aJ];omega
theorem DA (m:Int) (h:0≤m∧m<256):IntKind.u8.wrap m=m:=by simp [IntKind.wrap,IntKind.bits,IntKind.signed];omega
theorem qJ (m:Int) (h:0≤m∧m<18446744073709551616):IntKind.u64.wrap m=m:=by simp [IntKind.wrap,IntKind.bits,IntKind.signed];omega
noncomputable abbrev T0:PF Tryz.prog:=PF.none _
def J2:Value→Value
 | .slice a n _=> .slice a n n
 |v=>v
theorem iu {w0 w:World} {A:al} {e size n:Nat} {v:Value} {xs:List Value} (s:St w0 (A*own e size v n xs) w):St w0 (A*own e size (J2 v) n xs) w:=by
 rcases s.own with ⟨hl,⟨rfl,rfl,rfl,s'⟩|⟨g,cap,cur,rfl,h1,h2,h3,h4,s'⟩⟩
 ·exact s
 ·exact s'.pI (Nat.le_refl n) (Nat.le_trans h1 h2) (Nat.le_trans (Nat.mul_le_mul_right _ h1) h3) h4
theorem add_zero:(fun x:Addr=>x.add 0)=id:=by funext x;cases x;rfl
def b8a:Nat→PO
 |0=>(.bin .gtr)
 |1=>(.convI .u8)
 |2=>(.bin .or)
 |3=>(.bin .shr)
 |4=> .lenL
 |5=>(.slL 1 false true true)
 |6=>(.bin .geq)
 |7=>(.bin .rem)
 |8=>(.bin .add)
 |9=>(.bin .quo)
 |_=> .same
def Z1:Nat→EO
 |0=>(.mks 52 5 1 1 (.int .u8 0))
 |1=>(.bsl 5 1 1 #[(.int .u8 0)] [0])
 |2=>(.app 52 52 5 1 1 (.int .u8 0))
 |_=> .an
def ela:Nat→Value
 |0=>(.slice none 0 0)
 |1=>(.int .i64 0)
 |2=>(.int .i64 10)
 |3=>(.int .u64 127)
 |4=>(.int .u8 128)
 |5=>(.int .u64 7)
 |6=>(.int .u64 128)
 |_=>undef
def c6a:cX:=⟨b8a,Z1,ela⟩
def Ty:ai:=⟨[0,2,3],26,[.slot 1],aP c6a [] 0xb39e6ffdc71cdd5532571084571084402141532571084571084402171084c42127ee2df80b2cd0082d3c041f01b6eb2db277375751500030351500039dcee2df80b2cd0082d35115f01081d4457c042f01068bc2bc071b5750d00006350d00000278b7cc2d42481027dd2001⟩
theorem NW:aj T0 147 400=some Ty:=by kernel_rfl
theorem ji (n:Int) (w0 w:World) (A:al) (hn:0≤n∧n<18446744073709551616) (s:St w0 A w):
  ak Tryz.prog 147 [.int .u64 n] (fun r w'=>St w0 (A*own 5 1 r (bQ n.toNat).length (aJ (bQ n.toNat))) w') w:=by
 refine aB NW (by simp [Ty]) ?_;simp [Ty];refine np (l:=0) (c:=10) s (by decide) (by decide) (by decide) rfl fun bv w1 s1=> ?_;simp;have s1:St w0 (A*own 5 1 bv 0 []) w1:=by simpa using s1
 refine dg (fun env w'=>∃(m:Int) (v:Value) (k:Nat) (acc:List UInt8),env= [.int .u64 m,.slice none 0 0,v]∧Mx n.toNat m k acc∧St w0 (A*own 5 1 v acc.length (aJ acc)) w')
  (fun env _=>ax env 0) ⟨n,_,9,[],rfl,Mx.start hn,s1⟩ ?_
 rintro LQ env w' ⟨m,v,k,acc,rfl,hS,s1⟩ hN hX hR;have h0:=hS.pos;have hl:=hS.len;simp;refine aM (fun hc=> ?_) (fun hc=> ?_)
 ·simp at hc
  obtain ⟨j,rfl,hS'⟩:=hS.more hc;simp;rw [u8_or m h0];refine ch s1 rfl fun b w2 s2=> ?_;simp;rw [YB (by omega)] at s2;refine bu (m:=1) (news:=aJ [UInt8.ofNat (m.toNat %128+128)]) s2.swap rfl (by simpa using s2.aH) (eO _) (by decide) rfl (by unfold maxLen;omega) (by omega) fun v2 w3 s3=> ?_;simp;rw [hPa];refine hN _ _ ⟨m /128,v2,j,_,rfl,hS',?_⟩ (by simp [ax];omega);rw [fM,List.length_append];exact s3.swap.drop
 ·simp at hc
  simp;refine hX _ _ _ ?_;simp;rw [DA m (by omega)];refine ch s1 rfl fun b w2 s2=> ?_;simp;rw [QT (by omega)] at s2;refine bu (m:=1) (news:=aJ [UInt8.ofNat m.toNat]) s2.swap rfl (by simpa using s2.aH) (eO _) (by decide) rfl (by unfold maxLen;omega) (by omega) fun v2 w3 s3=> ?_;simp;have e:=hS.last (by omega);obtain ⟨g,vcap,rfl,hcap,_⟩:=s3.aO (by omega);simp;refine ⟨⟨⟨by omega,by omega⟩,by omega⟩,?_⟩;rw [e,fM,List.length_append];exact iu s3.swap.drop
end Go.HL.Tl
