/- Part 7. -/
import Derived.Test.YtpldhemgcoimaaaGreatMFMf
import Derived.Shelf.SlSortCmp.NoneTotal
set_option linter.unusedSimpArgs false
set_option linter.unusedVariables false
set_option maxRecDepth 4000
namespace Go.HL
open Go.HL Go.Proofs Go.Sort Go.Shelf
theorem St.ahead {w0 w:World} {A:ak} (s:St w0 A w) (n:Nat):St w0 A (Sort.ahead w n):=⟨s.os,s.out,s.size,⟨s.ran.1,Nat.le_trans s.ran.2 (Nat.le_add_right _ _)⟩,s.holds⟩
theorem St.grow {w0 w:World} {A:ak} (s:St w0 A w) (os:Array Obj):St w0 A (Sort.grow w os):=by
 obtain ⟨g,h1,h2⟩:=s.holds;refine ⟨s.os,s.out,?_,s.ran,g,λb o hb=> ?_,h2⟩
 ·have:=s.size;simp only [size_grow];omega
 ·have h3:w.heap[b]? =some o:=h1 b o hb
  have:=(Array.getElem?_eq_some_iff.1 h3).1;show (w.heap++os)[b]? =some o;rw [Array.getElem?_append_left this];exact h3
theorem St.grown {W w':World} (s:St W (od W) w'):∃q os',w'=Sort.grow (W.drewN q) os':=by
 refine ⟨w'.drawn -W.drawn,w'.heap.extract W.heap.size w'.heap.size,?_⟩;have hs:=s.size;have hh:w'.heap=W.heap++w'.heap.extract W.heap.size w'.heap.size:=by
  apply Array.ext_getElem?;intro i;rw [Array.getElem?_append];split
  ·rename_i hi
   have h0:W.heap[i]? =some W.heap[i]:=by simp [hi]
   rw [s.mI h0,h0]
  ·rename_i hi
   rw [Array.getElem?_extract];have e:W.heap.size+(i -W.heap.size)=i:=by omega
   rw [e];split
   ·rfl
   ·rename_i h2
    rw [Array.getElem?_eq_none (by omega)]
 cases w' with
 |mk heap tape drawn os output=>
  cases W with
  |mk heap0 tape0 drawn0 os0 output0=>
   have h1:=s.os;have h2:=s.out;have h3:=s.ran.1;have h4:=s.ran.2;simp only at h1 h2 h3 h4 hh;subst h1;subst h2;subst h3;unfold Sort.grow World.drewN;simp only [World.mk.injEq,and_true,true_and];exact ⟨hh,by omega⟩
theorem uB {α:Type} [Inhabited α] (enc:α->List Value) (k:Nat) (hk:∀x,(enc x).length=k) (ts:List α):(flatK enc k ts.toArray).toList=ts.flatMap enc:=by
 apply List.ext_getElem?;intro j;have hl:=cO enc k hk ts
 by_cases hj:j<ts.length*k
 ·have k0:0<k:=by
   rcases Nat.eq_zero_or_pos k with h|h
   ·subst h;simp at hj
   ·exact h
  have hd:j /k<ts.length:=(Nat.div_lt_iff_lt_mul k0).2 hj;have hm:=Nat.mod_lt j k0;have hg:=get_flatK enc k ts.toArray j (by simpa using hj);have hsz:(flatK enc k ts.toArray).size=ts.length*k:=by simp
  rw [Array.getElem?_toList,Array.getElem?_eq_getElem (by rw [hsz];exact hj),<-getElem!_pos (flatK enc k ts.toArray) j (by rw [hsz];exact hj),hg];have h2:=ed enc k hk ts (j /k) (j %k) hd hm;rw [Nat.mul_comm,Nat.div_add_mod] at h2;rw [h2];have e1:ts.toArray[j /k]! =ts[j /k]:=by rw [getElem!_pos ts.toArray (j /k) (by simpa using hd)];simp
  rw [e1,getElem!_pos (enc ts[j /k]) (j %k) (by rw [hk];exact hm)];exact (List.getElem?_eq_getElem _).symm
 ·rw [List.getElem?_eq_none (by simp;omega),List.getElem?_eq_none (by rw [hl];omega)]
theorem oe {α:Type} [Inhabited α] (enc:α->Value) (d:Array α) (c:Array Value) (h:d.size<=c.size):putCells enc 0 d c=(d.toList.map enc++c.toList.drop d.size).toArray:=by
 apply Array.ext';apply List.ext_getElem?;intro i;rw [List.toList_toArray,Array.getElem?_toList];unfold putCells;rw [Array.getElem?_mapIdx]
 by_cases hi:i<d.size
 ·have hi':i<c.size:=by omega
  rw [Array.getElem?_eq_getElem hi',List.getElem?_append_left (by simpa using hi)];simp [hi]
 ·rw [List.getElem?_append_right (by simp;omega)]
  simp only [List.length_map,Array.length_toList,List.getElem?_drop,Array.getElem?_toList];rw [show d.size+(i -d.size)=i by omega];cases c[i]? with
  |none=>rfl
  |some x=>simp [hi]
theorem Mt {P:Program} {ρ:Ren} {α:Type} [Inhabited α] (L:SlLaysF0.n6 P ρ) (k:Nat) (aE:∀w,(isAgg (ρ.t 24)).run P w= .ok true w) (zE:∀w,(Go.sizeOf (ρ.t 24)).run P w= .ok k w) (enc:α->List Value) (hk:∀x,(enc x).length=k) (h1:∀x,∀v∈enc x,v.oneCell'=true)
  (cf:α->α->Int) (hO:SWO (ltOf cf)) (hT:∀x y,(ltOf cf) x y=false->(ltOf cf) y x=false->x=y) (g:Nat) (eg:∀args w,(callFunc g args).run P w= .ok (.enter g args) w)
  (hc:∀x y W,Calls P g #[.agg (enc x).toArray,.agg (enc y).toArray] W λe w'=>e= .returned (.int .i64 (cf x y))/\∃q os',w'=Sort.grow (W.drewN q) os')
  {e:TypeId} {v:Value} {ts:List α} (hsz:ts.length<4611686018427387904) {w0 w:World} {F:ak} (s:St w0 (F*own e k v ts.length (ts.flatMap enc)) w):
  Calls P (ρ.f 6) #[v,.func (.func g) #[] #[]] w λe' w'=>e'= .returned (.tuple #[])/\St w0 (F*own e k v ts.length ((ts.mergeSort λx y=> !(ltOf cf) y x).flatMap enc)) w':=by
 obtain ⟨hl,s'⟩:=s.own;rcases s' with ⟨hv,hn,s1⟩|⟨b,cap,cur,rfl,hcap,hm,hcur,hx,s1⟩
 ·have h0:=List.length_eq_zero_iff.1 hn
  subst h0;subst hv;refine (AnyF.slices_SortFunc_none L none 0 _ w).mono ?_;rintro e' w' ⟨he,rfl⟩;exact ⟨he,by simpa using s⟩
 ·have hb:=s1.look
  have hlt:=(Array.getElem?_eq_some_iff.1 hb).1;have hfl:=uB enc k hk ts;have hle:ts.length*k<=cur.size:=Nat.le_trans (Nat.mul_le_mul_right k hcap) hcur;have hH:HoldsK enc k w b 0 ts.toArray:=by
   intro j hj;have hj:j<ts.length*k:=by simpa using hj
   have hsz:(flatK enc k ts.toArray).size=ts.length*k:=by simp
   refine ⟨?_,by simp [World.frozen?,hb]⟩;have e1:(flatK enc k ts.toArray)[j]? =some ((flatK enc k ts.toArray)[j]!):=by rw [getElem!_pos (flatK enc k ts.toArray) j (by rw [hsz];exact hj)];simp [hj]
   rw [<-Array.getElem?_toList,hfl,<-hx,List.getElem?_take,if_pos hj] at e1;simp only [World.cell?,hb]
   simpa using e1
  have hcon:=AnyQ.slices_SortFunc_total L k aE zE enc hk h1 cf hO g #[] b 0 cap ts.toArray w eg (λm os dk _ x y=>hc x y _) hH hlt (by simpa using hsz) hT;refine Calls.mono (by simpa using hcon) ?_;rintro e' w' ⟨he,n,os,rfl⟩;refine ⟨he,?_⟩;unfold sortWorldK;refine St.grow ?_ os;obtain ⟨us,hus⟩:∃us,(ts.mergeSort λx y=> !(ltOf cf) y x)=us:=⟨_,rfl⟩;have hul:us.length=ts.length:=by rw [<-hus];exact List.length_mergeSort _
  rw [hus];have hfu:=uB enc k hk us;have s2:=s1.ahead n;have hb2:(Sort.ahead w n).heap[b]? =some (.cells cur e (0,0)):=hb;have hszu:(flatK enc k us.toArray).size=us.length*k:=by simp
  have hp:=oe id (flatK enc k us.toArray) cur (by rw [hszu,hul];exact hle);rw [List.map_id,hfu,hszu] at hp;have s3:St w0 (F*pt b (.cells (us.flatMap enc++cur.toList.drop (us.length*k)).toArray e (0,0))) (putRowK enc k (Sort.ahead w n) b 0 us.toArray):=by
   rw [<-hp];refine s2.rX ?_ (λc hc=> ?_) (by simp [putRowK]) rfl rfl (λ_ _ _ h=>by cases h;rfl)
   ·show ((Sort.ahead w n).heap.modify b _)[b]? =_
    rw [Array.getElem?_modify,if_pos rfl,hb2];rfl
   ·show ((Sort.ahead w n).heap.modify b _)[c]? =_
    rw [Array.getElem?_modify,if_neg (Ne.symm hc)]
  have hfl2:=cO enc k hk us;refine s3.nF hcap hm ?_ ?_
  ·simp only [List.size_toArray,List.length_append,List.length_drop,Array.length_toList,hfl2]
   rw [hul];omega
  ·rw [List.toList_toArray,List.take_append_of_le_length (by rw [hfl2,hul];exact Nat.le_refl _),List.take_of_length_le (by rw [hfl2,hul];exact Nat.le_refl _)]
end Go.HL
namespace Go.HL.Wh
open Go.HL Go.Proofs Go.Sort
noncomputable def AQ:Go.Shelf.Ren:=⟨fun|6=>143|15=>197|14=>198|28=>264|29=>265|20=>266|21=>267|22=>268|23=>269|24=>270|25=>271|26=>272|27=>273|46=>313|47=>309|48=>310|49=>314|50=>315|57=>330|n=>n,fun|22=>161|24=>164|25=>227|3=>3|39=>247|0=>0|53=>54|55=>27|4=>4|46=>328|45=>327|50=>141|5=>5|9=>9|66=>361|70=>364|76=>377|77=>265|n=>n,fun|n=>n⟩
theorem Mq:Go.Proofs.SlLaysF0.n6 Tryz.prog AQ:={
  mixed:=by kernel_rfl,
  f6:=⟨Tryz.f143.name,by decide,Tryz.func143.trans (congrArg some (by kernel_rfl))⟩,
  f14:=⟨Tryz.f198.name,by decide,Tryz.func198.trans (congrArg some (by kernel_rfl))⟩,
  f15:=Tryz.func197.trans (congrArg some (by kernel_rfl)),
  f20:=⟨Tryz.f266.name,by decide,Tryz.func266.trans (congrArg some (by kernel_rfl))⟩,
  f21:=⟨Tryz.f267.name,by decide,Tryz.func267.trans (congrArg some (by kernel_rfl))⟩,
  f22:=⟨Tryz.f268.name,by decide,Tryz.func268.trans (congrArg some (by kernel_rfl))⟩,
  f23:=⟨Tryz.f269.name,by decide,Tryz.func269.trans (congrArg some (by kernel_rfl))⟩,
  f24:=⟨Tryz.f270.name,by decide,Tryz.func270.trans (congrArg some (by kernel_rfl))⟩,
  f25:=⟨Tryz.f271.name,by decide,Tryz.func271.trans (congrArg some (by kernel_rfl))⟩,
  f26:=⟨Tryz.f272.name,by decide,Tryz.func272.trans (congrArg some (by kernel_rfl))⟩,
  f27:=⟨Tryz.f273.name,by decide,Tryz.func273.trans (congrArg some (by kernel_rfl))⟩,
  f28:=Tryz.func264.trans (congrArg some (by kernel_rfl)),
  f29:=Tryz.func265.trans (congrArg some (by kernel_rfl)),
  f46:=⟨Tryz.f313.name,by decide,Tryz.func313.trans (congrArg some (by kernel_rfl))⟩,
  f47:=Tryz.func309.trans (congrArg some (by kernel_rfl)),
  f48:=Tryz.func310.trans (congrArg some (by kernel_rfl)),
  f49:=⟨Tryz.f314.name,by decide,Tryz.func314.trans (congrArg some (by kernel_rfl))⟩,
  f50:=⟨Tryz.f315.name,by decide,Tryz.func315.trans (congrArg some (by kernel_rfl))⟩,
  f57:=⟨Tryz.f330.name,by decide,Tryz.func330.trans (congrArg some (by kernel_rfl))⟩,
  t0:=Tryz.underlying0,
  a0:=Tryz.isAgg0,
  z0:=Tryz.sizeOf0,
  v0:=Tryz.zeroValue0,
  t3:=Tryz.underlying3,
  a3:=Tryz.isAgg3,
  z3:=Tryz.sizeOf3,
  v3:=Tryz.zeroValue3,
  t4:=Tryz.underlying4,
  a4:=Tryz.isAgg4,
  z4:=Tryz.sizeOf4,
  v4:=Tryz.zeroValue4,
  t5:=Tryz.underlying5,
  a5:=Tryz.isAgg5,
  z5:=Tryz.sizeOf5,
  v5:=Tryz.zeroValue5,
  t9:=Tryz.underlying9,
  a9:=Tryz.isAgg9,
  z9:=Tryz.sizeOf9,
  v9:=Tryz.zeroValue9,
  t22:=Tryz.underlying161,
  a22:=Tryz.isAgg161,
  z22:=Tryz.sizeOf161,
  v22:=Tryz.zeroValue161,
  t25:=Tryz.underlying227,
  a25:=Tryz.isAgg227,
  z25:=Tryz.sizeOf227,
  v25:=Tryz.zeroValue227,
  t39:=Tryz.underlying247,
  a39:=Tryz.isAgg247,
  z39:=Tryz.sizeOf247,
  v39:=Tryz.zeroValue247,
  t45:=Tryz.underlying327,
  a45:=Tryz.isAgg327,
  z45:=Tryz.sizeOf327,
  v45:=Tryz.zeroValue327,
  t46:=Tryz.underlying328,
  a46:=Tryz.isAgg328,
  z46:=Tryz.sizeOf328,
  v46:=Tryz.zeroValue328,
  t50:=Tryz.underlying141,
  a50:=Tryz.isAgg141,
  z50:=Tryz.sizeOf141,
  v50:=Tryz.zeroValue141,
  t53:=Tryz.underlying54,
  a53:=Tryz.isAgg54,
  z53:=Tryz.sizeOf54,
  v53:=Tryz.zeroValue54,
  t55:=Tryz.underlying27,
  a55:=Tryz.isAgg27,
  z55:=Tryz.sizeOf27,
  v55:=Tryz.zeroValue27,
  t66:=Tryz.underlying361,
  a66:=Tryz.isAgg361,
  z66:=Tryz.sizeOf361,
  v66:=Tryz.zeroValue361,
  t70:=Tryz.underlying364,
  a70:=Tryz.isAgg364,
  z70:=Tryz.sizeOf364,
  v70:=Tryz.zeroValue364,
  t76:=Tryz.underlying377,
  a76:=Tryz.isAgg377,
  z76:=Tryz.sizeOf377,
  v76:=Tryz.zeroValue377,
  t77:=Tryz.underlying265,
  a77:=Tryz.isAgg265,
  z77:=Tryz.sizeOf265,
  v77:=Tryz.zeroValue265}
theorem ry (x y:Int×Int):ltOf qL x y=decide (x.2<y.2\/x.2=y.2/\x.1<y.1):=by
 unfold ltOf qL rM;rcases Int.lt_trichotomy x.2 y.2 with h|h|h
 ·simp [h]
 ·rcases Int.lt_trichotomy x.1 y.1 with g|g|g
  ·simp [h,g]
  ·simp [h,g]
  ·simp [h,show¬x.1<y.1 by omega,g]
 ·simp [show¬x.2<y.2 by omega,h,show¬x.2=y.2 by omega]
theorem ZV:SWO (ltOf qL) where
 irrefl x:=by rw [ry];simp
 trans x y z h1 h2:=by rw [ry] at*;simp at*;omega
 ntrans x y z h1 h2:=by rw [ry] at*;simp at*;omega
theorem QS (x y:Int×Int) (h1:ltOf qL x y=false) (h2:ltOf qL y x=false):x=y:=by rw [ry] at*;simp at*;exact Prod.ext (by omega) (by omega)
theorem CQ (x y:Int×Int) (W:World):Calls Tryz.prog 144 #[.agg (dz x).toArray,.agg (dz y).toArray] W λe w'=>e= .returned (.int .i64 (qL x y))/\∃q os',w'=Sort.grow (W.drewN q) os':=by have h:aj Tryz.prog 144 [.agg (dz x).toArray,.agg (dz y).toArray] _ W:=Ft x y W W (od W) (St.start W);refine Calls.mono h ?_;rintro e w' ⟨v,rfl,rfl,s⟩;exact ⟨rfl,s.grown⟩
def bR (ts:List (Int×Int)):List (Int×Int):=ts.mergeSort λx y=> !(ltOf qL) y x
theorem gb (ts:List (Int×Int)):(bR ts).length=ts.length:=List.length_mergeSort _
theorem cd (ts:List (Int×Int)):(bR ts).Perm ts:=List.mergeSort_perm _ _
theorem gx (ts:List (Int×Int)):(bR ts).Pairwise λx y=>ltOf qL y x=false:=by
 have h:=List.pairwise_mergeSort (le:=λx y=> !(ltOf qL) y x) (λa b c h1 h2=>by
  simp only [Bool.not_eq_true'] at*;exact ZV.ntrans _ _ _ h2 h1) (λa b=>by
  simp only [Bool.or_eq_true,Bool.not_eq_true',ry,decide_eq_false_iff_not];omega) ts
 exact h.imp λh=>by simpa using h
theorem fZ {a b:List (Int×Int)} (h:a.Perm b):bR a=bR b:=
 List.Perm.eq_of_pairwise (λx y _ _ h1 h2=>QS x y h2 h1) (gx a) (gx b) (((cd a).trans h).trans (cd b).symm)
theorem nK {v:Value} (ts:List (Int×Int)) (hsz:ts.length<4611686018427387904) (w0 w:World) (F:ak) {K:Value->World->Prop} (s:St w0 (F*own 164 2 v ts.length (ts.flatMap dz)) w)
  (hk:∀r w',St w0 (F*own 164 2 v ts.length ((bR ts).flatMap dz)) w'->K r w'):
  aj Tryz.prog 143 [v,.func (.func 144) #[] #[]] K w:=by
 have h:=Mt Mq 2 Tryz.isAgg164 Tryz.sizeOf164 dz (λ_=>rfl) (λx v hv=>by simp at hv;rcases hv with rfl|rfl<;>rfl) qL ZV QS 144
  (enters_of Tryz.func144 (by kernel_rfl) rfl) CQ hsz s
 refine Calls.mono h ?_;rintro e w' ⟨rfl,s'⟩;exact ⟨_,rfl,hk _ _ s'⟩
end Go.HL.Wh
namespace Go.HL.Wh
open Go.HL Go.Proofs
def rN (top last l:Nat):Tm->Bool:=if l<=top then vD l 0 else vD top (last+1)
theorem Fc (p now to mv0:Nat) (ts:List Tm) (w0 w:World) (A:ak) {Q:EX->List Value->World->Prop} (l top last:Nat) (v x2 x3 x8 x9 x10 x11 x12:Value) (hp:R8 now to mv0 ts) (htl:fO to now=(top,last)) (hl:l<=top)
  (s:St w0 (A*rI p to mv0 ts (vD l 0) v) w)
  (hk:∀v' y8 y9 y10 y11 y12 w',St w0 (A*rI p to mv0 ts (rN top last (l+1)) v') w'->Q .nrm [.pointer (some ⟨p,0,none⟩),.int .i64 to,x2,x3,.int .i64 top,.int .i64 last,v',.int .i64 l,y8,y9,y10,y11,y12] w'):
  (HC.block 2 nC).wp U2 Q [.pointer (some ⟨p,0,none⟩),.int .i64 to,x2,x3,.int .i64 top,.int .i64 last,v,.int .i64 l,x8,x9,x10,x11,x12] w:=by
 have hbd:=lF to now;rw [htl] at hbd;obtain ⟨ht4,hl64,h40⟩:=hbd;simp only at ht4 hl64 h40;simp;refine gq (λenv w'=>∃(i:Nat) (v y8 y9 y10 y12:Value),env= [.pointer (some ⟨p,0,none⟩),.int .i64 to,x2,x3,.int .i64 top,.int .i64 last,v,.int .i64 l,y8,y9,y10,.int .i64 i,y12]/\i<=64/\(l=4->i<=1)/\(l=top->i<=last+1)/\St w0 (A*rI p to mv0 ts (vD l i) v) w') (λenv _=>64 -ay env 11)
  ⟨0,v,x8,x9,x10,x12,rfl,by omega,by omega,by omega,s⟩ ?_
 rintro LQ env w' ⟨i,v,y8,y9,y10,y12,rfl,hi,hi4,hit,s'⟩ hN hE hR;simp;refine aR (λh=> ?_) (λh=> ?_)
 ·simp at h
  simp;refine ⟨λg=> ?_,?_⟩
  ·rw [if_pos g]
   by_cases e:(l:Int)=top<;>simp [e]
  have hb:oa (if¬(l:Int)=4\/i=0 then Value.bool (decide ((l:Int)=top)) else Value.tuple #[]) true=(decide (¬(l:Int)=4\/i=0)&&decide ((l:Int)=top)):=by
   split
   ·rename_i g
    simp [g]
   ·rename_i g
    simp [g];rfl
  rw [hb];refine aR (λh2=> ?_) (λh2=> ?_)
  ·simp at h2
   have h3:l=top/\i=last+1:=by
    by_cases e:l=4
    ·have g1:=h40 (by omega)
     have g2:=hi4 e;omega
    ·omega
   simp;refine hE _ _ _ ?_;simp;refine hk _ _ _ _ _ _ _ ?_;have:rN top last (l+1)=vD l i:=by unfold rN;rw [if_neg (by omega),h3.1,h3.2]
   rw [this];exact s'
  ·simp at h2
   have hv:nW now to (l,i):=by
    unfold nW;rw [htl];simp only
    by_cases e:l=4
    ·have g1:=h40 (by omega)
     omega
    ·omega
   have h4:l=4->i=0:=by intro e;omega
   show HC.wp U2 nB _ _ _;refine Jk p now to mv0 ts w0 w' A l i v x2 x3 (.int .i64 top) (.int .i64 last) y9 y10 (.int .i64 i) y12 hp (by omega) (by omega) h4 hv s' λv' z9 z10 z12 w3 s3=> ?_;simp
   try simp (disch:=omega) only [wrap64]
   refine hN _ _ ⟨i+1,v',.int .i64 i,z9,z10,z12,by simp,by omega,λe=>by have:=h4 e;omega,λe=> ?_,s3⟩ (by simp [ay];omega);unfold nW at hv;rw [htl] at hv;simp only at hv;omega
 ·simp at h
  have hi:i=64:=by omega
  subst hi;simp;refine hE _ _ _ ?_;simp;refine hk _ _ _ _ _ _ _ ?_
  by_cases e:l=top
  ·have:rN top last (l+1)=vD l 64:=by unfold rN;rw [if_neg (by omega),e,show last+1=64 from Nat.le_antisymm hl64 (hit e)]
   rw [this];exact s'
  ·have:rN top last (l+1)=vD (l+1) 0:=by unfold rN;rw [if_pos (by omega)]
   rw [this,<-qe (Fk hp.pl l)];exact s'
theorem Je {now:Nat} {ts:List Tm} (h:kS now ts):j6 now ts=ts/\ug now ts= []/\kh now ts= []:=by
 have hg:∀t∈ts,j2 t now=t:=λt ht=>by obtain ⟨p1,p2⟩:=h.pl t ht;exact uY p1.symm p2.symm
 refine ⟨?_,?_,?_⟩
 ·unfold j6
  rw [List.filter_eq_self.2 (λt ht=>by simpa using h.ah t ht)];exact (List.map_congr_left (g:=id) hg).trans (List.map_id _)
 ·exact List.filter_eq_nil_iff.2 λt ht=>by have:=h.ah t ht;simp;omega
 ·exact List.filter_eq_nil_iff.2 λt ht=>by have:=(h.pl t ht).1;simp [rT,this]
theorem yy (p now mv:Nat) (ts:List Tm) (to:Int) (w0 w:World) (A:ak) {K:Value->World->Prop} (hpl:kS now ts) (hnow:now<=1099511627776) (hlen:ts.length<=65536) (hmv:mv<=2305843009213693952)
  (s:St w0 (A*iK p now mv ts) w)
  (hk:∀r w',(if now<=to/\to<=1099511627776 then∃v,r= .tuple #[v,.int .i64 0]/\St w0 (A*iK p to.toNat (mv+(kh to.toNat ts).length) (j6 to.toNat ts)*outs v (bR ((ug to.toNat ts).map fx))) w' else r= .tuple #[.slice none 0 0,.int .i64 90]/\St w0 (A*iK p now mv ts) w')->K r w'):
  aj Tryz.prog 137 [.pointer (some ⟨p,0,none⟩),.int .i64 to] K w:=by
 refine cN Ow (by simp [Ud]) ?_;simp [Ud];obtain ⟨am,aes,ac,Y,hok,t1⟩:=yx s;refine ag (v:= .int .i64 now) (t1.ab 0 _ rfl) ?_;simp;refine aR (λc2=> ?_) (λc2=> ?_)
 ·simp at c2
  simp;refine hk _ _ ?_;rw [if_neg (by omega)];exact ⟨rfl,s⟩
 simp at c2;obtain ⟨to,rfl⟩:∃a:Nat,to=a:=⟨to.toNat,by omega⟩;have hc:(now:Int)<=to/\(to:Int)<=1099511627776:=by omega
 simp only [if_pos hc,Int.toNat_natCast] at hk;simp;refine ag (v:= .int .i64 now) (t1.ab 0 _ rfl) ?_;simp;refine aR (λc3=> ?_) (λc3=> ?_)
 ·simp at c3
  have c3:to=now:=by omega
  subst c3;simp;obtain ⟨r1,r2,r3⟩:=Je hpl;rw [r1,r2,r3] at hk;refine hk _ _ ⟨_,rfl,?_⟩;rw [show bR (List.map fx [])= [] by simp [bR]];exact s.aD 164 2
 simp at c3;have hlt:now<to:=by omega
 simp;refine ag (v:= .int .i64 now) (t1.ab 0 _ rfl) ?_;simp;refine ⟨⟨by omega,by omega⟩,?_⟩;obtain ⟨top,last,htl⟩:∃top last,fO to now=(top,last):=⟨_,_,rfl⟩;rw [htl];simp;refine cy t1 rfl (by simp [nP]) ?_;intro w2 s2;have e:(wN now mv am Y).toArray.setIfInBounds 0 (.int .i64 to)=(wN to mv am Y).toArray:=by simp [wN]
 rw [e] at s2;have hp:R8 now to mv ts:=⟨hpl,hlt,by omega,hlen,hmv⟩;have hD0:∀t:Tm,vD 0 0 t=false:=λt=>by simp [vD]
 have e1:dX to (vD 0 0) ts=ts:=by unfold dX;rw [List.filter_eq_self.2 (λt ht=>by simp [hD0])];exact (List.map_congr_left (g:=id) λt ht=>by simp [hD0]).trans (List.map_id _)
 have e2:rW to (vD 0 0) ts= []:=List.filter_eq_nil_iff.2 λt ht=>by simp [hD0]
 have e3:iQ to (vD 0 0) ts= []:=List.filter_eq_nil_iff.2 λt ht=>by simp [hD0]
 have s3:St w0 (A*rI p to mv ts (vD 0 0) (.slice none 0 0)) w2:=by refine tH (os:= []) (by rw [e2];exact List.Perm.refl _) ?_;rw [e1,e3];have s4:=oJ hok s2;rw [show outs (.slice none 0 0) []=own 164 2 (.slice none 0 0) 0 [] from rfl];exact (s4.aD 164 2).to (by show A*iK p to mv ts*_=A*_*iK p to mv ts;ac_rfl)
 simp;have hbd:=lF to now;rw [htl] at hbd;obtain ⟨ht4,hl64,h40⟩:=hbd;simp only at ht4 hl64 h40;refine gq (λenv w'=>∃(l:Nat) (v y8 y9 y10 y11 y12:Value),env= [.pointer (some ⟨p,0,none⟩),.int .i64 to,.slice none 0 0,.int .i64 0,.int .i64 top,.int .i64 last,v,.int .i64 l,y8,y9,y10,y11,y12]/\l<=top+1/\St w0 (A*rI p to mv ts (rN top last l) v) w') (λenv _=>top+1 -ay env 7)
  ⟨0,_,_,_,_,_,_,rfl,by omega,by rw [show rN top last 0=vD 0 0 from rfl];exact s3⟩ ?_
 rintro LQ env w' ⟨l,v,y8,y9,y10,y11,y12,rfl,hl,s'⟩ hN hE hR;simp;refine aR (λh=> ?_) (λh=> ?_)
 ·simp at h
  show HC.wp U2 (.block 2 nC) _ _ _;refine Fc p now to mv ts w0 w' A l top last v _ _ y8 y9 y10 y11 y12 hp htl (by omega) ?_ λv' z8 z9 z10 z11 z12 w3 s4=> ?_
  ·rw [show rN top last l=vD l 0 from if_pos (by omega)] at s';exact s'
  show HC.wp U2 uO LQ _ _;simp
  try simp (disch:=omega) only [wrap64]
  exact hN _ _ ⟨l+1,v',z8,z9,z10,z11,z12,by simp,by omega,s4⟩ (by simp [ay];omega)
 ·simp at h
  simp;refine hE _ _ _ ?_;simp;have hl2:l=top+1:=by omega
  subst hl2;have hvis:∀t∈ts,rN top last (top+1) t=true↔nW now to (t.l,t.s):=by intro t ht;unfold rN nW;rw [if_neg (by omega),htl];simp only [vD,Bool.or_eq_true,Bool.and_eq_true,decide_eq_true_eq];omega
  obtain ⟨q1,q2,q3⟩:=NL hpl hlt hvis;obtain ⟨os,hos,s5⟩:=F7 s';rw [q1,q3] at s5;rw [q2] at hos;have hol:os.length<=65536:=by have h1:=hos.length_eq;rw [List.length_map] at h1;have h2:(ug to ts).length<=ts.length:=List.length_filter_le _ _;omega
  rw [show outs v os=own 164 2 v os.length (os.flatMap dz) from rfl] at s5;refine ad (nK os (by omega) w0 w' (A*iK p to (mv+(kh to ts).length) (j6 to ts)) (s5.to (by ac_rfl)) λr w6 s6=> ?_);simp;refine hk _ _ ⟨v,rfl,?_⟩;have e4:outs v (bR ((ug to ts).map fx))=own 164 2 v os.length ((bR os).flatMap dz):=by rw [<-fZ hos];show own _ 2 v (bR os).length _=_;rw [gb]
  rw [e4];exact s6
def fnd (ts:List Tm) (n:Int):Option Tm:=ts.find? λt=>decide (t.n=n)
def fcs:Option Tm->List Value
 |none=> [.int .i64 0,.int .i64 0,.int .i64 0,.int .i64 0]
 |some t=>t.cs
def fer:Option Tm->Int
 |none=>93
 |some _=>0
def fat:Option Tm->Nat
 |none=>0
 |some t=>t.a
def fpl:Option Tm->Nat×Nat
 |none=>(0,0)
 |some t=>(t.l,t.s)
abbrev dTa (ts:List Tm):List (Int×Value):=ts.map λt=>(t.n,.int .i64 t.a)
def kv (es:List En):List (Int×Value):=es.map λe=>(e.k,e.v)
structure eDa (es:List En) (c:Nat) (ts:List Tm):Prop where
 ok:Fp es c
 eq:kv es=dTa ts
theorem Gw {ts:List Tm} (h:(ts.map (·.n)).Nodup) {t:Tm} (ht:t∈ts):fnd ts t.n=some t:=Cb h ht
abbrev gfa (to:Nat) (ts:List Tm):List (Int×Int):=bR ((ug to ts).map fx)
section
variable {now to:Nat} {ts:List Tm}
def eda (L:List (Int×Int)) (k:Nat) (ts:List Tm):List Tm:=ts.filter λt=>decide (t.n∉(L.take k).map (·.1))
end
def lvs (ts:List Tm):Nat:=(ts.map (·.l)).sum
theorem mT:nT Tryz.prog 293 3 3 (.int .i64 0):=⟨by kernel_rfl,by kernel_rfl,by kernel_rfl⟩
abbrev eca (lb:Nat) (x:Int×Int):ak:=pt lb (.cells (dz x).toArray 164 (0,0))
theorem IU {es:List En} {seen:Array Nat} {e:En} (he:e∈es) (hn:e.b∉seen):(cV es (seen.push e.b)).length+1<=(cV es seen).length:=by
 have e1:cV es (seen.push e.b)=(cV es seen).filter λx=> !decide (x.b=e.b):=by unfold cV;rw [List.filter_filter];refine List.filter_congr λx _=> ?_;rw [Bool.eq_iff_iff];simp [and_comm]
 rw [e1];refine Nat.lt_of_le_of_ne (List.length_filter_le _ _) λh=> ?_;have h2:=(List.length_filter_eq_length_iff.1 h) e (List.mem_filter.2 ⟨he,by simpa using hn⟩);simp at h2
theorem Fa (es:List En):(cV es #[]).length+(#[]:Array Nat).size<=es.length:=by exact List.length_filter_le (λe:En=> !(#[]:Array Nat).contains e.b) es
def l93:ai:=⟨[0,2,3,5,12],27,[.slot 1],aN tG [] 0xb39e79bffdd00bf89a63530809008d282b6eb2db2773b8a2dd1082cb840220d126ccf304d34c43001305d310c00710c09e2737566cce0439b3381c44208081a2f0af02271b566ccc0589b3301c443cf0409dcee2df8126cce304d34f00180d3c006f009f74850a8bc0b2fff748505c6d5f0f198f0f1a7dd2141⟩
theorem VS:af U2 93 400=some l93:=by kernel_rfl
def ada (now:Nat) (L:List (Int×Int)) (n a:Int):Int:=if n<1 then 2 else if a<=now\/1099511627776<a then 90 else if¬∀u∈L,u.1≠n then 92 else if 65536<=L.length then 91 else 0
def frE (now:Nat):List (Int×Int)->List (Int×Int)->Int
 |_,[]=>0
 |L,x::r=>if ada now L x.1 x.2=0 then frE now (L++ [x]) r else ada now L x.1 x.2
theorem kS.sch {now:Nat} {ts:List Tm} (h:kS now ts) {n a:Int} (b:Nat) (hs:pP now ts n a=0):kS now (ts++ [j2 ⟨n,a.toNat,0,0,b⟩ now]):=by
 obtain ⟨h1,h2,h3,h4,h5⟩:=gS.1 hs;refine ⟨?_,λt ht=> ?_,λt ht=> ?_,λt ht=> ?_⟩
 ·rw [List.map_append]
  refine List.nodup_append.2 ⟨h.num,by simp,λx hx y hy=> ?_⟩;obtain ⟨u,hu,rfl⟩:=List.mem_map.1 hx;simp at hy;subst hy;exact h4 u hu
 all_goals
  rcases List.mem_append.1 ht with ht|ht
 ·exact h.pl t ht
 ·rw [List.mem_singleton.1 ht];exact ⟨rfl,rfl⟩
 ·exact h.ah t ht
 ·rw [List.mem_singleton.1 ht];show now<a.toNat;omega
 ·exact h.bd t ht
 ·rw [List.mem_singleton.1 ht];exact ⟨by show a.toNat<=_;omega,h1⟩
theorem HE {now:Nat} {ts:List Tm} {n a:Int} (b:Nat) (hs:pP now ts n a=0):(ts++ [j2 ⟨n,a.toNat,0,0,b⟩ now]).map fx=ts.map fx++ [(n,a)]:=by
 obtain ⟨h1,h2,h3,h4,h5⟩:=gS.1 hs;rw [List.map_append];have:((a.toNat:Nat):Int)=a:=by omega
 simp [fx,j2,this]
abbrev gva (b:Nat) (x:Int×Int):ak:=pt b (.cells (dz x).toArray 164 (0,0))
def W8 (ts:List Tm) (e:En):Int×Int:=match fnd ts e.k with
 |some t=>fx t
 |none=>(0,0)
theorem Sz {aes:List En} {ts:List Tm} (hn:(ts.map (·.n)).Nodup) (h:aes.map (λe=>(e.k,e.v))=ts.map λt=>(t.n,tp t)):aes.map (W8 ts)=ts.map fx:=by
 have h1:aes.map (·.k)=ts.map (·.n):=by
  have:=congrArg (List.map Prod.fst) h
  simpa [Function.comp_def] using this
 have h2:aes.map (W8 ts)=(aes.map (·.k)).map λn=>match fnd ts n with
  |some t=>fx t
  |none=>(0,0):=by rw [List.map_map];rfl
 rw [h2,h1,List.map_map];refine List.map_congr_left λt ht=> ?_;simp [Gw hn ht]
theorem Y9 {aes:List En} {ts:List Tm} (hn:(ts.map (·.n)).Nodup) (h:aes.map (λe=>(e.k,e.v))=ts.map λt=>(t.n,tp t)) {e:En} (he:e∈aes):∃t∈ts,e.v=tp t/\W8 ts e=fx t:=by
 have h1:(e.k,e.v)∈ts.map λt=>(t.n,tp t):=by rw [<-h];exact List.mem_map.2 ⟨e,he,rfl⟩
 obtain ⟨t,ht,h2⟩:=List.mem_map.1 h1;refine ⟨t,ht,(congrArg Prod.snd h2).symm,?_⟩;have:e.k=t.n:=(congrArg Prod.fst h2).symm;unfold W8;rw [this,Gw hn ht]
theorem H3 {es:List En} (h:(es.map (·.b)).Nodup) {e:En} (he:e∈es):es.filter (λx=>decide (x.b=e.b))= [e]:=by
 induction es with
 |nil=>cases he
 |cons x r ih=>
  rw [List.map_cons,List.nodup_cons] at h;rcases List.mem_cons.1 he with rfl|he
  ·have:r.filter (λx=>decide (x.b=e.b))= []:=List.filter_eq_nil_iff.2 λy hy g=>h.1 (List.mem_map.2 ⟨y,hy,of_decide_eq_true g⟩)
   simp [this]
  ·have hne:x.b≠e.b:=λg=>h.1 (List.mem_map.2 ⟨e,he,g.symm⟩)
   rw [List.filter_cons_of_neg (by simpa using hne)];exact ih h.2 he
theorem IT {es:List En} {seen:Array Nat} {e:En} (hb:(es.map (·.b)).Nodup) (he:e∈es) (hn:e.b∉seen):(cV es seen).Perm (e::cV es (seen.push e.b)):=by
 have h1:(cV es seen).filter (λx=>decide (x.b=e.b))= [e]:=
  H3 (hb.sublist (List.filter_sublist.map _)) (List.mem_filter.2 ⟨he,by simpa using hn⟩)
 have h2:(cV es seen).filter (λx=> !decide (x.b=e.b))=cV es (seen.push e.b):=by unfold cV;rw [List.filter_filter];refine List.filter_congr λx _=> ?_;rw [Bool.eq_iff_iff];simp [and_comm]
 have h3:=List.filter_append_perm (λx:En=>decide (x.b=e.b)) (cV es seen);rw [h1,h2] at h3;exact h3.symm
theorem JC (p now mv:Nat) (ts:List Tm) (w0 w:World) (A:ak) {K:Value->World->Prop} (hlen:ts.length<=65536) (s:St w0 (A*iK p now mv ts) w)
  (hk:∀v w',St w0 (A*iK p now mv ts*outs v (bR (ts.map fx))) w'->K v w'):
  aj Tryz.prog 93 [.pointer (some ⟨p,0,none⟩)] K w:=by
 refine aG VS (by simp [l93]) ?_;simp [l93];obtain ⟨am,aes,ac,Y,hok,t1⟩:=yx s;refine ag (v:= .map (some am)) (t1.ab 2 _ rfl) ?_;simp;refine uk mA.ty t1 t1.drop.look ?_;intro b w1 s1;simp;have K0:=Sz hok.num hok.alls;have hal:aes.length=ts.length:=by have:=congrArg List.length hok.alls;simpa using this
 have s1:St w0 (A*bt ts*cZ fI Y 257*wc p now mv am Y*outs (.slice none 0 0) []*ao am aes ac*pt b (.mapIter (some am) ac #[] ac)) w1:=by rw [show outs (.slice none 0 0) []=own 164 2 (.slice none 0 0) 0 [] from rfl];exact (s1.aD 164 2).to (by ac_rfl)
 refine gq (λenv w'=>∃(seen:Array Nat) (v x:Value) (L:List (Int×Int)),env= [.pointer (some ⟨p,0,none⟩),.slice none 0 0,v,x,.pointer (some ⟨b,0,none⟩)]/\(cV aes seen).length+seen.size<=aes.length/\(L++(cV aes seen).map (W8 ts)).Perm (ts.map fx)/\
   St w0 (A*bt ts*cZ fI Y 257*wc p now mv am Y*outs v L*ao am aes ac*pt b (.mapIter (some am) ac seen ac)) w') (λ_ w'=>aes.length+1 -lQ w' b)
  ⟨#[],_,_,[],rfl,Fa aes,by rw [<-K0,show cV aes #[]=aes from List.filter_eq_self.2 (by simp)];simp,s1⟩ ?_
 rintro LQ env w' ⟨seen,v,x,L,rfl,hcnt,hperm,s'⟩ hN hE hR;have hseen:lQ w' b=seen.size:=by unfold lQ;rw [s'.look]
 have hLl:L.length<=65536:=by have:=hperm.length_eq;simp at this;omega
 simp;refine uj s' hok.aok.lt (λe he hns w2 s2=> ?_) (λhall w2 s2=> ?_)
 ·simp
  refine za s2 he hok.aok.bn ?_;obtain ⟨t,ht,hev,hen⟩:=Y9 hok.num hok.alls he;rw [hev];simp;have s3:=s2;rw [kK hok.num ht] at s3;have s3:=s3.to (B:=A*bt (eu ts t.n)*cZ fI Y 257*wc p now mv am Y*outs v L*ao am aes ac*pt b (.mapIter (some am) ac (seen.push e.b) ac)*iJ t) (by ac_rfl);refine aB (vs:=dz (fx t)) (λj y hy=> ?_) rfl ?_
  ·have hj:t.cs[j]? =some y:=by
    match j,hy with
    |0,hy=>exact hy
    |1,hy=>exact hy
   exact s3.ab j y hj
  simp;refine bx s3 rfl ?_;intro c w3 s4;simp;refine bT (m:=1) (news:=dz (fx t)) (s4.to (B:=A*bt (eu ts t.n)*cZ fI Y 257*wc p now mv am Y*ao am aes ac*pt b (.mapIter (some am) ac (seen.push e.b) ac)*iJ t*pt c (.cells (dz (fx t)).toArray 164 (0,0))*outs v L) (by ac_rfl)) rfl s4.aL (λy hy=>by simp at hy;rcases hy with rfl|rfl<;>rfl) (by decide) rfl (by unfold maxLen;omega) (by omega) ?_;intro v2 w4 s5;simp;have e2:own 164 2 v2 (L.length+1) (L.flatMap dz++dz (fx t))=outs v2 (L++ [fx t]):=by show _=own _ 2 v2 (L++ [fx t]).length ((L++ [fx t]).flatMap dz);rw [List.length_append,List.flatMap_append];simp
  rw [e2] at s5;have s6:St w0 (A*bt ts*cZ fI Y 257*wc p now mv am Y*outs v2 (L++ [fx t])*ao am aes ac*pt b (.mapIter (some am) ac (seen.push e.b) ac)) w4:=by rw [kK hok.num ht];exact St.cut (pt c (.cells (dz (fx t)).toArray 164 (0,0))) s5 (by show _=A*(bt (eu ts t.n)*iJ t)*cZ fI Y 257*wc p now mv am Y*outs v2 (L++ [fx t])*ao am aes ac*pt b (.mapIter (some am) ac (seen.push e.b) ac)*_;ac_rfl)
  have hleft:=IU he hns;refine hN _ _ ⟨seen.push e.b,v2,_,L++ [fx t],by simp;rfl,?_,?_,s6⟩ ?_
  ·rw [Array.size_push];omega
  ·have h3:=(IT hok.aok.bn he hns).map (W8 ts)
   rw [List.map_cons,hen] at h3;rw [List.append_assoc];exact ((h3.append_left L).symm).trans hperm
  ·have h1:lQ w4 b=seen.size+1:=by unfold lQ;rw [s6.look];exact Array.size_push _
   rw [h1,hseen];omega
 ·simp
  refine hE _ _ _ ?_;simp;have hnil:cV aes seen= []:=List.filter_eq_nil_iff.2 λe he=>by simpa using hall e he
  rw [hnil] at hperm;have hperm:L.Perm (ts.map fx):=by simpa using hperm
  have s3:St w0 (A*iK p now mv ts*outs v L) w2:=(oJ hok ((s2.drop).to (B:=A*outs v L*bt ts*cZ fI Y 257*ao am aes ac*wc p now mv am Y) (by ac_rfl))).to (by ac_rfl);refine ad (nK L (by omega) w0 w2 (A*iK p now mv ts) s3 λr w3 s4=> ?_);simp;refine hk _ _ ?_;have e4:outs v (bR (ts.map fx))=own 164 2 v L.length ((bR L).flatMap dz):=by rw [<-fZ hperm];show own _ 2 v (bR L).length _=_;rw [gb]
  rw [e4];exact s4
end Go.HL.Wh
namespace Go.HL.Nm
open Go.HL
def jE:List UInt8->Nat->Int->Option Int
 |_,0,v=>some v
 | [],_+1,_=>none
 |b::r,n+1,v=>if (b.toNat:Int)<128\/191<(b.toNat:Int) then none else jE r n (v*64+b.toNat -128)
def jO (b:Int) (r:List UInt8) (v:Int) (n:Nat) (least:Int):Int×Nat:=
 match jE r n v with
 |some v=>if v<least\/1114111<v\/(55296<=v/\v<=57343) then (2097152+b,1) else (v,1+n)
 |none=>(2097152+b,1)
def bQ:List UInt8->Int×Nat
 | []=>(0,1)
 |c::r=>
  if (c.toNat:Int)<128 then ((c.toNat:Int),1)
  else if 192<=(c.toNat:Int)/\(c.toNat:Int)<224 then jO c.toNat r (c.toNat -192) 1 128
  else if 224<=(c.toNat:Int)/\(c.toNat:Int)<240 then jO c.toNat r (c.toNat -224) 2 2048
  else if 240<=(c.toNat:Int)/\(c.toNat:Int)<248 then jO c.toNat r (c.toNat -240) 3 65536
  else (2097152+c.toNat,1)
theorem nE (c:UInt8) (r:List UInt8):bQ (c::r)=
  if (c.toNat:Int)<128 then ((c.toNat:Int),1)
  else if 192<=(c.toNat:Int)/\(c.toNat:Int)<224 then jO c.toNat r (c.toNat -192) 1 128
  else if 224<=(c.toNat:Int)/\(c.toNat:Int)<240 then jO c.toNat r (c.toNat -224) 2 2048
  else if 240<=(c.toNat:Int)/\(c.toNat:Int)<248 then jO c.toNat r (c.toNat -240) 3 65536
  else (2097152+c.toNat,1):=rfl
theorem Dx (n:Nat):∀(r:List UInt8) (v u:Int),0<=v->jE r n v=some u->0<=u/\n<=r.length:=by
 induction n with
 |zero=>intro r v u hv h;cases r<;>simp only [jE,Option.some.injEq] at h<;>subst h<;>exact ⟨hv,Nat.zero_le _⟩
 |succ n ih=>
  intro r v u hv h;cases r with
  |nil=>simp only [jE] at h;cases h
  |cons b r=>
   simp only [jE] at h;split at h
   ·cases h
   ·have:=ih r _ u (by have:=b.toNat_lt;omega) h
    simp only [List.length_cons];omega
theorem yS (b:Int) (r:List UInt8) (v:Int) (n:Nat) (least:Int) (hb:0<=b/\b<256) (hv:0<=v):
  0<=(jO b r v n least).1/\(jO b r v n least).1<2097408/\1<=(jO b r v n least).2/\(jO b r v n least).2<=1+r.length:=by
 unfold jO;split
 ·rename_i u hu
  have:=Dx n r v u hv hu;split
  ·simp only;omega
  ·simp only;omega
 ·simp only;omega
theorem ie {l:List UInt8} (h:l≠ []):0<=(bQ l).1/\(bQ l).1<2097408/\1<=(bQ l).2/\(bQ l).2<=l.length:=by
 cases l with
 |nil=>exact absurd rfl h
 |cons c r=>
  have hc:=c.toNat_lt;unfold bQ;simp only [List.length_cons];split
  ·simp only;omega
  split
  ·have:=yS c.toNat r (c.toNat -192) 1 128 (by omega) (by omega);omega
  split
  ·have:=yS c.toNat r (c.toNat -224) 2 2048 (by omega) (by omega);omega
  split
  ·have:=yS c.toNat r (c.toNat -240) 3 65536 (by omega) (by omega);omega
  ·simp only;omega
theorem SM (l:List UInt8) (i:Nat):(mk l).get! i=l.getD i 0:=by simp only [mk,ByteArray.get!,List.getD_eq_getElem?_getD];simp;rfl
def Nx (d:List UInt8):Nat×Nat:=
 let at' (k:Nat):Nat:=(d.getD k 0).toNat
 let cont (k:Nat):Bool:=k<d.length&&at' k /64==2
 let b0:=at' 0
 if b0<0x80 then (b0,1)
 else if b0 /32==6&&cont 1 then
  let c:=(b0 %32)*64+at' 1 %64
  if c≥0x80 then (c,2) else (65533,1)
 else if b0 /16==14&&cont 1&&cont 2 then
  let c:=(b0 %16)*4096+(at' 1 %64)*64+at' 2 %64
  if c≥0x800&&Utf8.valid c then (c,3) else (65533,1)
 else if b0 /8==30&&cont 1&&cont 2&&cont 3 then
  let c:=(b0 %8)*262144+(at' 1 %64)*4096+(at' 2 %64)*64+at' 3 %64
  if c≥0x10000&&Utf8.valid c then (c,4) else (65533,1)
 else (65533,1)
theorem jY (l:List UInt8) (i:Nat):Utf8.decode (mk l) i=Nx (l.drop i):=by
 have e:∀k,(l.drop i).getD k 0=l.getD (i+k) 0:=by intro k;simp [List.getD_eq_getElem?_getD,List.getElem?_drop]
 have e2:∀k,decide (i+k<(mk l).size)=decide (k<(l.drop i).length):=by intro k;simp;omega
 unfold Utf8.decode Nx;simp only [SM,e,e2,Utf8.runeError]
def eI (u:Int):Nat:=if 2097152<=u then 65533 else u.toNat
theorem yw (c:Nat):Utf8.valid (c:Int)=decide (¬(1114111<c\/(55296<=c/\c<=57343))):=by rw [Bool.eq_iff_iff];simp only [Utf8.valid,Bool.or_eq_true,Bool.and_eq_true,decide_eq_true_eq];omega
theorem dHa (b b1:Nat) (hb:192<=b/\b<224) (h1:128<=b1/\b1<=191):((b:Int) -192)*64+b1 -128=(((b %32)*64+b1 %64:Nat):Int):=by omega
theorem dIa (b b1 b2:Nat) (hb:224<=b/\b<240) (h1:128<=b1/\b1<=191) (h2:128<=b2/\b2<=191):
  (((b:Int) -224)*64+b1 -128)*64+b2 -128=(((b %16)*4096+(b1 %64)*64+b2 %64:Nat):Int):=by omega
theorem dJa (b b1 b2 b3:Nat) (hb:240<=b/\b<248) (h1:128<=b1/\b1<=191) (h2:128<=b2/\b2<=191) (h3:128<=b3/\b3<=191):
  ((((b:Int) -240)*64+b1 -128)*64+b2 -128)*64+b3 -128=(((b %8)*262144+(b1 %64)*4096+(b2 %64)*64+b3 %64:Nat):Int):=by omega
def eE (r:List UInt8) (k:Nat):Bool:=decide (k<r.length)&&(r.getD k 0).toNat /64==2
theorem dV (r:List UInt8) (n:Nat) (v:Int):jE r (n+1) v=if eE r 0=true then jE r.tail n (v*64+(r.getD 0 0).toNat -128) else none:=by
 cases r with
 |nil=>simp [jE,eE]
 |cons b r=>
  have hb:=b.toNat_lt;simp only [jE,eE,List.length_cons,List.getD_cons_zero,List.tail_cons]
  by_cases h:(b.toNat:Int)<128\/191<(b.toNat:Int)
  ·rw [if_pos h,if_neg];simp;omega
  ·rw [if_neg h,if_pos];simp;omega
theorem jU (r:List UInt8) (k:Nat):eE r.tail k=eE r (k+1):=by cases r<;>simp [eE]<;>rfl
theorem nu (r:List UInt8) (k:Nat):r.tail.getD k 0=r.getD (k+1) 0:=by cases r<;>simp
theorem iZ {r:List UInt8} {k:Nat} (h:eE r k=true):128<=(r.getD k 0).toNat/\(r.getD k 0).toNat<=191:=by simp only [eE,Bool.and_eq_true,beq_iff_eq] at h;omega
theorem jF (r:List UInt8) (v:Int):jE r 0 v=some v:=by cases r<;>rfl
theorem nn (d:List UInt8) (h:d≠ []):Nx d=(eI (bQ d).1,(bQ d).2):=by
 cases d with
 |nil=>exact absurd rfl h
 |cons c r=>
  have hc:=c.toNat_lt;have hcont:∀k,(decide (k+1<(c::r).length)&&((c::r).getD (k+1) 0).toNat /64==2)=eE r k:=by intro k;simp [eE]
  have e0:=hcont 0;have e1:=hcont 1;have e2:=hcont 2;simp only [Nat.zero_add,Nat.reduceAdd] at e0 e1 e2;have g0:(c::r).getD 0 0=c:=rfl;have g1:(c::r).getD 1 0=r.getD 0 0:=rfl;have g2:(c::r).getD 2 0=r.getD 1 0:=rfl;have g3:(c::r).getD 3 0=r.getD 2 0:=rfl;unfold Nx bQ;simp only [e0,e1,e2,g0]
  by_cases h0:c.toNat<128
  ·have hI:(c.toNat:Int)<128:=by omega
   have hn:¬(2097152:Int)<=(c.toNat:Int):=by omega
   rw [if_pos h0,if_pos hI];simp only [eI];rw [if_neg hn];simp
  have hI:¬(c.toNat:Int)<128:=by omega
  rw [if_neg h0,if_neg hI];have hbad:eI (2097152+(c.toNat:Int))=65533:=by unfold eI;rw [if_pos (by omega)]
  have hgood:∀n:Nat,n<=1114111->eI (n:Int)=n:=by intro n hn;unfold eI;rw [if_neg (show¬(2097152:Int)<=(n:Int) by omega)];simp
  by_cases k2:192<=(c.toNat:Int)/\(c.toNat:Int)<224
  ·have t1:(c.toNat /32==6)=true:=by simp;omega
   have t2:(c.toNat /16==14)=false:=by simp;omega
   have t3:(c.toNat /8==30)=false:=by simp;omega
   rw [if_pos k2];simp only [t1,t2,t3,Bool.true_and,Bool.false_and,Bool.false_eq_true,if_false];unfold jO;rw [dV,jF];cases hc0:eE r 0
   ·simp [hbad]
   ·have b1:=iZ hc0
    simp only [if_true];rw [dHa c.toNat (r.getD 0 0).toNat (by omega) b1];rw [g1];generalize hv:(c.toNat %32)*64+(r.getD 0 0).toNat %64=v;have hv2:v<2048:=by omega
    by_cases hl:v≥128
    ·have q:¬((v:Int)<128\/1114111<(v:Int)\/(55296<=(v:Int)/\(v:Int)<=57343)):=by omega
     rw [if_pos hl,if_neg q];simp only [hgood v (by omega)]
    ·have q:((v:Int)<128\/1114111<(v:Int)\/(55296<=(v:Int)/\(v:Int)<=57343)):=by omega
     rw [if_neg hl,if_pos q];simp only [hbad]
  rw [if_neg k2];have t1:(c.toNat /32==6)=false:=by simp;omega
  by_cases k3:224<=(c.toNat:Int)/\(c.toNat:Int)<240
  ·have t2:(c.toNat /16==14)=true:=by simp;omega
   have t3:(c.toNat /8==30)=false:=by simp;omega
   rw [if_pos k3];simp only [t1,t2,t3,Bool.true_and,Bool.false_and,Bool.false_eq_true,if_false];unfold jO;rw [dV];cases hc0:eE r 0
   ·simp [hbad]
   ·have b1:=iZ hc0
    simp only [if_true];rw [dV,jU,jF,nu];cases hc1:eE r 1
    ·simp [hbad]
    ·have b2:=iZ hc1
     simp only [Bool.and_self,if_true,Nat.zero_add,hc1];rw [dIa c.toNat (r.getD 0 0).toNat (r.getD 1 0).toNat (by omega) b1 b2];rw [g1,g2];generalize hv:(c.toNat %16)*4096+((r.getD 0 0).toNat %64)*64+(r.getD 1 0).toNat %64=v;rw [yw]
     by_cases hl:2048<=v/\¬(1114111<v\/(55296<=v/\v<=57343))
     ·have q:¬((v:Int)<2048\/1114111<(v:Int)\/(55296<=(v:Int)/\(v:Int)<=57343)):=by omega
      have q2:(decide (v≥2048)&&decide (¬(1114111<v\/(55296<=v/\v<=57343))))=true:=by simp only [Bool.and_eq_true,decide_eq_true_eq];exact ⟨hl.1,hl.2⟩
      rw [if_pos q2,if_neg q];simp only [hgood v (by omega)]
     ·have q:((v:Int)<2048\/1114111<(v:Int)\/(55296<=(v:Int)/\(v:Int)<=57343)):=by omega
      have q2:¬(decide (v≥2048)&&decide (¬(1114111<v\/(55296<=v/\v<=57343))))=true:=by simp only [Bool.and_eq_true,decide_eq_true_eq];exact hl
      rw [if_neg q2,if_pos q];simp only [hbad]
  rw [if_neg k3];have t2:(c.toNat /16==14)=false:=by simp;omega
  by_cases k4:240<=(c.toNat:Int)/\(c.toNat:Int)<248
  ·have t3:(c.toNat /8==30)=true:=by simp;omega
   rw [if_pos k4];simp only [t1,t2,t3,Bool.true_and,Bool.false_and,Bool.false_eq_true,if_false];unfold jO;rw [dV];cases hc0:eE r 0
   ·simp [hbad]
   ·have b1:=iZ hc0
    simp only [if_true];rw [dV,jU,nu];cases hc1:eE r 1
    ·simp [hbad]
    ·have b2:=iZ hc1
     simp only [Bool.and_self,if_true,Nat.zero_add,hc1];rw [dV,jU,jU,jF,nu,nu];cases hc2:eE r 2
     ·simp [hbad]
     ·have b3:=iZ hc2
      simp only [Bool.and_self,if_true,Nat.zero_add,Nat.reduceAdd,hc2];rw [dJa c.toNat (r.getD 0 0).toNat (r.getD 1 0).toNat (r.getD 2 0).toNat (by omega) b1 b2 b3];rw [g1,g2,g3];generalize hv:(c.toNat %8)*262144+((r.getD 0 0).toNat %64)*4096+((r.getD 1 0).toNat %64)*64+(r.getD 2 0).toNat %64=v;rw [yw]
      by_cases hl:65536<=v/\¬(1114111<v\/(55296<=v/\v<=57343))
      ·have q:¬((v:Int)<65536\/1114111<(v:Int)\/(55296<=(v:Int)/\(v:Int)<=57343)):=by omega
       have q2:(decide (v≥65536)&&decide (¬(1114111<v\/(55296<=v/\v<=57343))))=true:=by simp only [Bool.and_eq_true,decide_eq_true_eq];exact ⟨hl.1,hl.2⟩
       rw [if_pos q2,if_neg q];simp only [hgood v (by omega)]
      ·have q:((v:Int)<65536\/1114111<(v:Int)\/(55296<=(v:Int)/\(v:Int)<=57343)):=by omega
       have q2:¬(decide (v≥65536)&&decide (¬(1114111<v\/(55296<=v/\v<=57343))))=true:=by simp only [Bool.and_eq_true,decide_eq_true_eq];exact hl
       rw [if_neg q2,if_pos q];simp only [hbad]
  rw [if_neg k4];have t3:(c.toNat /8==30)=false:=by simp;omega
  simp only [t1,t2,t3,Bool.false_and,Bool.false_eq_true,if_false,hbad]
def iS:Nat->List UInt8->List (Int×Nat)
 |0,_=> []
 |_+1,[]=> []
 |n+1,c::r=>bQ (c::r)::iS n ((c::r).drop (bQ (c::r)).2)
def dI (l:List UInt8):List (Int×Nat):=iS l.length l
theorem FU (n:Nat):iS n []= []:=by cases n<;>rfl
theorem qV (n:Nat):∀l:List UInt8,l.length<=n->iS n l=iS l.length l:=by
 induction n using Nat.strongRecOn with
 |_ n ih=>
  intro l hl;cases l with
  |nil=>simp [FU]
  |cons c r=>
   have hb:=ie (l:=c::r) (by simp);cases n with
   |zero=>simp at hl
   |succ n=>
    simp only [List.length_cons,iS,List.cons.injEq,true_and] at hl hb⊢;have hd:((c::r).drop (bQ (c::r)).2).length<=r.length:=by simp only [List.length_drop,List.length_cons];omega
    rw [ih n (by omega) _ (by omega)]
    by_cases hn:r.length<n+1
    ·rw [ih r.length hn _ hd]
    ·omega
theorem nN:dI []= []:=rfl
theorem wb {l:List UInt8} (h:l≠ []):dI l=bQ l::dI (l.drop (bQ l).2):=by
 cases l with
 |nil=>exact absurd rfl h
 |cons c r=>
  have hb:=ie (l:=c::r) (by simp);have hd:((c::r).drop (bQ (c::r)).2).length<=r.length:=by simp only [List.length_drop,List.length_cons];omega
  show iS (r.length+1) (c::r)=_;simp only [iS,dI];rw [qV r.length _ hd]
theorem yu (l:List UInt8):(dI l).length<=l.length:=by
 unfold dI;generalize hn:l.length=n
 induction n using Nat.strongRecOn generalizing l with
 |_ n ih=>
  cases l with
  |nil=>subst hn;simp [iS]
  |cons c r=>
   have hb:=ie (l:=c::r) (by simp);simp only [List.length_cons] at hn hb;subst hn;simp only [iS,List.length_cons];have hd:((c::r).drop (bQ (c::r)).2).length<=r.length:=by simp only [List.length_drop,List.length_cons];omega
   rw [qV r.length _ hd];have:=ih _ (show ((c::r).drop (bQ (c::r)).2).length<r.length+1 by omega) _ rfl;omega
def Wu:Nat->List (Int×Nat)->List Nat
 |_,[]=> []
 |p,u::r=>p::Wu (p+u.2) r
def kV:List (Int×Nat)->Nat
 | []=>0
 |u::r=>u.2+kV r
theorem Dv (a b:List (Int×Nat)):kV (a++b)=kV a+kV b:=by
 induction a with
 |nil=>simp [kV]
 |cons u a ih=>simp [kV,ih,Nat.add_assoc]
theorem we {l:List UInt8} {done:List (Int×Nat)} {i:Nat} (h:dI l=done++dI (l.drop i)) (hi:i<l.length):
  dI l=(done++ [bQ (l.drop i)])++dI (l.drop (i+(bQ (l.drop i)).2)):=by
 rw [h,wb (l:=l.drop i) (by simp;omega),List.drop_drop];simp
theorem Hg {l:List UInt8} {i:Nat} (hi:i<l.length):i+(bQ (l.drop i)).2<=l.length/\1<=(bQ (l.drop i)).2:=by have:=ie (l:=l.drop i) (by simp;omega);simp only [List.length_drop] at this;omega
theorem FL (l:List UInt8):kV (dI l)=l.length:=by
 unfold dI;generalize hn:l.length=n
 induction n using Nat.strongRecOn generalizing l with
 |_ n ih=>
  cases l with
  |nil=>subst hn;simp [iS,kV]
  |cons c r=>
   have hb:=ie (l:=c::r) (by simp);simp only [List.length_cons] at hn hb;subst hn;simp only [iS,kV];have hd:((c::r).drop (bQ (c::r)).2).length<=r.length:=by simp only [List.length_drop,List.length_cons];omega
   rw [qV r.length _ hd];have:=ih _ (show ((c::r).drop (bQ (c::r)).2).length<r.length+1 by omega) _ rfl;rw [this];simp only [List.length_drop,List.length_cons];omega
theorem r5 (b:Int) (r:List UInt8) (v:Int) (n:Nat) (least:Int):jO b r v n least=(2097152+b,1)\/
  ∃u,jE r n v=some u/\least<=u/\u<=1114111/\¬(55296<=u/\u<=57343)/\jO b r v n least=(u,1+n):=by
 unfold jO;cases jE r n v with
 |none=>exact .inl rfl
 |some u=>
  by_cases h:u<least\/1114111<u\/(55296<=u/\u<=57343)
  ·exact .inl (by simp only [if_pos h])
  ·exact .inr ⟨u,rfl,by omega,by omega,by omega,by simp only [if_neg h]⟩
theorem Mx:∀(n:Nat) (r:List UInt8) (v u M:Int),v<M->jE r n v=some u->u<M*64^n:=by
 intro n
 induction n with
 |zero=>intro r v u M hv h;rw [jF] at h;cases h;simpa using hv
 |succ n ih=>
  intro r v u M hv h;rw [dV] at h;split at h
  ·rename_i hc
   have hb:=iZ hc;have:=ih _ _ u (M*64) (by omega) h;rw [Int.pow_succ];have e:M*(64^n*64)=M*64*64^n:=by rw [Int.mul_assoc,Int.mul_comm 64]
   omega
  ·cases h
theorem LI (c:UInt8) (r:List UInt8) (h:2097152<=(bQ (c::r)).1):(bQ (c::r)).1=2097152+c.toNat:=by
 have hc:=c.toNat_lt;rw [nE] at h⊢
 have key:∀v n least,2097152<=(jO c.toNat r v n least).1->(jO c.toNat r v n least).1=2097152+c.toNat:=by
  intro v n least hh;rcases r5 c.toNat r v n least with e|⟨u,_,_,h3,_,e⟩
  ·rw [e]
  ·rw [e] at hh;simp only at hh;omega
 split at h
 ·simp only at h;omega
 rename_i h1;split at h
 ·rename_i h2;rw [if_neg h1,if_pos h2];exact key _ _ _ h
 rename_i h2;split at h
 ·rename_i h3;rw [if_neg h1,if_neg h2,if_pos h3];exact key _ _ _ h
 rename_i h3;split at h
 ·rename_i h4;rw [if_neg h1,if_neg h2,if_neg h3,if_pos h4];exact key _ _ _ h
 rename_i h4;rw [if_neg h1,if_neg h2,if_neg h3,if_neg h4]
theorem xV (d:List UInt8) (hd:d≠ []):(bQ d).1=65533↔ [239,191,189].isPrefixOf d=true:=by
 constructor
 ·intro h
  cases d with
  |nil=>exact absurd rfl hd
  |cons c r=>
   have hc:=c.toNat_lt;rw [nE] at h;split at h
   ·simp only at h;omega
   split at h
   ·rcases r5 c.toNat r (c.toNat -192) 1 128 with e|⟨u,h1,h2,h3,h4,e⟩
    ·rw [e] at h;simp only at h;omega
    ·have:=Mx 1 r _ u 32 (by omega) h1
     rw [e] at h;simp only at h;omega
   split at h
   ·rcases r5 c.toNat r (c.toNat -224) 2 2048 with e|⟨u,h1,h2,h3,h4,e⟩
    ·rw [e] at h;simp only at h;omega
    ·rw [e] at h;simp only at h;subst h
     rw [dV] at h1;split at h1
     ·rename_i c0
      rw [dV,jF] at h1;split at h1
      ·rename_i c1
       have b0:=iZ c0;have b1:=iZ c1;simp only [Option.some.injEq] at h1;cases r with
       |nil=>simp [eE] at c0
       |cons x r=>
        cases r with
        |nil=>simp [eE] at c1
        |cons y r=>
         simp only [List.getD_cons_zero,List.tail_cons] at b0 b1 h1;have e1:c.toNat=239/\x.toNat=191/\y.toNat=189:=by omega
         have f1:c=239:=UInt8.toNat_inj.1 e1.1;have f2:x=191:=UInt8.toNat_inj.1 e1.2.1;have f3:y=189:=UInt8.toNat_inj.1 e1.2.2;subst f1;subst f2;subst f3;simp
      ·cases h1
     ·cases h1
   split at h
   ·rcases r5 c.toNat r (c.toNat -240) 3 65536 with e|⟨u,h1,h2,h3,h4,e⟩
    ·rw [e] at h;simp only at h;omega
    ·rw [e] at h;simp only at h;omega
   ·simp only at h;omega
 ·intro h
  rw [List.isPrefixOf_iff_prefix] at h;obtain ⟨t,rfl⟩:=h;show (bQ (239::191::189::t)).1=65533;rw [nE];simp [jO,jE]
theorem Rc {d:List UInt8} (hd:d≠ []):(if eI (bQ d).1=65533/\ [239,191,189].isPrefixOf d=false then 2097152+((d.headD 0).toNat:Int) else (eI (bQ d).1:Int))=(bQ d).1:=by
 have hb:=ie hd
 by_cases h:2097152<=(bQ d).1
 ·have hp: [239,191,189].isPrefixOf d=false:=by
   cases hh: [239,191,189].isPrefixOf d with
   |false=>rfl
   |true=>have:=(xV d hd).2 hh;omega
  rw [if_pos ⟨by unfold eI;rw [if_pos h],hp⟩];cases d with
  |nil=>exact absurd rfl hd
  |cons c r=>rw [LI c r h];rfl
 ·have hr:(eI (bQ d).1:Int)=(bQ d).1:=by unfold eI;rw [if_neg h];omega
  rw [if_neg]
  ·exact hr
  ·rintro ⟨h1,h2⟩
   have:(bQ d).1=65533:=by omega
   rw [(xV d hd).1 this] at h2;cases h2
end Go.HL.Nm
namespace Go.HL.Nm
open Go.HL Go.Proofs
noncomputable abbrev F0:PF Tryz.prog:=PF.none _
def Ul:ai:=⟨[0,2],13,[.slot 1],aN tG [] 0xe6ffdc8dd7e375fdd75753be4000d20b8078d4ef90003e1757527e4000d20b3cf527e4000f35752c54000f52c54000e7dd2041⟩
theorem OF:af F0 149 400=some Ul:=by kernel_rfl
def Uk:ai:=⟨[0,2,3],66,[.slot 1],aN tG [] 0x2ce6ffdc8de7e37637a07e375f8dd7f75d5d4e1900034824440511353864000d11175752454000d20910d10f52454000d10d75d2055d4ae9000c0910920b8e110b8d4ae9000c0910964845752054002c2e352054002c2e1748157527a400302cf3d49e9000c0b357523a4002c2d48e9000b0ade6ba28bc0b2ffdcdd5d4f1100040753c440011c8de7db5d2055d4e11000c0b3633d4e11000c0b35753444002c2d4d11000b0acbff72379fdd7481575347400133073d4d1d0004cd5d4c110004d4c11000472379f6d748157530d05000c0b3633d4c341400302cd5d4b11000b0b52c44002c2b2fff7482042aecae772379fdd7481575387400302cc2cf5387400302cd5d4f2814002c2d4f2814002c2bc00a772379fdd7481575284400302cc2cf5284400302cd5d4b19000b0b52c64002c2bc00a772379fdd748157524a05000c0b30b3d49281400302cd5d482814002c2d482814002c2027dd2041⟩
theorem OE:af F0 148 400=some Uk:=by kernel_rfl
def Va:ai:=⟨[0,2,3],45,[.slot 1],aN tG [] 0x2ce6fff740006de6ba28bc0b2fff748f3c105c6d5d4ee900036353ba4000ecbffdd238605c6d5d491500036352454000ecbff7375752c5400f81d4b15003e0abb2bb2b9dc8de7f75d2055d4de9000c0b30b3d4de9000c0b35752054002c2d4815000b0af0029dc8de7e379fdd74815753c44001380b8d4f110004e17481575384400302cf3d4e11000c0b35753444002c2d4d11000b0af0029dc8de7e379fdd74815753044001380b8d4c110004e17481575307400302cf3d4c1d000c0b35752c44002c2d4b11000b0af0029dc8de7f75d2055d4a11000c0b30b3d4a11000c0b35752c64002c2d4b19000b0809f748ce81⟩
theorem P8:af F0 278 400=some Va:=by kernel_rfl
def U8:ai:=⟨[0,1,4],18,[.slot 2],aN tG [] 0xe6ffdc71c8de79e7f75d2055f4157257104a15000a2810f30b3f4157257104a15000a2810f3c95c4128540028a073c41285cd5c95c4128557c2852c2c95c4128557c2852c2c41285f0a167dd2042⟩
theorem P6:af F0 276 400=some U8:=by kernel_rfl
def fc (u lo hi:Int):Bool:=decide (lo<=u)&&decide (u<=hi)
def dQ (u:Int):Bool:=decide (u=32)||decide (u=45)||decide (u=95)
theorem Cu (u:Int) (w:World):aj Tryz.prog 149 [.int .i32 u] (λr w'=>r= .bool (dQ u)/\w'=w) w:=by refine aG OF (by simp [Ul]) ?_;simp [Ul,dQ]
def letterF (u:Int):Bool:= !(decide (u=215)||decide (u=247)||decide (u=930))&&
 (fc u 48 57||fc u 65 90||fc u 97 122||fc u 192 255||fc u 913 937||fc u 945 969||decide (u=1025)||fc u 1040 1103||decide (u=1105))
theorem CA (u:Int) (w:World):aj Tryz.prog 148 [.int .i32 u] (λr w'=>r= .bool (letterF u)/\w'=w) w:=by
 refine aG OE (by simp [Uk]) ?_;simp [Uk,kG,letterF,fc]
 repeat' split
 all_goals (try simp)
 all_goals (try (rw [Bool.eq_iff_iff];simp))
 all_goals omega
def pk (u:Int):Int:=
 if (65<=u/\u<=90)\/(192<=u/\u<=222/\u≠215)\/(913<=u/\u<=937/\u≠930)\/(1040<=u/\u<=1071) then u+32
 else if u=1025 then 1105 else if u=962 then 963 else u
theorem Ir (u:Int) (w:World) (h0:0<=u) (h1:u<2097408):aj Tryz.prog 278 [.int .i32 u] (λr w'=>r= .int .i32 (pk u)/\w'=w) w:=by
 refine aG P8 (by simp [Va]) ?_;simp [Va,kG,pk]
 repeat' split
 all_goals (try simp (disch:=omega) only [wrap32])
 all_goals (try (first|rfl|omega))
theorem Jj (s p:List UInt8) (w:World) (hs:s.length<=1048576):aj Tryz.prog 276 [.string (mk s),.string (mk p)] (λr w'=>r= .bool (p.isPrefixOf s)/\w'=w) w:=by
 refine aG P6 (by simp [U8]) ?_;simp [U8];rw [Bool.eq_iff_iff];simp only [Bool.and_eq_true,decide_eq_true_eq,beq_iff_eq,List.isPrefixOf_iff_prefix];constructor
 ·rintro ⟨h1,h2⟩
  exact List.prefix_iff_eq_take.2 h2.symm
 ·intro h
  exact ⟨h.length_le,(List.prefix_iff_eq_take.1 h).symm⟩
noncomputable abbrev F1:PF Tryz.prog:=PF.of []
def ints (l:List Int):List Value:=l.map (Value.int .i64)
def eTa (l:List UInt8) (n:Int):List UInt8:=l.take (kV ((dI l).take n.toNat))
noncomputable def lB:PS Tryz.prog:=PS.ib 149 .i32 dQ Cu
noncomputable def lD:PS Tryz.prog:=PS.ib 148 .i32 letterF CA
noncomputable def yh:PS Tryz.prog where
 f:=276
 val args:=match args with
  | [.string s,.string p]=> .bool (p.data.toList.isPrefixOf s.data.toList)
  |_=>undef
 ok args:=match args with
  | [.string s,.string _]=>s.data.toList.length<=1048576
  |_=>False
 sound args w h:=by
  split at h
  ·rename_i s p
   have:=Jj s.data.toList p.data.toList w h;rw [<-qG,<-qG] at this;exact this
  ·exact h.elim
noncomputable abbrev F2:PF Tryz.prog:=PF.of [lB,lD,yh]
@[simp] theorem WJ (args:List Value):F2.val 276 args=yh.val args:=rfl
@[simp] theorem Ym (args:List Value):F2.ok 276 args=yh.ok args:=rfl
def UH:ai:=⟨[0,1,4],8,[.slot 2],aN tG [] 0x39bff73757d05000e3010bd05000e33fdd2042⟩
theorem Pc:af F2 202 400=some UH:=by kernel_rfl
theorem NY (s p:List UInt8) (w:World) (hs:s.length<=1048576):aj Tryz.prog 202 [.string (mk s),.string (mk p)] (λr w'=>r= .bool (p.isPrefixOf s)/\w'=w) w:=by refine aG Pc (by simp [UH]) ?_;simp [UH,yh];exact hs
def VZ (u:Int):Int:=
 if u=48\/u=959\/u=1086\/(242<=u/\u<=246)\/u=248 then 111
 else if u=49 then 108
 else if (224<=u/\u<=229)\/u=945\/u=1072 then 97
 else if u=231\/u=1089 then 99
 else if (232<=u/\u<=235)\/u=1077\/u=1105 then 101
 else if (236<=u/\u<=239)\/u=953 then 105
 else if u=954\/u=1082 then 107
 else if u=241 then 110
 else if u=961\/u=1088 then 112
 else if u=964\/u=1090 then 116
 else if (249<=u/\u<=252)\/u=965 then 117
 else if u=957 then 118
 else if u=967\/u=1093 then 120
 else if u=253\/u=255\/u=947\/u=1091 then 121
 else if u=32\/u=95 then 45
 else u
noncomputable def Zx:PS Tryz.prog where
 f:=202
 val args:=match args with
  | [.string s,.string p]=> .bool (p.data.toList.isPrefixOf s.data.toList)
  |_=>undef
 ok args:=match args with
  | [.string s,.string _]=>s.data.toList.length<=1048576
  |_=>False
 sound args w h:=by
  split at h
  ·rename_i s p
   have:=NY s.data.toList p.data.toList w h;rw [<-qG,<-qG] at this;exact this
  ·exact h.elim
noncomputable def xw:PS Tryz.prog where
 f:=278
 val args:=match args with
  | [.int _ u]=> .int .i32 (pk u)
  |_=>undef
 ok args:=match args with
  | [.int k u]=>k= .i32/\0<=u/\u<2097408
  |_=>False
 sound args w h:=by
  split at h
  ·obtain ⟨rfl,h1,h2⟩:=h;exact Ir _ w h1 h2
  ·exact h.elim
noncomputable abbrev F3:PF Tryz.prog:=PF.of [lB,lD,yh,Zx,xw]
@[simp] theorem WK (args:List Value):F3.val 202 args=Zx.val args:=rfl
@[simp] theorem Yn (args:List Value):F3.ok 202 args=Zx.ok args:=rfl
def Uj:ai:=⟨[0,1,2,6],22,[.slot 3],aN tG [] 0xb39bffdd0083a2f02cbff71c737572574f4140037a24a052283f83c95d3d05000de8928148a0fed3d05000de89281f4140037a72379e79f6d7481574d4f195f4140033a3fe3c1cd8cf4d4f195f4140033a3fe3c1cf53c657d05000ce8ffb3f4140033acd5d4fe90083d4fe900839f748ce83⟩
theorem OD:af F3 147 400=some Uj:=by kernel_rfl
theorem yE (l:List UInt8) (i:Nat) (w:World) (hi:i<l.length) (hl:l.length<=1048576):
  aj Tryz.prog 147 [.string (mk l),.int .i64 i,.int .i32 (eI (bQ (l.drop i)).1)] (λr w'=>r= .int .i32 (bQ (l.drop i)).1/\w'=w) w:=by
 have hne:l.drop i≠ []:=by simp;omega
 have hu:=Rc hne;have hb:=ie hne;have hd:(l.drop i).headD 0=l[i]?.getD 0:=by simp [List.headD_eq_head?_getD,List.head?_drop]
 have hc:=(l[i]?.getD 0).toNat_lt;rw [hd] at hu;refine aG OD (by simp [Uj]) ?_;simp [Uj,Zx];refine ⟨λ_=>by omega,λ_=>by omega,?_⟩;refine aR (λh=> ?_) (λh=> ?_)
 ·simp at h
  rw [if_pos ⟨by omega,h.2⟩] at hu;simp
  try simp (disch:=omega) only [wrap32]
  exact ⟨hi,hu⟩
 ·simp at h
  rw [if_neg (by rintro ⟨h1,h2⟩;rw [List.isPrefixOf_iff_prefix.2 (h (by omega))] at h2;cases h2)] at hu;simp;exact hu
noncomputable def HY:PS Tryz.prog where
 f:=147
 val args:=match args with
  | [.string s,.int _ i,.int _ _]=> .int .i32 (bQ (s.data.toList.drop i.toNat)).1
  |_=>undef
 ok args:=match args with
  | [.string s,.int k i,.int k' r]=>k= .i64/\k'= .i32/\s.data.toList.length<=1048576/\0<=i/\i<s.data.toList.length/\r=eI (bQ (s.data.toList.drop i.toNat)).1
  |_=>False
 sound args w h:=by
  split at h
  ·rename_i s k i k' r
   obtain ⟨rfl,rfl,h1,h2,h3,rfl⟩:=h;obtain ⟨n,rfl⟩:=Int.eq_ofNat_of_zero_le h2;have:=yE s.data.toList n w (by omega) h1;rw [<-qG] at this
   simpa using this
  ·exact h.elim
noncomputable abbrev F4:PF Tryz.prog:=PF.of [lB,lD,yh,Zx,xw,HY]
@[simp] theorem Yq (args:List Value):F4.val 149 args=lB.val args:=rfl
@[simp] theorem aDa (args:List Value):F4.ok 149 args=lB.ok args:=rfl
@[simp] theorem Yr (args:List Value):F4.val 148 args=lD.val args:=rfl
@[simp] theorem aEa (args:List Value):F4.ok 148 args=lD.ok args:=rfl
@[simp] theorem Yp (args:List Value):F4.val 278 args=xw.val args:=rfl
@[simp] theorem aCa (args:List Value):F4.ok 278 args=xw.ok args:=rfl
@[simp] theorem WL (args:List Value):F4.val 147 args=HY.val args:=rfl
@[simp] theorem Yo (args:List Value):F4.ok 147 args=HY.ok args:=rfl
@[simp] theorem eaa (u:Int) (k:IntKind):lB.val [.int k u]= .bool (dQ u):=rfl
@[simp] theorem fea (u:Int) (k:IntKind):lB.ok [.int k u]=(k= .i32):=rfl
@[simp] theorem eba (u:Int) (k:IntKind):lD.val [.int k u]= .bool (letterF u):=rfl
@[simp] theorem fQa (u:Int) (k:IntKind):lD.ok [.int k u]=(k= .i32):=rfl
@[simp] theorem d5a (u:Int) (k:IntKind):xw.val [.int k u]= .int .i32 (pk u):=rfl
@[simp] theorem e6a (u:Int) (k:IntKind):xw.ok [.int k u]=(k= .i32/\0<=u/\u<2097408):=rfl
@[simp] theorem bGa (l:List UInt8) (i r:Int) (k k':IntKind):HY.val [.string (mk l),.int k i,.int k' r]= .int .i32 (bQ (l.drop i.toNat)).1:=by simp [HY]
@[simp] theorem dYa (l:List UInt8) (i r:Int) (k k':IntKind):HY.ok [.string (mk l),.int k i,.int k' r]=(k= .i64/\k'= .i32/\l.length<=1048576/\0<=i/\i<l.length/\r=eI (bQ (l.drop i.toNat)).1):=by simp [HY]
def nZ (j:Bool) (u:Int):Bool:= !letterF u&&(j|| !dQ u)
def qq:Bool->Nat->List (Int×Nat)->Option Nat
 |_,_,[]=>none
 |j,p,u::r=>if nZ (j||r.isEmpty) u.1 then some p else qq (dQ u.1) (p+u.2) r
def gm:Bool->Nat->List (Int×Nat)->Option Nat
 |_,_,[]=>none
 |j,p,u::r=>if nZ j u.1 then some p else gm (dQ u.1) (p+u.2) r
def mE:Bool->List (Int×Nat)->Bool
 |j,[]=>j
 |_,u::r=>mE (dQ u.1) r
def rn:Nat->Nat->List (Int×Nat)->Nat
 |d,_,[]=>d
 |_,p,u::r=>rn p (p+u.2) r
theorem wE {u:Int} (h:dQ u=true):letterF u=false:=by simp only [dQ,Bool.or_eq_true,decide_eq_true_eq] at h;rcases h with (h|h)|h<;>subst h<;>decide
theorem B9:∀(r:List (Int×Nat)) (j:Bool) (p d:Nat),r≠ []->qq j p r=(match gm j p r with|some q=>some q|none=>if mE j r then some (rn d p r) else none)
 | [],_,_,_,h=>absurd rfl h
 | [u],j,p,d,_=>by cases hj:dQ u.1<;>cases hl:letterF u.1<;>cases j<;>(first|(simp [qq,gm,mE,rn,nZ,hj,hl];done)|(have:=wE hj;rw [hl] at this;cases this))
 |u::v::r,j,p,d,_=>by
  have ih:=B9 (v::r) (dQ u.1) (p+u.2) p (by simp);rw [qq,gm];simp only [List.isEmpty_cons,Bool.or_false];cases nZ j u.1
  ·simp only [Bool.false_eq_true,if_false];rw [ih];rfl
  ·rfl
theorem q9:∀(r:List (Int×Nat)) (u:Int×Nat) (j:Bool) (p:Nat),gm j p (r++ [u])=(match gm j p r with|some q=>some q|none=>if nZ (mE j r) u.1 then some (p+kV r) else none)
 | [],u,j,p=>by cases h:nZ j u.1<;>simp [gm,mE,kV,h]
 |v::r,u,j,p=>by
  have ih:=q9 r u (dQ v.1) (p+v.2);cases h:nZ j v.1
  ·simp only [List.cons_append,gm,mE,kV,h,Bool.false_eq_true,if_false]
   rw [ih,Nat.add_assoc];rfl
  ·simp [gm,h]
theorem vj:∀(r:List (Int×Nat)) (u:Int×Nat) (j:Bool),mE j (r++ [u])=dQ u.1
 | [],u,j=>rfl
 |v::r,u,j=>by simp only [List.cons_append,mE];exact vj r u _
theorem vm:∀(r:List (Int×Nat)) (u:Int×Nat) (d p:Nat),rn d p (r++ [u])=p+kV r
 | [],u,d,p=>by simp [rn,kV]
 |v::r,u,d,p=>by simp only [List.cons_append,rn,kV];rw [vm r u];omega
def CP:Option Nat->Int
 |some q=>q
 |none=> -1
def jl (l:List UInt8):Int×Int:=
 if l= [] then (0,41)
 else if 24<(dI l).length then (kV ((dI l).take 24),42)
 else match qq true 0 (dI l) with
  |some p=>(p,40)
  |none=>(0,0)
def l97:ai:=⟨[0,2,3,4,5,6,7,8,9,10,14,15],56,[.slot 1,.slot 2],aN tG [] 0x2ce79e79bff699d92002480068bc0b2ffda67648c3c109010171b57501010b098d404042c2a2f027dd01447237db5d20501b3633575010107d404041edbacb79e799f7407167737571f8c1c6c7e307a2f027dd01c472379e7e38dd7617db5d2057574c7e3073c1482442e18e110b8d31f8c1cf0510b1f8c1d1097484406e17481574c7e33e3c1cf3d31f8cf8f073c7e33ecd5d404041f50101079dcdd553de901d000eebe53de901d000eea77375750d00fe0f50d00fea2f02cbff699d922cf04240705c6d5d4af900c36352be4030e771c699d95c4b0481fa5712c13811f12c1207c4b04e041a2f0af02271b566ccc076ccb066ccc07128134d0409e2df3281f0c37fdd20869da659d9200548b0c44800e8bc0b2ffda67648e38109200171b5753034000d8d4c0d00039da676480092001⟩
theorem VW:af F4 97 400=some l97:=by kernel_rfl
theorem lh (l:List UInt8) (w0 w:World) (A:ak) (hl:l.length<=1048576) (s:St w0 A w):
  aj Tryz.prog 97 [.string (mk l)] (λr w'=>r= .tuple #[.int .i64 (jl l).1,.int .i64 (jl l).2]/\St w0 A w') w:=by
 refine aG VW (by simp [l97]) ?_;simp [l97];refine aR (λh=> ?_) (λh=> ?_)
 ·simp at h
  subst h;simp [jl];exact s
 simp at h;simp;refine B2 s ?_;intro b w1 s1;simp;refine gq (λenv w'=>∃(i:Nat) (done:List (Int×Nat)) (x y z t:Value),env= [.string (mk l),.int .i64 0,.int .i64 0,.int .i64 done.length,.int .i64 (CP (gm true 0 done)),.int .i64 (rn 0 0 done),.bool (mE true done),x,y,z,.pointer (some ⟨b,0,none⟩),t]/\
   i<=l.length/\dI l=done++dI (l.drop i)/\i=kV done/\done.length<=24/\St w0 (A*pt b (.stringIter (mk l) i)) w')
  (λenv _=>25 -ay env 3) ⟨0,[],_,_,_,_,by simp [CP,gm,rn,mE];exact ⟨rfl,rfl,rfl,rfl⟩,by omega,by simp,rfl,by simp,s1⟩ ?_
 rintro LQ env w' ⟨i,done,x,y,z,t,rfl,hi,hu,hsum,hd24,s'⟩ hN hE hR;simp;refine BZ s' (λh w2 s2=> ?_) (λh=> ?_)
 ·simp at h
  have hle:=Hg (l:=l) (i:=i) h;have hob:=ie (l:=l.drop i) (by simp;omega);rw [jY,nn _ (by simp;omega)] at s2;have hstep:=we hu h;rw [jY,nn _ (by simp;omega)];simp;refine aR (λh2=> ?_) (λh2=> ?_)
  ·simp at h2
   simp;refine hR _ _ ?_;simp;refine ⟨?_,s2.drop⟩;have hlen:24<(dI l).length:=by rw [hstep];simp;omega
   unfold jl;rw [if_neg (by assumption),if_pos hlen,hu,show (24:Nat)=done.length by omega,List.take_left,<-hsum];simp
  ·simp at h2
   simp
   try simp (disch:=omega) only [wrap64]
   refine ⟨⟨hl,h⟩,?_⟩;have hsn:=q9 done (bQ (l.drop i)) true 0;have fin:∀fv:Int,fv=CP (gm true 0 (done++ [bQ (l.drop i)]))->LQ .nrm [.string (mk l),.int .i64 0,.int .i64 0,.int .i64 (done.length+1),.int .i64 fv,.int .i64 i,.bool (dQ (bQ (l.drop i)).1),.int .i64 i,.int .i32 (eI (bQ (l.drop i)).1),.int .i32 (bQ (l.drop i)).1,.pointer (some ⟨b,0,none⟩),.tuple #[.bool true,.int .i64 i,.int .i32 (eI (bQ (l.drop i)).1)]] w2:=by intro fv hfv;refine hN _ _ ⟨i+(bQ (l.drop i)).2,done++ [bQ (l.drop i)],.int .i64 i,.int .i32 (eI (bQ (l.drop i)).1),.int .i32 (bQ (l.drop i)).1,.tuple #[.bool true,.int .i64 i,.int .i32 (eI (bQ (l.drop i)).1)],?_,hle.1,hstep,by simp [Dv,kV,hsum],by simp;omega,s2⟩ (by simp [ay];omega);rw [hfv,vm,vj,Nat.zero_add,<-hsum];simp
   cases hf:gm true 0 done with
   |some q=>
    have e0:CP (some q)=(q:Int):=rfl;rw [hf] at hsn;have e1:¬((q:Int)<0):=by omega
    rw [e0];simp [e1];exact fin _ (by rw [hsn];rfl)
   |none=>
    have e0:CP none= -1:=rfl;rw [hf] at hsn;simp only at hsn;rw [e0];cases hlt:letterF (bQ (l.drop i)).1
    ·simp
     refine aR (λh3=> ?_) (λh3=> ?_)
     ·simp
      refine fin _ ?_;rw [hsn,nZ,hlt,h3];simp [CP,hsum]
     ·simp
      refine fin _ ?_;rw [hsn,nZ,hlt,h3];rfl
    ·simp
     refine fin _ ?_;rw [hsn,nZ,hlt];rfl
 ·simp at h
  simp;refine hE _ _ _ ?_;simp;have:i=l.length:=by omega
  subst this;rw [List.drop_length,nN,List.append_nil] at hu;have hne:dI l≠ []:=by intro e;have:=FL l;rw [e] at this;simp [kV] at this;exact absurd (List.eq_nil_of_length_eq_zero this.symm) (by assumption)
  have hck:jl l=(match qq true 0 (dI l) with|some p=>((p:Int),40)|none=>(0,0)):=by unfold jl;rw [if_neg (by assumption),if_neg (by rw [hu];omega)]
  rw [B9 _ _ _ 0 hne,hu] at hck;cases hf:gm true 0 done with
  |some q=>
   rw [hf] at hck;simp only at hck;have e0:CP (some q)=(q:Int):=rfl;rw [e0,hck];have e1:decide ((q:Int)<0)=false:=by simp
   simp [e1];exact s'.drop
  |none=>
   rw [hf] at hck;simp only at hck;have e0:CP none= -1:=rfl;rw [e0,hck];cases hj:mE true done
   ·simp
    exact s'.drop
   ·simp
    exact s'.drop
end Go.HL.Nm
