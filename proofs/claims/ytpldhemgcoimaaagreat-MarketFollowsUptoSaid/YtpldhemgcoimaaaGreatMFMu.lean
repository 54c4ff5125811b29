/- Part 21. -/
import Derived.Test.YtpldhemgcoimaaaGreatMFMt
import Derived.Shelf.SlSortCmp.NoneTotal
set_option linter.unusedSimpArgs false
set_option linter.unusedVariables false
set_option maxRecDepth 4000
namespace Go.HL
open Go.HL Go.Proofs Go.Sort Go.Shelf
theorem St.ahead {w0 w:World} {A:ak} (s:St w0 A w) (n:Nat):St w0 A (Sort.ahead w n):=⟨s.os,s.out,s.size,⟨s.ran.1,Nat.le_trans s.ran.2 (Nat.le_add_right _ _)⟩,s.holds⟩
theorem St.grow {w0 w:World} {A:ak} (s:St w0 A w) (os:Array Obj):St w0 A (Sort.grow w os):=by
 obtain ⟨g,h1,h2⟩:=s.holds;refine ⟨s.os,s.out,?_,s.ran,g,λb o hb=> ?_,h2⟩
 ·have:=s.size;simp only [size_grow];omega
 ·have h3:w.heap[b]?=some o:=h1 b o hb
  have:=(Array.getElem?_eq_some_iff.1 h3).1;show (w.heap++os)[b]?=some o;rw [Array.getElem?_append_left this];exact h3
theorem St.grown {W w':World} (s:St W (od W) w'):∃q os',w'=Sort.grow (W.drewN q) os':=by
 refine ⟨w'.drawn -W.drawn,w'.heap.extract W.heap.size w'.heap.size,?_⟩;have hs:=s.size;have hh:w'.heap=W.heap++w'.heap.extract W.heap.size w'.heap.size:=by
  apply Array.ext_getElem?;intro i;rw [Array.getElem?_append];split
  ·rename_i hi
   have h0:W.heap[i]?=some W.heap[i]:=by simp [hi]
   rw [s.mI h0,h0]
  ·rename_i hi
   rw [Array.getElem?_extract];have e:W.heap.size+(i -W.heap.size)=i:=by omega
   rw [e];split
   ·rfl
   ·rename_i h2
    rw [Array.getElem?_eq_none (by omega)]
 cases w' with
 |mk heap tape drawn os output=>
  cases W with
  |mk heap0 tape0 drawn0 os0 output0=>
   have h1:=s.os;have h2:=s.out;have h3:=s.ran.1;have h4:=s.ran.2;simp only at h1 h2 h3 h4 hh;subst h1;subst h2;subst h3;unfold Sort.grow World.drewN;simp only [World.mk.injEq,and_true,true_and];exact ⟨hh,by omega⟩
theorem uB {α:Type} [Inhabited α] (enc:α->List Value) (k:Nat) (hk:∀x,(enc x).length=k) (ts:List α):(flatK enc k ts.toArray).toList=ts.flatMap enc:=by
 apply List.ext_getElem?;intro j;have hl:=cO enc k hk ts
 by_cases hj:j<ts.length*k
 ·have k0:0<k:=by
   rcases Nat.eq_zero_or_pos k with h|h
   ·subst h;simp at hj
   ·exact h
  have hd:j /k<ts.length:=(Nat.div_lt_iff_lt_mul k0).2 hj;have hm:=Nat.mod_lt j k0;have hg:=get_flatK enc k ts.toArray j (by simpa using hj);have hsz:(flatK enc k ts.toArray).size=ts.length*k:=by simp
  rw [Array.getElem?_toList,Array.getElem?_eq_getElem (by rw [hsz];exact hj),<-getElem!_pos (flatK enc k ts.toArray) j (by rw [hsz];exact hj),hg];have h2:=eh enc k hk ts (j /k) (j %k) hd hm;rw [Nat.mul_comm,Nat.div_add_mod] at h2;rw [h2];have e1:ts.toArray[j /k]!=ts[j /k]:=by rw [getElem!_pos ts.toArray (j /k) (by simpa using hd)];simp
  rw [e1,getElem!_pos (enc ts[j /k]) (j %k) (by rw [hk];exact hm)];exact (List.getElem?_eq_getElem _).symm
 ·rw [List.getElem?_eq_none (by simp;omega),List.getElem?_eq_none (by rw [hl];omega)]
theorem oe {α:Type} [Inhabited α] (enc:α->Value) (d:Array α) (c:Array Value) (h:d.size<=c.size):putCells enc 0 d c=(d.toList.map enc++c.toList.drop d.size).toArray:=by
 apply Array.ext';apply List.ext_getElem?;intro i;rw [List.toList_toArray,Array.getElem?_toList];unfold putCells;rw [Array.getElem?_mapIdx]
 by_cases hi:i<d.size
 ·have hi':i<c.size:=by omega
  rw [Array.getElem?_eq_getElem hi',List.getElem?_append_left (by simpa using hi)];simp [hi]
 ·rw [List.getElem?_append_right (by simp;omega)]
  simp only [List.length_map,Array.length_toList,List.getElem?_drop,Array.getElem?_toList];rw [show d.size+(i -d.size)=i by omega];cases c[i]? with
  |none=>rfl
  |some x=>simp [hi]
theorem Mu {P:Program} {ρ:Ren} {α:Type} [Inhabited α] (L:SlLaysF0.n6 P ρ) (k:Nat) (aE:∀w,(isAgg (ρ.t 24)).run P w= .ok true w) (zE:∀w,(Go.sizeOf (ρ.t 24)).run P w= .ok k w) (enc:α->List Value) (hk:∀x,(enc x).length=k) (h1:∀x,∀v∈enc x,v.oneCell'=true)
  (cf:α->α->Int) (hO:SWO (ltOf cf)) (hT:∀x y,(ltOf cf) x y=false->(ltOf cf) y x=false->x=y) (g:Nat) (eg:∀args w,(callFunc g args).run P w= .ok (.enter g args) w)
  (hc:∀x y W,Calls P g #[.agg (enc x).toArray,.agg (enc y).toArray] W λe w'=>e= .returned (.int .i64 (cf x y))/\∃q os',w'=Sort.grow (W.drewN q) os')
  {e:TypeId} {v:Value} {ts:List α} (hsz:ts.length<4611686018427387904) {w0 w:World} {F:ak} (s:St w0 (F*own e k v ts.length (ts.flatMap enc)) w):
  Calls P (ρ.f 6) #[v,.func (.func g) #[] #[]] w λe' w'=>e'= .returned (.tuple #[])/\St w0 (F*own e k v ts.length ((ts.mergeSort λx y=> !(ltOf cf) y x).flatMap enc)) w':=by
 obtain ⟨hl,s'⟩:=s.own;rcases s' with ⟨hv,hn,s1⟩|⟨b,cap,cur,rfl,hcap,hm,hcur,hx,s1⟩
 ·have h0:=List.length_eq_zero_iff.1 hn
  subst h0;subst hv;refine (AnyF.slices_SortFunc_none L none 0 _ w).mono ?_;rintro e' w' ⟨he,rfl⟩;exact ⟨he,by simpa using s⟩
 ·have hb:=s1.look
  have hlt:=(Array.getElem?_eq_some_iff.1 hb).1;have hfl:=uB enc k hk ts;have hle:ts.length*k<=cur.size:=Nat.le_trans (Nat.mul_le_mul_right k hcap) hcur;have hH:HoldsK enc k w b 0 ts.toArray:=by
   intro j hj;have hj:j<ts.length*k:=by simpa using hj
   have hsz:(flatK enc k ts.toArray).size=ts.length*k:=by simp
   refine ⟨?_,by simp [World.frozen?,hb]⟩;have e1:(flatK enc k ts.toArray)[j]?=some ((flatK enc k ts.toArray)[j]!):=by rw [getElem!_pos (flatK enc k ts.toArray) j (by rw [hsz];exact hj)];simp [hj]
   rw [<-Array.getElem?_toList,hfl,<-hx,List.getElem?_take,if_pos hj] at e1;simp only [World.cell?,hb]
   simpa using e1
  have hcon:=AnyQ.slices_SortFunc_total L k aE zE enc hk h1 cf hO g #[] b 0 cap ts.toArray w eg (λm os dk _ x y=>hc x y _) hH hlt (by simpa using hsz) hT;refine Calls.mono (by simpa using hcon) ?_;rintro e' w' ⟨he,n,os,rfl⟩;refine ⟨he,?_⟩;unfold sortWorldK;refine St.grow ?_ os;obtain ⟨us,hus⟩:∃us,(ts.mergeSort λx y=> !(ltOf cf) y x)=us:=⟨_,rfl⟩;have hul:us.length=ts.length:=by rw [<-hus];exact List.length_mergeSort _
  rw [hus];have hfu:=uB enc k hk us;have s2:=s1.ahead n;have hb2:(Sort.ahead w n).heap[b]?=some (.cells cur e (0,0)):=hb;have hszu:(flatK enc k us.toArray).size=us.length*k:=by simp
  have hp:=oe id (flatK enc k us.toArray) cur (by rw [hszu,hul];exact hle);rw [List.map_id,hfu,hszu] at hp;have s3:St w0 (F*pt b (.cells (us.flatMap enc++cur.toList.drop (us.length*k)).toArray e (0,0))) (putRowK enc k (Sort.ahead w n) b 0 us.toArray):=by
   rw [<-hp];refine s2.rX ?_ (λc hc=> ?_) (by simp [putRowK]) rfl rfl (λ_ _ _ h=>by cases h;rfl)
   ·show ((Sort.ahead w n).heap.modify b _)[b]?=_
    rw [Array.getElem?_modify,if_pos rfl,hb2];rfl
   ·show ((Sort.ahead w n).heap.modify b _)[c]?=_
    rw [Array.getElem?_modify,if_neg (Ne.symm hc)]
  have hfl2:=cO enc k hk us;refine s3.nF hcap hm ?_ ?_
  ·simp only [List.size_toArray,List.length_append,List.length_drop,Array.length_toList,hfl2]
   rw [hul];omega
  ·rw [List.toList_toArray,List.take_append_of_le_length (by rw [hfl2,hul];exact Nat.le_refl _),List.take_of_length_le (by rw [hfl2,hul];exact Nat.le_refl _)]
end Go.HL
namespace Go.HL.Wh
open Go.HL Go.Proofs Go.Sort
noncomputable def AR:Go.Shelf.Ren:=⟨fun|6=>143|15=>197|14=>198|28=>264|29=>265|20=>266|21=>267|22=>268|23=>269|24=>270|25=>271|26=>272|27=>273|46=>313|47=>309|48=>310|49=>314|50=>315|57=>330|n=>n,fun|22=>161|24=>164|25=>227|3=>3|39=>247|0=>0|53=>54|55=>27|4=>4|46=>328|45=>327|50=>141|5=>5|9=>9|66=>361|70=>364|76=>377|77=>265|n=>n,fun|n=>n⟩
theorem Ms:Go.Proofs.SlLaysF0.n6 Tryz.prog AR:={
  mixed:=by kernel_rfl,
  f6:=⟨Tryz.f143.name,by decide,Tryz.func143.trans (congrArg some (by kernel_rfl))⟩,
  f14:=⟨Tryz.f198.name,by decide,Tryz.func198.trans (congrArg some (by kernel_rfl))⟩,
  f15:=Tryz.func197.trans (congrArg some (by kernel_rfl)),
  f20:=⟨Tryz.f266.name,by decide,Tryz.func266.trans (congrArg some (by kernel_rfl))⟩,
  f21:=⟨Tryz.f267.name,by decide,Tryz.func267.trans (congrArg some (by kernel_rfl))⟩,
  f22:=⟨Tryz.f268.name,by decide,Tryz.func268.trans (congrArg some (by kernel_rfl))⟩,
  f23:=⟨Tryz.f269.name,by decide,Tryz.func269.trans (congrArg some (by kernel_rfl))⟩,
  f24:=⟨Tryz.f270.name,by decide,Tryz.func270.trans (congrArg some (by kernel_rfl))⟩,
  f25:=⟨Tryz.f271.name,by decide,Tryz.func271.trans (congrArg some (by kernel_rfl))⟩,
  f26:=⟨Tryz.f272.name,by decide,Tryz.func272.trans (congrArg some (by kernel_rfl))⟩,
  f27:=⟨Tryz.f273.name,by decide,Tryz.func273.trans (congrArg some (by kernel_rfl))⟩,
  f28:=Tryz.func264.trans (congrArg some (by kernel_rfl)),
  f29:=Tryz.func265.trans (congrArg some (by kernel_rfl)),
  f46:=⟨Tryz.f313.name,by decide,Tryz.func313.trans (congrArg some (by kernel_rfl))⟩,
  f47:=Tryz.func309.trans (congrArg some (by kernel_rfl)),
  f48:=Tryz.func310.trans (congrArg some (by kernel_rfl)),
  f49:=⟨Tryz.f314.name,by decide,Tryz.func314.trans (congrArg some (by kernel_rfl))⟩,
  f50:=⟨Tryz.f315.name,by decide,Tryz.func315.trans (congrArg some (by kernel_rfl))⟩,
  f57:=⟨Tryz.f330.name,by decide,Tryz.func330.trans (congrArg some (by kernel_rfl))⟩,
  t0:=Tryz.underlying0,
  a0:=Tryz.isAgg0,
  z0:=Tryz.sizeOf0,
  v0:=Tryz.zeroValue0,
  t3:=Tryz.underlying3,
  a3:=Tryz.isAgg3,
  z3:=Tryz.sizeOf3,
  v3:=Tryz.zeroValue3,
  t4:=Tryz.underlying4,
  a4:=Tryz.isAgg4,
  z4:=Tryz.sizeOf4,
  v4:=Tryz.zeroValue4,
  t5:=Tryz.underlying5,
  a5:=Tryz.isAgg5,
  z5:=Tryz.sizeOf5,
  v5:=Tryz.zeroValue5,
  t9:=Tryz.underlying9,
  a9:=Tryz.isAgg9,
  z9:=Tryz.sizeOf9,
  v9:=Tryz.zeroValue9,
  t22:=Tryz.underlying161,
  a22:=Tryz.isAgg161,
  z22:=Tryz.sizeOf161,
  v22:=Tryz.zeroValue161,
  t25:=Tryz.underlying227,
  a25:=Tryz.isAgg227,
  z25:=Tryz.sizeOf227,
  v25:=Tryz.zeroValue227,
  t39:=Tryz.underlying247,
  a39:=Tryz.isAgg247,
  z39:=Tryz.sizeOf247,
  v39:=Tryz.zeroValue247,
  t45:=Tryz.underlying327,
  a45:=Tryz.isAgg327,
  z45:=Tryz.sizeOf327,
  v45:=Tryz.zeroValue327,
  t46:=Tryz.underlying328,
  a46:=Tryz.isAgg328,
  z46:=Tryz.sizeOf328,
  v46:=Tryz.zeroValue328,
  t50:=Tryz.underlying141,
  a50:=Tryz.isAgg141,
  z50:=Tryz.sizeOf141,
  v50:=Tryz.zeroValue141,
  t53:=Tryz.underlying54,
  a53:=Tryz.isAgg54,
  z53:=Tryz.sizeOf54,
  v53:=Tryz.zeroValue54,
  t55:=Tryz.underlying27,
  a55:=Tryz.isAgg27,
  z55:=Tryz.sizeOf27,
  v55:=Tryz.zeroValue27,
  t66:=Tryz.underlying361,
  a66:=Tryz.isAgg361,
  z66:=Tryz.sizeOf361,
  v66:=Tryz.zeroValue361,
  t70:=Tryz.underlying364,
  a70:=Tryz.isAgg364,
  z70:=Tryz.sizeOf364,
  v70:=Tryz.zeroValue364,
  t76:=Tryz.underlying377,
  a76:=Tryz.isAgg377,
  z76:=Tryz.sizeOf377,
  v76:=Tryz.zeroValue377,
  t77:=Tryz.underlying265,
  a77:=Tryz.isAgg265,
  z77:=Tryz.sizeOf265,
  v77:=Tryz.zeroValue265}
theorem ry (x y:Int×Int):ltOf qL x y=decide (x.2<y.2\/x.2=y.2/\x.1<y.1):=by
 unfold ltOf qL rM;rcases Int.lt_trichotomy x.2 y.2 with h|h|h
 ·simp [h]
 ·rcases Int.lt_trichotomy x.1 y.1 with g|g|g
  ·simp [h,g]
  ·simp [h,g]
  ·simp [h,show¬x.1<y.1 by omega,g]
 ·simp [show¬x.2<y.2 by omega,h,show¬x.2=y.2 by omega]
theorem ZY:SWO (ltOf qL) where
 irrefl x:=by rw [ry];simp
 trans x y z h1 h2:=by rw [ry] at*;simp at*;omega
 ntrans x y z h1 h2:=by rw [ry] at*;simp at*;omega
theorem QT (x y:Int×Int) (h1:ltOf qL x y=false) (h2:ltOf qL y x=false):x=y:=by rw [ry] at*;simp at*;exact Prod.ext (by omega) (by omega)
theorem CQ (x y:Int×Int) (W:World):Calls Tryz.prog 144 #[.agg (dz x).toArray,.agg (dz y).toArray] W λe w'=>e= .returned (.int .i64 (qL x y))/\∃q os',w'=Sort.grow (W.drewN q) os':=by have h:aj Tryz.prog 144 [.agg (dz x).toArray,.agg (dz y).toArray] _ W:=Ft x y W W (od W) (St.start W);refine Calls.mono h ?_;rintro e w' ⟨v,rfl,rfl,s⟩;exact ⟨rfl,s.grown⟩
def bS (ts:List (Int×Int)):List (Int×Int):=ts.mergeSort λx y=> !(ltOf qL) y x
theorem gg (ts:List (Int×Int)):(bS ts).length=ts.length:=List.length_mergeSort _
theorem cd (ts:List (Int×Int)):(bS ts).Perm ts:=List.mergeSort_perm _ _
theorem gy (ts:List (Int×Int)):(bS ts).Pairwise λx y=>ltOf qL y x=false:=by
 have h:=List.pairwise_mergeSort (le:=λx y=> !(ltOf qL) y x) (λa b c h1 h2=>by
  simp only [Bool.not_eq_true'] at*;exact ZY.ntrans _ _ _ h2 h1) (λa b=>by
  simp only [Bool.or_eq_true,Bool.not_eq_true',ry,decide_eq_false_iff_not];omega) ts
 exact h.imp λh=>by simpa using h
theorem gb {a b:List (Int×Int)} (h:a.Perm b):bS a=bS b:=
 List.Perm.eq_of_pairwise (λx y _ _ h1 h2=>QT x y h2 h1) (gy a) (gy b) (((cd a).trans h).trans (cd b).symm)
theorem nK {v:Value} (ts:List (Int×Int)) (hsz:ts.length<4611686018427387904) (w0 w:World) (F:ak) {K:Value->World->Prop} (s:St w0 (F*own 164 2 v ts.length (ts.flatMap dz)) w)
  (hk:∀r w',St w0 (F*own 164 2 v ts.length ((bS ts).flatMap dz)) w'->K r w'):
  aj Tryz.prog 143 [v,.func (.func 144) #[] #[]] K w:=by
 have h:=Mu Ms 2 Tryz.isAgg164 Tryz.sizeOf164 dz (λ_=>rfl) (λx v hv=>by simp at hv;rcases hv with rfl|rfl<;>rfl) qL ZY QT 144
  (enters_of Tryz.func144 (by kernel_rfl) rfl) CQ hsz s
 refine Calls.mono h ?_;rintro e w' ⟨rfl,s'⟩;exact ⟨_,rfl,hk _ _ s'⟩
end Go.HL.Wh
namespace Go.HL.Wh
open Go.HL Go.Proofs
def rN (top last l:Nat):Tm->Bool:=if l<=top then vD l 0 else vD top (last+1)
theorem Fc (p now to mv0:Nat) (ts:List Tm) (w0 w:World) (A:ak) {Q:EX->List Value->World->Prop} (l top last:Nat) (v x2 x3 x8 x9 x10 x11 x12:Value) (hp:R9 now to mv0 ts) (htl:fQ to now=(top,last)) (hl:l<=top)
  (s:St w0 (A*rI p to mv0 ts (vD l 0) v) w)
  (hk:∀v' y8 y9 y10 y11 y12 w',St w0 (A*rI p to mv0 ts (rN top last (l+1)) v') w'->Q .nrm [.pointer (some ⟨p,0,none⟩),.int .i64 to,x2,x3,.int .i64 top,.int .i64 last,v',.int .i64 l,y8,y9,y10,y11,y12] w'):
  (HC.block 2 nC).wp U2 Q [.pointer (some ⟨p,0,none⟩),.int .i64 to,x2,x3,.int .i64 top,.int .i64 last,v,.int .i64 l,x8,x9,x10,x11,x12] w:=by
 have hbd:=lF to now;rw [htl] at hbd;obtain ⟨ht4,hl64,h40⟩:=hbd;simp only at ht4 hl64 h40;simp;refine gr (λenv w'=>∃(i:Nat) (v y8 y9 y10 y12:Value),env= [.pointer (some ⟨p,0,none⟩),.int .i64 to,x2,x3,.int .i64 top,.int .i64 last,v,.int .i64 l,y8,y9,y10,.int .i64 i,y12]/\i<=64/\(l=4->i<=1)/\(l=top->i<=last+1)/\St w0 (A*rI p to mv0 ts (vD l i) v) w') (λenv _=>64 -ay env 11)
  ⟨0,v,x8,x9,x10,x12,rfl,by omega,by omega,by omega,s⟩ ?_
 rintro LQ env w' ⟨i,v,y8,y9,y10,y12,rfl,hi,hi4,hit,s'⟩ hN hE hR;simp;refine aR (λh=> ?_) (λh=> ?_)
 ·simp at h
  simp;refine ⟨λg=> ?_,?_⟩
  ·rw [if_pos g]
   by_cases e:(l:Int)=top<;>simp [e]
  have hb:oa (if¬(l:Int)=4\/i=0 then Value.bool (decide ((l:Int)=top)) else Value.tuple #[]) true=(decide (¬(l:Int)=4\/i=0)&&decide ((l:Int)=top)):=by
   split
   ·rename_i g
    simp [g]
   ·rename_i g
    simp [g];rfl
  rw [hb];refine aR (λh2=> ?_) (λh2=> ?_)
  ·simp at h2
   have h3:l=top/\i=last+1:=by
    by_cases e:l=4
    ·have g1:=h40 (by omega)
     have g2:=hi4 e;omega
    ·omega
   simp;refine hE _ _ _ ?_;simp;refine hk _ _ _ _ _ _ _ ?_;have:rN top last (l+1)=vD l i:=by unfold rN;rw [if_neg (by omega),h3.1,h3.2]
   rw [this];exact s'
  ·simp at h2
   have hv:nW now to (l,i):=by
    unfold nW;rw [htl];simp only
    by_cases e:l=4
    ·have g1:=h40 (by omega)
     omega
    ·omega
   have h4:l=4->i=0:=by intro e;omega
   show HC.wp U2 nB _ _ _;refine Jk p now to mv0 ts w0 w' A l i v x2 x3 (.int .i64 top) (.int .i64 last) y9 y10 (.int .i64 i) y12 hp (by omega) (by omega) h4 hv s' λv' z9 z10 z12 w3 s3=> ?_;simp
   try simp (disch:=omega) only [wrap64]
   refine hN _ _ ⟨i+1,v',.int .i64 i,z9,z10,z12,by simp,by omega,λe=>by have:=h4 e;omega,λe=> ?_,s3⟩ (by simp [ay];omega);unfold nW at hv;rw [htl] at hv;simp only at hv;omega
 ·simp at h
  have hi:i=64:=by omega
  subst hi;simp;refine hE _ _ _ ?_;simp;refine hk _ _ _ _ _ _ _ ?_
  by_cases e:l=top
  ·have:rN top last (l+1)=vD l 64:=by unfold rN;rw [if_neg (by omega),e,show last+1=64 from Nat.le_antisymm hl64 (hit e)]
   rw [this];exact s'
  ·have:rN top last (l+1)=vD (l+1) 0:=by unfold rN;rw [if_pos (by omega)]
   rw [this,<-qe (Fk hp.pl l)];exact s'
theorem Je {now:Nat} {ts:List Tm} (h:kS now ts):j6 now ts=ts/\ug now ts= []/\kh now ts= []:=by
 have hg:∀t∈ts,j2 t now=t:=λt ht=>by obtain ⟨p1,p2⟩:=h.pl t ht;exact uY p1.symm p2.symm
 refine ⟨?_,?_,?_⟩
 ·unfold j6
  rw [List.filter_eq_self.2 (λt ht=>by simpa using h.ah t ht)];exact (List.map_congr_left (g:=id) hg).trans (List.map_id _)
 ·exact List.filter_eq_nil_iff.2 λt ht=>by have:=h.ah t ht;simp;omega
 ·exact List.filter_eq_nil_iff.2 λt ht=>by have:=(h.pl t ht).1;simp [rT,this]
theorem yA (p now mv:Nat) (ts:List Tm) (to:Int) (w0 w:World) (A:ak) {K:Value->World->Prop} (hpl:kS now ts) (hnow:now<=1099511627776) (hlen:ts.length<=65536) (hmv:mv<=2305843009213693952)
  (s:St w0 (A*iK p now mv ts) w)
  (hk:∀r w',(if now<=to/\to<=1099511627776 then∃v,r= .tuple #[v,.int .i64 0]/\St w0 (A*iK p to.toNat (mv+(kh to.toNat ts).length) (j6 to.toNat ts)*outs v (bS ((ug to.toNat ts).map fx))) w' else r= .tuple #[.slice none 0 0,.int .i64 90]/\St w0 (A*iK p now mv ts) w')->K r w'):
  aj Tryz.prog 137 [.pointer (some ⟨p,0,none⟩),.int .i64 to] K w:=by
 refine cN Ox (by simp [Ue]) ?_;simp [Ue];obtain ⟨am,aes,ac,Y,hok,t1⟩:=yz s;refine ag (v:= .int .i64 now) (t1.ab 0 _ rfl) ?_;simp;refine aR (λc2=> ?_) (λc2=> ?_)
 ·simp at c2
  simp;refine hk _ _ ?_;rw [if_neg (by omega)];exact ⟨rfl,s⟩
 simp at c2;obtain ⟨to,rfl⟩:∃a:Nat,to=a:=⟨to.toNat,by omega⟩;have hc:(now:Int)<=to/\(to:Int)<=1099511627776:=by omega
 simp only [if_pos hc,Int.toNat_natCast] at hk;simp;refine ag (v:= .int .i64 now) (t1.ab 0 _ rfl) ?_;simp;refine aR (λc3=> ?_) (λc3=> ?_)
 ·simp at c3
  have c3:to=now:=by omega
  subst c3;simp;obtain ⟨r1,r2,r3⟩:=Je hpl;rw [r1,r2,r3] at hk;refine hk _ _ ⟨_,rfl,?_⟩;rw [show bS (List.map fx [])= [] by simp [bS]];exact s.aD 164 2
 simp at c3;have hlt:now<to:=by omega
 simp;refine ag (v:= .int .i64 now) (t1.ab 0 _ rfl) ?_;simp;refine ⟨⟨by omega,by omega⟩,?_⟩;obtain ⟨top,last,htl⟩:∃top last,fQ to now=(top,last):=⟨_,_,rfl⟩;rw [htl];simp;refine cy t1 rfl (by simp [nP]) ?_;intro w2 s2;have e:(wP now mv am Y).toArray.setIfInBounds 0 (.int .i64 to)=(wP to mv am Y).toArray:=by simp [wP]
 rw [e] at s2;have hp:R9 now to mv ts:=⟨hpl,hlt,by omega,hlen,hmv⟩;have hD0:∀t:Tm,vD 0 0 t=false:=λt=>by simp [vD]
 have e1:dY to (vD 0 0) ts=ts:=by unfold dY;rw [List.filter_eq_self.2 (λt ht=>by simp [hD0])];exact (List.map_congr_left (g:=id) λt ht=>by simp [hD0]).trans (List.map_id _)
 have e2:rW to (vD 0 0) ts= []:=List.filter_eq_nil_iff.2 λt ht=>by simp [hD0]
 have e3:iQ to (vD 0 0) ts= []:=List.filter_eq_nil_iff.2 λt ht=>by simp [hD0]
 have s3:St w0 (A*rI p to mv ts (vD 0 0) (.slice none 0 0)) w2:=by refine tH (os:= []) (by rw [e2];exact List.Perm.refl _) ?_;rw [e1,e3];have s4:=oJ hok s2;rw [show outs (.slice none 0 0) []=own 164 2 (.slice none 0 0) 0 [] from rfl];exact (s4.aD 164 2).to (by show A*iK p to mv ts*_=A*_*iK p to mv ts;ac_rfl)
 simp;have hbd:=lF to now;rw [htl] at hbd;obtain ⟨ht4,hl64,h40⟩:=hbd;simp only at ht4 hl64 h40;refine gr (λenv w'=>∃(l:Nat) (v y8 y9 y10 y11 y12:Value),env= [.pointer (some ⟨p,0,none⟩),.int .i64 to,.slice none 0 0,.int .i64 0,.int .i64 top,.int .i64 last,v,.int .i64 l,y8,y9,y10,y11,y12]/\l<=top+1/\St w0 (A*rI p to mv ts (rN top last l) v) w') (λenv _=>top+1 -ay env 7)
  ⟨0,_,_,_,_,_,_,rfl,by omega,by rw [show rN top last 0=vD 0 0 from rfl];exact s3⟩ ?_
 rintro LQ env w' ⟨l,v,y8,y9,y10,y11,y12,rfl,hl,s'⟩ hN hE hR;simp;refine aR (λh=> ?_) (λh=> ?_)
 ·simp at h
  show HC.wp U2 (.block 2 nC) _ _ _;refine Fc p now to mv ts w0 w' A l top last v _ _ y8 y9 y10 y11 y12 hp htl (by omega) ?_ λv' z8 z9 z10 z11 z12 w3 s4=> ?_
  ·rw [show rN top last l=vD l 0 from if_pos (by omega)] at s';exact s'
  show HC.wp U2 uO LQ _ _;simp
  try simp (disch:=omega) only [wrap64]
  exact hN _ _ ⟨l+1,v',z8,z9,z10,z11,z12,by simp,by omega,s4⟩ (by simp [ay];omega)
 ·simp at h
  simp;refine hE _ _ _ ?_;simp;have hl2:l=top+1:=by omega
  subst hl2;have hvis:∀t∈ts,rN top last (top+1) t=true↔nW now to (t.l,t.s):=by intro t ht;unfold rN nW;rw [if_neg (by omega),htl];simp only [vD,Bool.or_eq_true,Bool.and_eq_true,decide_eq_true_eq];omega
  obtain ⟨q1,q2,q3⟩:=NM hpl hlt hvis;obtain ⟨os,hos,s5⟩:=F7 s';rw [q1,q3] at s5;rw [q2] at hos;have hol:os.length<=65536:=by have h1:=hos.length_eq;rw [List.length_map] at h1;have h2:(ug to ts).length<=ts.length:=List.length_filter_le _ _;omega
  rw [show outs v os=own 164 2 v os.length (os.flatMap dz) from rfl] at s5;refine ad (nK os (by omega) w0 w' (A*iK p to (mv+(kh to ts).length) (j6 to ts)) (s5.to (by ac_rfl)) λr w6 s6=> ?_);simp;refine hk _ _ ⟨v,rfl,?_⟩;have e4:outs v (bS ((ug to ts).map fx))=own 164 2 v os.length ((bS os).flatMap dz):=by rw [<-gb hos];show own _ 2 v (bS os).length _=_;rw [gg]
  rw [e4];exact s6
def fnd (ts:List Tm) (n:Int):Option Tm:=ts.find? λt=>decide (t.n=n)
def fcs:Option Tm->List Value
 |none=> [.int .i64 0,.int .i64 0,.int .i64 0,.int .i64 0]
 |some t=>t.cs
def fer:Option Tm->Int
 |none=>93
 |some _=>0
def fat:Option Tm->Nat
 |none=>0
 |some t=>t.a
def fpl:Option Tm->Nat×Nat
 |none=>(0,0)
 |some t=>(t.l,t.s)
abbrev aha (ts:List Tm):List (Int×Value):=ts.map λt=>(t.n,.int .i64 t.a)
def kv (es:List En):List (Int×Value):=es.map λe=>(e.k,e.v)
structure Ml (es:List En) (c:Nat) (ts:List Tm):Prop where
 ok:Fp es c
 eq:kv es=aha ts
theorem Ml.add {es:List En} {c:Nat} {ts:List Tm} (h:Ml es c ts) {t:Tm} (hf:∀u∈ts,u.n≠t.n):Ml (es++ [⟨t.n,.int .i64 t.a,c⟩]) (c+1) (ts++ [t]):=by
 have hn:aY es t.n=none:=by rw [h.get,fnd,List.find?_eq_none.2 (λu hu=>by simpa using hf u hu)];rfl
 refine ⟨vt h.ok hn _,?_⟩;have:=h.eq;unfold kv aha at this⊢;rw [List.map_append,List.map_append,this];rfl
theorem Gw {ts:List Tm} (h:(ts.map (·.n)).Nodup) {t:Tm} (ht:t∈ts):fnd ts t.n=some t:=Cc h ht
abbrev gia (to:Nat) (ts:List Tm):List (Int×Int):=bS ((ug to ts).map fx)
section
variable {now to:Nat} {ts:List Tm}
def eha (L:List (Int×Int)) (k:Nat) (ts:List Tm):List Tm:=ts.filter λt=>decide (t.n∉(L.take k).map (·.1))
end
def lvs (ts:List Tm):Nat:=(ts.map (·.l)).sum
theorem mT:nT Tryz.prog 293 3 3 (.int .i64 0):=⟨by kernel_rfl,by kernel_rfl,by kernel_rfl⟩
abbrev ega (lb:Nat) (x:Int×Int):ak:=pt lb (.cells (dz x).toArray 164 (0,0))
theorem IU {es:List En} {seen:Array Nat} {e:En} (he:e∈es) (hn:e.b∉seen):(cV es (seen.push e.b)).length+1<=(cV es seen).length:=by
 have e1:cV es (seen.push e.b)=(cV es seen).filter λx=> !decide (x.b=e.b):=by unfold cV;rw [List.filter_filter];refine List.filter_congr λx _=> ?_;rw [Bool.eq_iff_iff];simp [and_comm]
 rw [e1];refine Nat.lt_of_le_of_ne (List.length_filter_le _ _) λh=> ?_;have h2:=(List.length_filter_eq_length_iff.1 h) e (List.mem_filter.2 ⟨he,by simpa using hn⟩);simp at h2
theorem Fa (es:List En):(cV es #[]).length+(#[]:Array Nat).size<=es.length:=by exact List.length_filter_le (λe:En=> !(#[]:Array Nat).contains e.b) es
def l93:ai:=⟨[0,2,3,5,12],27,[.slot 1],aN tG [] 0xb39e79bffdd00bf89a63530809008d282b6eb2db2773b8a2dd1082cb840220d126ccf304d34c43001305d310c00710c09e2737566cce0439b3381c44208081a2f0af02271b566ccc0589b3301c443cf0409dcee2df8126cce304d34f00180d3c006f009f74850a8bc0b2fff748505c6d5f0f198f0f1a7dd2141⟩
theorem VT:af U2 93 400=some l93:=by kernel_rfl
def aga (now:Nat) (L:List (Int×Int)) (n a:Int):Int:=if n<1 then 2 else if a<=now\/1099511627776<a then 90 else if¬∀u∈L,u.1≠n then 92 else if 65536<=L.length then 91 else 0
def frE (now:Nat):List (Int×Int)->List (Int×Int)->Int
 |_,[]=>0
 |L,x::r=>if aga now L x.1 x.2=0 then frE now (L++ [x]) r else aga now L x.1 x.2
theorem kS.sch {now:Nat} {ts:List Tm} (h:kS now ts) {n a:Int} (b:Nat) (hs:pP now ts n a=0):kS now (ts++ [j2 ⟨n,a.toNat,0,0,b⟩ now]):=by
 obtain ⟨h1,h2,h3,h4,h5⟩:=gS.1 hs;refine ⟨?_,λt ht=> ?_,λt ht=> ?_,λt ht=> ?_⟩
 ·rw [List.map_append]
  refine List.nodup_append.2 ⟨h.num,by simp,λx hx y hy=> ?_⟩;obtain ⟨u,hu,rfl⟩:=List.mem_map.1 hx;simp at hy;subst hy;exact h4 u hu
 all_goals
  rcases List.mem_append.1 ht with ht|ht
 ·exact h.pl t ht
 ·rw [List.mem_singleton.1 ht];exact ⟨rfl,rfl⟩
 ·exact h.ah t ht
 ·rw [List.mem_singleton.1 ht];show now<a.toNat;omega
 ·exact h.bd t ht
 ·rw [List.mem_singleton.1 ht];exact ⟨by show a.toNat<=_;omega,h1⟩
theorem HE {now:Nat} {ts:List Tm} {n a:Int} (b:Nat) (hs:pP now ts n a=0):(ts++ [j2 ⟨n,a.toNat,0,0,b⟩ now]).map fx=ts.map fx++ [(n,a)]:=by
 obtain ⟨h1,h2,h3,h4,h5⟩:=gS.1 hs;rw [List.map_append];have:((a.toNat:Nat):Int)=a:=by omega
 simp [fx,j2,this]
abbrev gya (b:Nat) (x:Int×Int):ak:=pt b (.cells (dz x).toArray 164 (0,0))
def W9 (ts:List Tm) (e:En):Int×Int:=match fnd ts e.k with
 |some t=>fx t
 |none=>(0,0)
theorem SA {aes:List En} {ts:List Tm} (hn:(ts.map (·.n)).Nodup) (h:aes.map (λe=>(e.k,e.v))=ts.map λt=>(t.n,tp t)):aes.map (W9 ts)=ts.map fx:=by
 have h1:aes.map (·.k)=ts.map (·.n):=by
  have:=congrArg (List.map Prod.fst) h
  simpa [Function.comp_def] using this
 have h2:aes.map (W9 ts)=(aes.map (·.k)).map λn=>match fnd ts n with
  |some t=>fx t
  |none=>(0,0):=by rw [List.map_map];rfl
 rw [h2,h1,List.map_map];refine List.map_congr_left λt ht=> ?_;simp [Gw hn ht]
theorem Zb {aes:List En} {ts:List Tm} (hn:(ts.map (·.n)).Nodup) (h:aes.map (λe=>(e.k,e.v))=ts.map λt=>(t.n,tp t)) {e:En} (he:e∈aes):∃t∈ts,e.v=tp t/\W9 ts e=fx t:=by
 have h1:(e.k,e.v)∈ts.map λt=>(t.n,tp t):=by rw [<-h];exact List.mem_map.2 ⟨e,he,rfl⟩
 obtain ⟨t,ht,h2⟩:=List.mem_map.1 h1;refine ⟨t,ht,(congrArg Prod.snd h2).symm,?_⟩;have:e.k=t.n:=(congrArg Prod.fst h2).symm;unfold W9;rw [this,Gw hn ht]
theorem H3 {es:List En} (h:(es.map (·.b)).Nodup) {e:En} (he:e∈es):es.filter (λx=>decide (x.b=e.b))= [e]:=by
 induction es with
 |nil=>cases he
 |cons x r ih=>
  rw [List.map_cons,List.nodup_cons] at h;rcases List.mem_cons.1 he with rfl|he
  ·have:r.filter (λx=>decide (x.b=e.b))= []:=List.filter_eq_nil_iff.2 λy hy g=>h.1 (List.mem_map.2 ⟨y,hy,of_decide_eq_true g⟩)
   simp [this]
  ·have hne:x.b≠e.b:=λg=>h.1 (List.mem_map.2 ⟨e,he,g.symm⟩)
   rw [List.filter_cons_of_neg (by simpa using hne)];exact ih h.2 he
theorem IT {es:List En} {seen:Array Nat} {e:En} (hb:(es.map (·.b)).Nodup) (he:e∈es) (hn:e.b∉seen):(cV es seen).Perm (e::cV es (seen.push e.b)):=by
 have h1:(cV es seen).filter (λx=>decide (x.b=e.b))= [e]:=
  H3 (hb.sublist (List.filter_sublist.map _)) (List.mem_filter.2 ⟨he,by simpa using hn⟩)
 have h2:(cV es seen).filter (λx=> !decide (x.b=e.b))=cV es (seen.push e.b):=by unfold cV;rw [List.filter_filter];refine List.filter_congr λx _=> ?_;rw [Bool.eq_iff_iff];simp [and_comm]
 have h3:=List.filter_append_perm (λx:En=>decide (x.b=e.b)) (cV es seen);rw [h1,h2] at h3;exact h3.symm
theorem JC (p now mv:Nat) (ts:List Tm) (w0 w:World) (A:ak) {K:Value->World->Prop} (hlen:ts.length<=65536) (s:St w0 (A*iK p now mv ts) w)
  (hk:∀v w',St w0 (A*iK p now mv ts*outs v (bS (ts.map fx))) w'->K v w'):
  aj Tryz.prog 93 [.pointer (some ⟨p,0,none⟩)] K w:=by
 refine aG VT (by simp [l93]) ?_;simp [l93];obtain ⟨am,aes,ac,Y,hok,t1⟩:=yz s;refine ag (v:= .map (some am)) (t1.ab 2 _ rfl) ?_;simp;refine uk mA.ty t1 t1.drop.look ?_;intro b w1 s1;simp;have K0:=SA hok.num hok.alls;have hal:aes.length=ts.length:=by have:=congrArg List.length hok.alls;simpa using this
 have s1:St w0 (A*bt ts*cZ fI Y 257*wc p now mv am Y*outs (.slice none 0 0) []*ao am aes ac*pt b (.mapIter (some am) ac #[] ac)) w1:=by rw [show outs (.slice none 0 0) []=own 164 2 (.slice none 0 0) 0 [] from rfl];exact (s1.aD 164 2).to (by ac_rfl)
 refine gr (λenv w'=>∃(seen:Array Nat) (v x:Value) (L:List (Int×Int)),env= [.pointer (some ⟨p,0,none⟩),.slice none 0 0,v,x,.pointer (some ⟨b,0,none⟩)]/\(cV aes seen).length+seen.size<=aes.length/\(L++(cV aes seen).map (W9 ts)).Perm (ts.map fx)/\
   St w0 (A*bt ts*cZ fI Y 257*wc p now mv am Y*outs v L*ao am aes ac*pt b (.mapIter (some am) ac seen ac)) w') (λ_ w'=>aes.length+1 -lQ w' b)
  ⟨#[],_,_,[],rfl,Fa aes,by rw [<-K0,show cV aes #[]=aes from List.filter_eq_self.2 (by simp)];simp,s1⟩ ?_
 rintro LQ env w' ⟨seen,v,x,L,rfl,hcnt,hperm,s'⟩ hN hE hR;have hseen:lQ w' b=seen.size:=by unfold lQ;rw [s'.look]
 have hLl:L.length<=65536:=by have:=hperm.length_eq;simp at this;omega
 simp;refine uj s' hok.aok.lt (λe he hns w2 s2=> ?_) (λhall w2 s2=> ?_)
 ·simp
  refine zc s2 he hok.aok.bn ?_;obtain ⟨t,ht,hev,hen⟩:=Zb hok.num hok.alls he;rw [hev];simp;have s3:=s2;rw [kK hok.num ht] at s3;have s3:=s3.to (B:=A*bt (eB ts t.n)*cZ fI Y 257*wc p now mv am Y*outs v L*ao am aes ac*pt b (.mapIter (some am) ac (seen.push e.b) ac)*iJ t) (by ac_rfl);refine aC (vs:=dz (fx t)) (λj y hy=> ?_) rfl ?_
  ·have hj:t.cs[j]?=some y:=by
    match j,hy with
    |0,hy=>exact hy
    |1,hy=>exact hy
   exact s3.ab j y hj
  simp;refine bx s3 rfl ?_;intro c w3 s4;simp;refine bU (m:=1) (news:=dz (fx t)) (s4.to (B:=A*bt (eB ts t.n)*cZ fI Y 257*wc p now mv am Y*ao am aes ac*pt b (.mapIter (some am) ac (seen.push e.b) ac)*iJ t*pt c (.cells (dz (fx t)).toArray 164 (0,0))*outs v L) (by ac_rfl)) rfl s4.aL (λy hy=>by simp at hy;rcases hy with rfl|rfl<;>rfl) (by decide) rfl (by unfold maxLen;omega) (by omega) ?_;intro v2 w4 s5;simp;have e2:own 164 2 v2 (L.length+1) (L.flatMap dz++dz (fx t))=outs v2 (L++ [fx t]):=by show _=own _ 2 v2 (L++ [fx t]).length ((L++ [fx t]).flatMap dz);rw [List.length_append,List.flatMap_append];simp
  rw [e2] at s5;have s6:St w0 (A*bt ts*cZ fI Y 257*wc p now mv am Y*outs v2 (L++ [fx t])*ao am aes ac*pt b (.mapIter (some am) ac (seen.push e.b) ac)) w4:=by rw [kK hok.num ht];exact St.cut (pt c (.cells (dz (fx t)).toArray 164 (0,0))) s5 (by show _=A*(bt (eB ts t.n)*iJ t)*cZ fI Y 257*wc p now mv am Y*outs v2 (L++ [fx t])*ao am aes ac*pt b (.mapIter (some am) ac (seen.push e.b) ac)*_;ac_rfl)
  have hleft:=IU he hns;refine hN _ _ ⟨seen.push e.b,v2,_,L++ [fx t],by simp;rfl,?_,?_,s6⟩ ?_
  ·rw [Array.size_push];omega
  ·have h3:=(IT hok.aok.bn he hns).map (W9 ts)
   rw [List.map_cons,hen] at h3;rw [List.append_assoc];exact ((h3.append_left L).symm).trans hperm
  ·have h1:lQ w4 b=seen.size+1:=by unfold lQ;rw [s6.look];exact Array.size_push _
   rw [h1,hseen];omega
 ·simp
  refine hE _ _ _ ?_;simp;have hnil:cV aes seen= []:=List.filter_eq_nil_iff.2 λe he=>by simpa using hall e he
  rw [hnil] at hperm;have hperm:L.Perm (ts.map fx):=by simpa using hperm
  have s3:St w0 (A*iK p now mv ts*outs v L) w2:=(oJ hok ((s2.drop).to (B:=A*outs v L*bt ts*cZ fI Y 257*ao am aes ac*wc p now mv am Y) (by ac_rfl))).to (by ac_rfl);refine ad (nK L (by omega) w0 w2 (A*iK p now mv ts) s3 λr w3 s4=> ?_);simp;refine hk _ _ ?_;have e4:outs v (bS (ts.map fx))=own 164 2 v L.length ((bS L).flatMap dz):=by rw [<-gb hperm];show own _ 2 v (bS L).length _=_;rw [gg]
  rw [e4];exact s4
end Go.HL.Wh
namespace Go.HL.Mr
open Go.HL Go.HL.Tl Go.HL.Sr Go.HL.Es Go.HL.St1 Go.HL.Wh Go.Proofs
abbrev Nd:=Int×Int
def dl (cs:List PC):List Nd:=cs.map λc=>(c.num,c.dead)
abbrev iU (k:Int) (l:List Nd):List Nd:=l.filter λx=>decide (x.2<=k)
abbrev iW (k:Int) (l:List Nd):List Nd:=l.filter λx=>decide (k<x.2)
structure MS where
 now:Nat
 mv:Nat
 ts:List Tm
 bl:List Int
structure MI (S:ST) (M:MS):Prop where
 now:(M.now:Int)=S.clock
 pl:kS M.now M.ts
 ts:(M.ts.map fx).Perm (iW S.clock (dl S.cs))
 bl:M.bl=(bS (iU S.clock (dl S.cs))).map (·.1)
theorem Mt {a b:List Nd} {k:Int} (ha:∀x∈a,x.2<=k) (hb:∀x∈b,k<x.2):bS (a++b)=bS a++bS b:=by refine List.Perm.eq_of_pairwise (λx y _ _ h1 h2=>QT x y h2 h1) (gy _) ?_ ((cd _).trans ((cd a).symm.append (cd b).symm));refine List.pairwise_append.2 ⟨gy a,gy b,λx hx y hy=> ?_⟩;have h1:=ha x ((cd a).mem_iff.1 hx);have h2:=hb y ((cd b).mem_iff.1 hy);rw [ry];simp;omega
theorem Di (p:Nd->Bool) (a:List Nd):bS (a.filter p)=(bS a).filter p:=
 List.Perm.eq_of_pairwise (λx y _ _ h1 h2=>QT x y h2 h1) (gy _) ((gy a).filter p) ((cd _).trans ((cd a).symm.filter p))
theorem L8 (to:Nat) (ts:List Tm):(j6 to ts).map fx=iW to (ts.map fx):=by
 unfold j6 iW;rw [List.map_map,List.filter_map];have e:(λx:Nd=>decide ((to:Int)<x.2))∘fx=λt=>decide (to<t.a):=by funext t;simp [fx]
 rw [e];rfl
theorem NC (to:Nat) (ts:List Tm):(ug to ts).map fx=iU to (ts.map fx):=by
 unfold ug iU;rw [List.filter_map];have e:(λx:Nd=>decide (x.2<=(to:Int)))∘fx=λt=>decide (t.a<=to):=by funext t;simp [fx]
 rw [e]
theorem QR (n:Int) (ts:List Tm):(eB ts n).map fx=(ts.map fx).filter λx=>decide (x.1≠n):=by unfold eB;rw [List.filter_map];rfl
theorem Wi {now:Nat} {ts:List Tm} (h:kS now ts) (n:Int):kS now (eB ts n) where
 num:=h.num.sublist (List.filter_sublist.map _)
 pl t ht:=h.pl t (List.mem_filter.1 ht).1
 ah t ht:=h.ah t (List.mem_filter.1 ht).1
 bd t ht:=h.bd t (List.mem_filter.1 ht).1
def Gz (M:MS) (to:Nat):MS:=⟨to,M.mv+(kh to M.ts).length,j6 to M.ts,M.bl++(bS ((ug to M.ts).map fx)).map (·.1)⟩
theorem RI {S:ST} {M:MS} (h:MI S M) {to:Nat} (ht:S.clock<=to):MI {S with clock:=to} (Gz M to) where
 now:=rfl
 pl:=h.pl.rest
 ts:=by show ((j6 to M.ts).map fx).Perm (iW to (dl S.cs));rw [L8];refine (h.ts.filter _).trans ?_;rw [List.filter_filter];refine .of_eq (List.filter_congr λx _=> ?_);simp;omega
 bl:=by
  show M.bl++(bS ((ug to M.ts).map fx)).map (·.1)=(bS (iU to (dl S.cs))).map (·.1);rw [h.bl,NC,gb (h.ts.filter _),List.filter_filter,<-List.map_append,<-Mt (k:=S.clock) (λx hx=>by simpa using (List.mem_filter.1 hx).2) (λx hx=>by have:=(List.mem_filter.1 hx).2;simp at this;exact this.2)]
  congr 1
  refine gb ?_;have:=List.filter_append_perm (λx:Nd=>decide (x.2<=S.clock)) (iU to (dl S.cs));refine (.trans ?_ this);rw [List.filter_filter,List.filter_filter];refine .of_eq (congr (congrArg _ (List.filter_congr λx _=> ?_)) (List.filter_congr λx _=> ?_))
  ·rw [Bool.eq_iff_iff];simp only [Bool.and_eq_true,decide_eq_true_eq];omega
  ·rw [Bool.eq_iff_iff];simp only [Bool.and_eq_true,Bool.not_eq_true',decide_eq_true_eq,decide_eq_false_iff_not];omega
theorem Ku {S:ST} (h:SI S):((dl S.cs).map (·.1)).Nodup:=by have:=h.base.nodup;unfold cQ at this;unfold dl;rw [List.map_map];exact this
end Go.HL.Mr
