/- Part 7. -/
import Derived.Test.YtpldhemgcoimaaaGreatMEMf
import Derived.Shelf.SlSortCmp.NoneTotal
set_option linter.unusedSimpArgs false
set_option linter.unusedVariables false
set_option maxRecDepth 4000
namespace Go.HL
open Go.HL Go.Proofs Go.Sort Go.Shelf
theorem St.ahead {w0 w:World} {A:ak} (s:St w0 A w) (n:Nat):St w0 A (Sort.ahead w n):=⟨s.os,s.out,s.size,⟨s.ran.1,Nat.le_trans s.ran.2 (Nat.le_add_right _ _)⟩,s.holds⟩
theorem St.grow {w0 w:World} {A:ak} (s:St w0 A w) (os:Array Obj):St w0 A (Sort.grow w os):=by
 obtain ⟨g,h1,h2⟩:=s.holds;refine ⟨s.os,s.out,?_,s.ran,g,λb o hb=> ?_,h2⟩
 ·have:=s.size;simp only [size_grow];omega
 ·have h3:w.heap[b]? =some o:=h1 b o hb
  have:=(Array.getElem?_eq_some_iff.1 h3).1;show (w.heap++os)[b]? =some o;rw [Array.getElem?_append_left this];exact h3
theorem St.grown {W w':World} (s:St W (ox W) w'):∃q os',w'=Sort.grow (W.drewN q) os':=by
 refine ⟨w'.drawn -W.drawn,w'.heap.extract W.heap.size w'.heap.size,?_⟩;have hs:=s.size;have hh:w'.heap=W.heap++w'.heap.extract W.heap.size w'.heap.size:=by
  apply Array.ext_getElem?;intro i;rw [Array.getElem?_append];split
  ·rename_i hi
   have h0:W.heap[i]? =some W.heap[i]:=by simp [hi]
   rw [s.mS h0,h0]
  ·rename_i hi
   rw [Array.getElem?_extract];have e:W.heap.size+(i -W.heap.size)=i:=by omega
   rw [e];split
   ·rfl
   ·rename_i h2
    rw [Array.getElem?_eq_none (by omega)]
 cases w' with
 |mk heap tape drawn os output=>
  cases W with
  |mk heap0 tape0 drawn0 os0 output0=>
   have h1:=s.os;have h2:=s.out;have h3:=s.ran.1;have h4:=s.ran.2;simp only at h1 h2 h3 h4 hh;subst h1;subst h2;subst h3;unfold Sort.grow World.drewN;simp only [World.mk.injEq,and_true,true_and];exact ⟨hh,by omega⟩
theorem uR {α:Type} [Inhabited α] (enc:α->List Value) (k:Nat) (hk:∀x,(enc x).length=k) (ts:List α):(flatK enc k ts.toArray).toList=ts.flatMap enc:=by
 apply List.ext_getElem?;intro j;have hl:=cY enc k hk ts
 by_cases hj:j<ts.length*k
 ·have k0:0<k:=by
   rcases Nat.eq_zero_or_pos k with h|h
   ·subst h;simp at hj
   ·exact h
  have hd:j /k<ts.length:=(Nat.div_lt_iff_lt_mul k0).2 hj;have hm:=Nat.mod_lt j k0;have hg:=get_flatK enc k ts.toArray j (by simpa using hj);have hsz:(flatK enc k ts.toArray).size=ts.length*k:=by simp
  rw [Array.getElem?_toList,Array.getElem?_eq_getElem (by rw [hsz];exact hj),<-getElem!_pos (flatK enc k ts.toArray) j (by rw [hsz];exact hj),hg];have h2:=dJ enc k hk ts (j /k) (j %k) hd hm;rw [Nat.mul_comm,Nat.div_add_mod] at h2;rw [h2];have e1:ts.toArray[j /k]! =ts[j /k]:=by rw [getElem!_pos ts.toArray (j /k) (by simpa using hd)];simp
  rw [e1,getElem!_pos (enc ts[j /k]) (j %k) (by rw [hk];exact hm)];exact (List.getElem?_eq_getElem _).symm
 ·rw [List.getElem?_eq_none (by simp;omega),List.getElem?_eq_none (by rw [hl];omega)]
theorem oy {α:Type} [Inhabited α] (enc:α->Value) (d:Array α) (c:Array Value) (h:d.size<=c.size):putCells enc 0 d c=(d.toList.map enc++c.toList.drop d.size).toArray:=by
 apply Array.ext';apply List.ext_getElem?;intro i;rw [List.toList_toArray,Array.getElem?_toList];unfold putCells;rw [Array.getElem?_mapIdx]
 by_cases hi:i<d.size
 ·have hi':i<c.size:=by omega
  rw [Array.getElem?_eq_getElem hi',List.getElem?_append_left (by simpa using hi)];simp [hi]
 ·rw [List.getElem?_append_right (by simp;omega)]
  simp only [List.length_map,Array.length_toList,List.getElem?_drop,Array.getElem?_toList];rw [show d.size+(i -d.size)=i by omega];cases c[i]? with
  |none=>rfl
  |some x=>simp [hi]
theorem MD {P:Program} {ρ:Ren} {α:Type} [Inhabited α] (L:SlLaysF0.n6 P ρ) (k:Nat) (aE:∀w,(isAgg (ρ.t 24)).run P w= .ok true w) (zE:∀w,(Go.sizeOf (ρ.t 24)).run P w= .ok k w) (enc:α->List Value) (hk:∀x,(enc x).length=k) (h1:∀x,∀v∈enc x,v.oneCell'=true)
  (cf:α->α->Int) (hO:SWO (ltOf cf)) (hT:∀x y,(ltOf cf) x y=false->(ltOf cf) y x=false->x=y) (g:Nat) (eg:∀args w,(callFunc g args).run P w= .ok (.enter g args) w)
  (hc:∀x y W,Calls P g #[.agg (enc x).toArray,.agg (enc y).toArray] W λe w'=>e= .returned (.int .i64 (cf x y))/\∃q os',w'=Sort.grow (W.drewN q) os')
  {e:TypeId} {v:Value} {ts:List α} (hsz:ts.length<4611686018427387904) {w0 w:World} {F:ak} (s:St w0 (F*own e k v ts.length (ts.flatMap enc)) w):
  Calls P (ρ.f 6) #[v,.func (.func g) #[] #[]] w λe' w'=>e'= .returned (.tuple #[])/\St w0 (F*own e k v ts.length ((ts.mergeSort λx y=> !(ltOf cf) y x).flatMap enc)) w':=by
 obtain ⟨hl,s'⟩:=s.own;rcases s' with ⟨hv,hn,s1⟩|⟨b,cap,cur,rfl,hcap,hm,hcur,hx,s1⟩
 ·have h0:=List.length_eq_zero_iff.1 hn
  subst h0;subst hv;refine (AnyF.slices_SortFunc_none L none 0 _ w).mono ?_;rintro e' w' ⟨he,rfl⟩;exact ⟨he,by simpa using s⟩
 ·have hb:=s1.look
  have hlt:=(Array.getElem?_eq_some_iff.1 hb).1;have hfl:=uR enc k hk ts;have hle:ts.length*k<=cur.size:=Nat.le_trans (Nat.mul_le_mul_right k hcap) hcur;have hH:HoldsK enc k w b 0 ts.toArray:=by
   intro j hj;have hj:j<ts.length*k:=by simpa using hj
   have hsz:(flatK enc k ts.toArray).size=ts.length*k:=by simp
   refine ⟨?_,by simp [World.frozen?,hb]⟩;have e1:(flatK enc k ts.toArray)[j]? =some ((flatK enc k ts.toArray)[j]!):=by rw [getElem!_pos (flatK enc k ts.toArray) j (by rw [hsz];exact hj)];simp [hj]
   rw [<-Array.getElem?_toList,hfl,<-hx,List.getElem?_take,if_pos hj] at e1;simp only [World.cell?,hb]
   simpa using e1
  have hcon:=AnyQ.slices_SortFunc_total L k aE zE enc hk h1 cf hO g #[] b 0 cap ts.toArray w eg (λm os dk _ x y=>hc x y _) hH hlt (by simpa using hsz) hT;refine Calls.mono (by simpa using hcon) ?_;rintro e' w' ⟨he,n,os,rfl⟩;refine ⟨he,?_⟩;unfold sortWorldK;refine St.grow ?_ os;obtain ⟨us,hus⟩:∃us,(ts.mergeSort λx y=> !(ltOf cf) y x)=us:=⟨_,rfl⟩;have hul:us.length=ts.length:=by rw [<-hus];exact List.length_mergeSort _
  rw [hus];have hfu:=uR enc k hk us;have s2:=s1.ahead n;have hb2:(Sort.ahead w n).heap[b]? =some (.cells cur e (0,0)):=hb;have hszu:(flatK enc k us.toArray).size=us.length*k:=by simp
  have hp:=oy id (flatK enc k us.toArray) cur (by rw [hszu,hul];exact hle);rw [List.map_id,hfu,hszu] at hp;have s3:St w0 (F*pt b (.cells (us.flatMap enc++cur.toList.drop (us.length*k)).toArray e (0,0))) (putRowK enc k (Sort.ahead w n) b 0 us.toArray):=by
   rw [<-hp];refine s2.om ?_ (λc hc=> ?_) (by simp [putRowK]) rfl rfl (λ_ _ _ h=>by cases h;rfl)
   ·show ((Sort.ahead w n).heap.modify b _)[b]? =_
    rw [Array.getElem?_modify,if_pos rfl,hb2];rfl
   ·show ((Sort.ahead w n).heap.modify b _)[c]? =_
    rw [Array.getElem?_modify,if_neg (Ne.symm hc)]
  have hfl2:=cY enc k hk us;refine s3.nP hcap hm ?_ ?_
  ·simp only [List.size_toArray,List.length_append,List.length_drop,Array.length_toList,hfl2]
   rw [hul];omega
  ·rw [List.toList_toArray,List.take_append_of_le_length (by rw [hfl2,hul];exact Nat.le_refl _),List.take_of_length_le (by rw [hfl2,hul];exact Nat.le_refl _)]
end Go.HL
namespace Go.HL.Wh
open Go.HL Go.Proofs Go.Sort
noncomputable def A7:Go.Shelf.Ren:=⟨fun|6=>143|15=>197|14=>198|28=>264|29=>265|20=>266|21=>267|22=>268|23=>269|24=>270|25=>271|26=>272|27=>273|46=>313|47=>309|48=>310|49=>314|50=>315|57=>330|n=>n,fun|22=>161|24=>164|25=>227|3=>3|39=>247|0=>0|53=>54|55=>27|4=>4|46=>328|45=>327|50=>141|5=>5|9=>9|66=>361|70=>364|76=>377|77=>265|n=>n,fun|n=>n⟩
theorem MB:Go.Proofs.SlLaysF0.n6 Tryz.prog A7:={
  mixed:=by kernel_rfl,
  f6:=⟨Tryz.f143.name,by decide,Tryz.func143.trans (congrArg some (by kernel_rfl))⟩,
  f14:=⟨Tryz.f198.name,by decide,Tryz.func198.trans (congrArg some (by kernel_rfl))⟩,
  f15:=Tryz.func197.trans (congrArg some (by kernel_rfl)),
  f20:=⟨Tryz.f266.name,by decide,Tryz.func266.trans (congrArg some (by kernel_rfl))⟩,
  f21:=⟨Tryz.f267.name,by decide,Tryz.func267.trans (congrArg some (by kernel_rfl))⟩,
  f22:=⟨Tryz.f268.name,by decide,Tryz.func268.trans (congrArg some (by kernel_rfl))⟩,
  f23:=⟨Tryz.f269.name,by decide,Tryz.func269.trans (congrArg some (by kernel_rfl))⟩,
  f24:=⟨Tryz.f270.name,by decide,Tryz.func270.trans (congrArg some (by kernel_rfl))⟩,
  f25:=⟨Tryz.f271.name,by decide,Tryz.func271.trans (congrArg some (by kernel_rfl))⟩,
  f26:=⟨Tryz.f272.name,by decide,Tryz.func272.trans (congrArg some (by kernel_rfl))⟩,
  f27:=⟨Tryz.f273.name,by decide,Tryz.func273.trans (congrArg some (by kernel_rfl))⟩,
  f28:=Tryz.func264.trans (congrArg some (by kernel_rfl)),
  f29:=Tryz.func265.trans (congrArg some (by kernel_rfl)),
  f46:=⟨Tryz.f313.name,by decide,Tryz.func313.trans (congrArg some (by kernel_rfl))⟩,
  f47:=Tryz.func309.trans (congrArg some (by kernel_rfl)),
  f48:=Tryz.func310.trans (congrArg some (by kernel_rfl)),
  f49:=⟨Tryz.f314.name,by decide,Tryz.func314.trans (congrArg some (by kernel_rfl))⟩,
  f50:=⟨Tryz.f315.name,by decide,Tryz.func315.trans (congrArg some (by kernel_rfl))⟩,
  f57:=⟨Tryz.f330.name,by decide,Tryz.func330.trans (congrArg some (by kernel_rfl))⟩,
  t0:=Tryz.underlying0,
  a0:=Tryz.isAgg0,
  z0:=Tryz.sizeOf0,
  v0:=Tryz.zeroValue0,
  t3:=Tryz.underlying3,
  a3:=Tryz.isAgg3,
  z3:=Tryz.sizeOf3,
  v3:=Tryz.zeroValue3,
  t4:=Tryz.underlying4,
  a4:=Tryz.isAgg4,
  z4:=Tryz.sizeOf4,
  v4:=Tryz.zeroValue4,
  t5:=Tryz.underlying5,
  a5:=Tryz.isAgg5,
  z5:=Tryz.sizeOf5,
  v5:=Tryz.zeroValue5,
  t9:=Tryz.underlying9,
  a9:=Tryz.isAgg9,
  z9:=Tryz.sizeOf9,
  v9:=Tryz.zeroValue9,
  t22:=Tryz.underlying161,
  a22:=Tryz.isAgg161,
  z22:=Tryz.sizeOf161,
  v22:=Tryz.zeroValue161,
  t25:=Tryz.underlying227,
  a25:=Tryz.isAgg227,
  z25:=Tryz.sizeOf227,
  v25:=Tryz.zeroValue227,
  t39:=Tryz.underlying247,
  a39:=Tryz.isAgg247,
  z39:=Tryz.sizeOf247,
  v39:=Tryz.zeroValue247,
  t45:=Tryz.underlying327,
  a45:=Tryz.isAgg327,
  z45:=Tryz.sizeOf327,
  v45:=Tryz.zeroValue327,
  t46:=Tryz.underlying328,
  a46:=Tryz.isAgg328,
  z46:=Tryz.sizeOf328,
  v46:=Tryz.zeroValue328,
  t50:=Tryz.underlying141,
  a50:=Tryz.isAgg141,
  z50:=Tryz.sizeOf141,
  v50:=Tryz.zeroValue141,
  t53:=Tryz.underlying54,
  a53:=Tryz.isAgg54,
  z53:=Tryz.sizeOf54,
  v53:=Tryz.zeroValue54,
  t55:=Tryz.underlying27,
  a55:=Tryz.isAgg27,
  z55:=Tryz.sizeOf27,
  v55:=Tryz.zeroValue27,
  t66:=Tryz.underlying361,
  a66:=Tryz.isAgg361,
  z66:=Tryz.sizeOf361,
  v66:=Tryz.zeroValue361,
  t70:=Tryz.underlying364,
  a70:=Tryz.isAgg364,
  z70:=Tryz.sizeOf364,
  v70:=Tryz.zeroValue364,
  t76:=Tryz.underlying377,
  a76:=Tryz.isAgg377,
  z76:=Tryz.sizeOf377,
  v76:=Tryz.zeroValue377,
  t77:=Tryz.underlying265,
  a77:=Tryz.isAgg265,
  z77:=Tryz.sizeOf265,
  v77:=Tryz.zeroValue265}
theorem rP (x y:Int×Int):ltOf qZ x y=decide (x.2<y.2\/x.2=y.2/\x.1<y.1):=by
 unfold ltOf qZ rZ;rcases Int.lt_trichotomy x.2 y.2 with h|h|h
 ·simp [h]
 ·rcases Int.lt_trichotomy x.1 y.1 with g|g|g
  ·simp [h,g]
  ·simp [h,g]
  ·simp [h,show¬x.1<y.1 by omega,g]
 ·simp [show¬x.2<y.2 by omega,h,show¬x.2=y.2 by omega]
theorem aha:SWO (ltOf qZ) where
 irrefl x:=by rw [rP];simp
 trans x y z h1 h2:=by rw [rP] at*;simp at*;omega
 ntrans x y z h1 h2:=by rw [rP] at*;simp at*;omega
theorem Q6 (x y:Int×Int) (h1:ltOf qZ x y=false) (h2:ltOf qZ y x=false):x=y:=by rw [rP] at*;simp at*;exact Prod.ext (by omega) (by omega)
theorem Da (x y:Int×Int) (W:World):Calls Tryz.prog 144 #[.agg (dE x).toArray,.agg (dE y).toArray] W λe w'=>e= .returned (.int .i64 (qZ x y))/\∃q os',w'=Sort.grow (W.drewN q) os':=by have h:aj Tryz.prog 144 [.agg (dE x).toArray,.agg (dE y).toArray] _ W:=FH x y W W (ox W) (St.start W);refine Calls.mono h ?_;rintro e w' ⟨v,rfl,rfl,s⟩;exact ⟨rfl,s.grown⟩
def bV (ts:List (Int×Int)):List (Int×Int):=ts.mergeSort λx y=> !(ltOf qZ) y x
theorem gV (ts:List (Int×Int)):(bV ts).length=ts.length:=List.length_mergeSort _
theorem cm (ts:List (Int×Int)):(bV ts).Perm ts:=List.mergeSort_perm _ _
theorem gz (ts:List (Int×Int)):(bV ts).Pairwise λx y=>ltOf qZ y x=false:=by
 have h:=List.pairwise_mergeSort (le:=λx y=> !(ltOf qZ) y x) (λa b c h1 h2=>by
  simp only [Bool.not_eq_true'] at*;exact aha.ntrans _ _ _ h2 h1) (λa b=>by
  simp only [Bool.or_eq_true,Bool.not_eq_true',rP,decide_eq_false_iff_not];omega) ts
 exact h.imp λh=>by simpa using h
theorem gg {a b:List (Int×Int)} (h:a.Perm b):bV a=bV b:=
 List.Perm.eq_of_pairwise (λx y _ _ h1 h2=>Q6 x y h2 h1) (gz a) (gz b) (((cm a).trans h).trans (cm b).symm)
theorem nV {v:Value} (ts:List (Int×Int)) (hsz:ts.length<4611686018427387904) (w0 w:World) (F:ak) {K:Value->World->Prop} (s:St w0 (F*own 164 2 v ts.length (ts.flatMap dE)) w)
  (hk:∀r w',St w0 (F*own 164 2 v ts.length ((bV ts).flatMap dE)) w'->K r w'):
  aj Tryz.prog 143 [v,.func (.func 144) #[] #[]] K w:=by
 have h:=MD MB 2 Tryz.isAgg164 Tryz.sizeOf164 dE (λ_=>rfl) (λx v hv=>by simp at hv;rcases hv with rfl|rfl<;>rfl) qZ aha Q6 144
  (enters_of Tryz.func144 (by kernel_rfl) rfl) Da hsz s
 refine Calls.mono h ?_;rintro e w' ⟨rfl,s'⟩;exact ⟨_,rfl,hk _ _ s'⟩
end Go.HL.Wh
namespace Go.HL.Wh
open Go.HL Go.Proofs
def r5 (top last l:Nat):Tm->Bool:=if l<=top then vD l 0 else vD top (last+1)
theorem Ft (p now to mv0:Nat) (ts:List Tm) (w0 w:World) (A:ak) {Q:EX->List Value->World->Prop} (l top last:Nat) (v x2 x3 x8 x9 x10 x11 x12:Value) (hp:Ss now to mv0 ts) (htl:fR to now=(top,last)) (hl:l<=top)
  (s:St w0 (A*rV p to mv0 ts (vD l 0) v) w)
  (hk:∀v' y8 y9 y10 y11 y12 w',St w0 (A*rV p to mv0 ts (r5 top last (l+1)) v') w'->Q .nrm [.pointer (some ⟨p,0,none⟩),.int .i64 to,x2,x3,.int .i64 top,.int .i64 last,v',.int .i64 l,y8,y9,y10,y11,y12] w'):
  (HC.block 2 nN).wp U2 Q [.pointer (some ⟨p,0,none⟩),.int .i64 to,x2,x3,.int .i64 top,.int .i64 last,v,.int .i64 l,x8,x9,x10,x11,x12] w:=by
 have hbd:=lL to now;rw [htl] at hbd;obtain ⟨ht4,hl64,h40⟩:=hbd;simp only at ht4 hl64 h40;simp;refine gI (λenv w'=>∃(i:Nat) (v y8 y9 y10 y12:Value),env= [.pointer (some ⟨p,0,none⟩),.int .i64 to,x2,x3,.int .i64 top,.int .i64 last,v,.int .i64 l,y8,y9,y10,.int .i64 i,y12]/\i<=64/\(l=4->i<=1)/\(l=top->i<=last+1)/\St w0 (A*rV p to mv0 ts (vD l i) v) w') (λenv _=>64 -aw env 11)
  ⟨0,v,x8,x9,x10,x12,rfl,by omega,by omega,by omega,s⟩ ?_
 rintro LQ env w' ⟨i,v,y8,y9,y10,y12,rfl,hi,hi4,hit,s'⟩ hN hE hR;simp;refine aR (λh=> ?_) (λh=> ?_)
 ·simp at h
  simp;refine ⟨λg=> ?_,?_⟩
  ·rw [if_pos g]
   by_cases e:(l:Int)=top<;>simp [e]
  have hb:ov (if¬(l:Int)=4\/i=0 then Value.bool (decide ((l:Int)=top)) else Value.tuple #[]) true=(decide (¬(l:Int)=4\/i=0)&&decide ((l:Int)=top)):=by
   split
   ·rename_i g
    simp [g]
   ·rename_i g
    simp [g];rfl
  rw [hb];refine aR (λh2=> ?_) (λh2=> ?_)
  ·simp at h2
   have h3:l=top/\i=last+1:=by
    by_cases e:l=4
    ·have g1:=h40 (by omega)
     have g2:=hi4 e;omega
    ·omega
   simp;refine hE _ _ _ ?_;simp;refine hk _ _ _ _ _ _ _ ?_;have:r5 top last (l+1)=vD l i:=by unfold r5;rw [if_neg (by omega),h3.1,h3.2]
   rw [this];exact s'
  ·simp at h2
   have hv:oo now to (l,i):=by
    unfold oo;rw [htl];simp only
    by_cases e:l=4
    ·have g1:=h40 (by omega)
     omega
    ·omega
   have h4:l=4->i=0:=by intro e;omega
   show HC.wp U2 nM _ _ _;refine JB p now to mv0 ts w0 w' A l i v x2 x3 (.int .i64 top) (.int .i64 last) y9 y10 (.int .i64 i) y12 hp (by omega) (by omega) h4 hv s' λv' z9 z10 z12 w3 s3=> ?_;simp
   try simp (disch:=omega) only [wrap64]
   refine hN _ _ ⟨i+1,v',.int .i64 i,z9,z10,z12,by simp,by omega,λe=>by have:=h4 e;omega,λe=> ?_,s3⟩ (by simp [aw];omega);unfold oo at hv;rw [htl] at hv;simp only at hv;omega
 ·simp at h
  have hi:i=64:=by omega
  subst hi;simp;refine hE _ _ _ ?_;simp;refine hk _ _ _ _ _ _ _ ?_
  by_cases e:l=top
  ·have:r5 top last (l+1)=vD l 64:=by unfold r5;rw [if_neg (by omega),e,show last+1=64 from Nat.le_antisymm hl64 (hit e)]
   rw [this];exact s'
  ·have:r5 top last (l+1)=vD (l+1) 0:=by unfold r5;rw [if_pos (by omega)]
   rw [this,<-qv (FB hp.pl l)];exact s'
theorem Ju {now:Nat} {ts:List Tm} (h:kX now ts):kb now ts=ts/\uB now ts= []/\kl now ts= []:=by
 have hg:∀t∈ts,j7 t now=t:=λt ht=>by obtain ⟨p1,p2⟩:=h.pl t ht;exact vv p1.symm p2.symm
 refine ⟨?_,?_,?_⟩
 ·unfold kb
  rw [List.filter_eq_self.2 (λt ht=>by simpa using h.ah t ht)];exact (List.map_congr_left (g:=id) hg).trans (List.map_id _)
 ·exact List.filter_eq_nil_iff.2 λt ht=>by have:=h.ah t ht;simp;omega
 ·exact List.filter_eq_nil_iff.2 λt ht=>by have:=(h.pl t ht).1;simp [se,this]
theorem yM (p now mv:Nat) (ts:List Tm) (to:Int) (w0 w:World) (A:ak) {K:Value->World->Prop} (hpl:kX now ts) (hnow:now<=1099511627776) (hlen:ts.length<=65536) (hmv:mv<=2305843009213693952)
  (s:St w0 (A*iP p now mv ts) w)
  (hk:∀r w',(if now<=to/\to<=1099511627776 then∃v,r= .tuple #[v,.int .i64 0]/\St w0 (A*iP p to.toNat (mv+(kl to.toNat ts).length) (kb to.toNat ts)*outs v (bV ((uB to.toNat ts).map fA))) w' else r= .tuple #[.slice none 0 0,.int .i64 90]/\St w0 (A*iP p now mv ts) w')->K r w'):
  aj Tryz.prog 137 [.pointer (some ⟨p,0,none⟩),.int .i64 to] K w:=by
 refine cX OK (by simp [Uu]) ?_;simp [Uu];obtain ⟨am,aes,ac,Y,hok,t1⟩:=yL s;refine af (v:= .int .i64 now) (t1.ad 0 _ rfl) ?_;simp;refine aR (λc2=> ?_) (λc2=> ?_)
 ·simp at c2
  simp;refine hk _ _ ?_;rw [if_neg (by omega)];exact ⟨rfl,s⟩
 simp at c2;obtain ⟨to,rfl⟩:∃a:Nat,to=a:=⟨to.toNat,by omega⟩;have hc:(now:Int)<=to/\(to:Int)<=1099511627776:=by omega
 simp only [if_pos hc,Int.toNat_natCast] at hk;simp;refine af (v:= .int .i64 now) (t1.ad 0 _ rfl) ?_;simp;refine aR (λc3=> ?_) (λc3=> ?_)
 ·simp at c3
  have c3:to=now:=by omega
  subst c3;simp;obtain ⟨r1,r2,r3⟩:=Ju hpl;rw [r1,r2,r3] at hk;refine hk _ _ ⟨_,rfl,?_⟩;rw [show bV (List.map fA [])= [] by simp [bV]];exact s.aD 164 2
 simp at c3;have hlt:now<to:=by omega
 simp;refine af (v:= .int .i64 now) (t1.ad 0 _ rfl) ?_;simp;refine ⟨⟨by omega,by omega⟩,?_⟩;obtain ⟨top,last,htl⟩:∃top last,fR to now=(top,last):=⟨_,_,rfl⟩;rw [htl];simp;refine cH t1 rfl (by simp [oa]) ?_;intro w2 s2;have e:(xc now mv am Y).toArray.setIfInBounds 0 (.int .i64 to)=(xc to mv am Y).toArray:=by simp [xc]
 rw [e] at s2;have hp:Ss now to mv ts:=⟨hpl,hlt,by omega,hlen,hmv⟩;have hD0:∀t:Tm,vD 0 0 t=false:=λt=>by simp [vD]
 have e1:eu to (vD 0 0) ts=ts:=by unfold eu;rw [List.filter_eq_self.2 (λt ht=>by simp [hD0])];exact (List.map_congr_left (g:=id) λt ht=>by simp [hD0]).trans (List.map_id _)
 have e2:sh to (vD 0 0) ts= []:=List.filter_eq_nil_iff.2 λt ht=>by simp [hD0]
 have e3:iT to (vD 0 0) ts= []:=List.filter_eq_nil_iff.2 λt ht=>by simp [hD0]
 have s3:St w0 (A*rV p to mv ts (vD 0 0) (.slice none 0 0)) w2:=by refine tY (os:= []) (by rw [e2];exact List.Perm.refl _) ?_;rw [e1,e3];have s4:=oV hok s2;rw [show outs (.slice none 0 0) []=own 164 2 (.slice none 0 0) 0 [] from rfl];exact (s4.aD 164 2).to (by show A*iP p to mv ts*_=A*_*iP p to mv ts;ac_rfl)
 simp;have hbd:=lL to now;rw [htl] at hbd;obtain ⟨ht4,hl64,h40⟩:=hbd;simp only at ht4 hl64 h40;refine gI (λenv w'=>∃(l:Nat) (v y8 y9 y10 y11 y12:Value),env= [.pointer (some ⟨p,0,none⟩),.int .i64 to,.slice none 0 0,.int .i64 0,.int .i64 top,.int .i64 last,v,.int .i64 l,y8,y9,y10,y11,y12]/\l<=top+1/\St w0 (A*rV p to mv ts (r5 top last l) v) w') (λenv _=>top+1 -aw env 7)
  ⟨0,_,_,_,_,_,_,rfl,by omega,by rw [show r5 top last 0=vD 0 0 from rfl];exact s3⟩ ?_
 rintro LQ env w' ⟨l,v,y8,y9,y10,y11,y12,rfl,hl,s'⟩ hN hE hR;simp;refine aR (λh=> ?_) (λh=> ?_)
 ·simp at h
  show HC.wp U2 (.block 2 nN) _ _ _;refine Ft p now to mv ts w0 w' A l top last v _ _ y8 y9 y10 y11 y12 hp htl (by omega) ?_ λv' z8 z9 z10 z11 z12 w3 s4=> ?_
  ·rw [show r5 top last l=vD l 0 from if_pos (by omega)] at s';exact s'
  show HC.wp U2 vh LQ _ _;simp
  try simp (disch:=omega) only [wrap64]
  exact hN _ _ ⟨l+1,v',z8,z9,z10,z11,z12,by simp,by omega,s4⟩ (by simp [aw];omega)
 ·simp at h
  simp;refine hE _ _ _ ?_;simp;have hl2:l=top+1:=by omega
  subst hl2;have hvis:∀t∈ts,r5 top last (top+1) t=true↔oo now to (t.l,t.s):=by intro t ht;unfold r5 oo;rw [if_neg (by omega),htl];simp only [vD,Bool.or_eq_true,Bool.and_eq_true,decide_eq_true_eq];omega
  obtain ⟨q1,q2,q3⟩:=NY hpl hlt hvis;obtain ⟨os,hos,s5⟩:=Gp s';rw [q1,q3] at s5;rw [q2] at hos;have hol:os.length<=65536:=by have h1:=hos.length_eq;rw [List.length_map] at h1;have h2:(uB to ts).length<=ts.length:=List.length_filter_le _ _;omega
  rw [show outs v os=own 164 2 v os.length (os.flatMap dE) from rfl] at s5;refine ab (nV os (by omega) w0 w' (A*iP p to (mv+(kl to ts).length) (kb to ts)) (s5.to (by ac_rfl)) λr w6 s6=> ?_);simp;refine hk _ _ ⟨v,rfl,?_⟩;have e4:outs v (bV ((uB to ts).map fA))=own 164 2 v os.length ((bV os).flatMap dE):=by rw [<-gg hos];show own _ 2 v (bV os).length _=_;rw [gV]
  rw [e4];exact s6
def fnd (ts:List Tm) (n:Int):Option Tm:=ts.find? λt=>decide (t.n=n)
def fcs:Option Tm->List Value
 |none=> [.int .i64 0,.int .i64 0,.int .i64 0,.int .i64 0]
 |some t=>t.cs
def fer:Option Tm->Int
 |none=>93
 |some _=>0
def fat:Option Tm->Nat
 |none=>0
 |some t=>t.a
def fpl:Option Tm->Nat×Nat
 |none=>(0,0)
 |some t=>(t.l,t.s)
abbrev eha (ts:List Tm):List (Int×Value):=ts.map λt=>(t.n,.int .i64 t.a)
def kv (es:List En):List (Int×Value):=es.map λe=>(e.k,e.v)
structure e1a (es:List En) (c:Nat) (ts:List Tm):Prop where
 ok:FE es c
 eq:kv es=eha ts
theorem GO {ts:List Tm} (h:(ts.map (·.n)).Nodup) {t:Tm} (ht:t∈ts):fnd ts t.n=some t:=Cp h ht
abbrev gGa (to:Nat) (ts:List Tm):List (Int×Int):=bV ((uB to ts).map fA)
section
variable {now to:Nat} {ts:List Tm}
def eDa (L:List (Int×Int)) (k:Nat) (ts:List Tm):List Tm:=ts.filter λt=>decide (t.n∉(L.take k).map (·.1))
end
def lvs (ts:List Tm):Nat:=(ts.map (·.l)).sum
theorem ng:oe Tryz.prog 293 3 3 (.int .i64 0):=⟨by kernel_rfl,by kernel_rfl,by kernel_rfl⟩
abbrev eCa (lb:Nat) (x:Int×Int):ak:=pt lb (.cells (dE x).toArray 164 (0,0))
theorem Jc {es:List En} {seen:Array Nat} {e:En} (he:e∈es) (hn:e.b∉seen):(de es (seen.push e.b)).length+1<=(de es seen).length:=by
 have e1:de es (seen.push e.b)=(de es seen).filter λx=> !decide (x.b=e.b):=by unfold de;rw [List.filter_filter];refine List.filter_congr λx _=> ?_;rw [Bool.eq_iff_iff];simp [and_comm]
 rw [e1];refine Nat.lt_of_le_of_ne (List.length_filter_le _ _) λh=> ?_;have h2:=(List.length_filter_eq_length_iff.1 h) e (List.mem_filter.2 ⟨he,by simpa using hn⟩);simp at h2
theorem Fq (es:List En):(de es #[]).length+(#[]:Array Nat).size<=es.length:=by exact List.length_filter_le (λe:En=> !(#[]:Array Nat).contains e.b) es
def l93:ag:=⟨[0,2,3,5,12],27,[.slot 1],aM tG [] 0xb39e79bffdd00bf89a63530809008d282b6eb2db2773b8a2dd1082cb840220d126ccf304d34c43001305d310c00710c09e2737566cce0439b3381c44208081a2f0af02271b566ccc0589b3301c443cf0409dcee2df8126cce304d34f00180d3c006f009f74850a8bc0b2fff748505c6d5f0f198f0f1a7dd2141⟩
theorem Wa:ai U2 93 400=some l93:=by kernel_rfl
def aAa (now:Nat) (L:List (Int×Int)) (n a:Int):Int:=if n<1 then 2 else if a<=now\/1099511627776<a then 90 else if¬∀u∈L,u.1≠n then 92 else if 65536<=L.length then 91 else 0
def frE (now:Nat):List (Int×Int)->List (Int×Int)->Int
 |_,[]=>0
 |L,x::r=>if aAa now L x.1 x.2=0 then frE now (L++ [x]) r else aAa now L x.1 x.2
theorem kX.sch {now:Nat} {ts:List Tm} (h:kX now ts) {n a:Int} (b:Nat) (hs:p9 now ts n a=0):kX now (ts++ [j7 ⟨n,a.toNat,0,0,b⟩ now]):=by
 obtain ⟨h1,h2,h3,h4,h5⟩:=gU.1 hs;refine ⟨?_,λt ht=> ?_,λt ht=> ?_,λt ht=> ?_⟩
 ·rw [List.map_append]
  refine List.nodup_append.2 ⟨h.num,by simp,λx hx y hy=> ?_⟩;obtain ⟨u,hu,rfl⟩:=List.mem_map.1 hx;simp at hy;subst hy;exact h4 u hu
 all_goals
  rcases List.mem_append.1 ht with ht|ht
 ·exact h.pl t ht
 ·rw [List.mem_singleton.1 ht];exact ⟨rfl,rfl⟩
 ·exact h.ah t ht
 ·rw [List.mem_singleton.1 ht];show now<a.toNat;omega
 ·exact h.bd t ht
 ·rw [List.mem_singleton.1 ht];exact ⟨by show a.toNat<=_;omega,h1⟩
theorem HT {now:Nat} {ts:List Tm} {n a:Int} (b:Nat) (hs:p9 now ts n a=0):(ts++ [j7 ⟨n,a.toNat,0,0,b⟩ now]).map fA=ts.map fA++ [(n,a)]:=by
 obtain ⟨h1,h2,h3,h4,h5⟩:=gU.1 hs;rw [List.map_append];have:((a.toNat:Nat):Int)=a:=by omega
 simp [fA,j7,this]
abbrev gWa (b:Nat) (x:Int×Int):ak:=pt b (.cells (dE x).toArray 164 (0,0))
def Xr (ts:List Tm) (e:En):Int×Int:=match fnd ts e.k with
 |some t=>fA t
 |none=>(0,0)
theorem SV {aes:List En} {ts:List Tm} (hn:(ts.map (·.n)).Nodup) (h:aes.map (λe=>(e.k,e.v))=ts.map λt=>(t.n,tp t)):aes.map (Xr ts)=ts.map fA:=by
 have h1:aes.map (·.k)=ts.map (·.n):=by
  have:=congrArg (List.map Prod.fst) h
  simpa [Function.comp_def] using this
 have h2:aes.map (Xr ts)=(aes.map (·.k)).map λn=>match fnd ts n with
  |some t=>fA t
  |none=>(0,0):=by rw [List.map_map];rfl
 rw [h2,h1,List.map_map];refine List.map_congr_left λt ht=> ?_;simp [GO hn ht]
theorem Zu {aes:List En} {ts:List Tm} (hn:(ts.map (·.n)).Nodup) (h:aes.map (λe=>(e.k,e.v))=ts.map λt=>(t.n,tp t)) {e:En} (he:e∈aes):∃t∈ts,e.v=tp t/\Xr ts e=fA t:=by
 have h1:(e.k,e.v)∈ts.map λt=>(t.n,tp t):=by rw [<-h];exact List.mem_map.2 ⟨e,he,rfl⟩
 obtain ⟨t,ht,h2⟩:=List.mem_map.1 h1;refine ⟨t,ht,(congrArg Prod.snd h2).symm,?_⟩;have:e.k=t.n:=(congrArg Prod.fst h2).symm;unfold Xr;rw [this,GO hn ht]
theorem Ij {es:List En} (h:(es.map (·.b)).Nodup) {e:En} (he:e∈es):es.filter (λx=>decide (x.b=e.b))= [e]:=by
 induction es with
 |nil=>cases he
 |cons x r ih=>
  rw [List.map_cons,List.nodup_cons] at h;rcases List.mem_cons.1 he with rfl|he
  ·have:r.filter (λx=>decide (x.b=e.b))= []:=List.filter_eq_nil_iff.2 λy hy g=>h.1 (List.mem_map.2 ⟨y,hy,of_decide_eq_true g⟩)
   simp [this]
  ·have hne:x.b≠e.b:=λg=>h.1 (List.mem_map.2 ⟨e,he,g.symm⟩)
   rw [List.filter_cons_of_neg (by simpa using hne)];exact ih h.2 he
theorem Jb {es:List En} {seen:Array Nat} {e:En} (hb:(es.map (·.b)).Nodup) (he:e∈es) (hn:e.b∉seen):(de es seen).Perm (e::de es (seen.push e.b)):=by
 have h1:(de es seen).filter (λx=>decide (x.b=e.b))= [e]:=
  Ij (hb.sublist (List.filter_sublist.map _)) (List.mem_filter.2 ⟨he,by simpa using hn⟩)
 have h2:(de es seen).filter (λx=> !decide (x.b=e.b))=de es (seen.push e.b):=by unfold de;rw [List.filter_filter];refine List.filter_congr λx _=> ?_;rw [Bool.eq_iff_iff];simp [and_comm]
 have h3:=List.filter_append_perm (λx:En=>decide (x.b=e.b)) (de es seen);rw [h1,h2] at h3;exact h3.symm
theorem JW (p now mv:Nat) (ts:List Tm) (w0 w:World) (A:ak) {K:Value->World->Prop} (hlen:ts.length<=65536) (s:St w0 (A*iP p now mv ts) w)
  (hk:∀v w',St w0 (A*iP p now mv ts*outs v (bV (ts.map fA))) w'->K v w'):
  aj Tryz.prog 93 [.pointer (some ⟨p,0,none⟩)] K w:=by
 refine aG Wa (by simp [l93]) ?_;simp [l93];obtain ⟨am,aes,ac,Y,hok,t1⟩:=yL s;refine af (v:= .map (some am)) (t1.ad 2 _ rfl) ?_;simp;refine uF mK.ty t1 t1.drop.look ?_;intro b w1 s1;simp;have Lg:=SV hok.num hok.alls;have hal:aes.length=ts.length:=by have:=congrArg List.length hok.alls;simpa using this
 have s1:St w0 (A*bz ts*dj fL Y 257*wc p now mv am Y*outs (.slice none 0 0) []*ao am aes ac*pt b (.mapIter (some am) ac #[] ac)) w1:=by rw [show outs (.slice none 0 0) []=own 164 2 (.slice none 0 0) 0 [] from rfl];exact (s1.aD 164 2).to (by ac_rfl)
 refine gI (λenv w'=>∃(seen:Array Nat) (v x:Value) (L:List (Int×Int)),env= [.pointer (some ⟨p,0,none⟩),.slice none 0 0,v,x,.pointer (some ⟨b,0,none⟩)]/\(de aes seen).length+seen.size<=aes.length/\(L++(de aes seen).map (Xr ts)).Perm (ts.map fA)/\
   St w0 (A*bz ts*dj fL Y 257*wc p now mv am Y*outs v L*ao am aes ac*pt b (.mapIter (some am) ac seen ac)) w') (λ_ w'=>aes.length+1 -l0 w' b)
  ⟨#[],_,_,[],rfl,Fq aes,by rw [<-Lg,show de aes #[]=aes from List.filter_eq_self.2 (by simp)];simp,s1⟩ ?_
 rintro LQ env w' ⟨seen,v,x,L,rfl,hcnt,hperm,s'⟩ hN hE hR;have hseen:l0 w' b=seen.size:=by unfold l0;rw [s'.look]
 have hLl:L.length<=65536:=by have:=hperm.length_eq;simp at this;omega
 simp;refine uE s' hok.aok.lt (λe he hns w2 s2=> ?_) (λhall w2 s2=> ?_)
 ·simp
  refine zp s2 he hok.aok.bn ?_;obtain ⟨t,ht,hev,hen⟩:=Zu hok.num hok.alls he;rw [hev];simp;have s3:=s2;rw [kO hok.num ht] at s3;have s3:=s3.to (B:=A*bz (eF ts t.n)*dj fL Y 257*wc p now mv am Y*outs v L*ao am aes ac*pt b (.mapIter (some am) ac (seen.push e.b) ac)*iM t) (by ac_rfl);refine aB (vs:=dE (fA t)) (λj y hy=> ?_) rfl ?_
  ·have hj:t.cs[j]? =some y:=by
    match j,hy with
    |0,hy=>exact hy
    |1,hy=>exact hy
   exact s3.ad j y hj
  simp;refine bC s3 rfl ?_;intro c w3 s4;simp;refine bX (m:=1) (news:=dE (fA t)) (s4.to (B:=A*bz (eF ts t.n)*dj fL Y 257*wc p now mv am Y*ao am aes ac*pt b (.mapIter (some am) ac (seen.push e.b) ac)*iM t*pt c (.cells (dE (fA t)).toArray 164 (0,0))*outs v L) (by ac_rfl)) rfl s4.aL (λy hy=>by simp at hy;rcases hy with rfl|rfl<;>rfl) (by decide) rfl (by unfold maxLen;omega) (by omega) ?_;intro v2 w4 s5;simp;have e2:own 164 2 v2 (L.length+1) (L.flatMap dE++dE (fA t))=outs v2 (L++ [fA t]):=by show _=own _ 2 v2 (L++ [fA t]).length ((L++ [fA t]).flatMap dE);rw [List.length_append,List.flatMap_append];simp
  rw [e2] at s5;have s6:St w0 (A*bz ts*dj fL Y 257*wc p now mv am Y*outs v2 (L++ [fA t])*ao am aes ac*pt b (.mapIter (some am) ac (seen.push e.b) ac)) w4:=by rw [kO hok.num ht];exact St.cut (pt c (.cells (dE (fA t)).toArray 164 (0,0))) s5 (by show _=A*(bz (eF ts t.n)*iM t)*dj fL Y 257*wc p now mv am Y*outs v2 (L++ [fA t])*ao am aes ac*pt b (.mapIter (some am) ac (seen.push e.b) ac)*_;ac_rfl)
  have hleft:=Jc he hns;refine hN _ _ ⟨seen.push e.b,v2,_,L++ [fA t],by simp;rfl,?_,?_,s6⟩ ?_
  ·rw [Array.size_push];omega
  ·have h3:=(Jb hok.aok.bn he hns).map (Xr ts)
   rw [List.map_cons,hen] at h3;rw [List.append_assoc];exact ((h3.append_left L).symm).trans hperm
  ·have h1:l0 w4 b=seen.size+1:=by unfold l0;rw [s6.look];exact Array.size_push _
   rw [h1,hseen];omega
 ·simp
  refine hE _ _ _ ?_;simp;have hnil:de aes seen= []:=List.filter_eq_nil_iff.2 λe he=>by simpa using hall e he
  rw [hnil] at hperm;have hperm:L.Perm (ts.map fA):=by simpa using hperm
  have s3:St w0 (A*iP p now mv ts*outs v L) w2:=(oV hok ((s2.drop).to (B:=A*outs v L*bz ts*dj fL Y 257*ao am aes ac*wc p now mv am Y) (by ac_rfl))).to (by ac_rfl);refine ab (nV L (by omega) w0 w2 (A*iP p now mv ts) s3 λr w3 s4=> ?_);simp;refine hk _ _ ?_;have e4:outs v (bV (ts.map fA))=own 164 2 v L.length ((bV L).flatMap dE):=by rw [<-gg hperm];show own _ 2 v (bV L).length _=_;rw [gV]
  rw [e4];exact s4
end Go.HL.Wh
namespace Go.HL.Nm
open Go.HL
def jK:List UInt8->Nat->Int->Option Int
 |_,0,v=>some v
 | [],_+1,_=>none
 |b::r,n+1,v=>if (b.toNat:Int)<128\/191<(b.toNat:Int) then none else jK r n (v*64+b.toNat -128)
def jU (b:Int) (r:List UInt8) (v:Int) (n:Nat) (least:Int):Int×Nat:=
 match jK r n v with
 |some v=>if v<least\/1114111<v\/(55296<=v/\v<=57343) then (2097152+b,1) else (v,1+n)
 |none=>(2097152+b,1)
def bU:List UInt8->Int×Nat
 | []=>(0,1)
 |c::r=>
  if (c.toNat:Int)<128 then ((c.toNat:Int),1)
  else if 192<=(c.toNat:Int)/\(c.toNat:Int)<224 then jU c.toNat r (c.toNat -192) 1 128
  else if 224<=(c.toNat:Int)/\(c.toNat:Int)<240 then jU c.toNat r (c.toNat -224) 2 2048
  else if 240<=(c.toNat:Int)/\(c.toNat:Int)<248 then jU c.toNat r (c.toNat -240) 3 65536
  else (2097152+c.toNat,1)
theorem nO (c:UInt8) (r:List UInt8):bU (c::r)=
  if (c.toNat:Int)<128 then ((c.toNat:Int),1)
  else if 192<=(c.toNat:Int)/\(c.toNat:Int)<224 then jU c.toNat r (c.toNat -192) 1 128
  else if 224<=(c.toNat:Int)/\(c.toNat:Int)<240 then jU c.toNat r (c.toNat -224) 2 2048
  else if 240<=(c.toNat:Int)/\(c.toNat:Int)<248 then jU c.toNat r (c.toNat -240) 3 65536
  else (2097152+c.toNat,1):=rfl
theorem DQ (n:Nat):∀(r:List UInt8) (v u:Int),0<=v->jK r n v=some u->0<=u/\n<=r.length:=by
 induction n with
 |zero=>intro r v u hv h;cases r<;>simp only [jK,Option.some.injEq] at h<;>subst h<;>exact ⟨hv,Nat.zero_le _⟩
 |succ n ih=>
  intro r v u hv h;cases r with
  |nil=>simp only [jK] at h;cases h
  |cons b r=>
   simp only [jK] at h;split at h
   ·cases h
   ·have:=ih r _ u (by have:=b.toNat_lt;omega) h
    simp only [List.length_cons];omega
theorem zh (b:Int) (r:List UInt8) (v:Int) (n:Nat) (least:Int) (hb:0<=b/\b<256) (hv:0<=v):
  0<=(jU b r v n least).1/\(jU b r v n least).1<2097408/\1<=(jU b r v n least).2/\(jU b r v n least).2<=1+r.length:=by
 unfold jU;split
 ·rename_i u hu
  have:=DQ n r v u hv hu;split
  ·simp only;omega
  ·simp only;omega
 ·simp only;omega
theorem ik {l:List UInt8} (h:l≠ []):0<=(bU l).1/\(bU l).1<2097408/\1<=(bU l).2/\(bU l).2<=l.length:=by
 cases l with
 |nil=>exact absurd rfl h
 |cons c r=>
  have hc:=c.toNat_lt;unfold bU;simp only [List.length_cons];split
  ·simp only;omega
  split
  ·have:=zh c.toNat r (c.toNat -192) 1 128 (by omega) (by omega);omega
  split
  ·have:=zh c.toNat r (c.toNat -224) 2 2048 (by omega) (by omega);omega
  split
  ·have:=zh c.toNat r (c.toNat -240) 3 65536 (by omega) (by omega);omega
  ·simp only;omega
theorem Tb (l:List UInt8) (i:Nat):(mk l).get! i=l.getD i 0:=by simp only [mk,ByteArray.get!,List.getD_eq_getElem?_getD];simp;rfl
def NM (d:List UInt8):Nat×Nat:=
 let at' (k:Nat):Nat:=(d.getD k 0).toNat
 let cont (k:Nat):Bool:=k<d.length&&at' k /64==2
 let b0:=at' 0
 if b0<0x80 then (b0,1)
 else if b0 /32==6&&cont 1 then
  let c:=(b0 %32)*64+at' 1 %64
  if c≥0x80 then (c,2) else (65533,1)
 else if b0 /16==14&&cont 1&&cont 2 then
  let c:=(b0 %16)*4096+(at' 1 %64)*64+at' 2 %64
  if c≥0x800&&Utf8.valid c then (c,3) else (65533,1)
 else if b0 /8==30&&cont 1&&cont 2&&cont 3 then
  let c:=(b0 %8)*262144+(at' 1 %64)*4096+(at' 2 %64)*64+at' 3 %64
  if c≥0x10000&&Utf8.valid c then (c,4) else (65533,1)
 else (65533,1)
theorem j3 (l:List UInt8) (i:Nat):Utf8.decode (mk l) i=NM (l.drop i):=by
 have e:∀k,(l.drop i).getD k 0=l.getD (i+k) 0:=by intro k;simp [List.getD_eq_getElem?_getD,List.getElem?_drop]
 have e2:∀k,decide (i+k<(mk l).size)=decide (k<(l.drop i).length):=by intro k;simp;omega
 unfold Utf8.decode NM;simp only [Tb,e,e2,Utf8.runeError]
def eQ (u:Int):Nat:=if 2097152<=u then 65533 else u.toNat
theorem yK (c:Nat):Utf8.valid (c:Int)=decide (¬(1114111<c\/(55296<=c/\c<=57343))):=by rw [Bool.eq_iff_iff];simp only [Utf8.valid,Bool.or_eq_true,Bool.and_eq_true,decide_eq_true_eq];omega
theorem d5a (b b1:Nat) (hb:192<=b/\b<224) (h1:128<=b1/\b1<=191):((b:Int) -192)*64+b1 -128=(((b %32)*64+b1 %64:Nat):Int):=by omega
theorem d6a (b b1 b2:Nat) (hb:224<=b/\b<240) (h1:128<=b1/\b1<=191) (h2:128<=b2/\b2<=191):
  (((b:Int) -224)*64+b1 -128)*64+b2 -128=(((b %16)*4096+(b1 %64)*64+b2 %64:Nat):Int):=by omega
theorem d7a (b b1 b2 b3:Nat) (hb:240<=b/\b<248) (h1:128<=b1/\b1<=191) (h2:128<=b2/\b2<=191) (h3:128<=b3/\b3<=191):
  ((((b:Int) -240)*64+b1 -128)*64+b2 -128)*64+b3 -128=(((b %8)*262144+(b1 %64)*4096+(b2 %64)*64+b3 %64:Nat):Int):=by omega
def eM (r:List UInt8) (k:Nat):Bool:=decide (k<r.length)&&(r.getD k 0).toNat /64==2
theorem ed (r:List UInt8) (n:Nat) (v:Int):jK r (n+1) v=if eM r 0=true then jK r.tail n (v*64+(r.getD 0 0).toNat -128) else none:=by
 cases r with
 |nil=>simp [jK,eM]
 |cons b r=>
  have hb:=b.toNat_lt;simp only [jK,eM,List.length_cons,List.getD_cons_zero,List.tail_cons]
  by_cases h:(b.toNat:Int)<128\/191<(b.toNat:Int)
  ·rw [if_pos h,if_neg];simp;omega
  ·rw [if_neg h,if_pos];simp;omega
theorem jZ (r:List UInt8) (k:Nat):eM r.tail k=eM r (k+1):=by cases r<;>simp [eM]<;>rfl
theorem nH (r:List UInt8) (k:Nat):r.tail.getD k 0=r.getD (k+1) 0:=by cases r<;>simp
theorem jc {r:List UInt8} {k:Nat} (h:eM r k=true):128<=(r.getD k 0).toNat/\(r.getD k 0).toNat<=191:=by simp only [eM,Bool.and_eq_true,beq_iff_eq] at h;omega
theorem jL (r:List UInt8) (v:Int):jK r 0 v=some v:=by cases r<;>rfl
theorem nB (d:List UInt8) (h:d≠ []):NM d=(eQ (bU d).1,(bU d).2):=by
 cases d with
 |nil=>exact absurd rfl h
 |cons c r=>
  have hc:=c.toNat_lt;have hcont:∀k,(decide (k+1<(c::r).length)&&((c::r).getD (k+1) 0).toNat /64==2)=eM r k:=by intro k;simp [eM]
  have e0:=hcont 0;have e1:=hcont 1;have e2:=hcont 2;simp only [Nat.zero_add,Nat.reduceAdd] at e0 e1 e2;have g0:(c::r).getD 0 0=c:=rfl;have g1:(c::r).getD 1 0=r.getD 0 0:=rfl;have g2:(c::r).getD 2 0=r.getD 1 0:=rfl;have g3:(c::r).getD 3 0=r.getD 2 0:=rfl;unfold NM bU;simp only [e0,e1,e2,g0]
  by_cases h0:c.toNat<128
  ·have hI:(c.toNat:Int)<128:=by omega
   have hn:¬(2097152:Int)<=(c.toNat:Int):=by omega
   rw [if_pos h0,if_pos hI];simp only [eQ];rw [if_neg hn];simp
  have hI:¬(c.toNat:Int)<128:=by omega
  rw [if_neg h0,if_neg hI];have hbad:eQ (2097152+(c.toNat:Int))=65533:=by unfold eQ;rw [if_pos (by omega)]
  have hgood:∀n:Nat,n<=1114111->eQ (n:Int)=n:=by intro n hn;unfold eQ;rw [if_neg (show¬(2097152:Int)<=(n:Int) by omega)];simp
  by_cases k2:192<=(c.toNat:Int)/\(c.toNat:Int)<224
  ·have t1:(c.toNat /32==6)=true:=by simp;omega
   have t2:(c.toNat /16==14)=false:=by simp;omega
   have t3:(c.toNat /8==30)=false:=by simp;omega
   rw [if_pos k2];simp only [t1,t2,t3,Bool.true_and,Bool.false_and,Bool.false_eq_true,if_false];unfold jU;rw [ed,jL];cases hc0:eM r 0
   ·simp [hbad]
   ·have b1:=jc hc0
    simp only [if_true];rw [d5a c.toNat (r.getD 0 0).toNat (by omega) b1];rw [g1];generalize hv:(c.toNat %32)*64+(r.getD 0 0).toNat %64=v;have hv2:v<2048:=by omega
    by_cases hl:v≥128
    ·have q:¬((v:Int)<128\/1114111<(v:Int)\/(55296<=(v:Int)/\(v:Int)<=57343)):=by omega
     rw [if_pos hl,if_neg q];simp only [hgood v (by omega)]
    ·have q:((v:Int)<128\/1114111<(v:Int)\/(55296<=(v:Int)/\(v:Int)<=57343)):=by omega
     rw [if_neg hl,if_pos q];simp only [hbad]
  rw [if_neg k2];have t1:(c.toNat /32==6)=false:=by simp;omega
  by_cases k3:224<=(c.toNat:Int)/\(c.toNat:Int)<240
  ·have t2:(c.toNat /16==14)=true:=by simp;omega
   have t3:(c.toNat /8==30)=false:=by simp;omega
   rw [if_pos k3];simp only [t1,t2,t3,Bool.true_and,Bool.false_and,Bool.false_eq_true,if_false];unfold jU;rw [ed];cases hc0:eM r 0
   ·simp [hbad]
   ·have b1:=jc hc0
    simp only [if_true];rw [ed,jZ,jL,nH];cases hc1:eM r 1
    ·simp [hbad]
    ·have b2:=jc hc1
     simp only [Bool.and_self,if_true,Nat.zero_add,hc1];rw [d6a c.toNat (r.getD 0 0).toNat (r.getD 1 0).toNat (by omega) b1 b2];rw [g1,g2];generalize hv:(c.toNat %16)*4096+((r.getD 0 0).toNat %64)*64+(r.getD 1 0).toNat %64=v;rw [yK]
     by_cases hl:2048<=v/\¬(1114111<v\/(55296<=v/\v<=57343))
     ·have q:¬((v:Int)<2048\/1114111<(v:Int)\/(55296<=(v:Int)/\(v:Int)<=57343)):=by omega
      have q2:(decide (v≥2048)&&decide (¬(1114111<v\/(55296<=v/\v<=57343))))=true:=by simp only [Bool.and_eq_true,decide_eq_true_eq];exact ⟨hl.1,hl.2⟩
      rw [if_pos q2,if_neg q];simp only [hgood v (by omega)]
     ·have q:((v:Int)<2048\/1114111<(v:Int)\/(55296<=(v:Int)/\(v:Int)<=57343)):=by omega
      have q2:¬(decide (v≥2048)&&decide (¬(1114111<v\/(55296<=v/\v<=57343))))=true:=by simp only [Bool.and_eq_true,decide_eq_true_eq];exact hl
      rw [if_neg q2,if_pos q];simp only [hbad]
  rw [if_neg k3];have t2:(c.toNat /16==14)=false:=by simp;omega
  by_cases k4:240<=(c.toNat:Int)/\(c.toNat:Int)<248
  ·have t3:(c.toNat /8==30)=true:=by simp;omega
   rw [if_pos k4];simp only [t1,t2,t3,Bool.true_and,Bool.false_and,Bool.false_eq_true,if_false];unfold jU;rw [ed];cases hc0:eM r 0
   ·simp [hbad]
   ·have b1:=jc hc0
    simp only [if_true];rw [ed,jZ,nH];cases hc1:eM r 1
    ·simp [hbad]
    ·have b2:=jc hc1
     simp only [Bool.and_self,if_true,Nat.zero_add,hc1];rw [ed,jZ,jZ,jL,nH,nH];cases hc2:eM r 2
     ·simp [hbad]
     ·have b3:=jc hc2
      simp only [Bool.and_self,if_true,Nat.zero_add,Nat.reduceAdd,hc2];rw [d7a c.toNat (r.getD 0 0).toNat (r.getD 1 0).toNat (r.getD 2 0).toNat (by omega) b1 b2 b3];rw [g1,g2,g3];generalize hv:(c.toNat %8)*262144+((r.getD 0 0).toNat %64)*4096+((r.getD 1 0).toNat %64)*64+(r.getD 2 0).toNat %64=v;rw [yK]
      by_cases hl:65536<=v/\¬(1114111<v\/(55296<=v/\v<=57343))
      ·have q:¬((v:Int)<65536\/1114111<(v:Int)\/(55296<=(v:Int)/\(v:Int)<=57343)):=by omega
       have q2:(decide (v≥65536)&&decide (¬(1114111<v\/(55296<=v/\v<=57343))))=true:=by simp only [Bool.and_eq_true,decide_eq_true_eq];exact ⟨hl.1,hl.2⟩
       rw [if_pos q2,if_neg q];simp only [hgood v (by omega)]
      ·have q:((v:Int)<65536\/1114111<(v:Int)\/(55296<=(v:Int)/\(v:Int)<=57343)):=by omega
       have q2:¬(decide (v≥65536)&&decide (¬(1114111<v\/(55296<=v/\v<=57343))))=true:=by simp only [Bool.and_eq_true,decide_eq_true_eq];exact hl
       rw [if_neg q2,if_pos q];simp only [hbad]
  rw [if_neg k4];have t3:(c.toNat /8==30)=false:=by simp;omega
  simp only [t1,t2,t3,Bool.false_and,Bool.false_eq_true,if_false,hbad]
def iV:Nat->List UInt8->List (Int×Nat)
 |0,_=> []
 |_+1,[]=> []
 |n+1,c::r=>bU (c::r)::iV n ((c::r).drop (bU (c::r)).2)
def dQ (l:List UInt8):List (Int×Nat):=iV l.length l
theorem Gg (n:Nat):iV n []= []:=by cases n<;>rfl
theorem rn (n:Nat):∀l:List UInt8,l.length<=n->iV n l=iV l.length l:=by
 induction n using Nat.strongRecOn with
 |_ n ih=>
  intro l hl;cases l with
  |nil=>simp [Gg]
  |cons c r=>
   have hb:=ik (l:=c::r) (by simp);cases n with
   |zero=>simp at hl
   |succ n=>
    simp only [List.length_cons,iV,List.cons.injEq,true_and] at hl hb⊢;have hd:((c::r).drop (bU (c::r)).2).length<=r.length:=by simp only [List.length_drop,List.length_cons];omega
    rw [ih n (by omega) _ (by omega)]
    by_cases hn:r.length<n+1
    ·rw [ih r.length hn _ hd]
    ·omega
theorem nY:dQ []= []:=rfl
theorem wH {l:List UInt8} (h:l≠ []):dQ l=bU l::dQ (l.drop (bU l).2):=by
 cases l with
 |nil=>exact absurd rfl h
 |cons c r=>
  have hb:=ik (l:=c::r) (by simp);have hd:((c::r).drop (bU (c::r)).2).length<=r.length:=by simp only [List.length_drop,List.length_cons];omega
  show iV (r.length+1) (c::r)=_;simp only [iV,dQ];rw [rn r.length _ hd]
theorem yJ (l:List UInt8):(dQ l).length<=l.length:=by
 unfold dQ;generalize hn:l.length=n
 induction n using Nat.strongRecOn generalizing l with
 |_ n ih=>
  cases l with
  |nil=>subst hn;simp [iV]
  |cons c r=>
   have hb:=ik (l:=c::r) (by simp);simp only [List.length_cons] at hn hb;subst hn;simp only [iV,List.length_cons];have hd:((c::r).drop (bU (c::r)).2).length<=r.length:=by simp only [List.length_drop,List.length_cons];omega
   rw [rn r.length _ hd];have:=ih _ (show ((c::r).drop (bU (c::r)).2).length<r.length+1 by omega) _ rfl;omega
def WQ:Nat->List (Int×Nat)->List Nat
 |_,[]=> []
 |p,u::r=>p::WQ (p+u.2) r
def lh:List (Int×Nat)->Nat
 | []=>0
 |u::r=>u.2+lh r
theorem DM (a b:List (Int×Nat)):lh (a++b)=lh a+lh b:=by
 induction a with
 |nil=>simp [lh]
 |cons u a ih=>simp [lh,ih,Nat.add_assoc]
theorem wI {l:List UInt8} {done:List (Int×Nat)} {i:Nat} (h:dQ l=done++dQ (l.drop i)) (hi:i<l.length):
  dQ l=(done++ [bU (l.drop i)])++dQ (l.drop (i+(bU (l.drop i)).2)):=by
 rw [h,wH (l:=l.drop i) (by simp;omega),List.drop_drop];simp
theorem Hu {l:List UInt8} {i:Nat} (hi:i<l.length):i+(bU (l.drop i)).2<=l.length/\1<=(bU (l.drop i)).2:=by have:=ik (l:=l.drop i) (by simp;omega);simp only [List.length_drop] at this;omega
theorem F6 (l:List UInt8):lh (dQ l)=l.length:=by
 unfold dQ;generalize hn:l.length=n
 induction n using Nat.strongRecOn generalizing l with
 |_ n ih=>
  cases l with
  |nil=>subst hn;simp [iV,lh]
  |cons c r=>
   have hb:=ik (l:=c::r) (by simp);simp only [List.length_cons] at hn hb;subst hn;simp only [iV,lh];have hd:((c::r).drop (bU (c::r)).2).length<=r.length:=by simp only [List.length_drop,List.length_cons];omega
   rw [rn r.length _ hd];have:=ih _ (show ((c::r).drop (bU (c::r)).2).length<r.length+1 by omega) _ rfl;rw [this];simp only [List.length_drop,List.length_cons];omega
theorem so (b:Int) (r:List UInt8) (v:Int) (n:Nat) (least:Int):jU b r v n least=(2097152+b,1)\/
  ∃u,jK r n v=some u/\least<=u/\u<=1114111/\¬(55296<=u/\u<=57343)/\jU b r v n least=(u,1+n):=by
 unfold jU;cases jK r n v with
 |none=>exact .inl rfl
 |some u=>
  by_cases h:u<least\/1114111<u\/(55296<=u/\u<=57343)
  ·exact .inl (by simp only [if_pos h])
  ·exact .inr ⟨u,rfl,by omega,by omega,by omega,by simp only [if_neg h]⟩
theorem MH:∀(n:Nat) (r:List UInt8) (v u M:Int),v<M->jK r n v=some u->u<M*64^n:=by
 intro n
 induction n with
 |zero=>intro r v u M hv h;rw [jL] at h;cases h;simpa using hv
 |succ n ih=>
  intro r v u M hv h;rw [ed] at h;split at h
  ·rename_i hc
   have hb:=jc hc;have:=ih _ _ u (M*64) (by omega) h;rw [Int.pow_succ];have e:M*(64^n*64)=M*64*64^n:=by rw [Int.mul_assoc,Int.mul_comm 64]
   omega
  ·cases h
theorem LX (c:UInt8) (r:List UInt8) (h:2097152<=(bU (c::r)).1):(bU (c::r)).1=2097152+c.toNat:=by
 have hc:=c.toNat_lt;rw [nO] at h⊢
 have key:∀v n least,2097152<=(jU c.toNat r v n least).1->(jU c.toNat r v n least).1=2097152+c.toNat:=by
  intro v n least hh;rcases so c.toNat r v n least with e|⟨u,_,_,h3,_,e⟩
  ·rw [e]
  ·rw [e] at hh;simp only at hh;omega
 split at h
 ·simp only at h;omega
 rename_i h1;split at h
 ·rename_i h2;rw [if_neg h1,if_pos h2];exact key _ _ _ h
 rename_i h2;split at h
 ·rename_i h3;rw [if_neg h1,if_neg h2,if_pos h3];exact key _ _ _ h
 rename_i h3;split at h
 ·rename_i h4;rw [if_neg h1,if_neg h2,if_neg h3,if_pos h4];exact key _ _ _ h
 rename_i h4;rw [if_neg h1,if_neg h2,if_neg h3,if_neg h4]
theorem yl (d:List UInt8) (hd:d≠ []):(bU d).1=65533↔ [239,191,189].isPrefixOf d=true:=by
 constructor
 ·intro h
  cases d with
  |nil=>exact absurd rfl hd
  |cons c r=>
   have hc:=c.toNat_lt;rw [nO] at h;split at h
   ·simp only at h;omega
   split at h
   ·rcases so c.toNat r (c.toNat -192) 1 128 with e|⟨u,h1,h2,h3,h4,e⟩
    ·rw [e] at h;simp only at h;omega
    ·have:=MH 1 r _ u 32 (by omega) h1
     rw [e] at h;simp only at h;omega
   split at h
   ·rcases so c.toNat r (c.toNat -224) 2 2048 with e|⟨u,h1,h2,h3,h4,e⟩
    ·rw [e] at h;simp only at h;omega
    ·rw [e] at h;simp only at h;subst h
     rw [ed] at h1;split at h1
     ·rename_i c0
      rw [ed,jL] at h1;split at h1
      ·rename_i c1
       have b0:=jc c0;have b1:=jc c1;simp only [Option.some.injEq] at h1;cases r with
       |nil=>simp [eM] at c0
       |cons x r=>
        cases r with
        |nil=>simp [eM] at c1
        |cons y r=>
         simp only [List.getD_cons_zero,List.tail_cons] at b0 b1 h1;have e1:c.toNat=239/\x.toNat=191/\y.toNat=189:=by omega
         have f1:c=239:=UInt8.toNat_inj.1 e1.1;have f2:x=191:=UInt8.toNat_inj.1 e1.2.1;have f3:y=189:=UInt8.toNat_inj.1 e1.2.2;subst f1;subst f2;subst f3;simp
      ·cases h1
     ·cases h1
   split at h
   ·rcases so c.toNat r (c.toNat -240) 3 65536 with e|⟨u,h1,h2,h3,h4,e⟩
    ·rw [e] at h;simp only at h;omega
    ·rw [e] at h;simp only at h;omega
   ·simp only at h;omega
 ·intro h
  rw [List.isPrefixOf_iff_prefix] at h;obtain ⟨t,rfl⟩:=h;show (bU (239::191::189::t)).1=65533;rw [nO];simp [jU,jK]
theorem Rs {d:List UInt8} (hd:d≠ []):(if eQ (bU d).1=65533/\ [239,191,189].isPrefixOf d=false then 2097152+((d.headD 0).toNat:Int) else (eQ (bU d).1:Int))=(bU d).1:=by
 have hb:=ik hd
 by_cases h:2097152<=(bU d).1
 ·have hp: [239,191,189].isPrefixOf d=false:=by
   cases hh: [239,191,189].isPrefixOf d with
   |false=>rfl
   |true=>have:=(yl d hd).2 hh;omega
  rw [if_pos ⟨by unfold eQ;rw [if_pos h],hp⟩];cases d with
  |nil=>exact absurd rfl hd
  |cons c r=>rw [LX c r h];rfl
 ·have hr:(eQ (bU d).1:Int)=(bU d).1:=by unfold eQ;rw [if_neg h];omega
  rw [if_neg]
  ·exact hr
  ·rintro ⟨h1,h2⟩
   have:(bU d).1=65533:=by omega
   rw [(yl d hd).1 this] at h2;cases h2
end Go.HL.Nm
namespace Go.HL.Nm
open Go.HL Go.Proofs
noncomputable abbrev F0:PF Tryz.prog:=PF.none _
def UC:ag:=⟨[0,2],13,[.slot 1],aM tG [] 0xe6ffdc8dd7e375fdd75753be4000d20b8078d4ef90003e1757527e4000d20b3cf527e4000f35752c54000f52c54000e7dd2041⟩
theorem OT:ai F0 149 400=some UC:=by kernel_rfl
def UB:ag:=⟨[0,2,3],66,[.slot 1],aM tG [] 0x2ce6ffdc8de7e37637a07e375f8dd7f75d5d4e1900034824440511353864000d11175752454000d20910d10f52454000d10d75d2055d4ae9000c0910920b8e110b8d4ae9000c0910964845752054002c2e352054002c2e1748157527a400302cf3d49e9000c0b357523a4002c2d48e9000b0ade6ba28bc0b2ffdcdd5d4f1100040753c440011c8de7db5d2055d4e11000c0b3633d4e11000c0b35753444002c2d4d11000b0acbff72379fdd7481575347400133073d4d1d0004cd5d4c110004d4c11000472379f6d748157530d05000c0b3633d4c341400302cd5d4b11000b0b52c44002c2b2fff7482042aecae772379fdd7481575387400302cc2cf5387400302cd5d4f2814002c2d4f2814002c2bc00a772379fdd7481575284400302cc2cf5284400302cd5d4b19000b0b52c64002c2bc00a772379fdd748157524a05000c0b30b3d49281400302cd5d482814002c2d482814002c2027dd2041⟩
theorem OS:ai F0 148 400=some UB:=by kernel_rfl
def Vs:ag:=⟨[0,2,3],45,[.slot 1],aM tG [] 0x2ce6fff740006de6ba28bc0b2fff748f3c105c6d5d4ee900036353ba4000ecbffdd238605c6d5d491500036352454000ecbff7375752c5400f81d4b15003e0abb2bb2b9dc8de7f75d2055d4de9000c0b30b3d4de9000c0b35752054002c2d4815000b0af0029dc8de7e379fdd74815753c44001380b8d4f110004e17481575384400302cf3d4e11000c0b35753444002c2d4d11000b0af0029dc8de7e379fdd74815753044001380b8d4c110004e17481575307400302cf3d4c1d000c0b35752c44002c2d4b11000b0af0029dc8de7f75d2055d4a11000c0b30b3d4a11000c0b35752c64002c2d4b19000b0809f748ce81⟩
theorem Ql:ai F0 278 400=some Vs:=by kernel_rfl
def Vq:ag:=⟨[0,1,4],18,[.slot 2],aM tG [] 0xe6ffdc71c8de79e7f75d2055f4157257104a15000a2810f30b3f4157257104a15000a2810f3c95c4128540028a073c41285cd5c95c4128557c2852c2c95c4128557c2852c2c41285f0a167dd2042⟩
theorem Qj:ai F0 276 400=some Vq:=by kernel_rfl
def fi (u lo hi:Int):Bool:=decide (lo<=u)&&decide (u<=hi)
def dY (u:Int):Bool:=decide (u=32)||decide (u=45)||decide (u=95)
theorem CG (u:Int) (w:World):aj Tryz.prog 149 [.int .i32 u] (λr w'=>r= .bool (dY u)/\w'=w) w:=by refine aG OT (by simp [UC]) ?_;simp [UC,dY]
def letterF (u:Int):Bool:= !(decide (u=215)||decide (u=247)||decide (u=930))&&
 (fi u 48 57||fi u 65 90||fi u 97 122||fi u 192 255||fi u 913 937||fi u 945 969||decide (u=1025)||fi u 1040 1103||decide (u=1105))
theorem CM (u:Int) (w:World):aj Tryz.prog 148 [.int .i32 u] (λr w'=>r= .bool (letterF u)/\w'=w) w:=by
 refine aG OS (by simp [UB]) ?_;simp [UB,kL,letterF,fi]
 repeat' split
 all_goals (try simp)
 all_goals (try (rw [Bool.eq_iff_iff];simp))
 all_goals omega
def pI (u:Int):Int:=
 if (65<=u/\u<=90)\/(192<=u/\u<=222/\u≠215)\/(913<=u/\u<=937/\u≠930)\/(1040<=u/\u<=1071) then u+32
 else if u=1025 then 1105 else if u=962 then 963 else u
theorem IK (u:Int) (w:World) (h0:0<=u) (h1:u<2097408):aj Tryz.prog 278 [.int .i32 u] (λr w'=>r= .int .i32 (pI u)/\w'=w) w:=by
 refine aG Ql (by simp [Vs]) ?_;simp [Vs,kL,pI]
 repeat' split
 all_goals (try simp (disch:=omega) only [wrap32])
 all_goals (try (first|rfl|omega))
theorem JA (s p:List UInt8) (w:World) (hs:s.length<=1048576):aj Tryz.prog 276 [.string (mk s),.string (mk p)] (λr w'=>r= .bool (p.isPrefixOf s)/\w'=w) w:=by
 refine aG Qj (by simp [Vq]) ?_;simp [Vq];rw [Bool.eq_iff_iff];simp only [Bool.and_eq_true,decide_eq_true_eq,beq_iff_eq,List.isPrefixOf_iff_prefix];constructor
 ·rintro ⟨h1,h2⟩
  exact List.prefix_iff_eq_take.2 h2.symm
 ·intro h
  exact ⟨h.length_le,(List.prefix_iff_eq_take.1 h).symm⟩
noncomputable abbrev F1:PF Tryz.prog:=PF.of []
def ints (l:List Int):List Value:=l.map (Value.int .i64)
def fia (l:List UInt8) (n:Int):List UInt8:=l.take (lh ((dQ l).take n.toNat))
noncomputable def lI:PS Tryz.prog:=PS.ib 149 .i32 dY CG
noncomputable def lK:PS Tryz.prog:=PS.ib 148 .i32 letterF CM
noncomputable def yz:PS Tryz.prog where
 f:=276
 val args:=match args with
  | [.string s,.string p]=> .bool (p.data.toList.isPrefixOf s.data.toList)
  |_=>undef
 ok args:=match args with
  | [.string s,.string _]=>s.data.toList.length<=1048576
  |_=>False
 sound args w h:=by
  split at h
  ·rename_i s p
   have:=JA s.data.toList p.data.toList w h;rw [<-qU,<-qU] at this;exact this
  ·exact h.elim
noncomputable abbrev F2:PF Tryz.prog:=PF.of [lI,lK,yz]
@[simp] theorem W9 (args:List Value):F2.val 276 args=yz.val args:=rfl
@[simp] theorem YG (args:List Value):F2.ok 276 args=yz.ok args:=rfl
def UZ:ag:=⟨[0,1,4],8,[.slot 2],aM tG [] 0x39bff73757d05000e3010bd05000e33fdd2042⟩
theorem Pt:ai F2 202 400=some UZ:=by kernel_rfl
theorem Od (s p:List UInt8) (w:World) (hs:s.length<=1048576):aj Tryz.prog 202 [.string (mk s),.string (mk p)] (λr w'=>r= .bool (p.isPrefixOf s)/\w'=w) w:=by refine aG Pt (by simp [UZ]) ?_;simp [UZ,yz];exact hs
def Wi (u:Int):Int:=
 if u=48\/u=959\/u=1086\/(242<=u/\u<=246)\/u=248 then 111
 else if u=49 then 108
 else if (224<=u/\u<=229)\/u=945\/u=1072 then 97
 else if u=231\/u=1089 then 99
 else if (232<=u/\u<=235)\/u=1077\/u=1105 then 101
 else if (236<=u/\u<=239)\/u=953 then 105
 else if u=954\/u=1082 then 107
 else if u=241 then 110
 else if u=961\/u=1088 then 112
 else if u=964\/u=1090 then 116
 else if (249<=u/\u<=252)\/u=965 then 117
 else if u=957 then 118
 else if u=967\/u=1093 then 120
 else if u=253\/u=255\/u=947\/u=1091 then 121
 else if u=32\/u=95 then 45
 else u
noncomputable def ZS:PS Tryz.prog where
 f:=202
 val args:=match args with
  | [.string s,.string p]=> .bool (p.data.toList.isPrefixOf s.data.toList)
  |_=>undef
 ok args:=match args with
  | [.string s,.string _]=>s.data.toList.length<=1048576
  |_=>False
 sound args w h:=by
  split at h
  ·rename_i s p
   have:=Od s.data.toList p.data.toList w h;rw [<-qU,<-qU] at this;exact this
  ·exact h.elim
noncomputable def xM:PS Tryz.prog where
 f:=278
 val args:=match args with
  | [.int _ u]=> .int .i32 (pI u)
  |_=>undef
 ok args:=match args with
  | [.int k u]=>k= .i32/\0<=u/\u<2097408
  |_=>False
 sound args w h:=by
  split at h
  ·obtain ⟨rfl,h1,h2⟩:=h;exact IK _ w h1 h2
  ·exact h.elim
noncomputable abbrev F3:PF Tryz.prog:=PF.of [lI,lK,yz,ZS,xM]
@[simp] theorem Xa (args:List Value):F3.val 202 args=ZS.val args:=rfl
@[simp] theorem YH (args:List Value):F3.ok 202 args=ZS.ok args:=rfl
def UA:ag:=⟨[0,1,2,6],22,[.slot 3],aM tG [] 0xb39bffdd0083a2f02cbff71c737572574f4140037a24a052283f83c95d3d05000de8928148a0fed3d05000de89281f4140037a72379e79f6d7481574d4f195f4140033a3fe3c1cd8cf4d4f195f4140033a3fe3c1cf53c657d05000ce8ffb3f4140033acd5d4fe90083d4fe900839f748ce83⟩
theorem OR:ai F3 147 400=some UA:=by kernel_rfl
theorem yS (l:List UInt8) (i:Nat) (w:World) (hi:i<l.length) (hl:l.length<=1048576):
  aj Tryz.prog 147 [.string (mk l),.int .i64 i,.int .i32 (eQ (bU (l.drop i)).1)] (λr w'=>r= .int .i32 (bU (l.drop i)).1/\w'=w) w:=by
 have hne:l.drop i≠ []:=by simp;omega
 have hu:=Rs hne;have hb:=ik hne;have hd:(l.drop i).headD 0=l[i]?.getD 0:=by simp [List.headD_eq_head?_getD,List.head?_drop]
 have hc:=(l[i]?.getD 0).toNat_lt;rw [hd] at hu;refine aG OR (by simp [UA]) ?_;simp [UA,ZS];refine ⟨λ_=>by omega,λ_=>by omega,?_⟩;refine aR (λh=> ?_) (λh=> ?_)
 ·simp at h
  rw [if_pos ⟨by omega,h.2⟩] at hu;simp
  try simp (disch:=omega) only [wrap32]
  exact ⟨hi,hu⟩
 ·simp at h
  rw [if_neg (by rintro ⟨h1,h2⟩;rw [List.isPrefixOf_iff_prefix.2 (h (by omega))] at h2;cases h2)] at hu;simp;exact hu
noncomputable def Ie:PS Tryz.prog where
 f:=147
 val args:=match args with
  | [.string s,.int _ i,.int _ _]=> .int .i32 (bU (s.data.toList.drop i.toNat)).1
  |_=>undef
 ok args:=match args with
  | [.string s,.int k i,.int k' r]=>k= .i64/\k'= .i32/\s.data.toList.length<=1048576/\0<=i/\i<s.data.toList.length/\r=eQ (bU (s.data.toList.drop i.toNat)).1
  |_=>False
 sound args w h:=by
  split at h
  ·rename_i s k i k' r
   obtain ⟨rfl,rfl,h1,h2,h3,rfl⟩:=h;obtain ⟨n,rfl⟩:=Int.eq_ofNat_of_zero_le h2;have:=yS s.data.toList n w (by omega) h1;rw [<-qU] at this
   simpa using this
  ·exact h.elim
noncomputable abbrev F4:PF Tryz.prog:=PF.of [lI,lK,yz,ZS,xM,Ie]
@[simp] theorem YK (args:List Value):F4.val 149 args=lI.val args:=rfl
@[simp] theorem a2a (args:List Value):F4.ok 149 args=lI.ok args:=rfl
@[simp] theorem YL (args:List Value):F4.val 148 args=lK.val args:=rfl
@[simp] theorem a3a (args:List Value):F4.ok 148 args=lK.ok args:=rfl
@[simp] theorem YJ (args:List Value):F4.val 278 args=xM.val args:=rfl
@[simp] theorem a1a (args:List Value):F4.ok 278 args=xM.ok args:=rfl
@[simp] theorem Xb (args:List Value):F4.val 147 args=Ie.val args:=rfl
@[simp] theorem YI (args:List Value):F4.ok 147 args=Ie.ok args:=rfl
@[simp] theorem eAa (u:Int) (k:IntKind):lI.val [.int k u]= .bool (dY u):=rfl
@[simp] theorem fFa (u:Int) (k:IntKind):lI.ok [.int k u]=(k= .i32):=rfl
@[simp] theorem eBa (u:Int) (k:IntKind):lK.val [.int k u]= .bool (letterF u):=rfl
@[simp] theorem gga (u:Int) (k:IntKind):lK.ok [.int k u]=(k= .i32):=rfl
@[simp] theorem eva (u:Int) (k:IntKind):xM.val [.int k u]= .int .i32 (pI u):=rfl
@[simp] theorem fxa (u:Int) (k:IntKind):xM.ok [.int k u]=(k= .i32/\0<=u/\u<2097408):=rfl
@[simp] theorem b4a (l:List UInt8) (i r:Int) (k k':IntKind):Ie.val [.string (mk l),.int k i,.int k' r]= .int .i32 (bU (l.drop i.toNat)).1:=by simp [Ie]
@[simp] theorem ema (l:List UInt8) (i r:Int) (k k':IntKind):Ie.ok [.string (mk l),.int k i,.int k' r]=(k= .i64/\k'= .i32/\l.length<=1048576/\0<=i/\i<l.length/\r=eQ (bU (l.drop i.toNat)).1):=by simp [Ie]
def ou (j:Bool) (u:Int):Bool:= !letterF u&&(j|| !dY u)
def qF:Bool->Nat->List (Int×Nat)->Option Nat
 |_,_,[]=>none
 |j,p,u::r=>if ou (j||r.isEmpty) u.1 then some p else qF (dY u.1) (p+u.2) r
def gn:Bool->Nat->List (Int×Nat)->Option Nat
 |_,_,[]=>none
 |j,p,u::r=>if ou j u.1 then some p else gn (dY u.1) (p+u.2) r
def mO:Bool->List (Int×Nat)->Bool
 |j,[]=>j
 |_,u::r=>mO (dY u.1) r
def rK:Nat->Nat->List (Int×Nat)->Nat
 |d,_,[]=>d
 |_,p,u::r=>rK p (p+u.2) r
theorem wW {u:Int} (h:dY u=true):letterF u=false:=by simp only [dY,Bool.or_eq_true,decide_eq_true_eq] at h;rcases h with (h|h)|h<;>subst h<;>decide
theorem Cn:∀(r:List (Int×Nat)) (j:Bool) (p d:Nat),r≠ []->qF j p r=(match gn j p r with|some q=>some q|none=>if mO j r then some (rK d p r) else none)
 | [],_,_,_,h=>absurd rfl h
 | [u],j,p,d,_=>by cases hj:dY u.1<;>cases hl:letterF u.1<;>cases j<;>(first|(simp [qF,gn,mO,rK,ou,hj,hl];done)|(have:=wW hj;rw [hl] at this;cases this))
 |u::v::r,j,p,d,_=>by
  have ih:=Cn (v::r) (dY u.1) (p+u.2) p (by simp);rw [qF,gn];simp only [List.isEmpty_cons,Bool.or_false];cases ou j u.1
  ·simp only [Bool.false_eq_true,if_false];rw [ih];rfl
  ·rfl
theorem rD:∀(r:List (Int×Nat)) (u:Int×Nat) (j:Bool) (p:Nat),gn j p (r++ [u])=(match gn j p r with|some q=>some q|none=>if ou (mO j r) u.1 then some (p+lh r) else none)
 | [],u,j,p=>by cases h:ou j u.1<;>simp [gn,mO,lh,h]
 |v::r,u,j,p=>by
  have ih:=rD r u (dY v.1) (p+v.2);cases h:ou j v.1
  ·simp only [List.cons_append,gn,mO,lh,h,Bool.false_eq_true,if_false]
   rw [ih,Nat.add_assoc];rfl
  ·simp [gn,h]
theorem vI:∀(r:List (Int×Nat)) (u:Int×Nat) (j:Bool),mO j (r++ [u])=dY u.1
 | [],u,j=>rfl
 |v::r,u,j=>by simp only [List.cons_append,mO];exact vI r u _
theorem vK:∀(r:List (Int×Nat)) (u:Int×Nat) (d p:Nat),rK d p (r++ [u])=p+lh r
 | [],u,d,p=>by simp [rK,lh]
 |v::r,u,d,p=>by simp only [List.cons_append,rK,lh];rw [vK r u];omega
def C9:Option Nat->Int
 |some q=>q
 |none=> -1
def jo (l:List UInt8):Int×Int:=
 if l= [] then (0,41)
 else if 24<(dQ l).length then (lh ((dQ l).take 24),42)
 else match qF true 0 (dQ l) with
  |some p=>(p,40)
  |none=>(0,0)
def l97:ag:=⟨[0,2,3,4,5,6,7,8,9,10,14,15],56,[.slot 1,.slot 2],aM tG [] 0x2ce79e79bff699d92002480068bc0b2ffda67648c3c109010171b57501010b098d404042c2a2f027dd01447237db5d20501b3633575010107d404041edbacb79e799f7407167737571f8c1c6c7e307a2f027dd01c472379e7e38dd7617db5d2057574c7e3073c1482442e18e110b8d31f8c1cf0510b1f8c1d1097484406e17481574c7e33e3c1cf3d31f8cf8f073c7e33ecd5d404041f50101079dcdd553de901d000eebe53de901d000eea77375750d00fe0f50d00fea2f02cbff699d922cf04240705c6d5d4af900c36352be4030e771c699d95c4b0481fa5712c13811f12c1207c4b04e041a2f0af02271b566ccc076ccb066ccc07128134d0409e2df3281f0c37fdd20869da659d9200548b0c44800e8bc0b2ffda67648e38109200171b5753034000d8d4c0d00039da676480092001⟩
theorem We:ai F4 97 400=some l97:=by kernel_rfl
theorem lu (l:List UInt8) (w0 w:World) (A:ak) (hl:l.length<=1048576) (s:St w0 A w):
  aj Tryz.prog 97 [.string (mk l)] (λr w'=>r= .tuple #[.int .i64 (jo l).1,.int .i64 (jo l).2]/\St w0 A w') w:=by
 refine aG We (by simp [l97]) ?_;simp [l97];refine aR (λh=> ?_) (λh=> ?_)
 ·simp at h
  subst h;simp [jo];exact s
 simp at h;simp;refine Cf s ?_;intro b w1 s1;simp;refine gI (λenv w'=>∃(i:Nat) (done:List (Int×Nat)) (x y z t:Value),env= [.string (mk l),.int .i64 0,.int .i64 0,.int .i64 done.length,.int .i64 (C9 (gn true 0 done)),.int .i64 (rK 0 0 done),.bool (mO true done),x,y,z,.pointer (some ⟨b,0,none⟩),t]/\
   i<=l.length/\dQ l=done++dQ (l.drop i)/\i=lh done/\done.length<=24/\St w0 (A*pt b (.stringIter (mk l) i)) w')
  (λenv _=>25 -aw env 3) ⟨0,[],_,_,_,_,by simp [C9,gn,rK,mO];exact ⟨rfl,rfl,rfl,rfl⟩,by omega,by simp,rfl,by simp,s1⟩ ?_
 rintro LQ env w' ⟨i,done,x,y,z,t,rfl,hi,hu,hsum,hd24,s'⟩ hN hE hR;simp;refine Ce s' (λh w2 s2=> ?_) (λh=> ?_)
 ·simp at h
  have hle:=Hu (l:=l) (i:=i) h;have hob:=ik (l:=l.drop i) (by simp;omega);rw [j3,nB _ (by simp;omega)] at s2;have hstep:=wI hu h;rw [j3,nB _ (by simp;omega)];simp;refine aR (λh2=> ?_) (λh2=> ?_)
  ·simp at h2
   simp;refine hR _ _ ?_;simp;refine ⟨?_,s2.drop⟩;have hlen:24<(dQ l).length:=by rw [hstep];simp;omega
   unfold jo;rw [if_neg (by assumption),if_pos hlen,hu,show (24:Nat)=done.length by omega,List.take_left,<-hsum];simp
  ·simp at h2
   simp
   try simp (disch:=omega) only [wrap64]
   refine ⟨⟨hl,h⟩,?_⟩;have hsn:=rD done (bU (l.drop i)) true 0;have fin:∀fv:Int,fv=C9 (gn true 0 (done++ [bU (l.drop i)]))->LQ .nrm [.string (mk l),.int .i64 0,.int .i64 0,.int .i64 (done.length+1),.int .i64 fv,.int .i64 i,.bool (dY (bU (l.drop i)).1),.int .i64 i,.int .i32 (eQ (bU (l.drop i)).1),.int .i32 (bU (l.drop i)).1,.pointer (some ⟨b,0,none⟩),.tuple #[.bool true,.int .i64 i,.int .i32 (eQ (bU (l.drop i)).1)]] w2:=by intro fv hfv;refine hN _ _ ⟨i+(bU (l.drop i)).2,done++ [bU (l.drop i)],.int .i64 i,.int .i32 (eQ (bU (l.drop i)).1),.int .i32 (bU (l.drop i)).1,.tuple #[.bool true,.int .i64 i,.int .i32 (eQ (bU (l.drop i)).1)],?_,hle.1,hstep,by simp [DM,lh,hsum],by simp;omega,s2⟩ (by simp [aw];omega);rw [hfv,vK,vI,Nat.zero_add,<-hsum];simp
   cases hf:gn true 0 done with
   |some q=>
    have e0:C9 (some q)=(q:Int):=rfl;rw [hf] at hsn;have e1:¬((q:Int)<0):=by omega
    rw [e0];simp [e1];exact fin _ (by rw [hsn];rfl)
   |none=>
    have e0:C9 none= -1:=rfl;rw [hf] at hsn;simp only at hsn;rw [e0];cases hlt:letterF (bU (l.drop i)).1
    ·simp
     refine aR (λh3=> ?_) (λh3=> ?_)
     ·simp
      refine fin _ ?_;rw [hsn,ou,hlt,h3];simp [C9,hsum]
     ·simp
      refine fin _ ?_;rw [hsn,ou,hlt,h3];rfl
    ·simp
     refine fin _ ?_;rw [hsn,ou,hlt];rfl
 ·simp at h
  simp;refine hE _ _ _ ?_;simp;have:i=l.length:=by omega
  subst this;rw [List.drop_length,nY,List.append_nil] at hu;have hne:dQ l≠ []:=by intro e;have:=F6 l;rw [e] at this;simp [lh] at this;exact absurd (List.eq_nil_of_length_eq_zero this.symm) (by assumption)
  have hck:jo l=(match qF true 0 (dQ l) with|some p=>((p:Int),40)|none=>(0,0)):=by unfold jo;rw [if_neg (by assumption),if_neg (by rw [hu];omega)]
  rw [Cn _ _ _ 0 hne,hu] at hck;cases hf:gn true 0 done with
  |some q=>
   rw [hf] at hck;simp only at hck;have e0:C9 (some q)=(q:Int):=rfl;rw [e0,hck];have e1:decide ((q:Int)<0)=false:=by simp
   simp [e1];exact s'.drop
  |none=>
   rw [hf] at hck;simp only at hck;have e0:C9 none= -1:=rfl;rw [e0,hck];cases hj:mO true done
   ·simp
    exact s'.drop
   ·simp
    exact s'.drop
end Go.HL.Nm
