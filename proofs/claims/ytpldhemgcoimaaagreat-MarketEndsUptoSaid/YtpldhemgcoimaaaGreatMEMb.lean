/- Part 2. -/
import Derived.Test.YtpldhemgcoimaaaGreatMEMa
import Derived.Deep.Quiet
set_option linter.unusedSimpArgs false
set_option linter.unusedVariables false
set_option maxRecDepth 4000
namespace Go.HL
inductive RT where
 |done (sets:List (Nat×SE)) (c:Option SE)
 |chk (g:Option (SE×Bool)) (p:PO) (xs:dt) (k:RT)
 |isb (g:Option (SE×Bool)) (c:SE) (k:RT)
 |eff (eo:EO) (xs:dt) (k:RT)
 |jQ (e:SE) (k:RT)
 |ite (c:SE) (w:Bool) (a b:RT)
def fV (P:Program) (s:Sem Next) (K:Value->World->Prop) (w:World):Prop:=
 match s.run P w with
 | .ok (.value v) w'=>K v w'
 | .ok .skip w'=>K undef w'
 | .ok (.enter f args) w'=>Calls P f args w' λe w''=>∃v,e= .returned v/\K v w''
 |_=>False
def aA (P:Program) (eo:EO) (vs:List Value) (K:Value->World->Prop) (w:World):Prop:=
 eo.info P->fV P (eo.mg vs) K w
def mh (v:Value) (A B:Prop):Prop:=(v= .bool true/\A)\/(v= .bool false/\B)
section
variable {P:Program} (F:PF P)
def bI (env bvs:List Value):Option (SE×Bool)->Prop
 |none=>True
 |some (c,b)=>ov (SE.val F env bvs c) b=true
def cV (env bvs:List Value):List (Nat×SE)->List Value->List Value
 | [],acc=>acc
 |(i,e)::r,acc=>cV env bvs r (acc.set i (SE.val F env bvs e))
def RT.wp (env:List Value) (K:List Value->Option Value->World->Prop):RT->List Value->World->Prop
 | .done sets c,bvs,w=>K (cV F env bvs sets env) (c.map (SE.val F env bvs)) w
 | .chk g p xs k,bvs,w=>(bI F env bvs g->p.ok F (dt.dF F env bvs xs))/\k.wp env K bvs w
 | .isb g c k,bvs,w=>(bI F env bvs g->∃b,SE.val F env bvs c= .bool b)/\k.wp env K bvs w
 | .eff eo xs k,bvs,w=>aA P eo (dt.dF F env bvs xs) (λv w'=>k.wp env K (bvs++ [v]) w') w
 | .jQ e k,bvs,w=>k.wp env K (bvs++ [SE.val F env bvs e]) w
 | .ite c v a b,bvs,w=>if ov (SE.val F env bvs c) v=true then a.wp env K bvs w else b.wp env K bvs w
def Ed (P:Program) (C:World->Prop) (eo:EO) (vs:List Value) (v:Value) (w:World):Prop:=
 eo.info P->Oper.quietUpon P C w v ((eo.mg vs).run P w)
def RT.np (C:World->Prop) (env:List Value) (K:List Value->Option Value->Prop):RT->List Value->Prop
 | .done sets c,bvs=>K (cV F env bvs sets env) (c.map (SE.val F env bvs))
 | .chk g p xs k,bvs=>(bI F env bvs g->p.ok F (dt.dF F env bvs xs))/\k.np C env K bvs
 | .isb g c k,bvs=>(bI F env bvs g->∃b,SE.val F env bvs c= .bool b)/\k.np C env K bvs
 | .eff eo xs k,bvs=>∃v,(∀w,C w->Ed P C eo (dt.dF F env bvs xs) v w)/\k.np C env K (bvs++ [v])
 | .jQ e k,bvs=>k.np C env K (bvs++ [SE.val F env bvs e])
 | .ite c v a b,bvs=>if ov (SE.val F env bvs c) v=true then a.np C env K bvs else b.np C env K bvs
abbrev tX:=List (Nat×SE)
def look (L:List Nat) (σ:tX) (t:Nat):Option SE:=
 match σ.lookup t with
 |some e=>some e
 |none=>(L.idxOf? t).map .inp
def pY (L:List Nat) (σ:tX):Operand->Option SE
 | .tmp t=>look L σ t
 | .const v=>some (.cst v)
 | .global g=>some (.cst (.pointer (some ⟨g,0,none⟩)))
 | .func f=>some (.cst (.func (.func f) #[] #[]))
def kW (L:List Nat) (σ:tX):List Operand->Option dt
 | []=>some .nil
 |x::r=>match pY L σ x,kW L σ r with
  |some e,some es=>some (.cons e es)
  |_,_=>none
def AW (N:Nat) (o:Oper) (σ:tX) (e:SE):Option tX:=
 match o.dst with
 |some d=>if d<N then some ((d,e)::σ) else none
 |none=>some σ
def xn (n:Nat):tX->Bool
 | []=>true
 |(_,e)::r=>SE.lt n e&&xn n r
def I8 (n:Nat):fU->Bool
 | []=>true
 |(e,_,_)::r=>SE.lt n e&&I8 n r
def E7 (kn:fU):Option (SE×Bool)->SE->SE
 |none,e=>e
 |some (c,b),e=>mkIte kn c b e (.cst undef)
def A9:Option (SE×Bool)->SE->SE
 |none,e=>e
 |some (c,w),e=>strip c w true e
def DH:Option (SE×Bool)->dt->dt
 |none,es=>es
 |some (c,w),es=>Bb c w es
def qa (L:List Nat) (N:Nat) (σ:tX) (kn:fU) (o:Oper) (g:Option (SE×Bool)) (k:tX->Option RT):Option RT:=
 match o.op with
 | .move x| .assign x=>do
  let e<-pY L σ x
  k (<-AW N o σ (E7 kn g e))
 | .pick c x y=>do
  let c<-pY L σ c
  let x<-pY L σ x
  let y<-pY L σ y
  let c:=A9 g c
  let t<-k (<-AW N o σ (E7 kn g (Fx kn c (A9 g x) (A9 g y))))
  some (.isb g c t)
 |_=>do
  let (p,xs)<-PO.of P F o.op
  let xs<-kW L σ xs
  let xs:=DH g xs
  let t<-k (<-AW N o σ (E7 kn g (.op p xs)))
  some (.chk g p xs t)
def bH (o:Oper):Bool:=
 match o.op with
 | .move _| .assign _| .pick _ _ _=>true
 |_=>(PO.of P F o.op).isSome
inductive Gd where
 |yes|no|split (c:SE) (w:Bool)|name|sym (c:SE)
def atomic:SE->Bool
 | .inp _| .bv _| .cst _=>true
 |_=>false
def qM (kn:fU) (g:SE) (want:Bool) (pu:Bool):Gd:=
 match jd false kn g want with
 |some v=>if v then .yes else .no
 |none=>if pu then (if atomic g then .sym g else .name) else match g with
  | .ite c w _ _=>if SE.same c c then .split c w else .name
  |e=>if atomic e then .split e want else .name
def HI (L:List Nat) (N:Nat) (σ:tX) (kn:fU) (nb:Nat) (o:Oper) (k:tX->Nat->Option RT):Option RT:=
 if bH F o then qa F L N σ kn o none λσ'=>k σ' nb
 else do
  let (eo,xs)<-EO.of P o
  let xs<-kW L σ xs
  if xn nb σ&&I8 nb kn then do
   let t<-k (<-AW N o σ (.bv nb)) (nb+1)
   some (.eff eo xs t)
  else none
def fk (L:List Nat) (N:Nat) (all:List Oper) (leaf:tX->Option RT):Nat->List Oper->tX->fU->Nat->Option RT
 |0,_,_,_,_=>none
 |_+1,[],σ,_,_=>leaf σ
 |fuel+1,o::rest,σ,kn,nb=>
  match o.guard with
  |none=>HI F L N σ kn nb o λσ' nb'=>fk L N all leaf fuel rest σ' kn nb'
  |some (j,want)=>do
   let gd<-(all[j]?).bind (·.dst)
   let g0<-σ.lookup gd
   match qM kn (res kn g0) want (bH F o) with
   | .yes=>HI F L N σ kn nb o λσ' nb'=>fk L N all leaf fuel rest σ' kn nb'
   | .no=>fk L N all leaf fuel rest (<-AW N o σ (.cst undef)) kn nb
   | .sym e=>qa F L N σ kn o (some (e,want)) λσ'=>fk L N all leaf fuel rest σ' kn nb
   | .name=>
    if xn nb σ&&I8 nb kn&&decide (gd<N) then do
     let t<-fk L N all leaf fuel (o::rest) ((gd,.bv nb)::σ) kn (nb+1)
     some (.jQ (res kn g0) t)
    else none
   | .split c w=>do
    let a<-fk L N all leaf fuel (o::rest) σ ((c,w,true)::kn) nb
    let b<-fk L N all leaf fuel (o::rest) σ ((c,w,false)::kn) nb
    some (.ite c w a b)
def dp (σ:tX):Nat->List Nat->List (Nat×SE)
 |_,[]=> []
 |i,t::r=>match σ.lookup t with
  |some e=>match e with
   | .inp j=>if i=j then dp σ (i+1) r else (i,.inp j)::dp σ (i+1) r
   |e=>(i,e)::dp σ (i+1) r
  |none=>dp σ (i+1) r
end
section
variable {P:Program} (F:PF P)
def mvE:EO->Bool
 | .call _| .cext _| .callv| .inv _| .app .. | .st _| .new .. | .box _| .bsl .. | .mks .. | .mkm .. | .lW _| .rng _| .rngS _| .nxt .. | .bi .delete _ _ _=>true
 |_=>false
def qcE:EO->Bool
 | .call f=>F.qs.contains f
 |_=>false
def FA (eo:EO):Bool:=mvE eo&& !qcE F eo
def fS (o:Oper):Bool:= !bH F o&&match EO.of P o with
 |some (eo,_)=>FA F eo
 |none=>false
def wl (ops:Array Oper) (i:Nat):Nat->List Nat
 |0=> []
 |n+1=>
  let l:=wl ops i n
  if ((ops[n]?).map λo=>o.after.any λe=>Region.binds .any e&&(e.on==i||l.contains e.on)).getD false then n::l else l
def Wk (ops:Array Oper) (i:Nat):Bool:=((ops[i]?).map (fS F)).getD false
def bq (ops:Array Oper):List Nat:=(List.range ops.size).filter (Wk F ops)
def Kx (ops:Array Oper):Bool:=(bq F ops).all λi=>let l:=wl ops i ops.size;(bq F ops).all λj=> !decide (i<j)||l.contains j
def Z7 (ops:Array Oper):Bool:=(bq F ops).all λk=>((bq F ops).any λj=>decide (k<j))||
 ((List.range ops.size).all λi=> !decide (i<k)||(wl ops i ops.size).contains k)&&(let l:=wl ops k ops.size;(List.range ops.size).all λj=> !decide (k<j)||l.contains j)
def fJ (ops:Array Oper):Bool:=(List.range ops.size).all λi=>((ops[i]?).map λo=>o.guard.isNone).getD true
def Lz (ops:Array Oper) (i:Nat):Bool:=((ops[i]?).map λo=> !bH F o&& !fS F o).getD false
def WO (ops:Array Oper):Option Nat:=(List.range (bq F ops).length).find? λt=>match (bq F ops)[t]? with
 |some k=>(List.range ops.size).all λi=> !Lz F ops i||(wl ops i ops.size).contains k
 |none=>false
def pQ (ops:Array Oper):Option Nat:=if Kx F ops then some (match fJ ops,WO F ops with
  |true,some t=>t+1
  |_,_=>if Z7 F ops then (bq F ops).length else (bq F ops).length+1) else none
def era (m:Nat) (vs:List Value):Bool:=decide (m<=vs.length)
structure W8 where
 ap:List Value->World->Prop
 q:Nat->List Value->Value:=λ_ _=>undef
instance:CoeFun W8 (λ_=>List Value->World->Prop):=⟨W8.ap⟩
def stillUpon (q:Nat->List Value->Value) (D:World->Prop) (w:World) (v:Value):Result Next->Prop
 | .ok (.value u) w'=>w'=w/\v=u
 | .ok .skip w'=>w'=w/\v=undef
 | .ok (.enter f args) w'=>w'=w/\((f∈F.ids/\F.ok f args.toList/\v=F.val f args.toList)\/(f∉F.ids/\v=q f args.toList/\Calls P f args w λe w''=>e= .returned v/\D w''))
 |_=>False
def jE (P:Program) (R:Value->World->Prop):Result Next->Prop
 | .ok (.value u) w'=>R u w'
 | .ok .skip w'=>R undef w'
 | .ok (.enter f args) w'=>Calls P f args w' (λe w''=>∃v,e= .returned v/\R v w'')
 |_=>False
theorem lf {q:Nat->List Value->Value} {D D':World->Prop} {w:World} {v v':Value} {r:Result Next} (h:stillUpon F q D w v r) (h':stillUpon F q D' w v' r):v=v':=by
 cases r with
 |ok n w1=>
  cases n with
  |value u=>exact h.2.trans h'.2.symm
  |skip=>exact h.2.trans h'.2.symm
  |enter f args=>
   rcases h.2 with ⟨a,_,b⟩|⟨a,b,_⟩<;>rcases h'.2 with ⟨c,_,d⟩|⟨c,d,_⟩
   ·exact b.trans d.symm
   ·exact absurd a c
   ·exact absurd c a
   ·exact b.trans d.symm
  |_=>exact h.elim
 |halt x w1=>exact h.elim
theorem ij {R:Value->World->Prop} {r:Result Next} (h:jE P R r):∃v w,R v w:=by
 cases r with
 |ok n w1=>
  cases n with
  |value u=>exact ⟨u,w1,h⟩
  |skip=>exact ⟨undef,w1,h⟩
  |enter f args=>
   obtain ⟨e,w',fr,⟨v,_,hr⟩,_⟩:=(h:Calls P f args w1 _) [];exact ⟨v,w',hr⟩
  |_=>exact h.elim
 |halt x w1=>exact h.elim
variable (C:W8) (m:Nat)
def J8 (eo:EO) (args:List Value) (vs:List Value) (v:Value):Prop:=eo.info P->∀vs' w,era m vs'=era m vs->C vs' w->stillUpon F C.q (C vs') w v ((eo.mg args).run P w)
def J5 (P:Program) (C:W8) (eo:EO) (args:List Value) (vs:List Value):Prop:=eo.info P->∀w,C vs w->jE P (λv w'=>C (vs++ [v]) w') ((eo.mg args).run P w)
def RT.oc (env:List Value) (K:List Value->Option Value->List Value->Prop):RT->List Value->List Value->Prop
 | .done sets c,bvs,vs=>K (cV F env bvs sets env) (c.map (SE.val F env bvs)) vs
 | .chk g p xs k,bvs,vs=>(bI F env bvs g->p.ok F (dt.dF F env bvs xs))/\k.oc env K bvs vs
 | .isb g c k,bvs,vs=>(bI F env bvs g->∃b,SE.val F env bvs c= .bool b)/\k.oc env K bvs vs
 | .eff eo xs k,bvs,vs=>(FA F eo=false/\∃v,J8 F C m eo (dt.dF F env bvs xs) vs v/\k.oc env K (bvs++ [v]) vs)\/
   (FA F eo=true/\J5 P C eo (dt.dF F env bvs xs) vs/\∀v,(∃w,C (vs++ [v]) w)->k.oc env K (bvs++ [v]) (vs++ [v]))
 | .jQ e k,bvs,vs=>k.oc env K (bvs++ [SE.val F env bvs e]) vs
 | .ite c v a b,bvs,vs=>if ov (SE.val F env bvs c) v=true then a.oc env K bvs vs else b.oc env K bvs vs
def HQ (o:Oper) (a:Act) (vs:List Value) (v:Value):Prop:=∀vs' w,(bH F o=true\/era m vs'=era m vs)->C vs' w->stillUpon F C.q (C vs') w v ((execOp a.eval o).run P w)
def QT (o:Oper) (a:Act) (vs:List Value):Prop:=∀w,C vs w->jE P (λv w'=>C (vs++ [v]) w') ((execOp a.eval o).run P w)
def CQ (o:Oper) (K:Act->List Value->Prop) (a:Act) (vs:List Value):Prop:=
 (fS F o=false/\∃v,HQ F C m o a vs v/\K (a.put o.dst v) vs)\/(fS F o=true/\QT (P:=P) C o a vs/\∀v,(∃w,C (vs++ [v]) w)->K (a.put o.dst v) (vs++ [v]))
def jP (ops:Array Oper) (Q:Act->List Value->Prop):List Oper->Act->List Value->Prop
 | [],a,vs=>Q a vs
 |o::rest,a,vs=>if Region.wanted o (yielded ops a.tmps) then CQ F C m o (jP ops Q rest) a vs else jP ops Q rest (a.put o.dst undef) vs
def QM (ops:Array Oper) (i:Nat) (K:Act->List Value->Prop) (a:Act) (vs:List Value):Prop:=
 match ops[i]? with
 |none=>K a vs
 |some o=>if Region.wanted o (yielded ops a.tmps) then CQ F C m o K a vs else K (a.put o.dst undef) vs
def ku (ops:Array Oper) (Q:Act->List Value->Prop):Nat->Array Bool->Act->List Value->Prop
 |0,listed,a,vs=>Region.ready .any ops listed= []/\Q a vs
 |fuel+1,listed,a,vs=>(Region.ready .any ops listed= []->Q a vs)/\∀i∈Region.ready .any ops listed,QM F C m ops i (ku ops Q fuel (listed.setIfInBounds i true)) a vs
variable {C m}
theorem D7 {o:Oper} {a:Act} {vs:List Value} {K:Act->List Value->Prop} {K':Act->World->Prop} {Q':Exit->Act->World->Prop} {w:World} (hw:C vs w)
  (h:∀a vs w',C vs w'->K a vs->K' a w') (hh:CQ F C m o K a vs):o.wp P a w K' Q':=by
 unfold Oper.wp;rcases hh with ⟨_,v,h1,h2⟩|⟨_,h1,h2⟩
 ·have h3:=h1 vs w (.inr rfl) hw
  generalize (execOp a.eval o).run P w=r at h3;cases r with
  |ok n w1=>
   cases n with
   |value u=>obtain ⟨rfl,rfl⟩:=h3;exact h _ _ _ hw h2
   |skip=>obtain ⟨rfl,rfl⟩:=h3;exact h _ _ _ hw h2
   |enter f args=>
    obtain ⟨rfl,h3⟩:=h3;rcases h3 with ⟨hf,hok,rfl⟩|⟨_,_,h3⟩
    ·have:=F.sound f hf args.toList w1 hok
     rw [Array.toArray_toList] at this;refine Calls.mono this λe w'' ⟨he,hww⟩=> ?_;subst he;subst hww;exact h _ _ _ hw h2
    ·refine Calls.mono h3 λe w'' ⟨he,hD⟩=> ?_
     subst he;exact h _ _ _ hD h2
   |_=>exact h3.elim
  |halt x w1=>exact h3.elim
 ·have h3:=h1 w hw
  generalize (execOp a.eval o).run P w=r at h3;cases r with
  |ok n w1=>
   cases n with
   |value u=>exact h _ _ _ h3 (h2 u ⟨_,h3⟩)
   |skip=>exact h _ _ _ h3 (h2 undef ⟨_,h3⟩)
   |enter f args=>
    refine Calls.mono h3 λe w'' ⟨v,he,hr⟩=> ?_;subst he;exact h _ _ _ hr (h2 v ⟨_,hr⟩)
   |_=>exact h3.elim
  |halt x w1=>exact h3.elim
theorem iu {ops:Array Oper} {Q:Act->List Value->Prop} {Q':Exit->Act->World->Prop} (hQ:∀a vs w,C vs w->Q a vs->Q' .normal a w):∀(fuel:Nat) (listed:Array Bool) (a:Act) (vs:List Value) (w:World),C vs w->
  ku F C m ops Q fuel listed a vs->wpAny P .any ops Q' fuel listed a w
 |0,_,_,_,_,hw,h=>⟨h.1,hQ _ _ _ hw h.2⟩
 |fuel+1,listed,a,vs,w,hw,h=>by
  refine ⟨λh0=>hQ _ _ _ hw (h.1 h0),λi hi=> ?_⟩;have hi:=h.2 i hi;unfold QM at hi;unfold wpOp;split
  ·rename_i ho;simp only [ho] at hi;exact iu hQ fuel _ _ _ _ hw hi
  ·rename_i o ho
   simp only [ho] at hi;split
   ·rename_i hwn
    rw [if_pos hwn] at hi;exact .inl (D7 F hw (λa' vs' w' hw'=>iu hQ fuel _ a' vs' w' hw') hi)
   ·rename_i hwn
    rw [if_neg hwn] at hi;exact iu hQ fuel _ _ _ _ hw hi
def DC (ops:Array Oper) (listed:Array Bool):Prop:=∀j o,ops[j]? =some o->listed.getD j false=true->∀e∈o.after,Region.binds .any e=true->listed.getD e.on false=true
theorem jl {ops:Array Oper} {i:Nat} {listed:Array Bool} (hd:DC ops listed):∀n j,j∈wl ops i n->listed.getD j false=true->listed.getD i false=true
 |0,j,h,_=>by simp [wl] at h
 |n+1,j,h,hl=>by
  simp only [wl] at h;split at h
  ·rename_i hc
   rcases List.mem_cons.1 h with rfl|h
   ·cases ho:ops[j]? with
    |none=>simp [ho] at hc
    |some o=>
     simp only [ho,Option.map_some,Option.getD_some] at hc;obtain ⟨e,he,hb⟩:=Array.any_eq_true'.1 hc;simp only [Bool.and_eq_true,Bool.or_eq_true,beq_iff_eq,List.contains_iff_mem] at hb;have hle:=hd j o ho hl e he hb.1;rcases hb.2 with h1|h1
     ·rw [h1] at hle;exact hle
     ·exact jl hd j e.on h1 hle
   ·exact jl hd n j h hl
  ·exact jl hd n j h hl
theorem gB {ops:Array Oper} {i j:Nat} {listed:Array Bool} (hd:DC ops listed) (hr:j∈Region.ready .any ops listed):∀n,j∈wl ops i n->listed.getD i false=true
 |0,h=>by simp [wl] at h
 |n+1,h=>by
  simp only [wl] at h;split at h
  ·rename_i hc
   rcases List.mem_cons.1 h with rfl|h
   ·obtain ⟨_,o,ho,hall⟩:=mem_ready.1 hr
    simp only [ho,Option.map_some,Option.getD_some] at hc;obtain ⟨e,he,hb⟩:=Array.any_eq_true'.1 hc;simp only [Bool.and_eq_true,Bool.or_eq_true,beq_iff_eq,List.contains_iff_mem] at hb;have hle:=hall e he hb.1;rcases hb.2 with h1|h1
    ·rw [h1] at hle;exact hle
    ·exact jl hd j e.on h1 hle
   ·exact gB hd hr n h
  ·exact gB hd hr n h
theorem DC.set {ops:Array Oper} {listed:Array Bool} (hd:DC ops listed) {j:Nat} (hr:j∈Region.ready .any ops listed):DC ops (listed.setIfInBounds j true):=by
 intro k o ho hl e he hb;obtain ⟨_,oj,hoj,hall⟩:=mem_ready.1 hr
 by_cases h:j=k
 ·subst h
  rw [ho] at hoj;cases hoj;exact getD_set_true (hall e he hb)
 ·rw [getD_set_ne false h] at hl
  exact getD_set_true (hd k o ho hl e he hb)
def oX (ops:Array Oper) (listed:Array Bool):Nat:=((bq F ops).filter λk=>listed.getD k false).length
theorem dZ {ops:Array Oper} {i:Nat} {o:Oper} (ho:ops[i]? =some o) (h:fS F o=true):i∈bq F ops:=by simp only [bq,List.mem_filter,List.mem_range];exact ⟨(Array.getElem?_eq_some_iff.1 ho).1,by simp [Wk,ho,h]⟩
theorem pR (ops:Array Oper):(bq F ops).Nodup:=(List.nodup_range).filter _
theorem ig {listed:Array Bool} {j:Nat} (h:listed.getD j true=false):listed.getD j false=false/\j<listed.size:=by
 rcases Nat.lt_or_ge j listed.size with h'|h'
 ·simp [h'] at h⊢;exact h
 ·simp [Array.getElem?_eq_none h'] at h
theorem uQ {l:List Nat} (hn:l.Nodup) {j:Nat} (hj:j∈l) {p q:Nat->Bool} (hp:p j=false) (hq:q j=true) (he:∀k,k≠j->q k=p k):(l.filter q).length=(l.filter p).length+1:=by
 induction l with
 |nil=>cases hj
 |cons a l ih=>
  rw [List.nodup_cons] at hn;rcases List.mem_cons.1 hj with rfl|hj
  ·have e:l.filter q=l.filter p:=List.filter_congr λk hk=>he k (λh=>hn.1 (h▸hk))
   rw [List.filter_cons_of_pos hq,List.filter_cons_of_neg (by simp [hp]),e,List.length_cons]
  ·have ha:a≠j:=λh=>hn.1 (h▸hj)
   have:=ih hn.2 hj
   by_cases hpa:p a=true
   ·rw [List.filter_cons_of_pos (by rw [he a ha];exact hpa),List.filter_cons_of_pos hpa,List.length_cons,List.length_cons,this]
   ·rw [List.filter_cons_of_neg (by rw [he a ha];exact hpa),List.filter_cons_of_neg hpa,this]
theorem sq {ops:Array Oper} {listed:Array Bool} {j:Nat} (hj:j∈bq F ops) (hu:listed.getD j true=false):oX F ops (listed.setIfInBounds j true)=oX F ops listed+1:=by obtain ⟨h0,hlt⟩:=ig hu;refine uQ (pR F ops) hj h0 ?_ λk hk=>getD_set_ne false (Ne.symm hk);simp [hlt]
theorem Gz {ops:Array Oper} {listed:Array Bool} {j:Nat} (hj:j∉bq F ops):oX F ops (listed.setIfInBounds j true)=oX F ops listed:=by
 unfold oX
 congr 1
 refine List.filter_congr λk hk=>getD_set_ne false ?_;rintro rfl;exact hj hk
theorem yA:∀(l:List Nat) (x:Nat),l.Pairwise (·<·)->x∈l->l[(l.filter λy=>decide (y<x)).length]? =some x
 |a::l,x,hp,hx=>by
  obtain ⟨h1,h2⟩:=List.pairwise_cons.1 hp
  by_cases e:x=a
  ·subst e
   have:(x::l).filter (λy=>decide (y<x))= []:=by
    refine List.filter_eq_nil_iff.2 λy hy=> ?_;rcases List.mem_cons.1 hy with rfl|hy
    ·simp
    ·have:=h1 y hy;simp;omega
   rw [this];rfl
  ·have hx':x∈l:=(List.mem_cons.1 hx).resolve_left e
   have hlt:a<x:=h1 x hx';rw [List.filter_cons_of_pos (by simpa using hlt),List.length_cons,List.getElem?_cons_succ];exact yA l x h2 hx'
theorem wY (ops:Array Oper):(bq F ops).Pairwise (·<·):=List.Pairwise.filter _ List.pairwise_lt_range
theorem Fz {ops:Array Oper} (hc:Kx F ops=true) {listed:Array Bool} (hd:DC ops listed) {x:Nat} (hxr:x∈Region.ready .any ops listed) (hxm:x∈bq F ops):(bq F ops)[oX F ops listed]? =some x:=by
 have hxu:listed.getD x false=false:=(ig (mem_ready.1 hxr).1).1;have e:(bq F ops).filter (λk=>listed.getD k false)=(bq F ops).filter λy=>decide (y<x):=by
  refine List.filter_congr λy hy=> ?_;have hc1:=List.all_eq_true.1 (List.all_eq_true.1 hc x hxm) y hy;have hc2:=List.all_eq_true.1 (List.all_eq_true.1 hc y hy) x hxm;simp only [Bool.or_eq_true,Bool.not_eq_true',decide_eq_false_iff_not,List.contains_iff_mem] at hc1 hc2
  by_cases h:y<x
  ·have h3:=gB hd hxr _ (hc2.resolve_left λg=>g h)
   rw [h3];simp [h]
  ·cases hl:listed.getD y false with
   |false=>simp [h]
   |true=>
    have hne:x≠y:=by rintro rfl;rw [hxu] at hl;cases hl
    have h3:=jl hd _ _ (hc1.resolve_left λg=>g (by omega)) hl;rw [hxu] at h3;cases h3
 have:=yA (bq F ops) x (wY F ops) hxm;unfold oX;rw [e];exact this
theorem ux {ops:Array Oper} {listed:Array Bool} {j:Nat}:oX F ops listed<=oX F ops (listed.setIfInBounds j true):=by unfold oX;rw [<-List.countP_eq_length_filter,<-List.countP_eq_length_filter];exact List.countP_mono_left λk _ hk=>getD_set_true hk
theorem SK {ops:Array Oper} {listed:Array Bool} {j:Nat} (hj:j∈bq F ops) (hu:listed.getD j false=false):oX F ops listed<(bq F ops).length:=by unfold oX;refine Nat.lt_of_le_of_ne (List.length_filter_le _ _) λh=> ?_;have:=List.length_filter_eq_length_iff.1 h j hj;rw [hu] at this;cases this
theorem NH {ops:Array Oper} {listed:Array Bool} {j k:Nat} (hj:j∈bq F ops) (hk:k∈bq F ops) (hne:j≠k) (hu:listed.getD j false=false) (hu2:listed.getD k false=false):oX F ops listed+1<(bq F ops).length:=by
 have hlt:k<ops.size:=by simp only [bq,List.mem_filter,List.mem_range] at hk;exact hk.1
 have e:=uQ (pR F ops) hk (p:=λx=>listed.getD x false) (q:=λx=>listed.getD x false||x==k) hu2 (by simp) (λx hx=>by simp [hx]);unfold oX;rw [<-e];refine Nat.lt_of_le_of_ne (List.length_filter_le _ _) λh=> ?_;have:=List.length_filter_eq_length_iff.1 h j hj;simp [hu,hne] at this
theorem LD {ops:Array Oper} {i:Nat} {K:Act->List Value->Prop} {a:Act} {vs:List Value} (hw:∃w,C vs w) (h:QM F C m ops i K a vs):∃a' vs',K a' vs':=by
 unfold QM at h;split at h
 ·exact ⟨_,_,h⟩
 ·split at h
  ·rcases h with ⟨_,v,_,h⟩|⟨_,h1,h⟩
   ·exact ⟨_,_,h⟩
   ·obtain ⟨w,hw⟩:=hw
    obtain ⟨v,w',hv⟩:=ij (h1 w hw);exact ⟨_,_,h v ⟨w',hv⟩⟩
  ·exact ⟨_,_,h⟩
theorem vP {ops:Array Oper} (hm:pQ F ops=some m) {listed:Array Bool} (hd:DC ops listed) {i j:Nat} (hij:i<j) (hiu:listed.getD i false=false)
  (hr:j∈Region.ready .any ops listed) (hi:i∈bq F ops) (hj:j∈bq F ops):False:=by
 unfold pQ at hm;split at hm
 ·rename_i hc
  have hc':=List.all_eq_true.1 (List.all_eq_true.1 hc i hi) j hj;simp only [Bool.or_eq_true,Bool.not_eq_true',decide_eq_false_iff_not,List.contains_iff_mem] at hc';rcases hc' with h|h
  ·exact h hij
  ·have:=gB hd hr _ h
   rw [hiu] at this;cases this
 ·cases hm
theorem CZ {ops:Array Oper} (hm:pQ F ops=some m) {listed:Array Bool} (hd:DC ops listed) {vs:List Value} (hl:vs.length<=oX F ops listed) (heq:fJ ops=true->vs.length=oX F ops listed) {i j:Nat} (hij:i<j) (hsz:j<ops.size) (hiu:listed.getD i false=false)
  (hir:i∈Region.ready .any ops listed) (hr:j∈Region.ready .any ops listed) {x y:Nat} (hx2:x=i/\y=j\/x=j/\y=i) (hxm:x∈bq F ops) {o:Oper} (ho:ops[y]? =some o) (hp:bH F o=false):vs.length+1≠m:=by
 intro he;have hx:x=i\/x=j:=by
  rcases hx2 with h|h
  ·exact .inl h.1
  ·exact .inr h.1
 have hju:listed.getD j false=false:=(ig (mem_ready.1 hr).1).1;have hxu:listed.getD x false=false:=by rcases hx with rfl|rfl<;>assumption
 have h1:=SK F hxm hxu;have hxr:x∈Region.ready .any ops listed:=by rcases hx with rfl|rfl<;>assumption
 have apart:(∀a,a<ops.size->¬a<x\/x∈wl ops a ops.size)->(∀b,b<ops.size->¬x<b\/b∈wl ops x ops.size)->False:=by
  intro h2 h3;rcases hx with rfl|rfl
  ·rcases h3 j hsz with h|h
   ·exact h hij
   ·have:=gB hd hr _ h
    rw [hiu] at this;cases this
  ·rcases h2 i (by omega) with h|h
   ·exact h hij
   ·have:=gB hd hr _ h
    rw [hiu] at this;cases this
 have hm0:=hm;unfold pQ at hm;split at hm
 ·rename_i hc
  split at hm
  ·rename_i t hg hst
   simp only [Option.some.injEq] at hm;have hcnt:oX F ops listed=t:=by have:=heq hg;omega
   have hat:=Fz F hc hd hxr hxm;rw [hcnt] at hat;have hf:=List.find?_some hst;rw [hat] at hf;have hys:y<ops.size:=(Array.getElem?_eq_some_iff.1 ho).1;have hyu:listed.getD y false=false:=by rcases hx2 with ⟨_,rfl⟩|⟨_,rfl⟩<;>assumption
   by_cases hmv:fS F o=true
   ·have hym:=dZ F ho hmv
    rcases hx2 with ⟨rfl,rfl⟩|⟨rfl,rfl⟩
    ·exact vP F hm0 hd hij hiu hr hxm hym
    ·exact vP F hm0 hd hij hiu hr hym hxm
   ·have h2:=List.all_eq_true.1 hf y (List.mem_range.2 hys)
    simp only [Lz,ho,Option.map_some,Option.getD_some,hp,Bool.eq_false_iff.2 hmv,Bool.not_false,Bool.and_self,Bool.not_true,Bool.false_or,List.contains_iff_mem] at h2;have:=gB hd hxr _ h2;rw [hyu] at this;cases this
  ·split at hm
   ·rename_i hlast
    simp only [Option.some.injEq] at hm;have:=List.all_eq_true.1 hlast x hxm;simp only [Bool.or_eq_true,Bool.and_eq_true,List.any_eq_true,List.all_eq_true,decide_eq_true_eq,List.mem_range,Bool.not_eq_true',decide_eq_false_iff_not,List.contains_iff_mem] at this;rcases this with ⟨k,hk,hxk⟩|⟨h2,h3⟩
    ·have hkl:listed.getD k false=true:=by
      cases hku:listed.getD k false with
      |true=>rfl
      |false=>
       have:=NH F hxm hk (by omega) hxu hku;omega
     have hc':=List.all_eq_true.1 (List.all_eq_true.1 hc x hxm) k hk;simp only [Bool.or_eq_true,Bool.not_eq_true',decide_eq_false_iff_not,List.contains_iff_mem] at hc';rcases hc' with h|h
     ·exact h hxk
     ·have:=jl hd _ _ h hkl
      rw [hxu] at this;cases this
    ·exact apart h2 h3
   ·simp only [Option.some.injEq] at hm
    omega
 ·cases hm
theorem Cj {vs:List Value} {v:Value} (h:vs.length+1≠m):era m (vs++ [v])=era m vs:=by simp only [era,List.length_append,List.length_singleton,decide_eq_decide];omega
theorem jD {ops:Array Oper} {i:Nat} {o:Oper} (ho:ops[i]? =some o) {K:Act->List Value->Prop} {a:Act} {vs:List Value}:
  QM F C m ops i K a vs=if Region.wanted o (yielded ops a.tmps) then CQ F C m o K a vs else K (a.put o.dst undef) vs:=by
 unfold QM;rw [ho]
theorem gR {ops:Array Oper} {j:Nat} {o:Oper} (ho:ops[j]? =some o) (h:fS F o=false):j∉bq F ops:=by intro hj;simp only [bq,List.mem_filter,Wk,ho,Option.map_some,Option.getD_some] at hj;rw [h] at hj;cases hj.2
theorem mT {ops:Array Oper} (h:fJ ops=true) {j:Nat} {o:Oper} (ho:ops[j]? =some o) (y:Nat->Option Bool):Region.wanted o y=true:=by have hj:j<ops.size:=(Array.getElem?_eq_some_iff.1 ho).1;have:=List.all_eq_true.1 h j (List.mem_range.2 hj);rw [ho] at this;simp only [Option.map_some,Option.getD_some,Option.isNone_iff_eq_none] at this;unfold Region.wanted;rw [this]
theorem Bj {ops:Array Oper} {Q:Act->List Value->Prop} (hm:pQ F ops=some m) {i:Nat} {oi:Oper} (hi:ops[i]? =some oi) (hsel:∀(j:Nat) (o:Oper) cs b,ops[j]? =some o->o.op≠ .select cs b):
  ∀(fuel:Nat) (listed:Array Bool) (a:Act) (vs:List Value),(∀k,k<i->listed.getD k false=true)->DC ops listed->vs.length<=oX F ops listed->(fJ ops=true->vs.length=oX F ops listed)->
   (∀j oj,ops[j]? =some oj->j≠i->listed.getD j true=false->(∀e∈oj.after,Region.binds .any e=true->e.on≠i)->oi.apart ops oj=true)->
   i∈Region.ready .any ops listed->(∃w,C vs w)->
   QM F C m ops i (ku F C m ops Q fuel (listed.setIfInBounds i true)) a vs->ku F C m ops Q (fuel+1) listed a vs:=by
 intro fuel
 induction fuel with
 |zero=>
  intro listed a vs _ _ _ _ _ hr hw H;refine ⟨λh=>(by rw [h] at hr;cases hr),λj hj=> ?_⟩
  by_cases hji:j=i
  ·subst hji;exact H
  ·obtain ⟨a',vs',h⟩:=LD F hw H
   have:=ready_mono hj hji;rw [h.1] at this;cases this
 |succ fuel ih=>
  intro listed a vs hlow hd hlen heq hfree hr hw H;refine ⟨λh=>(by rw [h] at hr;cases hr),λj hj=> ?_⟩
  by_cases hji:j=i
  ·subst hji;exact H
  obtain ⟨hjun,oj,hoj,hall⟩:=mem_ready.1 hj;have hiu:=(ig (mem_ready.1 hr).1).1;have hju:=(ig hjun).1;have hij:i<j:=by
   rcases Nat.lt_or_ge j i with h|h
   ·rw [hlow j h] at hju;cases hju
   ·omega
  have hsz:j<ops.size:=(Array.getElem?_eq_some_iff.1 hoj).1;have hnot:∀e∈oj.after,Region.binds .any e=true->e.on≠i:=λe he hb heq=>by have:=hall e he hb;rw [heq,hiu] at this;cases this
  obtain ⟨ap1,ap2,ap3⟩:=Oper.apart_spec (hfree j oj hoj hji hjun hnot);have hrj:=ready_mono hj hji;have hri:=ready_mono hr (Ne.symm hji);have hlow':∀k,k<i->(listed.setIfInBounds j true).getD k false=true:=λk hk=>getD_set_true (hlow k hk);have hd':=hd.set hj;have hfree':∀k ok,ops[k]? =some ok->k≠i->(listed.setIfInBounds j true).getD k true=false->
    (∀e∈ok.after,Region.binds .any e=true->e.on≠i)->oi.apart ops ok=true:=λk ok hk hki hun hno=>by
   refine hfree k ok hk hki ?_ hno
   by_cases hjk:j=k
   ·subst hjk;exact hjun
   ·rw [getD_set_ne true hjk] at hun;exact hun
  have hlen':vs.length<=oX F ops (listed.setIfInBounds j true):=Nat.le_trans hlen (ux F);have heqn:∀{l:Array Bool},fS F oj=false->(fJ ops=true->vs.length=oX F ops l)->fJ ops=true->vs.length=oX F ops (l.setIfInBounds j true):=λh0 hq hg=>by rw [Gz F (gR F hoj h0)];exact hq hg
  have heqm:∀u,fS F oj=true->fJ ops=true->(vs++ [u]).length=oX F ops (listed.setIfInBounds j true):=λu h0 hg=>by rw [sq F (dZ F hoj h0) hjun,List.length_append,List.length_singleton,heq hg]
  have heqw:Region.wanted oj (yielded ops a.tmps)≠true->fJ ops=true->vs.length=oX F ops (listed.setIfInBounds j true):=λh0 hg=>absurd (mT hg hoj _) h0;have hcomm:(listed.setIfInBounds i true).setIfInBounds j true=(listed.setIfInBounds j true).setIfInBounds i true:=Array.setIfInBounds_comm _ _ (Ne.symm hji);have ej:∀u,execOp (a.put oi.dst u).eval oj=execOp a.eval oj:=λu=>execOp_put oj (λcs b=>hsel j oj cs b hoj) a oi.dst u ap1;have ei:∀u,execOp (a.put oj.dst u).eval oi=execOp a.eval oi:=λu=>execOp_put oi (λcs b=>hsel i oi cs b hi) a oj.dst u ap3;have wj:∀u,Region.wanted oj (yielded ops (a.put oi.dst u).tmps)=Region.wanted oj (yielded ops a.tmps):=λu=>wanted_put oj a oi.dst u ap1;have wi:∀u,Region.wanted oi (yielded ops (a.put oj.dst u).tmps)=Region.wanted oi (yielded ops a.tmps):=λu=>wanted_put oi a oj.dst u ap3
  have pc:∀v u,(a.put oi.dst v).put oj.dst u=(a.put oj.dst u).put oi.dst v:=λv u=>Act.put_comm a v u ap2;rw [jD F hi] at H;rw [jD F hoj];have caseS:∀v,(∀vs',(bH F oi=true\/era m vs'=era m vs)->∀u,∀K:Act->List Value->Prop,K ((a.put oj.dst u).put oi.dst v) vs'->QM F C m ops i K (a.put oj.dst u) vs')->
    ku F C m ops Q (fuel+1) (listed.setIfInBounds i true) (a.put oi.dst v) vs->(if Region.wanted oj (yielded ops a.tmps)=true then CQ F C m oj (ku F C m ops Q (fuel+1) (listed.setIfInBounds j true)) a vs else ku F C m ops Q (fuel+1) (listed.setIfInBounds j true) (a.put oj.dst undef) vs):=by
   intro v again HK;have h1:=HK.2 j hrj;rw [jD F hoj,wj] at h1;split
   ·rename_i hwn
    rw [if_pos hwn] at h1;rcases h1 with ⟨hnm,u,hu,hK⟩|⟨hmv,hmo,hK⟩
    ·refine .inl ⟨hnm,u,λvs' w' he hw'=> ?_,ih _ _ _ hlow' hd' hlen' (heqn hnm heq) hfree' hri hw (again vs (.inr rfl) u _ ?_)⟩
     ·have:=hu vs' w' he hw'
      rwa [ej] at this
     ·rw [<-pc,<-hcomm];exact hK
    ·have hjm:=dZ F hoj hmv
     have hera:∀u,bH F oi=true\/era m (vs++ [u])=era m vs:=λu=>by
      by_cases hp:bH F oi=true
      ·exact .inl hp
      ·exact .inr (Cj (CZ F hm hd hlen heq hij hsz hiu hr hj (.inr ⟨rfl,rfl⟩) hjm hi (Bool.eq_false_iff.2 hp)))
     refine .inr ⟨hmv,λw' hw'=> ?_,λu hu=>ih _ _ _ hlow' hd' ?_ (heqm u hmv) hfree' hri hu (again _ (hera u) u _ ?_)⟩
     ·have:=hmo w' hw'
      rwa [ej] at this
     ·rw [sq F hjm hjun,List.length_append,List.length_singleton];omega
     ·rw [<-pc,<-hcomm];exact hK u hu
   ·rename_i hwn
    rw [if_neg hwn] at h1;refine ih _ _ _ hlow' hd' hlen' (heqw hwn) hfree' hri hw (again vs (.inr rfl) undef _ ?_);rw [<-pc,<-hcomm];exact h1
  by_cases hwi:Region.wanted oi (yielded ops a.tmps)=true
  ·rw [if_pos hwi] at H
   rcases H with ⟨hni,v,hv,HK⟩|⟨hmv,hmo,HK⟩
   ·refine caseS v (λvs' he u K hK=> ?_) HK
    rw [jD F hi,wi,if_pos hwi];refine .inl ⟨hni,v,λvs'' w' he' hw'=> ?_,hK⟩;have:=hv vs'' w' (he'.elim .inl λh=>he.elim .inl λg=> .inr (h.trans g)) hw'
    rwa [ei]
   ·have him:=dZ F hi hmv
    have hera:∀u,bH F oj=true\/era m (vs++ [u])=era m vs:=λu=>by
     by_cases hp:bH F oj=true
     ·exact .inl hp
     ·exact .inr (Cj (CZ F hm hd hlen heq hij hsz hiu hr hj (.inl ⟨rfl,rfl⟩) him hoj (Bool.eq_false_iff.2 hp)))
    have hnj:fS F oj≠true:=λh=>vP F hm hd hij hiu hj him (dZ F hoj h);have each:∀v,(∃w,C (vs++ [v]) w)->QM F C m ops j (ku F C m ops Q fuel ((listed.setIfInBounds i true).setIfInBounds j true)) (a.put oi.dst v) (vs++ [v]):=λv hv=>(HK v hv).2 j hrj;split
    ·rename_i hwn
     obtain ⟨w,hw'⟩:=hw;obtain ⟨v0,w0,hv0⟩:=ij (hmo w hw');have h0:=each v0 ⟨w0,hv0⟩;rw [jD F hoj,wj,if_pos hwn] at h0;rcases h0 with ⟨hnm,u,hu,_⟩|⟨h,_⟩
     ·have hst:HQ F C m oj a vs u:=λvs' w' he hw'=>by
       have:=hu vs' w' (he.elim .inl λh=>(hera v0).elim .inl λg=> .inr (h.trans g.symm)) hw'
       rwa [ej] at this
      refine .inl ⟨hnm,u,hst,ih _ _ _ hlow' hd' hlen' (heqn hnm heq) hfree' hri ⟨w,hw'⟩ ?_⟩;rw [jD F hi,wi,if_pos hwi];refine .inr ⟨hmv,λw' hw'=> ?_,λv hv=> ?_⟩
      ·rw [ei];exact hmo w' hw'
      ·have h1:=each v hv
       rw [jD F hoj,wj,if_pos hwn] at h1;rcases h1 with ⟨_,u',hu',hK⟩|⟨h,_⟩
       ·obtain ⟨w1,hw1⟩:=hv
        have e1:=hu' (vs++ [v]) w1 (.inr rfl) hw1;rw [ej] at e1;have e2:=hst (vs++ [v]) w1 (hera v) hw1;have:=lf F e1 e2;subst this;rw [<-pc,<-hcomm];exact hK
       ·exact absurd h hnj
     ·exact absurd h hnj
    ·rename_i hwn
     refine ih _ _ _ hlow' hd' hlen' (heqw hwn) hfree' hri hw ?_;rw [jD F hi,wi,if_pos hwi];refine .inr ⟨hmv,λw' hw'=> ?_,λv hv=> ?_⟩
     ·rw [ei];exact hmo w' hw'
     ·have h1:=each v hv
      rw [jD F hoj,wj,if_neg hwn] at h1;rw [<-pc,<-hcomm];exact h1
  ·rw [if_neg hwi] at H
   refine caseS undef (λvs' he u K hK=> ?_) H;rw [jD F hi,wi,if_neg hwi];exact hK
theorem wM {ops:Array Oper} {Q:Act->List Value->Prop} (hm:pQ F ops=some m) (hs:Region.noSelect ops=true):∀(l:List Oper) (k:Nat) (listed:Array Bool) (a:Act) (vs:List Value),(∀j,l[j]? =ops[k+j]?)->
  Region.lexFrom .any ops l.length k listed=true->(∀i,i<k->listed.getD i false=true)->DC ops listed->vs.length<=oX F ops listed->(fJ ops=true->vs.length=oX F ops listed)->(∃w,C vs w)->
  jP F C m ops Q l a vs->ku F C m ops Q l.length listed a vs
 | [],_,_,_,_,_,hB,_,_,_,_,_,h=>⟨by simpa [Region.lexFrom] using hB,h⟩
 |o::l,k,listed,a,vs,hl,hB,hlow,hd,hlen,heq,hw,h=>by
  have h0:ops[k]? =some o:=by simpa using (hl 0).symm
  simp only [List.length_cons,Region.lexFrom,Bool.and_eq_true] at hB;obtain ⟨⟨hr,hf⟩,hB'⟩:=hB;have hr:k∈Region.ready .any ops listed:=by simpa using hr
  have hun:=(mem_ready.1 hr).1;have hl':∀j,l[j]? =ops[k+1+j]?:=λj=>by have:=hl (j+1);simpa [Nat.add_assoc,Nat.add_comm 1 j] using this
  have hlow':∀i,i<k+1->(listed.setIfInBounds k true).getD i false=true:=λi hi=>by
   by_cases e:i=k
   ·subst e;simp [(ig hun).2]
   ·exact getD_set_true (hlow i (by omega))
  have go:∀a' vs',vs'.length<=oX F ops (listed.setIfInBounds k true)->(fJ ops=true->vs'.length=oX F ops (listed.setIfInBounds k true))->(∃w,C vs' w)->jP F C m ops Q l a' vs'->ku F C m ops Q l.length (listed.setIfInBounds k true) a' vs':=λa' vs' hc hq hw' hh=>
   wM hm hs l (k+1) _ _ _ hl' hB' hlow' (hd.set hr) hc hq hw' hh
  refine Bj F hm h0 (Region.noSelect_spec hs) l.length listed a vs hlow hd hlen heq (Region.free_spec h0 hf) hr hw ?_;rw [jD F h0];simp only [jP] at h;split
  ·rename_i hwn
   rw [if_pos hwn] at h;rcases h with ⟨hn0,v,h1,h2⟩|⟨h1,h2,h3⟩
   ·exact .inl ⟨hn0,v,h1,go _ _ (Nat.le_trans hlen (ux F)) (λhg=>by rw [Gz F (gR F h0 hn0)];exact heq hg) hw h2⟩
   ·refine .inr ⟨h1,h2,λv hv=>go _ _ ?_ (λhg=> ?_) hv (h3 v hv)⟩
    ·rw [sq F (dZ F h0 h1) hun,List.length_append,List.length_singleton];omega
    ·rw [sq F (dZ F h0 h1) hun,List.length_append,List.length_singleton,heq hg]
  ·rename_i hwn
   rw [if_neg hwn] at h;exact go _ _ (Nat.le_trans hlen (ux F)) (λhg=>absurd (mT hg h0 _) hwn) hw h
theorem nn {ops:Array Oper} {id:Nat} {Q:Exit->Act->World->Prop} {a:Act} {w:World} (hmx:P.follows .mixedOrders=true) (hB:Region.lexB .any ops=true) (hm:pQ F ops=some m) (hC:C [] {w with drawn:=w.drawn+1})
  (h:jP F C m ops (λa' vs=>∀w',C vs w'->Q .normal a' w') ops.toList a []):(Code.region id ops true).wp P Q a w:=by
 simp only [Region.lexB,Bool.and_eq_true] at hB;refine wp_region_any hmx (iu F (m:=m) (Q:=λa' vs=>∀w',C vs w'->Q .normal a' w') (λ_ vs w' hw' h=>h w' hw') _ _ _ [] _ hC ?_);have:=wM F (C:=C) hm hB.1 ops.toList 0 (Array.replicate ops.size false) a [] (by simp) (by simpa using hB.2) (by intro i hi;omega) (by
  intro j o _ hj;rcases Nat.lt_or_ge j ops.size with h'|h'
  ·simp [h'] at hj
  ·simp [Array.getElem?_eq_none,h'] at hj) (Nat.zero_le _) (λ_=>by
   have e:(bq F ops).filter (λk=>(Array.replicate ops.size false).getD k false)= []:=List.filter_eq_nil_iff.2 λk _=>by rw [Array.getD_eq_getD_getElem?,Array.getElem?_replicate];split<;>simp
   unfold oX;rw [e];rfl) ⟨_,hC⟩ h
 simpa using this
end
abbrev Fm:=Nat->Option Value
def Fm.set (ρ:Fm) (k:Nat) (v:Value):Fm:=λj=>if j=k then some v else ρ j
def Fm.none:Fm:=λ_=> .none
def Fm.at (l:List Nat) (ρ ρ':Fm):Prop:=∀k∈l,ρ' k=ρ k
def Fm.le (ρ ρ':Fm):Prop:=∀k v,ρ k=some v->ρ' k=some v
theorem Fm.iK (ρ:Fm) (k:Nat) (v:Value):ρ.set k v k=some v:=if_pos rfl
theorem Fm.fz (ρ:Fm) {k j:Nat} (v:Value) (h:j≠k):ρ.set k v j=ρ j:=if_neg h
theorem Fm.comm (ρ:Fm) {i j:Nat} (u v:Value) (h:i≠j):(ρ.set i u).set j v=(ρ.set j v).set i u:=by
 funext k;simp only [Fm.set]
 by_cases h1:k=j
 ·subst h1;simp [Ne.symm h]
 ·simp [h1]
theorem Fm.Eh {l:List Nat} {ρ ρ':Fm} {k:Nat} (v:Value) (h:k∉l):Fm.at l (ρ.set k v) ρ'↔Fm.at l ρ ρ':=by
 constructor
 ·intro g j hj;rw [g j hj];exact Fm.fz (j:=j) (k:=k) ρ v (λe=>h (e▸hj))
 ·intro g j hj;rw [g j hj];exact (Fm.fz (j:=j) (k:=k) ρ v (λe=>h (e▸hj))).symm
theorem Fm.nu (l:List Nat) (ρ:Fm):Fm.at l ρ ρ:=λ_ _=>rfl
theorem Fm.BC {l:List Nat} {a b c:Fm} (h:Fm.at l a b) (g:Fm.at l b c):Fm.at l a c:=λk hk=>(g k hk).trans (h k hk)
structure Sk where
 ap:Fm->World->Prop
 q:Nat->List Value->Value:=λ_ _=>undef
instance:CoeFun Sk (λ_=>Fm->World->Prop):=⟨Sk.ap⟩
section
variable {P:Program} (F:PF P)
def km (ops:Array Oper) (i:Nat):List Nat:=(bq F ops).filter λj=>(wl ops j ops.size).contains i
def rF (ops:Array Oper):Bool:=(List.range ops.size).all λi=>((ops[i]?).map λo=>bH F o||o.guard.isNone).getD true
def oH (ops:Array Oper):Nat->List Oper->List (Nat×List Nat)
 |_,[]=> []
 |i,o::r=>if bH F o then oH ops (i+1) r else (i,km F ops i)::oH ops (i+1) r
def Cl (ops:Array Oper) (ρ:Fm):Prop:=∀k,ρ k≠ .none->∀j∈km F ops k,ρ j≠ .none
variable (C:Sk)
def J7 (eo:EO) (args:List Value) (pre:List Nat) (ρ:Fm) (v:Value):Prop:=eo.info P->∀ρ' w,Fm.at pre ρ ρ'->C ρ' w->stillUpon F C.q (C ρ') w v ((eo.mg args).run P w)
def J4 (P:Program) (C:Sk) (eo:EO) (args:List Value) (i:Nat) (pre:List Nat) (ps:List (Nat×List Nat)) (ρ:Fm):Prop:=eo.info P->∀ρ' w,Fm.at pre ρ ρ'->ρ' i= .none->(∀q∈ps,i∈q.2->ρ' q.1= .none)->C ρ' w->jE P (λv w'=>C (ρ'.set i v) w') ((eo.mg args).run P w)
def RT.oW (env:List Value) (K:List Value->Option Value->Fm->Prop):RT->List Value->List (Nat×List Nat)->Fm->Prop
 | .done sets c,bvs,_,ρ=>K (cV F env bvs sets env) (c.map (SE.val F env bvs)) ρ
 | .chk g p xs k,bvs,ps,ρ=>(bI F env bvs g->p.ok F (dt.dF F env bvs xs))/\k.oW env K bvs ps ρ
 | .isb g c k,bvs,ps,ρ=>(bI F env bvs g->∃b,SE.val F env bvs c= .bool b)/\k.oW env K bvs ps ρ
 | .eff eo xs k,bvs,p::ps,ρ=>(FA F eo=false/\∃v,J7 F C eo (dt.dF F env bvs xs) p.2 ρ v/\k.oW env K (bvs++ [v]) ps ρ)\/
   (FA F eo=true/\J4 P C eo (dt.dF F env bvs xs) p.1 p.2 ps ρ/\∀v,(∃ρ' w,Fm.le (ρ.set p.1 v) ρ'/\C ρ' w)->k.oW env K (bvs++ [v]) ps (ρ.set p.1 v))
 | .eff _ _ _,_,[],_=>False
 | .jQ e k,bvs,ps,ρ=>k.oW env K (bvs++ [SE.val F env bvs e]) ps ρ
 | .ite c v a b,bvs,ps,ρ=>if ov (SE.val F env bvs c) v=true then a.oW env K bvs ps ρ else b.oW env K bvs ps ρ
def HP (o:Oper) (a:Act) (pre:List Nat) (ρ:Fm) (v:Value):Prop:=∀ρ' w,(bH F o=true\/Fm.at pre ρ ρ')->C ρ' w->stillUpon F C.q (C ρ') w v ((execOp a.eval o).run P w)
def Hq (ops:Array Oper) (o:Oper) (a:Act) (i:Nat) (pre:List Nat) (ρ:Fm):Prop:=∀ρ' w,Fm.at pre ρ ρ'->ρ' i= .none->Cl F ops ρ'->C ρ' w->jE P (λv w'=>C (ρ'.set i v) w') ((execOp a.eval o).run P w)
def Cm (ops:Array Oper) (o:Oper) (i:Nat) (pre:List Nat) (K:Act->Fm->Prop) (a:Act) (ρ:Fm):Prop:=
 (fS F o=false/\∃v,HP F C o a pre ρ v/\K (a.put o.dst v) ρ)\/(fS F o=true/\Hq F C ops o a i pre ρ/\∀v,(∃ρ' w,Fm.le (ρ.set i v) ρ'/\Cl F ops ρ'/\C ρ' w)->K (a.put o.dst v) (ρ.set i v))
def jO (ops:Array Oper) (Q:Act->Fm->Prop):Nat->List Oper->Act->Fm->Prop
 |_,[],a,ρ=>Q a ρ
 |i,o::rest,a,ρ=>if Region.wanted o (yielded ops a.tmps) then Cm F C ops o i (km F ops i) (jO ops Q (i+1) rest) a ρ else jO ops Q (i+1) rest (a.put o.dst undef) ρ
def M7 (ops:Array Oper) (i:Nat) (K:Act->Fm->Prop) (a:Act) (ρ:Fm):Prop:=
 match ops[i]? with
 |none=>K a ρ
 |some o=>if Region.wanted o (yielded ops a.tmps) then Cm F C ops o i (km F ops i) K a ρ else K (a.put o.dst undef) ρ
def gZ (ops:Array Oper) (Q:Act->Fm->Prop):Nat->Array Bool->Act->Fm->Prop
 |0,listed,a,ρ=>Region.ready .any ops listed= []/\Q a ρ
 |fuel+1,listed,a,ρ=>(Region.ready .any ops listed= []->Q a ρ)/\∀i∈Region.ready .any ops listed,M7 F C ops i (gZ ops Q fuel (listed.setIfInBounds i true)) a ρ
def Dn (ops:Array Oper) (listed:Array Bool) (ρ:Fm):Prop:=∀k∈bq F ops,(ρ k).isSome=listed.getD k false
variable {C}
theorem uV {ops:Array Oper} (hf:rF F ops=true) {i:Nat} {o:Oper} (ho:ops[i]? =some o) (hp:bH F o=false) (y:Nat->Option Bool):Region.wanted o y=true:=by have hi:i<ops.size:=(Array.getElem?_eq_some_iff.1 ho).1;have:=List.all_eq_true.1 hf i (List.mem_range.2 hi);rw [ho] at this;simp only [Option.map_some,Option.getD_some,hp,Bool.false_or,Option.isNone_iff_eq_none] at this;unfold Region.wanted;rw [this]
theorem Dn.put {ops:Array Oper} {listed:Array Bool} {ρ:Fm} (hd:Dn F ops listed ρ) {i:Nat} (hi:i<listed.size) (v:Value):Dn F ops (listed.setIfInBounds i true) (ρ.set i v):=by
 intro k hk
 by_cases e:k=i
 ·subst e;rw [Fm.iK];simp [hi]
 ·rw [Fm.fz ρ v e,getD_set_ne false (Ne.symm e)];exact hd k hk
theorem Dn.non {ops:Array Oper} {listed:Array Bool} {ρ:Fm} (hd:Dn F ops listed ρ) {i:Nat} (hi:i∉bq F ops):Dn F ops (listed.setIfInBounds i true) ρ:=by intro k hk;have e:k≠i:=λe=>hi (e▸hk);rw [getD_set_ne false (Ne.symm e)];exact hd k hk
theorem Dn.free {ops:Array Oper} {listed:Array Bool} {ρ:Fm} (hd:Dn F ops listed ρ) {i:Nat} (hi:i∈bq F ops) (hu:listed.getD i false=false):ρ i= .none:=by
 have:=hd i hi;rw [hu] at this;cases h:ρ i with
 |none=>rfl
 |some v=>rw [h] at this;cases this
theorem Cl.put {ops:Array Oper} {ρ:Fm} (h:Cl F ops ρ) {i:Nat} (hi:∀j∈km F ops i,ρ j≠ .none) (v:Value):Cl F ops (ρ.set i v):=by
 intro k hk j hj
 by_cases e:j=i
 ·subst e;rw [Fm.iK];simp
 ·rw [Fm.fz ρ v e]
  by_cases e':k=i
  ·subst e';exact hi j hj
  ·rw [Fm.fz ρ v e'] at hk;exact h k hk j hj
theorem Dl {ops:Array Oper} {listed:Array Bool} {ρ:Fm} (hd:DC ops listed) (hn:Dn F ops listed ρ) {i:Nat} (hr:i∈Region.ready .any ops listed):∀k∈km F ops i,(ρ k).isSome=true:=by intro k hk;simp only [km,List.mem_filter,List.contains_iff_mem] at hk;rw [hn k hk.1];exact gB hd hr _ hk.2
theorem FO {ops:Array Oper} {listed:Array Bool} {ρ ρ':Fm} (hd:DC ops listed) (hn:Dn F ops listed ρ) {i:Nat} (hr:i∈Region.ready .any ops listed) (hle:Fm.le ρ ρ'):Fm.at (km F ops i) ρ ρ':=by intro k hk;obtain ⟨v,hv⟩:=Option.isSome_iff_exists.1 (Dl F hd hn hr k hk);rw [hv];exact hle k v hv
theorem AV {ops:Array Oper} {listed:Array Bool} {ρ ρ':Fm} (hd:DC ops listed) (hn:Dn F ops listed ρ) {i:Nat} (hr:i∈Region.ready .any ops listed) (hle:Fm.le ρ ρ'):∀j∈km F ops i,ρ' j≠ .none:=by intro j hj;obtain ⟨v,hv⟩:=Option.isSome_iff_exists.1 (Dl F hd hn hr j hj);rw [hle j v hv];simp
theorem Hr {ops:Array Oper} {listed:Array Bool} (hd:DC ops listed) {i j:Nat} (hr:i∈Region.ready .any ops listed) (hu:listed.getD j false=false):j∉km F ops i:=by intro h;simp only [km,List.mem_filter,List.contains_iff_mem] at h;have:=gB hd hr _ h.2;rw [hu] at this;cases this
theorem gm {ops:Array Oper} {i:Nat} {o:Oper} (ho:ops[i]? =some o) {K:Act->Fm->Prop} {a:Act} {ρ:Fm}:
  M7 F C ops i K a ρ=if Region.wanted o (yielded ops a.tmps) then Cm F C ops o i (km F ops i) K a ρ else K (a.put o.dst undef) ρ:=by
 unfold M7;rw [ho]
theorem D6 {ops:Array Oper} {o:Oper} {i:Nat} {pre:List Nat} {a:Act} {ρ:Fm} {K:Act->Fm->Prop} {K':Act->World->Prop} {Q':Exit->Act->World->Prop} {w:World} (hw:C ρ w) (hcl:Cl F ops ρ) (hcs:∀v,fS F o=true->Cl F ops (ρ.set i v)) (hu:fS F o=true->ρ i= .none)
  (h1:∀a w',fS F o=false->C ρ w'->K a ρ->K' a w') (h2:∀a v w',fS F o=true->C (ρ.set i v) w'->K a (ρ.set i v)->K' a w') (hh:Cm F C ops o i pre K a ρ):o.wp P a w K' Q':=by
 unfold Oper.wp;rcases hh with ⟨hm,v,g1,g2⟩|⟨hm,g1,g2⟩
 ·have h3:=g1 ρ w (.inr (Fm.nu _ _)) hw
  generalize (execOp a.eval o).run P w=r at h3;cases r with
  |ok n w1=>
   cases n with
   |value u=>obtain ⟨rfl,rfl⟩:=h3;exact h1 _ _ hm hw g2
   |skip=>obtain ⟨rfl,rfl⟩:=h3;exact h1 _ _ hm hw g2
   |enter f args=>
    obtain ⟨rfl,h3⟩:=h3;rcases h3 with ⟨hf,hok,rfl⟩|⟨_,_,h3⟩
    ·have:=F.sound f hf args.toList w1 hok
     rw [Array.toArray_toList] at this;refine Calls.mono this λe w'' ⟨he,hww⟩=> ?_;subst he;subst hww;exact h1 _ _ hm hw g2
    ·refine Calls.mono h3 λe w'' ⟨he,hD⟩=> ?_
     subst he;exact h1 _ _ hm hD g2
   |_=>exact h3.elim
  |halt x w1=>exact h3.elim
 ·have h3:=g1 ρ w (Fm.nu _ _) (hu hm) hcl hw
  have fin:∀u w',C (ρ.set i u) w'->K' (a.put o.dst u) w':=λu w' hc=>h2 _ u _ hm hc (g2 u ⟨_,w',λ_ _ e=>e,hcs u hm,hc⟩);generalize (execOp a.eval o).run P w=r at h3;cases r with
  |ok n w1=>
   cases n with
   |value u=>exact fin _ _ h3
   |skip=>exact fin _ _ h3
   |enter f args=>
    refine Calls.mono h3 λe w'' ⟨v,he,hr⟩=> ?_;subst he;exact fin _ _ hr
   |_=>exact h3.elim
  |halt x w1=>exact h3.elim
theorem ir {ops:Array Oper} (hfr:rF F ops=true) {Q:Act->Fm->Prop} {Q':Exit->Act->World->Prop} (hQ:∀a ρ w,C ρ w->Q a ρ->Q' .normal a w):∀(fuel:Nat) (listed:Array Bool) (a:Act) (ρ:Fm) (w:World),DC ops listed->Cl F ops ρ->Dn F ops listed ρ->C ρ w->
  gZ F C ops Q fuel listed a ρ->wpAny P .any ops Q' fuel listed a w
 |0,_,_,_,_,_,_,_,hw,h=>⟨h.1,hQ _ _ _ hw h.2⟩
 |fuel+1,listed,a,ρ,w,hd,hcl,hn,hw,h=>by
  have hle0:Fm.le ρ ρ:=λ_ _ e=>e;refine ⟨λh0=>hQ _ _ _ hw (h.1 h0),λi hi=> ?_⟩;have hun:=ig (mem_ready.1 hi).1;obtain ⟨_,oi,hoi,_⟩:=mem_ready.1 hi;have hh:=h.2 i hi;rw [gm F hoi] at hh;unfold wpOp;rw [hoi];simp only;split
  ·rename_i hwn
   rw [if_pos hwn] at hh;refine .inl (D6 F hw hcl (λv _=>hcl.put F (AV F hd hn hi hle0) v) (λhm=>hn.free F (dZ F hoi hm) hun.1) ?_ ?_ hh)
   ·intro a' w' hm hc hk
    exact ir hfr hQ fuel _ _ _ _ (hd.set hi) hcl (hn.non F (gR F hoi hm)) hc hk
   ·intro a' v w' hm hc hk
    exact ir hfr hQ fuel _ _ _ _ (hd.set hi) (hcl.put F (AV F hd hn hi hle0) v) (hn.put F hun.2 v) hc hk
  ·rename_i hwn
   rw [if_neg hwn] at hh;have hp:bH F oi=true:=by
    cases hp:bH F oi with
    |true=>rfl
    |false=>exact absurd (uV F hfr hoi hp _) hwn
   have hm:fS F oi=false:=by simp [fS,hp]
   exact ir hfr hQ fuel _ _ _ _ (hd.set hi) hcl (hn.non F (gR F hoi hm)) hw hh
theorem K3 {ops:Array Oper} {listed:Array Bool} (hd:DC ops listed) {i:Nat} (hr:i∈Region.ready .any ops listed) {K:Act->Fm->Prop} {a:Act} {ρ:Fm} (hn:Dn F ops listed ρ) (hw:∃ρ' w,Fm.le ρ ρ'/\Cl F ops ρ'/\C ρ' w) (h:M7 F C ops i K a ρ):∃a' ρ',K a' ρ':=by
 unfold M7 at h;split at h
 ·exact ⟨_,_,h⟩
 ·split at h
  ·rcases h with ⟨_,v,_,h⟩|⟨hm,h1,h⟩
   ·exact ⟨_,_,h⟩
   ·rename_i o ho _
    obtain ⟨ρ',w,hle,hcl,hw⟩:=hw;cases hi:ρ' i with
    |some v=>
     refine ⟨_,_,h v ⟨ρ',w,λk u hk=> ?_,hcl,hw⟩⟩
     by_cases e:k=i
     ·subst e;rw [Fm.iK] at hk;cases hk;exact hi
     ·rw [Fm.fz ρ v e] at hk;exact hle k u hk
    |none=>
     obtain ⟨v,w',hv⟩:=ij (h1 ρ' w (FO F hd hn hr hle) hi hcl hw);refine ⟨_,_,h v ⟨_,w',λk u hk=> ?_,hcl.put F (AV F hd hn hr hle) v,hv⟩⟩
     by_cases e:k=i
     ·subst e;rw [Fm.iK] at hk⊢;exact hk
     ·rw [Fm.fz ρ v e] at hk;rw [Fm.fz ρ' v e];exact hle k u hk
  ·exact ⟨_,_,h⟩
theorem Bi {ops:Array Oper} {Q:Act->Fm->Prop} (hfr:rF F ops=true) {i:Nat} {oi:Oper} (hi:ops[i]? =some oi) (hsel:∀(j:Nat) (o:Oper) cs b,ops[j]? =some o->o.op≠ .select cs b):
  ∀(fuel:Nat) (listed:Array Bool) (a:Act) (ρ:Fm),(∀k,k<i->listed.getD k false=true)->DC ops listed->Dn F ops listed ρ->
   (∀j oj,ops[j]? =some oj->j≠i->listed.getD j true=false->(∀e∈oj.after,Region.binds .any e=true->e.on≠i)->oi.apart ops oj=true)->
   i∈Region.ready .any ops listed->(∃ρ' w,Fm.le ρ ρ'/\Cl F ops ρ'/\C ρ' w)->
   M7 F C ops i (gZ F C ops Q fuel (listed.setIfInBounds i true)) a ρ->gZ F C ops Q (fuel+1) listed a ρ:=by
 intro fuel
 induction fuel with
 |zero=>
  intro listed a ρ _ hd hn _ hr hw H;refine ⟨λh=>(by rw [h] at hr;cases hr),λj hj=> ?_⟩
  by_cases hji:j=i
  ·subst hji;exact H
  ·obtain ⟨a',vs',h⟩:=K3 F hd hr hn hw H
   have:=ready_mono hj hji;rw [h.1] at this;cases this
 |succ fuel ih=>
  intro listed a ρ hlow hd hn hfree hr hw H;refine ⟨λh=>(by rw [h] at hr;cases hr),λj hj=> ?_⟩
  by_cases hji:j=i
  ·subst hji;exact H
  obtain ⟨hjun,oj,hoj,hall⟩:=mem_ready.1 hj;have hiu:=ig (mem_ready.1 hr).1;have hju:=ig hjun;have hij:i<j:=by
   rcases Nat.lt_or_ge j i with h|h
   ·have:=hlow j h;rw [hju.1] at this;cases this
   ·omega
  have hnot:∀e∈oj.after,Region.binds .any e=true->e.on≠i:=λe he hb heq=>by have:=hall e he hb;rw [heq,hiu.1] at this;cases this
  obtain ⟨ap1,ap2,ap3⟩:=Oper.apart_spec (hfree j oj hoj hji hjun hnot);have hrj:=ready_mono hj hji;have hri:=ready_mono hr (Ne.symm hji);have hlow':∀k,k<i->(listed.setIfInBounds j true).getD k false=true:=λk hk=>getD_set_true (hlow k hk);have hd':=hd.set hj;have hfree':∀k ok,ops[k]? =some ok->k≠i->(listed.setIfInBounds j true).getD k true=false->
    (∀e∈ok.after,Region.binds .any e=true->e.on≠i)->oi.apart ops ok=true:=λk ok hk hki hun hno=>by
   refine hfree k ok hk hki ?_ hno
   by_cases hjk:j=k
   ·subst hjk;exact hjun
   ·rw [getD_set_ne true hjk] at hun;exact hun
  have hcomm:(listed.setIfInBounds i true).setIfInBounds j true=(listed.setIfInBounds j true).setIfInBounds i true:=Array.setIfInBounds_comm _ _ (Ne.symm hji);have ej:∀u,execOp (a.put oi.dst u).eval oj=execOp a.eval oj:=λu=>execOp_put oj (λcs b=>hsel j oj cs b hoj) a oi.dst u ap1;have ei:∀u,execOp (a.put oj.dst u).eval oi=execOp a.eval oi:=λu=>execOp_put oi (λcs b=>hsel i oi cs b hi) a oj.dst u ap3;have wj:∀u,Region.wanted oj (yielded ops (a.put oi.dst u).tmps)=Region.wanted oj (yielded ops a.tmps):=λu=>wanted_put oj a oi.dst u ap1;have wi:∀u,Region.wanted oi (yielded ops (a.put oj.dst u).tmps)=Region.wanted oi (yielded ops a.tmps):=λu=>wanted_put oi a oj.dst u ap3;have pc:∀v u,(a.put oi.dst v).put oj.dst u=(a.put oj.dst u).put oi.dst v:=λv u=>Act.put_comm a v u ap2;have npi:j∉km F ops i:=Hr F hd hr hju.1;have npj:i∉km F ops j:=Hr F hd hj hiu.1;rw [gm F hi] at H
  rw [gm F hoj];have after:∀u,fS F oj=true->(∃ρ' w,Fm.le (ρ.set j u) ρ'/\Cl F ops ρ'/\C ρ' w)->M7 F C ops i (gZ F C ops Q fuel ((listed.setIfInBounds j true).setIfInBounds i true)) (a.put oj.dst u) (ρ.set j u)->gZ F C ops Q (fuel+1) (listed.setIfInBounds j true) (a.put oj.dst u) (ρ.set j u):=λu _ hu h=>
   ih _ _ _ hlow' hd' (hn.put F hju.2 u) hfree' hri hu h
  have after0:∀u,fS F oj=false->M7 F C ops i (gZ F C ops Q fuel ((listed.setIfInBounds j true).setIfInBounds i true)) (a.put oj.dst u) ρ->gZ F C ops Q (fuel+1) (listed.setIfInBounds j true) (a.put oj.dst u) ρ:=λu hm h=>
   ih _ _ _ hlow' hd' (hn.non F (gR F hoj hm)) hfree' hri hw h
  have unw:¬Region.wanted oj (yielded ops a.tmps)=true->fS F oj=false:=λh=>by
   cases hp:bH F oj with
   |true=>simp [fS,hp]
   |false=>exact absurd (uV F hfr hoj hp _) h
  have caseS:∀v,(∀ρ',Fm.at (km F ops i) ρ ρ'->∀u,∀K:Act->Fm->Prop,K ((a.put oj.dst u).put oi.dst v) ρ'->M7 F C ops i K (a.put oj.dst u) ρ')->
    gZ F C ops Q (fuel+1) (listed.setIfInBounds i true) (a.put oi.dst v) ρ->(if Region.wanted oj (yielded ops a.tmps)=true then Cm F C ops oj j (km F ops j) (gZ F C ops Q (fuel+1) (listed.setIfInBounds j true)) a ρ else gZ F C ops Q (fuel+1) (listed.setIfInBounds j true) (a.put oj.dst undef) ρ):=by
   intro v again HK;have h1:=HK.2 j hrj;rw [gm F hoj,wj] at h1;split
   ·rename_i hwn
    rw [if_pos hwn] at h1;rcases h1 with ⟨hnm,u,hu,hK⟩|⟨hmv,hmo,hK⟩
    ·refine .inl ⟨hnm,u,λρ' w' he hw'=> ?_,after0 u hnm (again ρ (Fm.nu _ _) u _ ?_)⟩
     ·have:=hu ρ' w' he hw'
      rwa [ej] at this
     ·rw [<-pc,<-hcomm];exact hK
    ·refine .inr ⟨hmv,λρ' w' h2 h3 h4 hw'=> ?_,λu hu=>after u hmv hu (again _ ?_ u _ ?_)⟩
     ·have:=hmo ρ' w' h2 h3 h4 hw'
      rwa [ej] at this
     ·intro k hk
      exact Fm.fz ρ u (λe=>npi (e▸hk))
     ·rw [<-pc,<-hcomm];exact hK u hu
   ·rename_i hwn
    rw [if_neg hwn] at h1;refine after0 undef (unw hwn) (again ρ (Fm.nu _ _) undef _ ?_);rw [<-pc,<-hcomm];exact h1
  by_cases hwi:Region.wanted oi (yielded ops a.tmps)=true
  ·rw [if_pos hwi] at H
   rcases H with ⟨hni,v,hv,HK⟩|⟨hmv,hmo,HK⟩
   ·refine caseS v (λρ' he u K hK=> ?_) HK
    rw [gm F hi,wi,if_pos hwi];refine .inl ⟨hni,v,λρ'' w' he' hw'=> ?_,hK⟩;have:=hv ρ'' w' (he'.elim .inl λh=> .inr (Fm.BC he h)) hw'
    rwa [ei]
   ·have each:∀v,(∃ρ' w,Fm.le (ρ.set i v) ρ'/\Cl F ops ρ'/\C ρ' w)->M7 F C ops j (gZ F C ops Q fuel ((listed.setIfInBounds i true).setIfInBounds j true)) (a.put oi.dst v) (ρ.set i v):=λv hv=>(HK v hv).2 j hrj
    obtain ⟨ρ1,w1,hle1,hcl1,hw1⟩:=hw;have hex:∃v,∃ρ' w,Fm.le (ρ.set i v) ρ'/\Cl F ops ρ'/\C ρ' w:=by
     cases hi1:ρ1 i with
     |some v=>
      refine ⟨v,ρ1,w1,λk u hk=> ?_,hcl1,hw1⟩
      by_cases e:k=i
      ·subst e;rw [Fm.iK] at hk;cases hk;exact hi1
      ·rw [Fm.fz ρ v e] at hk;exact hle1 k u hk
     |none=>
      obtain ⟨v,w',hv⟩:=ij (hmo ρ1 w1 (FO F hd hn hr hle1) hi1 hcl1 hw1);refine ⟨v,_,w',λk u hk=> ?_,hcl1.put F (AV F hd hn hr hle1) v,hv⟩
      by_cases e:k=i
      ·subst e;rw [Fm.iK] at hk⊢;exact hk
      ·rw [Fm.fz ρ v e] at hk;rw [Fm.fz ρ1 v e];exact hle1 k u hk
    have imo:∀u ρ0,Fm.at (km F ops i) ρ ρ0->Hq F C ops oi (a.put oj.dst u) i (km F ops i) ρ0:=λu ρ0 h0 ρ' w' h1 h2 h3 h4=>by rw [ei];exact hmo ρ' w' (Fm.BC h0 h1) h2 h3 h4
    split
    ·rename_i hwn
     obtain ⟨v0,hv0⟩:=hex;have h0:=each v0 hv0;rw [gm F hoj,wj,if_pos hwn] at h0;rcases h0 with ⟨hnm,u,hu,_⟩|⟨hjm,hjmo,_⟩
     ·have hst:HP F C oj a (km F ops j) ρ u:=λρ' w' he hw'=>by
       have:=hu ρ' w' (he.elim .inl λh=> .inr ((Fm.Eh v0 npj).2 h)) hw'
       rwa [ej] at this
      refine .inl ⟨hnm,u,hst,after0 u hnm ?_⟩;rw [gm F hi,wi,if_pos hwi];refine .inr ⟨hmv,imo u ρ (Fm.nu _ _),λv hv=> ?_⟩;have h1:=each v hv;rw [gm F hoj,wj,if_pos hwn] at h1;rcases h1 with ⟨_,u',hu',hK⟩|⟨h,_⟩
      ·have hpa:=FO F hd hn hj hle1
       have e1:=hu' ρ1 w1 (.inr ((Fm.Eh v npj).2 hpa)) hw1;rw [ej] at e1;have e2:=hst ρ1 w1 (.inr hpa) hw1;have:=lf F e1 e2;subst this;rw [<-pc,<-hcomm];exact hK
      ·rw [hnm] at h;cases h
     ·refine .inr ⟨hjm,λρ' w' h2 h3 h4 hw'=> ?_,λu hu=>after u hjm hu ?_⟩
      ·have:=hjmo ρ' w' ((Fm.Eh v0 npj).2 h2) h3 h4 hw'
       rwa [ej] at this
      ·rw [gm F hi,wi,if_pos hwi]
       refine .inr ⟨hmv,imo u _ ((λk hk=>Fm.fz ρ u (λe=>npi (e▸hk))):Fm.at (km F ops i) ρ (ρ.set j u)),λv hv=> ?_⟩;obtain ⟨ρ2,w2,hle2,hcl2,hw2⟩:=hv;have a1:Fm.le (ρ.set i v) ρ2:=λk x hk=>by
        by_cases e:k=i
        ·subst e;rw [Fm.iK] at hk;cases hk;exact hle2 _ _ (Fm.iK _ _ _)
        ·rw [Fm.fz ρ v e] at hk
         refine hle2 k x ?_;rw [Fm.fz _ v e]
         by_cases e':k=j
         ·subst e'
          have:=hn.free F (dZ F hoj hjm) hju.1;rw [this] at hk;cases hk
         ·rw [Fm.fz ρ u e'];exact hk
       have h1:=each v ⟨ρ2,w2,a1,hcl2,hw2⟩;rw [gm F hoj,wj,if_pos hwn] at h1;rcases h1 with ⟨h,_⟩|⟨_,_,hK⟩
       ·rw [hjm] at h;cases h
       ·have hcm:=Fm.comm ρ (i:=i) (j:=j) v u (Ne.symm hji)
        have:=hK u ⟨ρ2,w2,by rw [hcm];exact hle2,hcl2,hw2⟩;rw [hcm] at this;rw [<-pc,<-hcomm];exact this
    ·rename_i hwn
     refine after0 undef (unw hwn) ?_;rw [gm F hi,wi,if_pos hwi];refine .inr ⟨hmv,imo undef ρ (Fm.nu _ _),λv hv=> ?_⟩;have h1:=each v hv;rw [gm F hoj,wj,if_neg hwn] at h1;rw [<-pc,<-hcomm];exact h1
  ·rw [if_neg hwi] at H
   refine caseS undef (λρ' he u K hK=> ?_) H;rw [gm F hi,wi,if_neg hwi];exact hK
theorem lX {ops:Array Oper} {Q:Act->Fm->Prop} (hfr:rF F ops=true) (hs:Region.noSelect ops=true):∀(l:List Oper) (k:Nat) (listed:Array Bool) (a:Act) (ρ:Fm),(∀j,l[j]? =ops[k+j]?)->
  Region.lexFrom .any ops l.length k listed=true->(∀i,i<k->listed.getD i false=true)->DC ops listed->Dn F ops listed ρ->(∃ρ' w,Fm.le ρ ρ'/\Cl F ops ρ'/\C ρ' w)->
  jO F C ops Q k l a ρ->gZ F C ops Q l.length listed a ρ
 | [],_,_,_,_,_,hB,_,_,_,_,h=>⟨by simpa [Region.lexFrom] using hB,h⟩
 |o::l,k,listed,a,ρ,hl,hB,hlow,hd,hn,hw,h=>by
  have h0:ops[k]? =some o:=by simpa using (hl 0).symm
  simp only [List.length_cons,Region.lexFrom,Bool.and_eq_true] at hB;obtain ⟨⟨hr,hf⟩,hB'⟩:=hB;have hr:k∈Region.ready .any ops listed:=by simpa using hr
  have hun:=ig (mem_ready.1 hr).1;have hl':∀j,l[j]? =ops[k+1+j]?:=λj=>by have:=hl (j+1);simpa [Nat.add_assoc,Nat.add_comm 1 j] using this
  have hlow':∀i,i<k+1->(listed.setIfInBounds k true).getD i false=true:=λi hi=>by
   by_cases e:i=k
   ·subst e;simp [hun.2]
   ·exact getD_set_true (hlow i (by omega))
  refine Bi F hfr h0 (Region.noSelect_spec hs) l.length listed a ρ hlow hd hn (Region.free_spec h0 hf) hr hw ?_;rw [gm F h0];simp only [jO] at h;split
  ·rename_i hwn
   rw [if_pos hwn] at h;rcases h with ⟨hn0,v,h1,h2⟩|⟨h1,h2,h3⟩
   ·exact .inl ⟨hn0,v,h1,lX hfr hs l (k+1) _ _ _ hl' hB' hlow' (hd.set hr) (hn.non F (gR F h0 hn0)) hw h2⟩
   ·exact .inr ⟨h1,h2,λv hv=>lX hfr hs l (k+1) _ _ _ hl' hB' hlow' (hd.set hr) (hn.put F hun.2 v) hv (h3 v hv)⟩
  ·rename_i hwn
   rw [if_neg hwn] at h;have hp:bH F o=true:=by
    cases hp:bH F o with
    |true=>rfl
    |false=>exact absurd (uV F hfr h0 hp _) hwn
   exact lX hfr hs l (k+1) _ _ _ hl' hB' hlow' (hd.set hr) (hn.non F (gR F h0 (by simp [fS,hp]))) hw h
theorem nk {ops:Array Oper} {id:Nat} {Q:Exit->Act->World->Prop} {a:Act} {w:World} (hmx:P.follows .mixedOrders=true) (hB:Region.lexB .any ops=true) (hfr:rF F ops=true) (hC:C Fm.none {w with drawn:=w.drawn+1})
  (h:jO F C ops (λa' ρ=>∀w',C ρ w'->Q .normal a' w') 0 ops.toList a Fm.none):(Code.region id ops true).wp P Q a w:=by
 simp only [Region.lexB,Bool.and_eq_true] at hB;have hn:Dn F ops (Array.replicate ops.size false) Fm.none:=λk hk=>by rw [Array.getD_eq_getD_getElem?,Array.getElem?_replicate];split<;>rfl
 have hd0:DC ops (Array.replicate ops.size false):=by
  intro j o _ hj;rcases Nat.lt_or_ge j ops.size with h'|h'
  ·simp [h'] at hj
  ·simp [Array.getElem?_eq_none,h'] at hj
 have hc0:Cl F ops Fm.none:=λk hk=>absurd rfl hk;refine wp_region_any hmx (ir F hfr (Q:=λa' ρ=>∀w',C ρ w'->Q .normal a' w') (λ_ ρ w' hw' h=>h w' hw') _ _ _ Fm.none _ hd0 hc0 hn hC ?_);have:=lX F (C:=C) hfr hB.1 ops.toList 0 (Array.replicate ops.size false) a Fm.none (by simp) (by simpa using hB.2) (by intro i hi;omega) hd0 hn ⟨_,_,λ_ _ e=>e,hc0,hC⟩ h
 simpa using this
inductive MO where
 |none
 |some (n:Nat)
 |free (ps:List (Nat×List Nat))
def vM (ops:Array Oper):MO:=match pQ F ops with
 | .some n=> .some n
 | .none=>if rF F ops then .free (oH F ops 0 ops.toList) else .none
theorem yh {ops:Array Oper} {n:Nat} (h:vM F ops= .some n):pQ F ops=Option.some n:=by
 unfold vM at h;split at h
 ·rename_i m e;cases h;exact e
 ·split at h<;>cases h
theorem yg {ops:Array Oper} {ps:List (Nat×List Nat)} (h:vM F ops= .free ps):rF F ops=true/\ps=oH F ops 0 ops.toList:=by
 unfold vM at h;split at h
 ·cases h
 ·split at h
  ·rename_i e;cases h;exact ⟨e,rfl⟩
  ·cases h
end
section
variable {P:Program} (F:PF P)
structure Inv (L:List Nat) (N:Nat) (D:List Deferred) (env bvs:List Value) (σ:tX) (kn:fU) (nb:Nat) (a:Act):Prop where
 size:a.tmps.size=N
 sto:∀t e,σ.lookup t=some e->a.tmps.getD t undef=SE.val F env bvs e
 rel:∀t,σ.lookup t=none->∀i,L[i]? =some t->a.tmps.getD t undef=env.getD i undef
 kn:Holds F env bvs kn
 nb:bvs.length=nb
 dom:∀t e,σ.lookup t=some e->t<N
 dfr:a.defers=D
variable {F} {L:List Nat} {N:Nat} {D:List Deferred} {env bvs:List Value} {σ:tX} {kn:fU} {nb:Nat} {a:Act}
theorem lD {l:List Nat} {t i:Nat} (h:l.idxOf? t=some i):l[i]? =some t:=by
 have:=List.findIdx?_eq_some_iff_getElem.1 (by simpa [List.idxOf?] using h);obtain ⟨h1,h2,_⟩:=this;rw [List.getElem?_eq_getElem h1]
 simpa using h2
theorem Inv.look (I:Inv F L N D env bvs σ kn nb a) {t:Nat} {e:SE} (h:look L σ t=some e):a.tmps.getD t undef=SE.val F env bvs e:=by
 unfold HL.look at h;split at h
 ·rename_i e' he;cases h;exact I.sto t _ he
 ·rename_i he
  simp only [Option.map_eq_some_iff] at h;obtain ⟨i,hi,rfl⟩:=h;exact I.rel t he i (lD hi)
theorem Inv.pY (I:Inv F L N D env bvs σ kn nb a) {x:Operand} {e:SE} (h:pY L σ x=some e):a.eval x=SE.val F env bvs e:=by
 cases x<;>simp only [HL.pY] at h
 ·exact I.look h
 all_goals (cases h;rfl)
theorem Inv.kW (I:Inv F L N D env bvs σ kn nb a):∀{xs:List Operand} {es:dt},kW L σ xs=some es->xs.map a.eval=dt.dF F env bvs es
 | [],es,h=>by cases h;rfl
 |x::r,es,h=>by
  simp only [HL.kW] at h;split at h
  ·rename_i e es' h1 h2
   cases h;simp only [List.map_cons,dt.dF,I.pY h1,I.kW h2]
  ·cases h
theorem uX (xs:Array Value) (d t:Nat) (v:Value) (h:d<xs.size):(xs.setIfInBounds d v).getD t undef=if d=t then v else xs.getD t undef:=by
 simp only [Array.getD_eq_getD_getElem?,Array.getElem?_setIfInBounds];split
 ·rename_i h1;subst h1;simp [h]
 ·rfl
theorem Inv.put (I:Inv F L N D env bvs σ kn nb a) {o:Oper} {e:SE} {σ':tX} (h:AW N o σ e=some σ'):Inv F L N D env bvs σ' kn nb (a.put o.dst (SE.val F env bvs e)):=by
 unfold AW at h;cases hd:o.dst with
 |none=>
  simp only [hd] at h;cases h
  simpa [Act.put] using I
 |some d=>
  simp only [hd] at h;split at h
  ·rename_i hlt
   cases h;have hs:d<a.tmps.size:=by rw [I.size];exact hlt
   refine ⟨by simp [Act.put,I.size],?_,?_,I.kn,I.nb,?_,I.dfr⟩
   ·intro t e' he
    simp only [Act.put,uX _ _ _ _ hs]
    by_cases hdt:d=t
    ·subst hdt
     simp at he;subst he;simp
    ·rw [List.lookup_cons] at he
     have:(t==d)=false:=by simpa using λh=>hdt h.symm
     simp only [this] at he;simp [hdt,I.sto t e' he]
   ·intro t he i hi
    simp only [Act.put,uX _ _ _ _ hs];rw [List.lookup_cons] at he
    by_cases hdt:d=t
    ·subst hdt;simp at he
    ·have:(t==d)=false:=by simpa using λh=>hdt h.symm
     simp only [this] at he;simp [hdt,I.rel t he i hi]
   ·intro t e' he
    rw [List.lookup_cons] at he
    by_cases hdt:d=t
    ·subst hdt;exact hlt
    ·have:(t==d)=false:=by simpa using λh=>hdt h.symm
     simp only [this] at he;exact I.dom t e' he
  ·cases h
theorem xp:∀{σ:tX} {n t:Nat} {e:SE},xn n σ=true->σ.lookup t=some e->SE.lt n e=true
 | [],_,_,_,_,h=>by cases h
 |(d,e')::r,n,t,e,h,hl=>by
  simp only [xn,Bool.and_eq_true] at h;rw [List.lookup_cons] at hl;cases hh:(t==d)<;>simp only [hh] at hl
  ·exact xp h.2 hl
  ·cases hl;exact h.1
theorem CK:∀{kn:fU} {n:Nat},I8 n kn=true->∀q∈kn,SE.lt n q.1=true
 | [],_,_,q,hq=>by cases hq
 |(e,b,p)::r,n,h,q,hq=>by
  simp only [I8,Bool.and_eq_true] at h;cases List.mem_cons.1 hq with
  |inl he=>subst he;exact h.1
  |inr hr=>exact CK h.2 q hr
theorem Inv.ext (I:Inv F L N D env bvs σ kn nb a) (h1:xn nb σ=true) (h2:I8 nb kn=true) (v:Value):Inv F L N D env (bvs++ [v]) σ kn (nb+1) a:=by
 obtain ⟨s,st,r,k,n,dm,df⟩:=I;subst n;refine ⟨s,λt e he=> ?_,r,λq hq=> ?_,by simp,dm,df⟩
 ·rw [SE.nZ F env bvs v e (xp h1 he)];exact st t e he
 ·rw [SE.nZ F env bvs v q.1 (CK h2 q hq)];exact k q hq
theorem Inv.known (I:Inv F L N D env bvs σ kn nb a) {c:SE} {b p:Bool} (h:ov (SE.val F env bvs c) b=p):Inv F L N D env bvs σ ((c,b,p)::kn) nb a:=
 ⟨I.size,I.sto,I.rel,λq hq=>by
  cases List.mem_cons.1 hq with
  |inl he=>subst he;exact h
  |inr hr=>exact I.kn q hr,I.nb,I.dom,I.dfr⟩
theorem Gk {o:Oper} {p:PO} {vs:List Value} {w:World} {next:Act->World->Prop} {Q:Exit->Act->World->Prop}
  (h:p.Sq P F vs (execOp a.eval o) w) (hok:p.ok F vs) (hn:next (a.put o.dst (p.val F vs)) w):o.wp P a w next Q:=by
 unfold Oper.wp;rcases h with h|⟨f,hf,rfl,h⟩
 ·rw [h];exact hn
 ·rw [h]
  simp only [PO.ok,PO.val] at hok hn;exact (F.sound f hf vs w hok).mono λe w' ⟨he,hw⟩=>by subst he;subst hw;exact hn
theorem Gl {o:Oper} {eo:EO} {vs:List Value} {w:World} {next:Act->World->Prop} {Q:Exit->Act->World->Prop}
  (hr:(execOp a.eval o).run P w=(eo.mg vs).run P w) (h:fV P (eo.mg vs) (λv w'=>next (a.put o.dst v) w') w):o.wp P a w next Q:=by
 unfold Oper.wp;rw [hr];unfold fV at h;generalize (eo.mg vs).run P w=r at h⊢
 cases r with
 |ok n w'=>
  cases n<;>simp only at h<;>(try (exfalso;exact h))
  ·exact h
  ·exact h
  ·exact h.mono λe w'' ⟨v,he,hk⟩=>by subst he;exact hk
 |halt x w'=>exact h.elim
theorem Gi {all:List Oper} {o:Oper} {j gd:Nat} {want:Bool} (hg:o.guard=some (j,want)) (hd:(all[j]?).bind (·.dst)=some gd) (hs:gd<a.tmps.size):
  Region.wanted o (yielded all.toArray a.tmps)=ov (a.tmps.getD gd undef) want:=by
 have e:a.tmps[gd]? =some (a.tmps.getD gd undef):=by simp [hs]
 have hd':(all.toArray[j]?).bind (·.dst)=some gd:=by simpa using hd
 simp only [Region.wanted,hg,yielded,hd',Option.bind_some,e];generalize a.tmps.getD gd undef=v;cases v<;>simp [ov]
structure Sys (P:Program) (F:PF P) (env:List Value) (all:List Oper) (St:Type) where
 W:List Oper->Act->St->Prop
 T:RT->List Value->St->Prop
 chk:∀{g p xs k bvs w},T (.chk g p xs k) bvs w->(bI F env bvs g->p.ok F (dt.dF F env bvs xs))/\T k bvs w
 isb:∀{g c k bvs w},T (.isb g c k) bvs w->(bI F env bvs g->∃b,SE.val F env bvs c= .bool b)/\T k bvs w
 jQ:∀{e k bvs w},T (.jQ e k) bvs w->T k (bvs++ [SE.val F env bvs e]) w
 ite:∀{c v a b bvs w},T (.ite c v a b) bvs w->if ov (SE.val F env bvs c) v=true then T a bvs w else T b bvs w
 eff:∀{eo xs k bvs w o rest a},T (.eff eo xs k) bvs w->Region.wanted o (yielded all.toArray a.tmps)=true->
  (∀w,(execOp a.eval o).run P w=(eo.mg (dt.dF F env bvs xs)).run P w)->eo.info P->(∃ys,EO.of P o=some (eo,ys))->bH F o=false->
  (∀v w',T k (bvs++ [v]) w'->W rest (a.put o.dst v) w')->W (o::rest) a w
 runs:∀{p vs w o rest a},bH F o=true->Region.wanted o (yielded all.toArray a.tmps)=true->(∀w,PO.Sq P F p vs (execOp a.eval o) w)->p.ok F vs->
  W rest (a.put o.dst (p.val F vs)) w->W (o::rest) a w
 value:∀{v w o rest a},bH F o=true->Region.wanted o (yielded all.toArray a.tmps)=true->(∀w,(execOp a.eval o).run P w= .ok (.value v) w)->
  W rest (a.put o.dst v) w->W (o::rest) a w
 skip:∀{w o rest a},Region.wanted o (yielded all.toArray a.tmps)=false->W rest (a.put o.dst undef) w->W (o::rest) a w
theorem rI {env:List Value} {all:List Oper} {St:Type} (S:Sys P F env all St) {o:Oper} {rest:List Oper} {g:Option (SE×Bool)} {k:tX->Option RT} {rt:RT} {w:St}
  (I:Inv F L N D env bvs σ kn nb a) (h:qa F L N σ kn o g k=some rt) (hw:S.T rt bvs w)
  (hgd:match g with|none=>Region.wanted o (yielded all.toArray a.tmps)=true|some (c,b)=>Region.wanted o (yielded all.toArray a.tmps)=ov (SE.val F env bvs c) b)
  (hk:∀σ' rt' a',k σ'=some rt'->Inv F L N D env bvs σ' kn nb a'->S.T rt' bvs w->S.W rest a' w):
  S.W (o::rest) a w:=by
 unfold qa at h;have fin:∀e:SE,∀σ',AW N o σ (E7 kn g e)=some σ'->
   Inv F L N D env bvs σ' kn nb (a.put o.dst (if (Region.wanted o (yielded all.toArray a.tmps))=true then SE.val F env bvs e else undef)):=by
  intro e σ' hp;cases g with
  |none=>
   simp only [E7] at hp hgd;rw [if_pos hgd];exact I.put hp
  |some q=>
   obtain ⟨c,b⟩:=q;simp only [E7] at hp hgd;have:=I.put hp;rw [Jh F env bvs I.kn] at this;rw [hgd]
   simpa [SE.val] using this
 have gon:bI F env bvs g↔Region.wanted o (yielded all.toArray a.tmps)=true:=by
  cases g with
  |none=>simp only at hgd;simp [bI,hgd]
  |some q=>obtain ⟨c,b⟩:=q;simp only at hgd;simp [bI,hgd]
 have st1:∀e:SE,bI F env bvs g->SE.val F env bvs (A9 g e)=SE.val F env bvs e:=by
  intro e hg;cases g with
  |none=>rfl
  |some q=>exact nW F env bvs q.1 q.2 true e hg
 have Rj:∀es:dt,bI F env bvs g->dt.dF F env bvs (DH g es)=dt.dF F env bvs es:=by
  intro es hg;cases g with
  |none=>rfl
  |some q=>exact wx F env bvs q.1 q.2 hg es
 have step:∀(e:SE) (σ':tX) (rt':RT),AW N o σ (E7 kn g e)=some σ'->k σ'=some rt'->S.T rt' bvs w->
   (Region.wanted o (yielded all.toArray a.tmps)=true->S.W rest (a.put o.dst (SE.val F env bvs e)) w->S.W (o::rest) a w)->S.W (o::rest) a w:=by
  intro e σ' rt' hp hkk hwp hop;have hi:=fin e σ' hp
  by_cases hwn:Region.wanted o (yielded all.toArray a.tmps)=true
  ·rw [if_pos hwn] at hi
   exact hop hwn (hk σ' rt' _ hkk hi hwp)
  ·rw [if_neg hwn] at hi
   exact S.skip (by simpa using hwn) (hk σ' rt' _ hkk hi hwp)
 split at h
 ·rename_i x hop
  simp only [Option.bind_eq_bind,Option.bind_eq_some_iff] at h;obtain ⟨e,he,σ',hp,h⟩:=h;refine step e σ' rt hp h hw λhon hn=>S.value (by simp [bH,hop]) hon (λw=> ?_) hn;have:(execOp a.eval o).run P w= .ok (.value (a.eval x)) w:=by simp [execOp,hop]
  rw [this,I.pY he]
 ·rename_i x hop
  simp only [Option.bind_eq_bind,Option.bind_eq_some_iff] at h;obtain ⟨e,he,σ',hp,h⟩:=h;refine step e σ' rt hp h hw λhon hn=>S.value (by simp [bH,hop]) hon (λw=> ?_) hn;have:(execOp a.eval o).run P w= .ok (.value (a.eval x)) w:=by simp [execOp,hop]
  rw [this,I.pY he]
 ·rename_i c x y hop
  simp only [Option.bind_eq_bind,Option.bind_eq_some_iff] at h;obtain ⟨ce,hc,xe,hx,ye,hy,σ',hp,t,ht,h⟩:=h;cases h;obtain ⟨hb,hw⟩:=S.isb hw;refine step _ σ' t hp ht hw λhon hn=> ?_;obtain ⟨b,hb⟩:=hb (gon.2 hon);rw [Fy F env bvs I.kn _ _ _ b hb,st1 xe (gon.2 hon),st1 ye (gon.2 hon)] at hn;have e1:=I.pY hc;rw [<-st1 ce (gon.2 hon),hb] at e1;refine S.value (by simp [bH,hop]) hon (λw=> ?_) hn;have:(execOp a.eval o).run P w= .ok (.value (if b then a.eval x else a.eval y)) w:=by simp [execOp,hop,e1,asBool]
  rw [this,I.pY hx,I.pY hy]
 ·simp only [Option.bind_eq_bind,Option.bind_eq_some_iff] at h
  obtain ⟨⟨p,xs⟩,hpo,es,hes,σ',hp,t,ht,h⟩:=h;cases h;obtain ⟨hok,hw⟩:=S.chk hw;refine step _ σ' t hp ht hw λhon hn=> ?_;have hok:=hok (gon.2 hon);rw [Rj es (gon.2 hon),<-I.kW hes] at hok;refine S.runs (by simp [bH,hpo]) hon (λw=>PO.sound F hpo a hok w) hok ?_;simp only [SE.val] at hn;rw [Rj es (gon.2 hon),<-I.kW hes] at hn;exact hn
theorem aU {env:List Value} {all:List Oper} {St:Type} (S:Sys P F env all St) {leaf:tX->Option RT}
  (hleaf:∀σ rt kn nb bvs a w,leaf σ=some rt->Inv F L N D env bvs σ kn nb a->S.T rt bvs w->S.W [] a w):
  ∀(fuel:Nat) (rest:List Oper) (σ:tX) (kn:fU) (nb:Nat) (rt:RT) (bvs:List Value) (a:Act) (w:St),
   fk F L N all leaf fuel rest σ kn nb=some rt->Inv F L N D env bvs σ kn nb a->S.T rt bvs w->S.W rest a w
 |0,_,_,_,_,_,_,_,_,h,_,_=>by simp [fk] at h
 |fuel+1,[],σ,kn,nb,rt,bvs,a,w,h,I,hw=>by simp only [fk] at h;exact hleaf σ rt kn nb bvs a w h I hw
 |fuel+1,o::rest,σ,kn,nb,rt,bvs,a,w,h,I,hw=>by
  have run:∀rt',HI F L N σ kn nb o (λσ' nb'=>fk F L N all leaf fuel rest σ' kn nb')=some rt'->S.T rt' bvs w->Region.wanted o (yielded all.toArray a.tmps)=true->S.W (o::rest) a w:=by
   intro rt' h hw hwn;unfold HI at h;split at h
   ·exact rI S I h hw hwn λσ' rt' a' hr hI hwp=>aU S hleaf fuel rest σ' kn nb rt' bvs a' w hr hI hwp
   ·rename_i hnp
    simp only [Option.bind_eq_bind,Option.bind_eq_some_iff] at h;obtain ⟨⟨eo,xs⟩,heo,es,hes,h⟩:=h;split at h
    ·rename_i hlt
     simp only [Bool.and_eq_true] at hlt;simp only [Option.bind_eq_bind,Option.bind_eq_some_iff] at h;obtain ⟨σ',hp,t,ht,h⟩:=h;cases h;have hes':=I.kW hes;refine S.eff hw hwn (λw=>by rw [<-hes'];exact EO.sound heo a w) (EO.Of heo) ⟨_,heo⟩ (by simpa using hnp) λv w' hwp=> ?_;refine aU S hleaf fuel rest σ' kn (nb+1) t (bvs++ [v]) _ w' ht ?_ hwp;have hI:=(I.ext hlt.1 hlt.2 v).put hp;have e:SE.val F env (bvs++ [v]) (.bv nb)=v:=by simp [SE.val,<-I.nb]
     rw [e] at hI;exact hI
    ·cases h
  unfold fk at h;split at h
  ·rename_i hg
   exact run rt h hw (by simp [Region.wanted,hg])
  ·rename_i j want hg
   simp only [Option.bind_eq_bind,Option.bind_eq_some_iff] at h;obtain ⟨gd,hgd,g0,hg0,h⟩:=h;have hwn:=Gi (a:=a) hg (by simpa [Option.bind_eq_some_iff] using hgd) (by rw [I.size];exact I.dom gd g0 hg0);rw [I.sto gd g0 hg0,<-AZ F env bvs I.kn] at hwn;have hrv:=I.sto gd g0 hg0;rw [<-AZ F env bvs I.kn] at hrv;generalize res kn g0=g at h hwn hrv;have hkind:∀k,qM kn g want (bH F o)=k->match k with
     | .yes=>Region.wanted o (yielded all.toArray a.tmps)=true
     | .no=>Region.wanted o (yielded all.toArray a.tmps)=false
     | .sym e=>Region.wanted o (yielded all.toArray a.tmps)=ov (SE.val F env bvs e) want/\bH F o=true
     | .split c w=>True
     | .name=>True:=by
    intro k hk;unfold qM at hk;split at hk
    ·rename_i v hv
     rw [j2 F env bvs false (by simp) I.kn hv] at hwn;split at hk
     ·rename_i e;subst hk;rw [hwn];exact e
     ·rename_i e;subst hk;rw [hwn];simpa using e
    ·split at hk
     ·rename_i hp
      split at hk<;>subst hk
      ·exact ⟨hwn,hp⟩
      ·trivial
     ·split at hk<;>split at hk<;>subst hk<;>trivial
   have hkind:=hkind _ rfl;split at h<;>rename_i hgk<;>rw [hgk] at hkind<;>simp only at hkind
   ·exact run rt h hw hkind
   ·simp only [Option.bind_eq_some_iff] at h
    obtain ⟨σ',hp,h⟩:=h;refine S.skip hkind ?_;exact aU S hleaf fuel rest σ' kn nb rt bvs _ w h (I.put hp) hw
   ·exact rI S (g:=some (_,want)) I h hw hkind.1 λσ' rt' a' hr hI hwp=>aU S hleaf fuel rest σ' kn nb rt' bvs a' w hr hI hwp
   ·split at h
    ·rename_i hlt
     simp only [Bool.and_eq_true,decide_eq_true_eq] at hlt;simp only [Option.bind_eq_some_iff] at h;obtain ⟨t,ht,h⟩:=h;cases h;refine aU S hleaf fuel (o::rest) _ kn (nb+1) t _ a w ht ?_ (S.jQ hw);have hI:=I.ext hlt.1.1 hlt.1.2 (SE.val F env bvs g);have e:SE.val F env (bvs++ [SE.val F env bvs g]) (.bv nb)=SE.val F env bvs g:=by simp [SE.val,<-I.nb]
     refine ⟨hI.size,?_,?_,hI.kn,hI.nb,?_,hI.dfr⟩
     ·intro t e' he
      rw [List.lookup_cons] at he
      by_cases hdt:t=gd
      ·subst hdt
       simp at he;subst he;rw [e];exact hrv
      ·have:(t==gd)=false:=by simpa using hdt
       simp only [this] at he;exact hI.sto t e' he
     ·intro t he
      rw [List.lookup_cons] at he
      by_cases hdt:t=gd
      ·subst hdt;simp at he
      ·have:(t==gd)=false:=by simpa using hdt
       simp only [this] at he;exact hI.rel t he
     ·intro t e' he
      rw [List.lookup_cons] at he
      by_cases hdt:t=gd
      ·subst hdt;exact hlt.2
      ·have:(t==gd)=false:=by simpa using hdt
       simp only [this] at he;exact hI.dom t e' he
    ·cases h
   ·simp only [Option.bind_eq_some_iff] at h
    obtain ⟨ta,hta,tb,htb,h⟩:=h;cases h;have hw:=S.ite hw;split at hw
    ·rename_i hc
     exact aU S hleaf fuel (o::rest) σ _ nb ta bvs a w hta (I.known hc) hw
    ·rename_i hc
     exact aU S hleaf fuel (o::rest) σ _ nb tb bvs a w htb (I.known (by simpa using hc)) hw
def qe (env:List Value) (K:List Value->Option Value->World->Prop) (Q:Exit->Act->World->Prop) (all:List Oper):Sys P F env all World where
 W:=wpList P all.toArray Q
 T:=λt bvs w=>t.wp F env K bvs w
 chk:=λh=>h
 isb:=λh=>h
 jQ:=λh=>h
 ite:=λh=>h
 eff:=by
  intro eo xs k bvs w o rest a h hwn hr hi heo hnp go;unfold wpList;rw [if_pos hwn];left;have hw:=h hi;refine Gl (hr w) ?_;unfold fV at hw⊢;generalize (eo.mg (dt.dF F env bvs xs)).run P w=r at hw⊢;cases r with
  |ok n w'=>
   cases n<;>simp only at hw⊢<;>(try (exfalso;exact hw))
   ·exact go _ _ hw
   ·exact go _ _ hw
   ·exact hw.mono λe w'' ⟨v,he,hk⟩=>⟨v,he,go _ _ hk⟩
  |halt x w'=>exact hw.elim
 runs:=by intro p vs w o rest a _ hwn hr hok h;unfold wpList;rw [if_pos hwn];exact .inl (Gk (hr w) hok h)
 value:=by intro v w o rest a _ hwn hr h;unfold wpList;rw [if_pos hwn];left;unfold Oper.wp;rw [hr w];exact h
 skip:=by intro w o rest a hwn h;unfold wpList;rw [if_neg (by rw [hwn];simp)];exact h
def ni (C:World->Prop) (env:List Value) (K:List Value->Option Value->Prop) (Q:Act->Prop) (all:List Oper):Sys P F env all World where
 W:=λl a _=>wpQuiet P all.toArray C Q l a
 T:=λt bvs _=>t.np F C env K bvs
 chk:=λh=>h
 isb:=λh=>h
 jQ:=λh=>h
 ite:=λh=>h
 eff:=by intro eo xs k bvs w o rest a h hwn hr hi heo hnp go;unfold wpQuiet;rw [if_pos hwn];obtain ⟨v,hv,hk⟩:=h;refine ⟨v,λw' hC=> ?_,go v w hk⟩;unfold Oper.quietAt;rw [hr w'];exact hv w' hC hi
 runs:=by
  intro p vs w o rest a _ hwn hr hok h;unfold wpQuiet;rw [if_pos hwn];refine ⟨_,λw' hC=> ?_,h⟩;unfold Oper.quietAt;rcases hr w' with h1|⟨f,hf,rfl,h1⟩
  ·rw [h1];exact ⟨rfl,rfl⟩
  ·rw [h1]
   simp only [PO.ok] at hok;exact ⟨rfl,(F.sound f hf vs w' hok).mono λe w'' ⟨he,hw⟩=>⟨he,by rw [hw];exact hC⟩⟩
 value:=by intro v w o rest a _ hwn hr h;unfold wpQuiet;rw [if_pos hwn];refine ⟨_,λw' hC=> ?_,h⟩;unfold Oper.quietAt;rw [hr w'];exact ⟨rfl,rfl⟩
 skip:=by intro w o rest a hwn h;unfold wpQuiet;rw [if_neg (by rw [hwn];simp)];exact h
def qf (C:W8) (m:Nat) (env:List Value) (K:List Value->Option Value->List Value->Prop) (Q:Act->List Value->Prop) (all:List Oper):Sys P F env all (List Value) where
 W:=λl a vs=>jP F C m all.toArray Q l a vs
 T:=λt bvs vs=>t.oc F C m env K bvs vs
 chk:=λh=>h
 isb:=λh=>h
 jQ:=λh=>h
 ite:=λh=>h
 eff:=by
  intro eo xs k bvs vs o rest a h hwn hr hi heo hnp go;unfold jP;rw [if_pos hwn];rcases h with ⟨hm,v,hv,hk⟩|⟨hm,hv,hk⟩
  ·refine .inl ⟨by obtain ⟨ys,hys⟩:=heo;simp [fS,hys,hm],v,λvs' w' he hC=> ?_,go v vs hk⟩
   rw [hr w'];exact hv hi vs' w' (he.resolve_left (by rw [hnp];simp)) hC
  ·refine .inr ⟨?_,λw' hC=> ?_,λv hw=>go v _ (hk v hw)⟩
   ·obtain ⟨ys,hys⟩:=heo
    simp [fS,hnp,hys,hm]
   ·rw [hr w']
    exact hv hi w' hC
 runs:=by
  intro p vs st o rest a hpu hwn hr hok h;unfold jP;rw [if_pos hwn];refine .inl ⟨by simp [fS,hpu],_,λvs' w' he hC=> ?_,h⟩;rcases hr w' with h1|⟨f,hf,rfl,h1⟩
  ·rw [h1];exact ⟨rfl,rfl⟩
  ·rw [h1]
   simp only [PO.ok] at hok;exact ⟨rfl,.inl ⟨hf,by simpa using hok,by simp [PO.val]⟩⟩
 value:=by intro v st o rest a hpu hwn hr h;unfold jP;rw [if_pos hwn];refine .inl ⟨by simp [fS,hpu],_,λvs' w' he hC=> ?_,h⟩;rw [hr w'];exact ⟨rfl,rfl⟩
 skip:=by intro st o rest a hwn h;unfold jP;rw [if_neg (by rw [hwn];simp)];exact h
theorem uC (ops:Array Oper):∀(l:List Oper) (i:Nat),∀q∈oH F ops i l,q.2=km F ops q.1
 | [],_,q,hq=>by cases hq
 |o::r,i,q,hq=>by
  unfold oH at hq;split at hq
  ·exact uC ops r _ q hq
  ·rcases List.mem_cons.1 hq with rfl|hq
   ·rfl
   ·exact uC ops r _ q hq
def qd (C:Sk) (env:List Value) (K:List Value->Option Value->Fm->Prop) (Q:Act->Fm->Prop) (all:List Oper):Sys P F env all (List (Nat×List Nat)×Fm) where
 W:=λl a st=>l.length<=all.length->(∀o∈l,bH F o=false->o.guard=none)->st.1=oH F all.toArray (all.length -l.length) l->jO F C all.toArray Q (all.length -l.length) l a st.2
 T:=λt bvs st=>t.oW F C env K bvs st.1 st.2
 chk:=λh=>h
 isb:=λh=>h
 jQ:=λh=>h
 ite:=λh=>h
 eff:=by
  intro eo xs k bvs st o rest a h hwn hr hi heo hnp go hl hg hps;obtain ⟨ps,ρ⟩:=st;have e1:all.length -rest.length=all.length -(o::rest).length+1:=by simp only [List.length_cons] at hl⊢;omega
  simp only [oH,hnp,Bool.false_eq_true,if_false] at hps;simp only at hps h⊢;subst hps;simp only [RT.oW] at h;unfold jO;rw [if_pos hwn];have go':∀v ρ',k.oW F C env K (bvs++ [v]) (oH F all.toArray (all.length -(o::rest).length+1) rest) ρ'->jO F C all.toArray Q (all.length -(o::rest).length+1) rest (a.put o.dst v) ρ':=λv ρ' hk=>by
   have:=go v (oH F all.toArray (all.length -(o::rest).length+1) rest,ρ') hk (by simp only [List.length_cons] at hl;omega) (λx hx=>hg x (List.mem_cons_of_mem _ hx)) (by rw [e1])
   rwa [e1] at this
  rcases h with ⟨hm,v,hv,hk⟩|⟨hm,hv,hk⟩
  ·refine .inl ⟨by obtain ⟨ys,hys⟩:=heo;simp [fS,hys,hm],v,λρ' w' he hC=> ?_,go' v ρ hk⟩
   rw [hr w'];exact hv hi ρ' w' (he.resolve_left (by rw [hnp];simp)) hC
  ·refine .inr ⟨?_,λρ' w' h1 h2 h3 hC=> ?_,λv ⟨ρ',w',h1,_,h2⟩=>go' v _ (hk v ⟨ρ',w',h1,h2⟩)⟩
   ·obtain ⟨ys,hys⟩:=heo
    simp [fS,hnp,hys,hm]
   ·rw [hr w']
    refine hv hi ρ' w' h1 h2 (λq hq hiq=> ?_) hC;rw [uC _ _ _ q hq] at hiq;cases hq1:ρ' q.1 with
    |none=>rfl
    |some u=>exact absurd h2 (h3 q.1 (by rw [hq1];simp) _ hiq)
 runs:=by
  intro p vs st o rest a hpu hwn hr hok h hl hg hps;obtain ⟨ps,ρ⟩:=st;have e1:all.length -rest.length=all.length -(o::rest).length+1:=by simp only [List.length_cons] at hl⊢;omega
  simp only [oH,hpu,if_true] at hps;unfold jO;rw [if_pos hwn];refine .inl ⟨by simp [fS,hpu],p.val F vs,λρ' w' he hC=> ?_,?_⟩
  ·rcases hr w' with h1|⟨f,hf,rfl,h1⟩
   ·rw [h1];exact ⟨rfl,rfl⟩
   ·rw [h1]
    simp only [PO.ok] at hok;exact ⟨rfl,.inl ⟨hf,by simpa using hok,by simp [PO.val]⟩⟩
  ·have:=h (by simp only [List.length_cons] at hl;omega) (λx hx=>hg x (List.mem_cons_of_mem _ hx)) (by rw [e1];exact hps)
   rwa [e1] at this
 value:=by
  intro v st o rest a hpu hwn hr h hl hg hps;obtain ⟨ps,ρ⟩:=st;have e1:all.length -rest.length=all.length -(o::rest).length+1:=by simp only [List.length_cons] at hl⊢;omega
  simp only [oH,hpu,if_true] at hps;unfold jO;rw [if_pos hwn];refine .inl ⟨by simp [fS,hpu],v,λρ' w' he hC=> ?_,?_⟩
  ·rw [hr w'];exact ⟨rfl,rfl⟩
  ·have:=h (by simp only [List.length_cons] at hl;omega) (λx hx=>hg x (List.mem_cons_of_mem _ hx)) (by rw [e1];exact hps)
   rwa [e1] at this
 skip:=by
  intro st o rest a hwn h hl hg hps;obtain ⟨ps,ρ⟩:=st;have e1:all.length -rest.length=all.length -(o::rest).length+1:=by simp only [List.length_cons] at hl⊢;omega
  have hpu:bH F o=true:=by
   cases hp:bH F o with
   |true=>rfl
   |false=>
    have:=hg o (List.mem_cons_self ..) hp;unfold Region.wanted at hwn;rw [this] at hwn;cases hwn
  simp only [oH,hpu,if_true] at hps;unfold jO;rw [if_neg (by rw [hwn];simp)];have:=h (by simp only [List.length_cons] at hl;omega) (λx hx=>hg x (List.mem_cons_of_mem _ hx)) (by rw [e1];exact hps)
  rwa [e1] at this
theorem uW {ops:Array Oper} (h:rF F ops=true):∀o∈ops.toList,bH F o=false->o.guard=none:=by
 intro o ho hp;obtain ⟨i,hi,e⟩:=List.mem_iff_getElem.1 ho;have hi':i<ops.size:=by simpa using hi
 have:=List.all_eq_true.1 h i (List.mem_range.2 hi');have e':ops[i]? =some o:=by rw [Array.getElem?_eq_getElem hi',<-e];simp
 rw [e'] at this
 simpa [hp] using this
end
theorem kj (l:List Value) (i j:Nat) (v:Value):(l.set i v).getD j undef=if i=j/\j<l.length then v else l.getD j undef:=by
 simp only [List.getD_eq_getElem?_getD,List.getElem?_set]
 by_cases h:i=j
 ·subst h
  by_cases h2:i<l.length
  ·simp [h2]
  ·simp [h2]
 ·simp [h]
section
variable {P:Program} (F:PF P)
theorem wh (env bvs:List Value):∀(sets:List (Nat×SE)) (acc:List Value),(cV F env bvs sets acc).length=acc.length
 | [],_=>rfl
 |(i,e)::r,acc=>by simp only [cV,wh env bvs r,List.length_set]
theorem oS (env bvs:List Value) (σ:tX):∀(L:List Nat) (k:Nat) (acc:List Value),k+L.length<=acc.length->(∀i,k<=i->acc.getD i undef=env.getD i undef)->
  (∀i t,L[i]? =some t->(cV F env bvs (dp σ k L) acc).getD (k+i) undef=match σ.lookup t with|some e=>SE.val F env bvs e|none=>env.getD (k+i) undef)/\
  (∀j,j<k->(cV F env bvs (dp σ k L) acc).getD j undef=acc.getD j undef)
 | [],k,acc,_,_=>⟨λi t h=>by simp at h,λj _=>rfl⟩
 |t::r,k,acc,hl,hacc=>by
  simp only [List.length_cons] at hl;have set:∀e:SE,(∀i t',(t::r)[i]? =some t'->(cV F env bvs ((k,e)::dp σ (k+1) r) acc).getD (k+i) undef=if i=0 then SE.val F env bvs e else match σ.lookup t' with|some e=>SE.val F env bvs e|none=>env.getD (k+i) undef)/\
    (∀j,j<k->(cV F env bvs ((k,e)::dp σ (k+1) r) acc).getD j undef=acc.getD j undef):=by
   intro e;simp only [cV];obtain ⟨h1,h2⟩:=oS env bvs σ r (k+1) (acc.set k (SE.val F env bvs e)) (by simp;omega) (λi hi=>by rw [kj,if_neg (by omega)];exact hacc i (by omega));refine ⟨λi t' hi=> ?_,λj hj=> ?_⟩
   ·cases i with
    |zero=>
     simp only [if_true,Nat.add_zero];rw [h2 k (by omega),kj,if_pos ⟨rfl,by omega⟩]
    |succ i=>
     have:=h1 i t' (by simpa using hi);rw [show k+(i+1)=k+1+i from by omega,this,if_neg (by omega)]
   ·rw [h2 j (by omega),kj,if_neg (by omega)]
  have skip:(∀i t',(t::r)[i]? =some t'->(cV F env bvs (dp σ (k+1) r) acc).getD (k+i) undef=if i=0 then env.getD k undef else match σ.lookup t' with|some e=>SE.val F env bvs e|none=>env.getD (k+i) undef)/\
    (∀j,j<k->(cV F env bvs (dp σ (k+1) r) acc).getD j undef=acc.getD j undef):=by
   obtain ⟨h1,h2⟩:=oS env bvs σ r (k+1) acc (by omega) (λi hi=>hacc i (by omega));refine ⟨λi t' hi=> ?_,λj hj=>h2 j (by omega)⟩;cases i with
   |zero=>
    simp only [if_true,Nat.add_zero];rw [h2 k (by omega),hacc k (Nat.le_refl _)]
   |succ i=>
    have:=h1 i t' (by simpa using hi);rw [show k+(i+1)=k+1+i from by omega,this,if_neg (by omega)]
  have fin:∀(sets:List (Nat×SE)) (v:Value),(match σ.lookup t with|some e=>SE.val F env bvs e|none=>env.getD k undef)=v->
    ((∀i t',(t::r)[i]? =some t'->(cV F env bvs sets acc).getD (k+i) undef=if i=0 then v else match σ.lookup t' with|some e=>SE.val F env bvs e|none=>env.getD (k+i) undef)/\
    (∀j,j<k->(cV F env bvs sets acc).getD j undef=acc.getD j undef))->
    (∀i t',(t::r)[i]? =some t'->(cV F env bvs sets acc).getD (k+i) undef=match σ.lookup t' with|some e=>SE.val F env bvs e|none=>env.getD (k+i) undef)/\
    (∀j,j<k->(cV F env bvs sets acc).getD j undef=acc.getD j undef):=by
   intro sets v hv ⟨h1,h2⟩;refine ⟨λi t' hi=> ?_,h2⟩;rw [h1 i t' hi];cases i with
   |zero=>simp at hi;subst hi;simpa using hv.symm
   |succ i=>simp
  unfold dp;split
  ·rename_i e he
   split
   ·rename_i j
    split
    ·rename_i hj
     subst hj;exact fin _ _ (by rw [he];rfl) skip
    ·exact fin _ _ (by rw [he]) (set (.inp j))
   ·exact fin _ _ (by rw [he]) (set _)
  ·rename_i he
   exact fin _ _ (by rw [he]) skip
structure Rel (L:List Nat) (N:Nat) (D:List Deferred) (env:List Value) (a:Act):Prop where
 size:a.tmps.size=N
 dfr:a.defers=D
 len:env.length=L.length
 get:∀i t,L[i]? =some t->a.tmps.getD t undef=env.getD i undef
variable {F} {L:List Nat} {N:Nat} {D:List Deferred} {env bvs:List Value} {σ:tX} {kn:fU} {nb:Nat} {a:Act}
theorem Rel.inv (R:Rel L N D env a):Inv F L N D env [] [] [] 0 a:=
 ⟨R.size,(λt e h=>by simp at h),(λt _ i hi=>R.get i t hi),(λq hq=>by cases hq),rfl,(λt e h=>by simp at h),R.dfr⟩
theorem Inv.Dr (I:Inv F L N D env bvs σ kn nb a) (hl:env.length=L.length):Rel L N D (cV F env bvs (dp σ 0 L) env) a:=by
 refine ⟨I.size,I.dfr,by rw [wh,hl],λi t hi=> ?_⟩;have:=(oS F env bvs σ L 0 env (by omega) (λ_ _=>rfl)).1 i t hi;rw [Nat.zero_add] at this;rw [this];cases he:σ.lookup t with
 |some e=>exact I.sto t e he
 |none=>exact I.rel t he i hi
end
inductive EX where
 |nrm|ex (id:Nat)|ret
inductive HC where
 |skip
 |reg (t:RT)
 |br (t:RT) (x y:HC)
 |regq (m:MO) (t:RT)
 |brq (m:MO) (t:RT) (x y:HC)
 |cnd (i:Nat) (x y:HC)
 |seq (x y:HC)
 |block (id:Nat) (x:HC)
 |loop (x:HC)
 |exit (id:Nat)
 |ret
def R3 (I:List Value->World->Prop) (m:Nat) (μ:List Value->World->Nat) (Q:EX->List Value->World->Prop):EX->List Value->World->Prop
 | .nrm,env,w=>I env w/\μ env w<m
 |e,env,w=>Q e env w
def RG (body:(EX->List Value->World->Prop)->List Value->World->Prop) (Q:EX->List Value->World->Prop) (env:List Value) (w:World):Prop:=
 ∃(I:List Value->World->Prop) (μ:List Value->World->Nat),I env w/\
  ∀env w,I env w->body (R3 I (μ env w) μ Q) env w
section
variable {P:Program} (F:PF P)
def DR (next:List Value->World->Prop) (Q:EX->List Value->World->Prop):EX->List Value->World->Prop
 | .nrm=>next
 |e=>Q e
def oB (id:Nat) (Q:EX->List Value->World->Prop):EX->List Value->World->Prop
 | .ex i=>if i=id then Q .nrm else Q (.ex i)
 |e=>Q e
def Sn (t:RT) (env:List Value) (w:World) (K:List Value->Option Value->World->Prop):Prop:=
 ∃C:World->Prop,C w.drew/\t.np F C env (λenv' c=>∀w',C w'->K env' c w') []
def YQ (m:Nat) (t:RT) (env:List Value) (w:World) (K:List Value->Option Value->World->Prop):Prop:=
 ∃C:W8,C [] w.drew/\t.oc F C m env (λenv' c vs=>∀w',C vs w'->K env' c w') [] []
def YM (ps:List (Nat×List Nat)) (t:RT) (env:List Value) (w:World) (K:List Value->Option Value->World->Prop):Prop:=
 ∃C:Sk,C Fm.none w.drew/\t.oW F C env (λenv' c ρ=>∀w',C ρ w'->K env' c w') [] ps Fm.none
def RF (m:MO) (t:RT) (env:List Value) (w:World) (K:List Value->Option Value->World->Prop):Prop:=
 Sn F t env w K\/(∃n,m= .some n/\YQ F n t env w K)\/∃ps,m= .free ps/\YM F ps t env w K
def HC.wp:HC->(EX->List Value->World->Prop)->List Value->World->Prop
 | .skip,Q,env,w=>Q .nrm env w
 | .reg t,Q,env,w=>t.wp F env (λenv' _ w'=>Q .nrm env' w') [] w
 | .br t x y,Q,env,w=>t.wp F env (λenv' c w'=>mh (c.getD undef) (x.wp Q env' w') (y.wp Q env' w')) [] w
 | .regq m t,Q,env,w=>RF F m t env w (λenv' _ w'=>Q .nrm env' w')
 | .brq m t x y,Q,env,w=>RF F m t env w (λenv' c w'=>mh (c.getD undef) (x.wp Q env' w') (y.wp Q env' w'))
 | .cnd i x y,Q,env,w=>mh (env.getD i undef) (x.wp Q env w) (y.wp Q env w)
 | .seq x y,Q,env,w=>x.wp (DR (y.wp Q) Q) env w
 | .block id x,Q,env,w=>x.wp (oB id Q) env w
 | .loop x,Q,env,w=>RG x.wp Q env w
 | .exit id,Q,env,w=>Q (.ex id) env w
 | .ret,Q,env,w=>Q .ret env w
def K2:EX->Exit
 | .nrm=> .normal
 | .ex id=> .exit id
 | .ret=> .ret
def flat:Code->List Code->List Code
 | .seq a b,acc=>flat a (flat b acc)
 |c,acc=>c::acc
def na (L:List Nat) (N:Nat) (ops:Array Oper) (c:Option Nat):Option RT:=
 fk F L N ops.toList (λσ=>match c with
  |none=>some (.done (dp σ 0 L) none)
  |some t=>(look L σ t).map λe=> .done (dp σ 0 L) (some e)) (4*ops.size+4) ops.toList [] [] 0
def iX (L:List Nat) (N:Nat):Nat->List Code->Option HC
 |0,_=>none
 |_+1,[]=>some .skip
 |fuel+1,c::rest=>
  let more (h:HC):Option HC:=match rest with
   | []=>some h
   |_=>(iX L N fuel rest).map (.seq h)
  match c with
  | .region _ ops draw=>
   if draw&& !(P.follows .mixedOrders&&Region.lexB .any ops) then none else
   match rest with
   | .cond (.tmp t) x y::rest'=>
    if L.contains t then do
     let r<-na F L N ops none
     more (if draw then .regq (vM F ops) r else .reg r)
    else do
     let r<-na F L N ops (some t)
     let hx<-iX L N fuel (flat x [])
     let hy<-iX L N fuel (flat y [])
     let h:HC:=if draw then .brq (vM F ops) r hx hy else .br r hx hy
     match rest' with
     | []=>some h
     |_=>(iX L N fuel rest').map (.seq h)
   |_=>do
    let r<-na F L N ops none
    more (if draw then .regq (vM F ops) r else .reg r)
  | .cond (.tmp t) x y=>do
   let i<-L.idxOf? t
   let hx<-iX L N fuel (flat x [])
   let hy<-iX L N fuel (flat y [])
   more (.cnd i hx hy)
  | .block id x=>do
   let hx<-iX L N fuel (flat x [])
   more (.block id hx)
  | .loop x=>do
   let hx<-iX L N fuel (flat x [])
   more (.loop hx)
  | .scope x=>do
   let hx<-iX L N fuel (flat x [])
   more hx
  | .exit id=>some (.exit id)
  | .ret=>some .ret
  | .skip| .label _=>more .skip
  |_=>none
def Bk (P:Program):List Code->(Exit->Act->World->Prop)->Act->World->Prop
 | [],Q=>Q .normal
 |c::r,Q=>c.wp P (Exit.then (Bk P r Q) Q)
theorem Bl {c:Code} {n n':Act->World->Prop} {Q:Exit->Act->World->Prop} {a:Act} {w:World} (h:c.wp P (Exit.then n Q) a w) (hn:∀a w,n a w->n' a w):c.wp P (Exit.then n' Q) a w:=
 wp_mono h λe a w q=>by cases e<;>first|exact hn _ _ q|exact q
theorem zt:∀(c:Code) (acc:List Code) (Q:Exit->Act->World->Prop) (a:Act) (w:World),Bk P (flat c acc) Q a w->c.wp P (Exit.then (Bk P acc Q) Q) a w
 | .seq x y,acc,Q,a,w,h=>by simp only [flat] at h;have h1:=zt x (flat y acc) Q a w h;refine wp_seq ?_;have:=Bl h1 (λa w h=>zt y acc Q a w h);refine wp_mono this λe a w q=> ?_;cases e<;>exact q
 | .skip,_,_,_,_,h| .region _ _ _,_,_,_,_,h| .cond _ _ _,_,_,_,_,h| .block _ _,_,_,_,_,h| .loop _,_,_,_,_,h| .rangeFunc _ _ _ _,_,_,_,_,h| .exit _,_,_,_,_,h| .scope _,_,_,_,_,h| .label _,_,_,_,_,h| .goto _,_,_,_,_,h| .ret,_,_,_,_,h| .refuse _,_,_,_,_,h=>h
theorem uU {c:Code} {Q:Exit->Act->World->Prop} {a:Act} {w:World} (h:Bk P (flat c []) Q a w):c.wp P Q a w:=by refine wp_mono (zt c [] Q a w h) λe a w q=> ?_;cases e<;>exact q
end
section
variable {P:Program} {F:PF P} {L:List Nat} {N:Nat} {D:List Deferred}
def K0 (L:List Nat) (a:Act):List Value:=L.map λt=>a.tmps.getD t undef
theorem Rel.eq {env:List Value} {a:Act} (R:Rel L N D env a):env=K0 L a:=by
 apply List.ext_getElem?;intro i;unfold K0;rw [List.getElem?_map];cases h:L[i]? with
 |none=>
  have:L.length<=i:=by simpa using h
  simp [R.len,this]
 |some t=>
  have h1:=R.get i t h;have:i<env.length:=by rw [R.len];exact (List.getElem?_eq_some_iff.1 h).1
  simp only [Option.map_some,h1];simp [this]
def Fits (L:List Nat) (N:Nat) (D:List Deferred) (Q':EX->List Value->World->Prop) (Q:Exit->Act->World->Prop):Prop:=
 ∀e env a w,Rel L N D env a->Q' e env w->Q (K2 e) a w
def dR (P:Program) (F:PF P) (L:List Nat) (N:Nat) (D:List Deferred) (c:Code) (h:HC):Prop:=
 ∀Q' Q env a w,Fits L N D Q' Q->Rel L N D env a->h.wp F Q' env w->c.wp P Q a w
def ja (P:Program) (F:PF P) (L:List Nat) (N:Nat) (D:List Deferred) (cs:List Code) (h:HC):Prop:=
 ∀Q' Q env a w,Fits L N D Q' Q->Rel L N D env a->h.wp F Q' env w->Bk P cs Q a w
theorem H0 {c:Code} {Q:Exit->Act->World->Prop} {a:Act} {w:World} (h:c.wp P Q a w):Bk P [c] Q a w:=by simp only [Bk];refine wp_mono h λe a w q=> ?_;cases e<;>exact q
theorem dR.cons {c:Code} {rest:List Code} {h h':HC} (hc:dR P F L N D c h) (hr:ja P F L N D rest h'):ja P F L N D (c::rest) (.seq h h'):=by
 intro Q' Q env a w hf R hw;simp only [Bk];refine hc _ _ env a w (λe env' a' w' R' q=> ?_) R hw;cases e with
 |nrm=>exact hr Q' Q env' a' w' hf R' q
 |ex id=>exact hf _ _ _ _ R' q
 |ret=>exact hf _ _ _ _ R' q
theorem dR.more {c:Code} {rest:List Code} {h:HC} (hc:dR P F L N D c h) {hc':HC} {ih:List Code->Option HC}
  (hm:(match rest with| []=>some h|_=>(ih rest).map (.seq h))=some hc') (hr:∀h',ih rest=some h'->ja P F L N D rest h'):ja P F L N D (c::rest) hc':=by
 split at hm
 ·cases hm
  exact λQ' Q env a w hf R hw=>H0 (hc Q' Q env a w hf R hw)
 ·simp only [Option.map_eq_some_iff] at hm
  obtain ⟨h',h1,rfl⟩:=hm;exact hc.cons (hr h' h1)
theorem ja.pD {c:Code} {h:HC} (hs:ja P F L N D (flat c []) h):dR P F L N D c h:=
 λQ' Q env a w hf R hw=>uU (hs Q' Q env a w hf R hw)
theorem rR {id:Nat} {ops:Array Oper} {r:RT} {draw:Bool} (hd:(draw&& !(P.follows .mixedOrders&&Region.lexB .any ops))=false) (h:na F L N ops none=some r):
  dR P F L N D (.region id ops draw) (if draw then .regq (vM F ops) r else .reg r):=by
 intro Q' Q env a w hf R hw;have hl:=R.len;cases draw with
 |false=>
  simp only [Bool.false_eq_true,if_false,HC.wp] at hw;refine wp_region_list ?_;have:=aU (qe env (λenv' _ w'=>Q' .nrm env' w') Q ops.toList) (leaf:=λσ=>some (.done (dp σ 0 L) none))
   (λσ rt kn nb bvs a w hlf I hwp=>by cases hlf;exact hf .nrm _ _ _ (I.Dr hl) hwp) _ _ _ _ _ r [] a w h R.inv hw
  simpa [qe] using this
 |true=>
  simp only [if_true,HC.wp] at hw;simp only [Bool.true_and,Bool.not_eq_false',Bool.and_eq_true] at hd;rcases hw with ⟨C,hC,hw⟩|⟨n,hn,C,hC,hw⟩|⟨ps,hps,C,hC,hw⟩
  ·refine wp_region_quiet hd.1 hd.2 hC ?_
   have:=aU (ni C env (λenv' _=>∀w',C w'->Q' .nrm env' w') (λa'=>∀w',C w'->Q .normal a' w') ops.toList) (leaf:=λσ=>some (.done (dp σ 0 L) none))
    (λσ rt kn nb bvs a w hlf I hwp=>by cases hlf;exact λw' hC'=>hf .nrm _ _ _ (I.Dr hl) (hwp w' hC')) _ _ _ _ _ r [] a w h R.inv hw
   simpa [ni] using this
  ·refine nn F hd.1 hd.2 (yh F hn) hC ?_
   have:=aU (qf C n env (λenv' _ vs=>∀w',C vs w'->Q' .nrm env' w') (λa' vs=>∀w',C vs w'->Q .normal a' w') ops.toList) (leaf:=λσ=>some (.done (dp σ 0 L) none))
    (λσ rt kn nb bvs a vs hlf I hwp=>by cases hlf;exact λw' hC'=>hf .nrm _ _ _ (I.Dr hl) (hwp w' hC')) _ _ _ _ _ r [] a [] h R.inv hw
   simpa [qf] using this
  ·obtain ⟨hfr,rfl⟩:=yg F hps
   refine nk F hd.1 hd.2 hfr hC ?_;have:=aU (qd C env (λenv' _ ρ=>∀w',C ρ w'->Q' .nrm env' w') (λa' ρ=>∀w',C ρ w'->Q .normal a' w') ops.toList) (leaf:=λσ=>some (.done (dp σ 0 L) none))
    (λσ rt kn nb bvs a st hlf I hwp=>by cases hlf;exact λ_ _ _ w' hC'=>hf .nrm _ _ _ (I.Dr hl) (hwp w' hC')) _ _ _ _ _ r [] a (oH F ops 0 ops.toList,Fm.none) h R.inv hw (Nat.le_refl _) (uW hfr) (by simp)
   simpa [qd] using this
theorem py {t:Nat} {x y:Code} {hx hy:HC} (h1:dR P F L N D x hx) (h2:dR P F L N D y hy) {Q':EX->List Value->World->Prop} {Q:Exit->Act->World->Prop} {env:List Value} {a:Act} {w:World}
  (hf:Fits L N D Q' Q) (R:Rel L N D env a) {v:Value} (hv:a.tmps.getD t undef=v) (hw:mh v (hx.wp F Q' env w) (hy.wp F Q' env w)):(Code.cond (.tmp t) x y).wp P Q a w:=by
 rcases hw with ⟨rfl,hw⟩|⟨rfl,hw⟩
 ·exact wp_cond_true hv (h1 _ _ _ _ _ hf R hw)
 ·exact wp_cond_false hv (h2 _ _ _ _ _ hf R hw)
theorem Gv {id t:Nat} {ops:Array Oper} {r:RT} {x y:Code} {hx hy:HC} {rest:List Code} {h':Option HC} {draw:Bool} (hd:(draw&& !(P.follows .mixedOrders&&Region.lexB .any ops))=false)
  (h:na F L N ops (some t)=some r) (h1:dR P F L N D x hx) (h2:dR P F L N D y hy)
  (hr:match h' with|none=>rest= []|some h'=>ja P F L N D rest h'):
  ja P F L N D (.region id ops draw:: .cond (.tmp t) x y::rest) (match h' with|none=>(if draw then .brq (vM F ops) r hx hy else .br r hx hy)|some h'=> .seq (if draw then .brq (vM F ops) r hx hy else .br r hx hy) h'):=by
 have two:∀(Q':EX->List Value->World->Prop) (Q:Exit->Act->World->Prop) env a w,Fits L N D Q' Q->Rel L N D env a->(if draw then HC.brq (vM F ops) r hx hy else HC.br r hx hy).wp F Q' env w->
   (Code.region id ops draw).wp P (Exit.then ((Code.cond (.tmp t) x y).wp P Q) Q) a w:=by
  intro Q' Q env a w hf R hw;have hl:=R.len;cases draw with
  |false=>
   simp only [Bool.false_eq_true,if_false,HC.wp] at hw;refine wp_region_list ?_;have:=aU (qe env (λenv' c w'=>mh (c.getD undef) (hx.wp F Q' env' w') (hy.wp F Q' env' w')) (Exit.then ((Code.cond (.tmp t) x y).wp P Q) Q) ops.toList)
    (leaf:=λσ=>(look L σ t).map λe=> .done (dp σ 0 L) (some e))
    (λσ rt kn nb bvs a w hlf I hwp=>by simp only [Option.map_eq_some_iff] at hlf;obtain ⟨e,he,rfl⟩:=hlf;simp only [qe,RT.wp,Option.map_some,Option.getD_some] at hwp;exact py h1 h2 hf (I.Dr hl) (I.look he) hwp) _ _ _ _ _ r [] a w h R.inv hw
   simpa [qe] using this
  |true=>
   simp only [if_true,HC.wp] at hw;simp only [Bool.true_and,Bool.not_eq_false',Bool.and_eq_true] at hd;rcases hw with ⟨C,hC,hw⟩|⟨n,hn,C,hC,hw⟩|⟨ps,hps,C,hC,hw⟩
   ·refine wp_region_quiet hd.1 hd.2 hC ?_
    have:=aU (ni C env (λenv' c=>∀w',C w'->mh (c.getD undef) (hx.wp F Q' env' w') (hy.wp F Q' env' w')) (λa'=>∀w',C w'->(Code.cond (.tmp t) x y).wp P Q a' w') ops.toList)
     (leaf:=λσ=>(look L σ t).map λe=> .done (dp σ 0 L) (some e))
     (λσ rt kn nb bvs a w hlf I hwp=>by simp only [Option.map_eq_some_iff] at hlf;obtain ⟨e,he,rfl⟩:=hlf;simp only [ni,RT.np,Option.map_some,Option.getD_some] at hwp;exact λw' hC'=>py h1 h2 hf (I.Dr hl) (I.look he) (hwp w' hC')) _ _ _ _ _ r [] a w h R.inv hw
    simpa [ni,Exit.then] using this
   ·refine nn F hd.1 hd.2 (yh F hn) hC ?_
    have:=aU (qf C n env (λenv' c vs=>∀w',C vs w'->mh (c.getD undef) (hx.wp F Q' env' w') (hy.wp F Q' env' w')) (λa' vs=>∀w',C vs w'->(Code.cond (.tmp t) x y).wp P Q a' w') ops.toList)
     (leaf:=λσ=>(look L σ t).map λe=> .done (dp σ 0 L) (some e))
     (λσ rt kn nb bvs a vs hlf I hwp=>by simp only [Option.map_eq_some_iff] at hlf;obtain ⟨e,he,rfl⟩:=hlf;simp only [qf,RT.oc,Option.map_some,Option.getD_some] at hwp;exact λw' hC'=>py h1 h2 hf (I.Dr hl) (I.look he) (hwp w' hC')) _ _ _ _ _ r [] a [] h R.inv hw
    simpa [qf,Exit.then] using this
   ·obtain ⟨hfr,rfl⟩:=yg F hps
    refine nk F hd.1 hd.2 hfr hC ?_;have:=aU (qd C env (λenv' c ρ=>∀w',C ρ w'->mh (c.getD undef) (hx.wp F Q' env' w') (hy.wp F Q' env' w')) (λa' ρ=>∀w',C ρ w'->(Code.cond (.tmp t) x y).wp P Q a' w') ops.toList)
     (leaf:=λσ=>(look L σ t).map λe=> .done (dp σ 0 L) (some e))
     (λσ rt kn nb bvs a st hlf I hwp=>by simp only [Option.map_eq_some_iff] at hlf;obtain ⟨e,he,rfl⟩:=hlf;simp only [qd,RT.oW,Option.map_some,Option.getD_some] at hwp;exact λ_ _ _ w' hC'=>py h1 h2 hf (I.Dr hl) (I.look he) (hwp w' hC')) _ _ _ _ _ r [] a (oH F ops 0 ops.toList,Fm.none) h R.inv hw (Nat.le_refl _) (uW hfr) (by simp)
    simpa [qd,Exit.then] using this
 intro Q' Q env a w hf R hw;simp only [Bk];cases h' with
 |none=>
  simp only at hr hw;subst hr;refine wp_mono (two Q' Q env a w hf R hw) λe a w q=> ?_;cases e with
  |normal=>simp only [Exit.then,Bk] at q⊢;exact H0 q
  |_=>exact q
 |some h'=>
  simp only at hr hw;simp only [HC.wp] at hw;refine wp_mono (two (DR (h'.wp F Q') Q') (Exit.then (Bk P rest Q) Q) env a w (λe env' a' w' R' q=> ?_) R hw) λe a w q=> ?_
  ·cases e with
   |nrm=>exact hr Q' Q env' a' w' hf R' q
   |ex id=>exact hf _ _ _ _ R' q
   |ret=>exact hf _ _ _ _ R' q
  ·cases e<;>exact q
theorem CO {x:Code} {hx:HC} (h:dR P F L N D x hx):dR P F L N D (.loop x) (.loop hx):=by
 intro Q' Q env a w hf R hw;obtain ⟨I,μ,h0,hr⟩:=hw;refine wp_loop (λa w=>∃env,Rel L N D env a/\I env w) (λa w=>μ (K0 L a) w) ⟨env,R,h0⟩ λa w ⟨env,R,hI⟩=> ?_;refine h _ _ env a w (λe env' a' w' R' q=> ?_) R (hr env w hI);cases e with
 |nrm=>exact ⟨⟨env',R',q.1⟩,by rw [<-R.eq,<-R'.eq];exact q.2⟩
 |ex id=>exact hf _ _ _ _ R' q
 |ret=>exact hf _ _ _ _ R' q
theorem yY {id:Nat} {x:Code} {hx:HC} (h:dR P F L N D x hx):dR P F L N D (.block id x) (.block id hx):=by
 intro Q' Q env a w hf R hw;refine wp_block (h _ _ env a w (λe env' a' w' R' q=> ?_) R hw);cases e with
 |nrm=>exact hf _ _ _ _ R' q
 |ex i=>
  simp only [oB] at q;simp only [K2,Exit.inBlock];split at q
  ·rename_i hi;rw [if_pos hi];exact hf _ _ _ _ R' q
  ·rename_i hi;rw [if_neg hi];exact hf _ _ _ _ R' q
 |ret=>exact hf _ _ _ _ R' q
theorem A3 {x:Code} {hx:HC} (h:dR P F L N D x hx):dR P F L N D (.scope x) hx:=by
 intro Q' Q env a w hf R hw;refine wp_scope_straight (h _ _ env a w (λe env' a' w' R' q=> ?_) R hw);cases e with
 |nrm=>exact hf _ _ _ _ R' q
 |ex i=>exact hf _ _ _ _ R' q
 |ret=>exact hf _ _ _ _ R' q
theorem j8:∀(fuel:Nat) (cs:List Code) (hc:HC),iX F L N fuel cs=some hc->ja P F L N D cs hc
 |0,_,_,h=>by simp [iX] at h
 |fuel+1,[],hc,h=>by simp only [iX] at h;cases h;exact λQ' Q env a w hf R hw=>hf .nrm _ _ _ R hw
 |fuel+1,c::rest,hc,h=>by
  have ih:=j8 fuel;unfold iX at h;simp only at h;split at h
  ·rename_i id ops draw
   split at h
   ·cases h
   ·rename_i hd
    have hd:(draw&& !(P.follows .mixedOrders&&Region.lexB .any ops))=false:=by simpa using hd
    split at h
    ·split at h
     ·simp only [Option.bind_eq_bind,Option.bind_eq_some_iff] at h
      obtain ⟨r,hr,h⟩:=h;exact (rR hd hr).more h (ih _)
     ·simp only [Option.bind_eq_bind,Option.bind_eq_some_iff] at h
      obtain ⟨r,hr,hx,h1,hy,h2,h⟩:=h;split at h
      ·cases h
       exact Gv (h':=none) hd hr (ih _ _ h1).pD (ih _ _ h2).pD rfl
      ·simp only [Option.map_eq_some_iff] at h
       obtain ⟨h',h3,rfl⟩:=h;exact Gv (h':=some h') hd hr (ih _ _ h1).pD (ih _ _ h2).pD (ih _ _ h3)
    ·simp only [Option.bind_eq_bind,Option.bind_eq_some_iff] at h
     obtain ⟨r,hr,h⟩:=h;exact (rR hd hr).more h (ih _)
  ·rename_i t x y
   simp only [Option.bind_eq_bind,Option.bind_eq_some_iff] at h;obtain ⟨i,hi,hx,h1,hy,h2,h⟩:=h;have:dR P F L N D (.cond (.tmp t) x y) (.cnd i hx hy):=λQ' Q env a w hf R hw=>
    py (ih _ _ h1).pD (ih _ _ h2).pD hf R (R.get i t (lD hi)) hw
   exact this.more h (ih _)
  ·simp only [Option.bind_eq_bind,Option.bind_eq_some_iff] at h
   obtain ⟨hx,h1,h⟩:=h;exact (yY (ih _ _ h1).pD).more h (ih _)
  ·simp only [Option.bind_eq_bind,Option.bind_eq_some_iff] at h
   obtain ⟨hx,h1,h⟩:=h;exact (CO (ih _ _ h1).pD).more h (ih _)
  ·simp only [Option.bind_eq_bind,Option.bind_eq_some_iff] at h
   obtain ⟨hx,h1,h⟩:=h;exact (A3 (ih _ _ h1).pD).more h (ih _)
  ·rename_i id
   cases h;intro Q' Q env a w hf R hw;simp only [Bk];exact wp_exit (hf (.ex id) _ _ _ R hw)
  ·cases h
   intro Q' Q env a w hf R hw;simp only [Bk];exact wp_ret (hf .ret _ _ _ R hw)
  ·have:dR P F L N D .skip .skip:=λQ' Q env a w hf R hw=>wp_skip (hf .nrm _ _ _ R hw)
   exact this.more h (ih _)
  ·rename_i l
   have:dR P F L N D (.label l) .skip:=λQ' Q env a w hf R hw=>wp_label (hf .nrm _ _ _ R hw);exact this.more h (ih _)
  ·cases h
end
inductive RV where
 |slot (i:Nat)
 |cell (i:Nat) (agg:Bool) (n:Nat)
def Wq (o:Oper):List Nat:=o.op.operands.toList.filterMap fun| .tmp t=>some t|_=>none
def GN:List Oper->List Nat->List Nat->List Nat×List Nat
 | [],wr,ex=>(ex,wr)
 |o::r,wr,ex=>
  let ex':=(Wq o).foldl (λacc t=>if wr.contains t||acc.contains t then acc else t::acc) ex
  GN r (o.dst.toList++wr) ex'
def yQ (xs acc:List Nat):List Nat:=xs.foldl (λacc t=>if acc.contains t then acc else t::acc) acc
def jB:Nat->List Code->List Nat->List Nat
 |0,_,acc=>acc
 |_+1,[],acc=>acc
 |fuel+1,c::rest,acc=>
  match c with
  | .region _ ops _=>
   let (ex,wr):=GN ops.toList [] []
   let acc:=yQ ex acc
   match rest with
   | .cond (.tmp t) x y::rest'=>
    let acc:=if wr.contains t then acc else yQ [t] acc
    jB fuel rest' (jB fuel (flat y []) (jB fuel (flat x []) acc))
   |_=>jB fuel rest acc
  | .cond (.tmp t) x y=>jB fuel rest (jB fuel (flat y []) (jB fuel (flat x []) (yQ [t] acc)))
  | .block _ x=>jB fuel rest (jB fuel (flat x []) acc)
  | .loop x=>jB fuel rest (jB fuel (flat x []) acc)
  | .scope x=>jB fuel rest (jB fuel (flat x []) acc)
  |_=>jB fuel rest acc
def Hd (t:Nat):List Nat->List Nat
 | []=> [t]
 |u::r=>if t<=u then t::u::r else u::Hd t r
def HN (l:List Nat):List Nat:=l.foldr Hd []
def A0 (P:Program) (L:List Nat):List ResultVar->Option (List RV)
 | []=>some []
 | .tmp t::r=>do
  let i<-L.idxOf? t
  let rs<-A0 P L r
  some (.slot i::rs)
 | .cell t ty::r=>do
  let i<-L.idxOf? t
  let d<-P.underlying ty
  let n<-sz P ty
  let rs<-A0 P L r
  some (.cell i (gP d) n::rs)
def WJ:ResultVar->Nat
 | .tmp t=>t
 | .cell t _=>t
def Ly (fn:Func) (c:Code) (fuel:Nat):List Nat:=HN (jB fuel (flat c []) (yQ (fn.results.toList.map WJ) []))
def yx (P:Program) (env:List Value):List RV->(List Value->World->Prop)->World->Prop
 | [],K,w=>K [] w
 | .slot i::r,K,w=>yx P env r (λvs w=>K (env.getD i undef::vs) w) w
 | .cell i agg n::r,K,w=>fV P (dB (tK agg n (env.getD i undef))) (λv w'=>w'=w/\yx P env r (λvs w=>K (v::vs) w) w) w
def JI:List Value->Value
 | [v]=>v
 |vs=> .tuple vs.toArray
theorem MN (vs:List Value):(if h:vs.toArray.size=1 then vs.toArray[0] else .tuple vs.toArray)=JI vs:=by
 match vs with
 | []=>rfl
 | [v]=>rfl
 |_::_::_=>rw [dif_neg (by simp)];rfl
def r9 (P:Program) (rs:List RV) (K:Value->World->Prop):EX->List Value->World->Prop
 | .ex _,_,_=>False
 |_,env,w=>yx P env rs (λvs w=>K (JI vs) w) w
section
variable {P:Program} {F:PF P}
theorem tR {L:List Nat} {env:List Value} {a:Act} {N:Nat} {D:List Deferred} (R:Rel L N D env a):∀(l:List ResultVar) (rs:List RV) (w:World) (K:List Value->World->Prop),A0 P L l=some rs->yx P env rs K w->
  ∃vs,(l.mapM (fun| .tmp t=>pure (a.tmps.getD t undef)| .cell u t=>do loadVar t (<-asAddr (a.tmps.getD u undef)):ResultVar->Sem Value)).run P w= .ok vs w/\K vs w
 | [],rs,w,K,h,hw=>by simp only [A0] at h;cases h;exact ⟨[],rfl,hw⟩
 | .tmp t::r,rs,w,K,h,hw=>by simp only [A0,Option.bind_eq_bind,Option.bind_eq_some_iff] at h;obtain ⟨i,hi,rs',hr,h⟩:=h;cases h;obtain ⟨vs,h1,h2⟩:=tR R r rs' w _ hr hw;refine ⟨_,?_,h2⟩;rw [<-R.get i t (lD hi)];simp only [List.mapM_cons,Sem.run_bind,Sem.run_pure,Result.andThen_ok,h1]
 | .cell t ty::r,rs,w,K,h,hw=>by
  simp only [A0,Option.bind_eq_bind,Option.bind_eq_some_iff] at h;obtain ⟨i,hi,d,hd,n,hn,rs',hr,h⟩:=h;cases h;simp only [yx,fV,dB,Sem.run_bind] at hw;have hg:=R.get i t (lD hi);have hl:∀v w',(tK (gP d) n (a.tmps.getD t undef)).run P w= .ok v w'->(do loadVar ty (<-asAddr (a.tmps.getD t undef)):Sem Value).run P w= .ok v w':=by
   intro v w' he;generalize a.tmps.getD t undef=u at he⊢;cases u<;>simp only [tK,Instr.sureAddr,Sem.run_bind,run_stuck,Result.andThen_halt] at he<;>(try (cases he;done));rename_i b;cases b
   ·simp [Instr.sureAddr] at he
   ·simp only [Sem.run_pure,Result.andThen_ok] at he
    simp only [asAddr,Sem.run_bind,Sem.run_pure,Result.andThen_ok,loadVar,qQ hd];cases hb:gP d<;>simp [hb,fN hn] at he⊢<;>exact he
  rw [<-hg] at hw;generalize hrun:(tK (gP d) n (a.tmps.getD t undef)).run P w=q at hw;cases q with
  |halt x w'=>simp at hw
  |ok v w'=>
   simp only [Result.andThen_ok,Sem.run_pure] at hw;obtain ⟨rfl,hw⟩:=hw;obtain ⟨vs,h1,h2⟩:=tR R r rs' w' _ hr hw;have:=hl v w' hrun;simp only [Sem.run_bind] at this;refine ⟨_,?_,h2⟩;simp only [List.mapM_cons,Sem.run_bind,this,Result.andThen_ok,h1,Sem.run_pure]
def aj (P:Program) (f:FuncId) (args:List Value) (K:Value->World->Prop) (w:World):Prop:=
 Calls P f args.toArray w λe w'=>∃v,e= .returned v/\K v w'
structure ag where
 L:List Nat
 N:Nat
 rs:List RV
 hc:HC
def ai (F:PF P) (f:FuncId) (fuel:Nat):Option ag:=do
 let fn<-P.funcs[f]?
 let c<-fn.body
 let L:=Ly fn c fuel
 let hc<-iX F L fn.ntmps fuel (flat c [])
 let rs<-A0 P L fn.results.toList
 some ⟨L,fn.ntmps,rs,hc⟩
def uL (L:List Nat) (N:Nat) (args:List Value):List Value:=L.map λt=>if t<N then (args[t]?).getD undef else undef
theorem cX {f:FuncId} {fuel:Nat} {l:ag} (hl:ai F f fuel=some l) {args:List Value} {K:Value->World->Prop} {w:World} (hlen:args.length<=l.N)
  (h:l.hc.wp F (r9 P l.rs K) (uL l.L l.N args) w):aj P f args K w:=by
 simp only [ai,Option.bind_eq_bind,Option.bind_eq_some_iff] at hl;obtain ⟨fn,hfn,c,hc,hcode,hlc,rs,hrs,hl⟩:=hl;cases hl;refine calls_of_wp hfn hc (uU (j8 (D:= []) _ _ _ hlc _ _ _ _ _ ?_ ?_ h))
 ·intro e env a w R hq
  have fin:yx P env rs (λvs w=>K (JI vs) w) w->a.defers= []/\∃v,(results fn a.tmps).run P w= .ok v w/\∃v',Ending.returned v= .returned v'/\K v' w:=by
   intro hq;obtain ⟨vs,h1,h2⟩:=tR R _ _ w _ hrs hq;refine ⟨R.dfr,JI vs,?_,_,rfl,h2⟩;have hm:(fn.results.mapM (fun| .tmp t=>pure (a.tmps.getD t undef)| .cell u t=>do loadVar t (<-asAddr (a.tmps.getD u undef)):ResultVar->Sem Value)).run P w= .ok vs.toArray w:=by rw [<-Array.toArray_toList (xs:=fn.results),List.mapM_toArray];simp only [Sem.run_map,h1,Result.andThen_ok]
   have he:results fn a.tmps=(fn.results.mapM (fun| .tmp t=>pure (a.tmps.getD t undef)| .cell u t=>do loadVar t (<-asAddr (a.tmps.getD u undef)):ResultVar->Sem Value))>>=λvs=>pure (if h:vs.size=1 then vs[0] else .tuple vs):=rfl;rw [he,Sem.run_bind,hm];simp only [Result.andThen_ok,Sem.run_pure];rw [MN]
  cases e with
  |nrm=>exact fin hq
  |ex id=>exact hq.elim
  |ret=>exact fin hq
 ·refine ⟨?_,rfl,by simp [uL],λi t hi=> ?_⟩
  ·simp only [Array.size_append,List.size_toArray,Array.size_replicate]
   simp only at hlen;omega
  ·simp only [uL,List.getD_eq_getElem?_getD,List.getElem?_map,hi,Option.map_some,Option.getD_some]
   simp only [Array.getD_eq_getD_getElem?,Array.getElem?_append,List.getElem?_toArray,List.size_toArray,Array.getElem?_replicate];simp only at hlen;split
   ·rename_i hlt
    rw [if_pos (by omega)]
   ·rename_i hge
    have:args[t]? =none:=by simp;omega
    split<;>split<;>simp [this]
end
def PF.none (P:Program):PF P:=⟨[],λ_ _=>undef,λ_ _=>False,(by intro f hf;cases hf),[]⟩
def PF.quiet {P:Program} (F:PF P) (qs:List Nat):PF P:={F with qs:=qs}
section
variable {P:Program} (F:PF P)
def RT.cont (env:List Value) (K:List Value->Option Value->World->Prop) (k:RT) (bvs:List Value) (v:Value) (w:World):Prop:=k.wp F env K (bvs++ [v]) w
def qt (v:Value) (want:Bool) (a b:RT) (env:List Value) (K:List Value->Option Value->World->Prop) (bvs:List Value) (w:World):Prop:=
 if ov v want=true then a.wp F env K bvs w else b.wp F env K bvs w
def gG (v:Value) (x y:HC) (Q:EX->List Value->World->Prop) (env:List Value) (w:World):Prop:=mh v (x.wp F Q env w) (y.wp F Q env w)
def brK (x y:HC) (Q:EX->List Value->World->Prop) (env:List Value) (c:Option Value) (w:World):Prop:=gG F (c.getD undef) x y Q env w
def Bt (x:HC) (Q:EX->List Value->World->Prop) (env:List Value) (w:World):Prop:=RG (x.wp F) Q env w
def awa (Q:EX->List Value->World->Prop) (env:List Value) (_:Option Value) (w:World):Prop:=Q .nrm env w
def Jw (y:HC) (Q:EX->List Value->World->Prop):EX->List Value->World->Prop:=DR (y.wp F Q) Q
def e8a (g:Option (SE×Bool)) (p:PO) (xs:dt) (env bvs:List Value):Prop:=bI F env bvs g->p.ok F (dt.dF F env bvs xs)
variable {F} {env bvs:List Value} {w:World}
theorem Ry {K} (sets:List (Nat×SE)) (c:Option SE):(RT.done sets c).wp F env K bvs w=K (cV F env bvs sets env) (c.map (SE.val F env bvs)) w:=rfl
theorem WX {K} (g:Option (SE×Bool)) (p:PO) (xs:dt) (k:RT):(RT.chk g p xs k).wp F env K bvs w=((bI F env bvs g->p.ok F (dt.dF F env bvs xs))/\k.wp F env K bvs w):=rfl
theorem W5 {K} (g:Option (SE×Bool)) (c:SE) (k:RT):(RT.isb g c k).wp F env K bvs w=((bI F env bvs g->∃b,SE.val F env bvs c= .bool b)/\k.wp F env K bvs w):=rfl
theorem WZ {K} (eo:EO) (xs:dt) (k:RT):(RT.eff eo xs k).wp F env K bvs w=aA P eo (dt.dF F env bvs xs) (RT.cont F env K k bvs) w:=rfl
theorem WW {K} (e:SE) (k:RT):(RT.jQ e k).wp F env K bvs w=k.wp F env K (bvs++ [SE.val F env bvs e]) w:=rfl
theorem RB {K} (c:SE) (v:Bool) (a b:RT):(RT.ite c v a b).wp F env K bvs w=qt F (SE.val F env bvs c) v a b env K bvs w:=rfl
theorem Kz {K} (k:RT) (v:Value):RT.cont F env K k bvs v w=k.wp F env K (bvs++ [v]) w:=rfl
variable {Q:EX->List Value->World->Prop}
theorem M3:HC.skip.wp F Q env w=Q .nrm env w:=rfl
theorem W6 (t:RT):(HC.reg t).wp F Q env w=t.wp F env (awa Q) [] w:=rfl
theorem aXa (t:RT) (x y:HC):(HC.br t x y).wp F Q env w=t.wp F env (brK F x y Q) [] w:=rfl
theorem WY (i:Nat) (x y:HC):(HC.cnd i x y).wp F Q env w=gG F (env.getD i undef) x y Q env w:=rfl
theorem RC (x y:HC):(HC.seq x y).wp F Q env w=x.wp F (Jw F y Q) env w:=rfl
theorem JR (id:Nat) (x:HC):(HC.block id x).wp F Q env w=x.wp F (oB id Q) env w:=rfl
theorem M0 (x:HC):(HC.loop x).wp F Q env w=Bt F x Q env w:=rfl
theorem MZ (id:Nat):(HC.exit id).wp F Q env w=Q (.ex id) env w:=rfl
theorem RA:HC.ret.wp F Q env w=Q .ret env w:=rfl
theorem Mu (y:HC):Jw F y Q .nrm env w=y.wp F Q env w:=rfl
theorem Rh (y:HC) (i:Nat):Jw F y Q (.ex i) env w=Q (.ex i) env w:=rfl
theorem Mv (y:HC):Jw F y Q .ret env w=Q .ret env w:=rfl
theorem Ey (id:Nat):oB id Q .nrm env w=Q .nrm env w:=rfl
theorem Ez (id:Nat):oB id Q .ret env w=Q .ret env w:=rfl
theorem Ii (id i:Nat):oB id Q (.ex i) env w=(if i=id then Q .nrm env w else Q (.ex i) env w):=by simp only [oB];split<;>rfl
theorem Mf (c:Option Value):awa Q env c w=Q .nrm env w:=rfl
theorem Nv (x y:HC) (v:Value):brK F x y Q env (some v) w=gG F v x y Q env w:=rfl
theorem uz (x y:HC):gG F (.bool true) x y Q env w=x.wp F Q env w:=by simp [gG,mh]
theorem rC (x y:HC):gG F (.bool false) x y Q env w=y.wp F Q env w:=by simp [gG,mh]
theorem EP {x y:HC} {b:Bool} (h1:b=true->x.wp F Q env w) (h2:b=false->y.wp F Q env w):gG F (.bool b) x y Q env w:=by
 cases b
 ·rw [rC];exact h2 rfl
 ·rw [uz];exact h1 rfl
theorem I3 {K} (a b:RT):qt F (.bool true) true a b env K bvs w=a.wp F env K bvs w:=rfl
theorem IZ {K} {a b:RT} {c:Bool} {want:Bool} (h1:c=want->a.wp F env K bvs w) (h2:c=(!want)->b.wp F env K bvs w):qt F (.bool c) want a b env K bvs w:=by
 unfold qt;rw [fc];split
 ·rename_i h;exact h1 (by simpa using h)
 ·rename_i h;exact h2 (by revert h;cases c<;>cases want<;>simp)
theorem I2 {K} (a b:RT) (c:Bool):qt F (.bool c) c a b env K bvs w=a.wp F env K bvs w:=by unfold qt;rw [fc];simp
theorem Lm {K} (a b:RT) (c:Bool):qt F (.bool (!c)) c a b env K bvs w=b.wp F env K bvs w:=by unfold qt;rw [fc];cases c<;>rfl
theorem LB {x:HC} (I:List Value->World->Prop) (μ:List Value->World->Nat) (h0:I env w)
  (h:∀env w,I env w->x.wp F (R3 I (μ env w) μ Q) env w):Bt F x Q env w:=⟨I,μ,h0,h⟩
theorem KW {rs:List RV} {K:Value->World->Prop}:r9 P rs K .nrm env w=yx P env rs (λvs w=>K (JI vs) w) w:=rfl
theorem KX {rs:List RV} {K:Value->World->Prop}:r9 P rs K .ret env w=yx P env rs (λvs w=>K (JI vs) w) w:=rfl
theorem Re {K:List Value->World->Prop}:yx P env [] K w=K [] w:=rfl
theorem Mo {i:Nat} {r:List RV} {K:List Value->World->Prop}:yx P env (.slot i::r) K w=yx P env r (λvs w=>K (env.getD i undef::vs) w) w:=rfl
theorem zv:bI F env bvs none=True:=rfl
theorem zw (c:SE) (b:Bool):bI F env bvs (some (c,b))=(ov (SE.val F env bvs c) b=true):=rfl
end
@[simp] theorem Xt (a:Value) (l:List Value) (d:Value):(a::l).getD 0 d=a:=rfl
@[simp] theorem Xs (a:Value) (l:List Value) (n:Nat) (d:Value):(a::l).getD (n+1) d=l.getD n d:=rfl
theorem Uc (b:Bool):ov (.bool b) true=b:=by cases b<;>rfl
theorem Ub (b:Bool):ov (.bool b) false= !b:=by cases b<;>rfl
theorem Az (p q:Bool):(if p=true then Value.bool q else Value.bool false)= .bool (p&&q):=by cases p<;>rfl
theorem CF (p q:Bool):(if p=true then Value.bool true else Value.bool q)= .bool (p||q):=by cases p<;>rfl
end Go.HL
