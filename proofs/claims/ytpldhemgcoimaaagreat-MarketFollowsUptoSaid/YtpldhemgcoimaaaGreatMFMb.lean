/- Part 2. -/
import Derived.Test.YtpldhemgcoimaaaGreatMFMa
import Derived.Deep.Quiet
set_option linter.unusedSimpArgs false
set_option linter.unusedVariables false
set_option maxRecDepth 4000
namespace Go.HL
inductive RT where
 |done (sets:List (Nat×SE)) (c:Option SE)
 |chk (g:Option (SE×Bool)) (p:PO) (xs:di) (k:RT)
 |isb (g:Option (SE×Bool)) (c:SE) (k:RT)
 |eff (eo:EO) (xs:di) (k:RT)
 |jK (e:SE) (k:RT)
 |ite (c:SE) (w:Bool) (a b:RT)
def fT (P:Program) (s:Sem Next) (K:Value->World->Prop) (w:World):Prop:=
 match s.run P w with
 | .ok (.value v) w'=>K v w'
 | .ok .skip w'=>K undef w'
 | .ok (.enter f args) w'=>Calls P f args w' λe w''=>∃v,e= .returned v/\K v w''
 |_=>False
def aA (P:Program) (eo:EO) (vs:List Value) (K:Value->World->Prop) (w:World):Prop:=
 eo.info P->fT P (eo.lY vs) K w
def l0 (v:Value) (A B:Prop):Prop:=(v= .bool true/\A)\/(v= .bool false/\B)
section
variable {P:Program} (F:PF P)
def bD (env bvs:List Value):Option (SE×Bool)->Prop
 |none=>True
 |some (c,b)=>oa (SE.val F env bvs c) b=true
def cK (env bvs:List Value):List (Nat×SE)->List Value->List Value
 | [],acc=>acc
 |(i,e)::r,acc=>cK env bvs r (acc.set i (SE.val F env bvs e))
def RT.wp (env:List Value) (K:List Value->Option Value->World->Prop):RT->List Value->World->Prop
 | .done sets c,bvs,w=>K (cK F env bvs sets env) (c.map (SE.val F env bvs)) w
 | .chk g p xs k,bvs,w=>(bD F env bvs g->p.ok F (di.dA F env bvs xs))/\k.wp env K bvs w
 | .isb g c k,bvs,w=>(bD F env bvs g->∃b,SE.val F env bvs c= .bool b)/\k.wp env K bvs w
 | .eff eo xs k,bvs,w=>aA P eo (di.dA F env bvs xs) (λv w'=>k.wp env K (bvs++ [v]) w') w
 | .jK e k,bvs,w=>k.wp env K (bvs++ [SE.val F env bvs e]) w
 | .ite c v a b,bvs,w=>if oa (SE.val F env bvs c) v=true then a.wp env K bvs w else b.wp env K bvs w
def DW (P:Program) (C:World->Prop) (eo:EO) (vs:List Value) (v:Value) (w:World):Prop:=
 eo.info P->Oper.quietUpon P C w v ((eo.lY vs).run P w)
def RT.mZ (C:World->Prop) (env:List Value) (K:List Value->Option Value->Prop):RT->List Value->Prop
 | .done sets c,bvs=>K (cK F env bvs sets env) (c.map (SE.val F env bvs))
 | .chk g p xs k,bvs=>(bD F env bvs g->p.ok F (di.dA F env bvs xs))/\k.mZ C env K bvs
 | .isb g c k,bvs=>(bD F env bvs g->∃b,SE.val F env bvs c= .bool b)/\k.mZ C env K bvs
 | .eff eo xs k,bvs=>∃v,(∀w,C w->DW P C eo (di.dA F env bvs xs) v w)/\k.mZ C env K (bvs++ [v])
 | .jK e k,bvs=>k.mZ C env K (bvs++ [SE.val F env bvs e])
 | .ite c v a b,bvs=>if oa (SE.val F env bvs c) v=true then a.mZ C env K bvs else b.mZ C env K bvs
abbrev tF:=List (Nat×SE)
def look (L:List Nat) (σ:tF) (t:Nat):Option SE:=
 match σ.lookup t with
 |some e=>some e
 |none=>(L.idxOf? t).map .inp
def pK (L:List Nat) (σ:tF):Operand->Option SE
 | .tmp t=>look L σ t
 | .const v=>some (.cst v)
 | .global g=>some (.cst (.pointer (some ⟨g,0,none⟩)))
 | .func f=>some (.cst (.func (.func f) #[] #[]))
def kR (L:List Nat) (σ:tF):List Operand->Option di
 | []=>some .nil
 |x::r=>match pK L σ x,kR L σ r with
  |some e,some es=>some (.cons e es)
  |_,_=>none
def AG (N:Nat) (o:Oper) (σ:tF) (e:SE):Option tF:=
 match o.dst with
 |some d=>if d<N then some ((d,e)::σ) else none
 |none=>some σ
def wW (n:Nat):tF->Bool
 | []=>true
 |(_,e)::r=>SE.lt n e&&wW n r
def IP (n:Nat):fS->Bool
 | []=>true
 |(e,_,_)::r=>SE.lt n e&&IP n r
def ER (kn:fS):Option (SE×Bool)->SE->SE
 |none,e=>e
 |some (c,b),e=>mkIte kn c b e (.cst undef)
def AU:Option (SE×Bool)->SE->SE
 |none,e=>e
 |some (c,w),e=>strip c w true e
def Dr:Option (SE×Bool)->di->di
 |none,es=>es
 |some (c,w),es=>AW c w es
def pQ (L:List Nat) (N:Nat) (σ:tF) (kn:fS) (o:Oper) (g:Option (SE×Bool)) (k:tF->Option RT):Option RT:=
 match o.op with
 | .move x| .assign x=>do
  let e<-pK L σ x
  k (<-AG N o σ (ER kn g e))
 | .pick c x y=>do
  let c<-pK L σ c
  let x<-pK L σ x
  let y<-pK L σ y
  let c:=AU g c
  let t<-k (<-AG N o σ (ER kn g (Fg kn c (AU g x) (AU g y))))
  some (.isb g c t)
 |_=>do
  let (p,xs)<-PO.of P F o.op
  let xs<-kR L σ xs
  let xs:=Dr g xs
  let t<-k (<-AG N o σ (ER kn g (.op p xs)))
  some (.chk g p xs t)
def bC (o:Oper):Bool:=
 match o.op with
 | .move _| .assign _| .pick _ _ _=>true
 |_=>(PO.of P F o.op).isSome
inductive Gd where
 |yes|no|split (c:SE) (w:Bool)|name|sym (c:SE)
def atomic:SE->Bool
 | .inp _| .bv _| .cst _=>true
 |_=>false
def qy (kn:fS) (g:SE) (want:Bool) (pu:Bool):Gd:=
 match ja false kn g want with
 |some v=>if v then .yes else .no
 |none=>if pu then (if atomic g then .sym g else .name) else match g with
  | .ite c w _ _=>if SE.same c c then .split c w else .name
  |e=>if atomic e then .split e want else .name
def Hu (L:List Nat) (N:Nat) (σ:tF) (kn:fS) (nb:Nat) (o:Oper) (k:tF->Nat->Option RT):Option RT:=
 if bC F o then pQ F L N σ kn o none λσ'=>k σ' nb
 else do
  let (eo,xs)<-EO.of P o
  let xs<-kR L σ xs
  if wW nb σ&&IP nb kn then do
   let t<-k (<-AG N o σ (.bv nb)) (nb+1)
   some (.eff eo xs t)
  else none
def ff (L:List Nat) (N:Nat) (all:List Oper) (leaf:tF->Option RT):Nat->List Oper->tF->fS->Nat->Option RT
 |0,_,_,_,_=>none
 |_+1,[],σ,_,_=>leaf σ
 |fuel+1,o::rest,σ,kn,nb=>
  match o.guard with
  |none=>Hu F L N σ kn nb o λσ' nb'=>ff L N all leaf fuel rest σ' kn nb'
  |some (j,want)=>do
   let gd<-(all[j]?).bind (·.dst)
   let g0<-σ.lookup gd
   match qy kn (res kn g0) want (bC F o) with
   | .yes=>Hu F L N σ kn nb o λσ' nb'=>ff L N all leaf fuel rest σ' kn nb'
   | .no=>ff L N all leaf fuel rest (<-AG N o σ (.cst undef)) kn nb
   | .sym e=>pQ F L N σ kn o (some (e,want)) λσ'=>ff L N all leaf fuel rest σ' kn nb
   | .name=>
    if wW nb σ&&IP nb kn&&decide (gd<N) then do
     let t<-ff L N all leaf fuel (o::rest) ((gd,.bv nb)::σ) kn (nb+1)
     some (.jK (res kn g0) t)
    else none
   | .split c w=>do
    let a<-ff L N all leaf fuel (o::rest) σ ((c,w,true)::kn) nb
    let b<-ff L N all leaf fuel (o::rest) σ ((c,w,false)::kn) nb
    some (.ite c w a b)
def dg (σ:tF):Nat->List Nat->List (Nat×SE)
 |_,[]=> []
 |i,t::r=>match σ.lookup t with
  |some e=>match e with
   | .inp j=>if i=j then dg σ (i+1) r else (i,.inp j)::dg σ (i+1) r
   |e=>(i,e)::dg σ (i+1) r
  |none=>dg σ (i+1) r
end
section
variable {P:Program} (F:PF P)
def mvE:EO->Bool
 | .call _| .cext _| .callv| .inv _| .app .. | .st _| .new .. | .box _| .bsl .. | .mks .. | .mkm .. | .lM _| .rng _| .rngS _| .nxt .. | .bi .delete _ _ _=>true
 |_=>false
def qcE:EO->Bool
 | .call f=>F.qs.contains f
 |_=>false
def Fj (eo:EO):Bool:=mvE eo&& !qcE F eo
def fQ (o:Oper):Bool:= !bC F o&&match EO.of P o with
 |some (eo,_)=>Fj F eo
 |none=>false
def wl (ops:Array Oper) (i:Nat):Nat->List Nat
 |0=> []
 |n+1=>
  let l:=wl ops i n
  if ((ops[n]?).map λo=>o.after.any λe=>Region.binds .any e&&(e.on==i||l.contains e.on)).getD false then n::l else l
def V1 (ops:Array Oper) (i:Nat):Bool:=((ops[i]?).map (fQ F)).getD false
def bh (ops:Array Oper):List Nat:=(List.range ops.size).filter (V1 F ops)
def Kc (ops:Array Oper):Bool:=(bh F ops).all λi=>let l:=wl ops i ops.size;(bh F ops).all λj=> !decide (i<j)||l.contains j
def ZL (ops:Array Oper):Bool:=(bh F ops).all λk=>((bh F ops).any λj=>decide (k<j))||
 ((List.range ops.size).all λi=> !decide (i<k)||(wl ops i ops.size).contains k)&&(let l:=wl ops k ops.size;(List.range ops.size).all λj=> !decide (k<j)||l.contains j)
def fC (ops:Array Oper):Bool:=(List.range ops.size).all λi=>((ops[i]?).map λo=>o.guard.isNone).getD true
def Lj (ops:Array Oper) (i:Nat):Bool:=((ops[i]?).map λo=> !bC F o&& !fQ F o).getD false
def Wt (ops:Array Oper):Option Nat:=(List.range (bh F ops).length).find? λt=>match (bh F ops)[t]? with
 |some k=>(List.range ops.size).all λi=> !Lj F ops i||(wl ops i ops.size).contains k
 |none=>false
def pC (ops:Array Oper):Option Nat:=if Kc F ops then some (match fC ops,Wt F ops with
  |true,some t=>t+1
  |_,_=>if ZL F ops then (bh F ops).length else (bh F ops).length+1) else none
def era (m:Nat) (vs:List Value):Bool:=decide (m<=vs.length)
structure WI where
 ap:List Value->World->Prop
 q:Nat->List Value->Value:=λ_ _=>undef
instance:CoeFun WI (λ_=>List Value->World->Prop):=⟨WI.ap⟩
def stillUpon (q:Nat->List Value->Value) (D:World->Prop) (w:World) (v:Value):Result Next->Prop
 | .ok (.value u) w'=>w'=w/\v=u
 | .ok .skip w'=>w'=w/\v=undef
 | .ok (.enter f args) w'=>w'=w/\((f∈F.ids/\F.ok f args.toList/\v=F.val f args.toList)\/(f∉F.ids/\v=q f args.toList/\Calls P f args w λe w''=>e= .returned v/\D w''))
 |_=>False
def jz (P:Program) (R:Value->World->Prop):Result Next->Prop
 | .ok (.value u) w'=>R u w'
 | .ok .skip w'=>R undef w'
 | .ok (.enter f args) w'=>Calls P f args w' (λe w''=>∃v,e= .returned v/\R v w'')
 |_=>False
theorem kU {q:Nat->List Value->Value} {D D':World->Prop} {w:World} {v v':Value} {r:Result Next} (h:stillUpon F q D w v r) (h':stillUpon F q D' w v' r):v=v':=by
 cases r with
 |ok n w1=>
  cases n with
  |value u=>exact h.2.trans h'.2.symm
  |skip=>exact h.2.trans h'.2.symm
  |enter f args=>
   rcases h.2 with ⟨a,_,b⟩|⟨a,b,_⟩<;>rcases h'.2 with ⟨c,_,d⟩|⟨c,d,_⟩
   ·exact b.trans d.symm
   ·exact absurd a c
   ·exact absurd c a
   ·exact b.trans d.symm
  |_=>exact h.elim
 |halt x w1=>exact h.elim
theorem ic {R:Value->World->Prop} {r:Result Next} (h:jz P R r):∃v w,R v w:=by
 cases r with
 |ok n w1=>
  cases n with
  |value u=>exact ⟨u,w1,h⟩
  |skip=>exact ⟨undef,w1,h⟩
  |enter f args=>
   obtain ⟨e,w',fr,⟨v,_,hr⟩,_⟩:=(h:Calls P f args w1 _) [];exact ⟨v,w',hr⟩
  |_=>exact h.elim
 |halt x w1=>exact h.elim
variable (C:WI) (m:Nat)
def JP (eo:EO) (args:List Value) (vs:List Value) (v:Value):Prop:=eo.info P->∀vs' w,era m vs'=era m vs->C vs' w->stillUpon F C.q (C vs') w v ((eo.lY args).run P w)
def JL (P:Program) (C:WI) (eo:EO) (args:List Value) (vs:List Value):Prop:=eo.info P->∀w,C vs w->jz P (λv w'=>C (vs++ [v]) w') ((eo.lY args).run P w)
def RT.nQ (env:List Value) (K:List Value->Option Value->List Value->Prop):RT->List Value->List Value->Prop
 | .done sets c,bvs,vs=>K (cK F env bvs sets env) (c.map (SE.val F env bvs)) vs
 | .chk g p xs k,bvs,vs=>(bD F env bvs g->p.ok F (di.dA F env bvs xs))/\k.nQ env K bvs vs
 | .isb g c k,bvs,vs=>(bD F env bvs g->∃b,SE.val F env bvs c= .bool b)/\k.nQ env K bvs vs
 | .eff eo xs k,bvs,vs=>(Fj F eo=false/\∃v,JP F C m eo (di.dA F env bvs xs) vs v/\k.nQ env K (bvs++ [v]) vs)\/
   (Fj F eo=true/\JL P C eo (di.dA F env bvs xs) vs/\∀v,(∃w,C (vs++ [v]) w)->k.nQ env K (bvs++ [v]) (vs++ [v]))
 | .jK e k,bvs,vs=>k.nQ env K (bvs++ [SE.val F env bvs e]) vs
 | .ite c v a b,bvs,vs=>if oa (SE.val F env bvs c) v=true then a.nQ env K bvs vs else b.nQ env K bvs vs
def HA (o:Oper) (a:Act) (vs:List Value) (v:Value):Prop:=∀vs' w,(bC F o=true\/era m vs'=era m vs)->C vs' w->stillUpon F C.q (C vs') w v ((execOp a.eval o).run P w)
def QF (o:Oper) (a:Act) (vs:List Value):Prop:=∀w,C vs w->jz P (λv w'=>C (vs++ [v]) w') ((execOp a.eval o).run P w)
def CE (o:Oper) (K:Act->List Value->Prop) (a:Act) (vs:List Value):Prop:=
 (fQ F o=false/\∃v,HA F C m o a vs v/\K (a.put o.dst v) vs)\/(fQ F o=true/\QF (P:=P) C o a vs/\∀v,(∃w,C (vs++ [v]) w)->K (a.put o.dst v) (vs++ [v]))
def jJ (ops:Array Oper) (Q:Act->List Value->Prop):List Oper->Act->List Value->Prop
 | [],a,vs=>Q a vs
 |o::rest,a,vs=>if Region.wanted o (yielded ops a.tmps) then CE F C m o (jJ ops Q rest) a vs else jJ ops Q rest (a.put o.dst undef) vs
def Qz (ops:Array Oper) (i:Nat) (K:Act->List Value->Prop) (a:Act) (vs:List Value):Prop:=
 match ops[i]? with
 |none=>K a vs
 |some o=>if Region.wanted o (yielded ops a.tmps) then CE F C m o K a vs else K (a.put o.dst undef) vs
def kp (ops:Array Oper) (Q:Act->List Value->Prop):Nat->Array Bool->Act->List Value->Prop
 |0,listed,a,vs=>Region.ready .any ops listed= []/\Q a vs
 |fuel+1,listed,a,vs=>(Region.ready .any ops listed= []->Q a vs)/\∀i∈Region.ready .any ops listed,Qz F C m ops i (kp ops Q fuel (listed.setIfInBounds i true)) a vs
variable {C m}
theorem DQ {o:Oper} {a:Act} {vs:List Value} {K:Act->List Value->Prop} {K':Act->World->Prop} {Q':Exit->Act->World->Prop} {w:World} (hw:C vs w)
  (h:∀a vs w',C vs w'->K a vs->K' a w') (hh:CE F C m o K a vs):o.wp P a w K' Q':=by
 unfold Oper.wp;rcases hh with ⟨_,v,h1,h2⟩|⟨_,h1,h2⟩
 ·have h3:=h1 vs w (.inr rfl) hw
  generalize (execOp a.eval o).run P w=r at h3;cases r with
  |ok n w1=>
   cases n with
   |value u=>obtain ⟨rfl,rfl⟩:=h3;exact h _ _ _ hw h2
   |skip=>obtain ⟨rfl,rfl⟩:=h3;exact h _ _ _ hw h2
   |enter f args=>
    obtain ⟨rfl,h3⟩:=h3;rcases h3 with ⟨hf,hok,rfl⟩|⟨_,_,h3⟩
    ·have:=F.sound f hf args.toList w1 hok
     rw [Array.toArray_toList] at this;refine Calls.mono this λe w'' ⟨he,hww⟩=> ?_;subst he;subst hww;exact h _ _ _ hw h2
    ·refine Calls.mono h3 λe w'' ⟨he,hD⟩=> ?_
     subst he;exact h _ _ _ hD h2
   |_=>exact h3.elim
  |halt x w1=>exact h3.elim
 ·have h3:=h1 w hw
  generalize (execOp a.eval o).run P w=r at h3;cases r with
  |ok n w1=>
   cases n with
   |value u=>exact h _ _ _ h3 (h2 u ⟨_,h3⟩)
   |skip=>exact h _ _ _ h3 (h2 undef ⟨_,h3⟩)
   |enter f args=>
    refine Calls.mono h3 λe w'' ⟨v,he,hr⟩=> ?_;subst he;exact h _ _ _ hr (h2 v ⟨_,hr⟩)
   |_=>exact h3.elim
  |halt x w1=>exact h3.elim
theorem im {ops:Array Oper} {Q:Act->List Value->Prop} {Q':Exit->Act->World->Prop} (hQ:∀a vs w,C vs w->Q a vs->Q' .normal a w):∀(fuel:Nat) (listed:Array Bool) (a:Act) (vs:List Value) (w:World),C vs w->
  kp F C m ops Q fuel listed a vs->wpAny P .any ops Q' fuel listed a w
 |0,_,_,_,_,hw,h=>⟨h.1,hQ _ _ _ hw h.2⟩
 |fuel+1,listed,a,vs,w,hw,h=>by
  refine ⟨λh0=>hQ _ _ _ hw (h.1 h0),λi hi=> ?_⟩;have hi:=h.2 i hi;unfold Qz at hi;unfold wpOp;split
  ·rename_i ho;simp only [ho] at hi;exact im hQ fuel _ _ _ _ hw hi
  ·rename_i o ho
   simp only [ho] at hi;split
   ·rename_i hwn
    rw [if_pos hwn] at hi;exact .inl (DQ F hw (λa' vs' w' hw'=>im hQ fuel _ a' vs' w' hw') hi)
   ·rename_i hwn
    rw [if_neg hwn] at hi;exact im hQ fuel _ _ _ _ hw hi
def DC (ops:Array Oper) (listed:Array Bool):Prop:=∀j o,ops[j]? =some o->listed.getD j false=true->∀e∈o.after,Region.binds .any e=true->listed.getD e.on false=true
theorem jh {ops:Array Oper} {i:Nat} {listed:Array Bool} (hd:DC ops listed):∀n j,j∈wl ops i n->listed.getD j false=true->listed.getD i false=true
 |0,j,h,_=>by simp [wl] at h
 |n+1,j,h,hl=>by
  simp only [wl] at h;split at h
  ·rename_i hc
   rcases List.mem_cons.1 h with rfl|h
   ·cases ho:ops[j]? with
    |none=>simp [ho] at hc
    |some o=>
     simp only [ho,Option.map_some,Option.getD_some] at hc;obtain ⟨e,he,hb⟩:=Array.any_eq_true'.1 hc;simp only [Bool.and_eq_true,Bool.or_eq_true,beq_iff_eq,List.contains_iff_mem] at hb;have hle:=hd j o ho hl e he hb.1;rcases hb.2 with h1|h1
     ·rw [h1] at hle;exact hle
     ·exact jh hd j e.on h1 hle
   ·exact jh hd n j h hl
  ·exact jh hd n j h hl
theorem gy {ops:Array Oper} {i j:Nat} {listed:Array Bool} (hd:DC ops listed) (hr:j∈Region.ready .any ops listed):∀n,j∈wl ops i n->listed.getD i false=true
 |0,h=>by simp [wl] at h
 |n+1,h=>by
  simp only [wl] at h;split at h
  ·rename_i hc
   rcases List.mem_cons.1 h with rfl|h
   ·obtain ⟨_,o,ho,hall⟩:=mem_ready.1 hr
    simp only [ho,Option.map_some,Option.getD_some] at hc;obtain ⟨e,he,hb⟩:=Array.any_eq_true'.1 hc;simp only [Bool.and_eq_true,Bool.or_eq_true,beq_iff_eq,List.contains_iff_mem] at hb;have hle:=hall e he hb.1;rcases hb.2 with h1|h1
    ·rw [h1] at hle;exact hle
    ·exact jh hd j e.on h1 hle
   ·exact gy hd hr n h
  ·exact gy hd hr n h
theorem DC.set {ops:Array Oper} {listed:Array Bool} (hd:DC ops listed) {j:Nat} (hr:j∈Region.ready .any ops listed):DC ops (listed.setIfInBounds j true):=by
 intro k o ho hl e he hb;obtain ⟨_,oj,hoj,hall⟩:=mem_ready.1 hr
 by_cases h:j=k
 ·subst h
  rw [ho] at hoj;cases hoj;exact getD_set_true (hall e he hb)
 ·rw [getD_set_ne false h] at hl
  exact getD_set_true (hd k o ho hl e he hb)
def oL (ops:Array Oper) (listed:Array Bool):Nat:=((bh F ops).filter λk=>listed.getD k false).length
theorem dR {ops:Array Oper} {i:Nat} {o:Oper} (ho:ops[i]? =some o) (h:fQ F o=true):i∈bh F ops:=by simp only [bh,List.mem_filter,List.mem_range];exact ⟨(Array.getElem?_eq_some_iff.1 ho).1,by simp [V1,ho,h]⟩
theorem pD (ops:Array Oper):(bh F ops).Nodup:=(List.nodup_range).filter _
theorem gZ {listed:Array Bool} {j:Nat} (h:listed.getD j true=false):listed.getD j false=false/\j<listed.size:=by
 rcases Nat.lt_or_ge j listed.size with h'|h'
 ·simp [h'] at h⊢;exact h
 ·simp [Array.getElem?_eq_none h'] at h
theorem uA {l:List Nat} (hn:l.Nodup) {j:Nat} (hj:j∈l) {p q:Nat->Bool} (hp:p j=false) (hq:q j=true) (he:∀k,k≠j->q k=p k):(l.filter q).length=(l.filter p).length+1:=by
 induction l with
 |nil=>cases hj
 |cons a l ih=>
  rw [List.nodup_cons] at hn;rcases List.mem_cons.1 hj with rfl|hj
  ·have e:l.filter q=l.filter p:=List.filter_congr λk hk=>he k (λh=>hn.1 (h▸hk))
   rw [List.filter_cons_of_pos hq,List.filter_cons_of_neg (by simp [hp]),e,List.length_cons]
  ·have ha:a≠j:=λh=>hn.1 (h▸hj)
   have:=ih hn.2 hj
   by_cases hpa:p a=true
   ·rw [List.filter_cons_of_pos (by rw [he a ha];exact hpa),List.filter_cons_of_pos hpa,List.length_cons,List.length_cons,this]
   ·rw [List.filter_cons_of_neg (by rw [he a ha];exact hpa),List.filter_cons_of_neg hpa,this]
theorem r9 {ops:Array Oper} {listed:Array Bool} {j:Nat} (hj:j∈bh F ops) (hu:listed.getD j true=false):oL F ops (listed.setIfInBounds j true)=oL F ops listed+1:=by obtain ⟨h0,hlt⟩:=gZ hu;refine uA (pD F ops) hj h0 ?_ λk hk=>getD_set_ne false (Ne.symm hk);simp [hlt]
theorem Gj {ops:Array Oper} {listed:Array Bool} {j:Nat} (hj:j∉bh F ops):oL F ops (listed.setIfInBounds j true)=oL F ops listed:=by
 unfold oL
 congr 1
 refine List.filter_congr λk hk=>getD_set_ne false ?_;rintro rfl;exact hj hk
theorem yi:∀(l:List Nat) (x:Nat),l.Pairwise (·<·)->x∈l->l[(l.filter λy=>decide (y<x)).length]? =some x
 |a::l,x,hp,hx=>by
  obtain ⟨h1,h2⟩:=List.pairwise_cons.1 hp
  by_cases e:x=a
  ·subst e
   have:(x::l).filter (λy=>decide (y<x))= []:=by
    refine List.filter_eq_nil_iff.2 λy hy=> ?_;rcases List.mem_cons.1 hy with rfl|hy
    ·simp
    ·have:=h1 y hy;simp;omega
   rw [this];rfl
  ·have hx':x∈l:=(List.mem_cons.1 hx).resolve_left e
   have hlt:a<x:=h1 x hx';rw [List.filter_cons_of_pos (by simpa using hlt),List.length_cons,List.getElem?_cons_succ];exact yi l x h2 hx'
theorem wH (ops:Array Oper):(bh F ops).Pairwise (·<·):=List.Pairwise.filter _ List.pairwise_lt_range
theorem Fi {ops:Array Oper} (hc:Kc F ops=true) {listed:Array Bool} (hd:DC ops listed) {x:Nat} (hxr:x∈Region.ready .any ops listed) (hxm:x∈bh F ops):(bh F ops)[oL F ops listed]? =some x:=by
 have hxu:listed.getD x false=false:=(gZ (mem_ready.1 hxr).1).1;have e:(bh F ops).filter (λk=>listed.getD k false)=(bh F ops).filter λy=>decide (y<x):=by
  refine List.filter_congr λy hy=> ?_;have hc1:=List.all_eq_true.1 (List.all_eq_true.1 hc x hxm) y hy;have hc2:=List.all_eq_true.1 (List.all_eq_true.1 hc y hy) x hxm;simp only [Bool.or_eq_true,Bool.not_eq_true',decide_eq_false_iff_not,List.contains_iff_mem] at hc1 hc2
  by_cases h:y<x
  ·have h3:=gy hd hxr _ (hc2.resolve_left λg=>g h)
   rw [h3];simp [h]
  ·cases hl:listed.getD y false with
   |false=>simp [h]
   |true=>
    have hne:x≠y:=by rintro rfl;rw [hxu] at hl;cases hl
    have h3:=jh hd _ _ (hc1.resolve_left λg=>g (by omega)) hl;rw [hxu] at h3;cases h3
 have:=yi (bh F ops) x (wH F ops) hxm;unfold oL;rw [e];exact this
theorem uc {ops:Array Oper} {listed:Array Bool} {j:Nat}:oL F ops listed<=oL F ops (listed.setIfInBounds j true):=by unfold oL;rw [<-List.countP_eq_length_filter,<-List.countP_eq_length_filter];exact List.countP_mono_left λk _ hk=>getD_set_true hk
theorem Sn {ops:Array Oper} {listed:Array Bool} {j:Nat} (hj:j∈bh F ops) (hu:listed.getD j false=false):oL F ops listed<(bh F ops).length:=by unfold oL;refine Nat.lt_of_le_of_ne (List.length_filter_le _ _) λh=> ?_;have:=List.length_filter_eq_length_iff.1 h j hj;rw [hu] at this;cases this
theorem Nt {ops:Array Oper} {listed:Array Bool} {j k:Nat} (hj:j∈bh F ops) (hk:k∈bh F ops) (hne:j≠k) (hu:listed.getD j false=false) (hu2:listed.getD k false=false):oL F ops listed+1<(bh F ops).length:=by
 have hlt:k<ops.size:=by simp only [bh,List.mem_filter,List.mem_range] at hk;exact hk.1
 have e:=uA (pD F ops) hk (p:=λx=>listed.getD x false) (q:=λx=>listed.getD x false||x==k) hu2 (by simp) (λx hx=>by simp [hx]);unfold oL;rw [<-e];refine Nat.lt_of_le_of_ne (List.length_filter_le _ _) λh=> ?_;have:=List.length_filter_eq_length_iff.1 h j hj;simp [hu,hne] at this
theorem Ln {ops:Array Oper} {i:Nat} {K:Act->List Value->Prop} {a:Act} {vs:List Value} (hw:∃w,C vs w) (h:Qz F C m ops i K a vs):∃a' vs',K a' vs':=by
 unfold Qz at h;split at h
 ·exact ⟨_,_,h⟩
 ·split at h
  ·rcases h with ⟨_,v,_,h⟩|⟨_,h1,h⟩
   ·exact ⟨_,_,h⟩
   ·obtain ⟨w,hw⟩:=hw
    obtain ⟨v,w',hv⟩:=ic (h1 w hw);exact ⟨_,_,h v ⟨w',hv⟩⟩
  ·exact ⟨_,_,h⟩
theorem vq {ops:Array Oper} (hm:pC F ops=some m) {listed:Array Bool} (hd:DC ops listed) {i j:Nat} (hij:i<j) (hiu:listed.getD i false=false)
  (hr:j∈Region.ready .any ops listed) (hi:i∈bh F ops) (hj:j∈bh F ops):False:=by
 unfold pC at hm;split at hm
 ·rename_i hc
  have hc':=List.all_eq_true.1 (List.all_eq_true.1 hc i hi) j hj;simp only [Bool.or_eq_true,Bool.not_eq_true',decide_eq_false_iff_not,List.contains_iff_mem] at hc';rcases hc' with h|h
  ·exact h hij
  ·have:=gy hd hr _ h
   rw [hiu] at this;cases this
 ·cases hm
theorem CJ {ops:Array Oper} (hm:pC F ops=some m) {listed:Array Bool} (hd:DC ops listed) {vs:List Value} (hl:vs.length<=oL F ops listed) (heq:fC ops=true->vs.length=oL F ops listed) {i j:Nat} (hij:i<j) (hsz:j<ops.size) (hiu:listed.getD i false=false)
  (hir:i∈Region.ready .any ops listed) (hr:j∈Region.ready .any ops listed) {x y:Nat} (hx2:x=i/\y=j\/x=j/\y=i) (hxm:x∈bh F ops) {o:Oper} (ho:ops[y]? =some o) (hp:bC F o=false):vs.length+1≠m:=by
 intro he;have hx:x=i\/x=j:=by
  rcases hx2 with h|h
  ·exact .inl h.1
  ·exact .inr h.1
 have hju:listed.getD j false=false:=(gZ (mem_ready.1 hr).1).1;have hxu:listed.getD x false=false:=by rcases hx with rfl|rfl<;>assumption
 have h1:=Sn F hxm hxu;have hxr:x∈Region.ready .any ops listed:=by rcases hx with rfl|rfl<;>assumption
 have apart:(∀a,a<ops.size->¬a<x\/x∈wl ops a ops.size)->(∀b,b<ops.size->¬x<b\/b∈wl ops x ops.size)->False:=by
  intro h2 h3;rcases hx with rfl|rfl
  ·rcases h3 j hsz with h|h
   ·exact h hij
   ·have:=gy hd hr _ h
    rw [hiu] at this;cases this
  ·rcases h2 i (by omega) with h|h
   ·exact h hij
   ·have:=gy hd hr _ h
    rw [hiu] at this;cases this
 have hm0:=hm;unfold pC at hm;split at hm
 ·rename_i hc
  split at hm
  ·rename_i t hg hst
   simp only [Option.some.injEq] at hm;have hcnt:oL F ops listed=t:=by have:=heq hg;omega
   have hat:=Fi F hc hd hxr hxm;rw [hcnt] at hat;have hf:=List.find?_some hst;rw [hat] at hf;have hys:y<ops.size:=(Array.getElem?_eq_some_iff.1 ho).1;have hyu:listed.getD y false=false:=by rcases hx2 with ⟨_,rfl⟩|⟨_,rfl⟩<;>assumption
   by_cases hmv:fQ F o=true
   ·have hym:=dR F ho hmv
    rcases hx2 with ⟨rfl,rfl⟩|⟨rfl,rfl⟩
    ·exact vq F hm0 hd hij hiu hr hxm hym
    ·exact vq F hm0 hd hij hiu hr hym hxm
   ·have h2:=List.all_eq_true.1 hf y (List.mem_range.2 hys)
    simp only [Lj,ho,Option.map_some,Option.getD_some,hp,Bool.eq_false_iff.2 hmv,Bool.not_false,Bool.and_self,Bool.not_true,Bool.false_or,List.contains_iff_mem] at h2;have:=gy hd hxr _ h2;rw [hyu] at this;cases this
  ·split at hm
   ·rename_i hlast
    simp only [Option.some.injEq] at hm;have:=List.all_eq_true.1 hlast x hxm;simp only [Bool.or_eq_true,Bool.and_eq_true,List.any_eq_true,List.all_eq_true,decide_eq_true_eq,List.mem_range,Bool.not_eq_true',decide_eq_false_iff_not,List.contains_iff_mem] at this;rcases this with ⟨k,hk,hxk⟩|⟨h2,h3⟩
    ·have hkl:listed.getD k false=true:=by
      cases hku:listed.getD k false with
      |true=>rfl
      |false=>
       have:=Nt F hxm hk (by omega) hxu hku;omega
     have hc':=List.all_eq_true.1 (List.all_eq_true.1 hc x hxm) k hk;simp only [Bool.or_eq_true,Bool.not_eq_true',decide_eq_false_iff_not,List.contains_iff_mem] at hc';rcases hc' with h|h
     ·exact h hxk
     ·have:=jh hd _ _ h hkl
      rw [hxu] at this;cases this
    ·exact apart h2 h3
   ·simp only [Option.some.injEq] at hm
    omega
 ·cases hm
theorem B6 {vs:List Value} {v:Value} (h:vs.length+1≠m):era m (vs++ [v])=era m vs:=by simp only [era,List.length_append,List.length_singleton,decide_eq_decide];omega
theorem jy {ops:Array Oper} {i:Nat} {o:Oper} (ho:ops[i]? =some o) {K:Act->List Value->Prop} {a:Act} {vs:List Value}:
  Qz F C m ops i K a vs=if Region.wanted o (yielded ops a.tmps) then CE F C m o K a vs else K (a.put o.dst undef) vs:=by
 unfold Qz;rw [ho]
theorem gP {ops:Array Oper} {j:Nat} {o:Oper} (ho:ops[j]? =some o) (h:fQ F o=false):j∉bh F ops:=by intro hj;simp only [bh,List.mem_filter,V1,ho,Option.map_some,Option.getD_some] at hj;rw [h] at hj;cases hj.2
theorem mK {ops:Array Oper} (h:fC ops=true) {j:Nat} {o:Oper} (ho:ops[j]? =some o) (y:Nat->Option Bool):Region.wanted o y=true:=by have hj:j<ops.size:=(Array.getElem?_eq_some_iff.1 ho).1;have:=List.all_eq_true.1 h j (List.mem_range.2 hj);rw [ho] at this;simp only [Option.map_some,Option.getD_some,Option.isNone_iff_eq_none] at this;unfold Region.wanted;rw [this]
theorem A4 {ops:Array Oper} {Q:Act->List Value->Prop} (hm:pC F ops=some m) {i:Nat} {oi:Oper} (hi:ops[i]? =some oi) (hsel:∀(j:Nat) (o:Oper) cs b,ops[j]? =some o->o.op≠ .select cs b):
  ∀(fuel:Nat) (listed:Array Bool) (a:Act) (vs:List Value),(∀k,k<i->listed.getD k false=true)->DC ops listed->vs.length<=oL F ops listed->(fC ops=true->vs.length=oL F ops listed)->
   (∀j oj,ops[j]? =some oj->j≠i->listed.getD j true=false->(∀e∈oj.after,Region.binds .any e=true->e.on≠i)->oi.apart ops oj=true)->
   i∈Region.ready .any ops listed->(∃w,C vs w)->
   Qz F C m ops i (kp F C m ops Q fuel (listed.setIfInBounds i true)) a vs->kp F C m ops Q (fuel+1) listed a vs:=by
 intro fuel
 induction fuel with
 |zero=>
  intro listed a vs _ _ _ _ _ hr hw H;refine ⟨λh=>(by rw [h] at hr;cases hr),λj hj=> ?_⟩
  by_cases hji:j=i
  ·subst hji;exact H
  ·obtain ⟨a',vs',h⟩:=Ln F hw H
   have:=ready_mono hj hji;rw [h.1] at this;cases this
 |succ fuel ih=>
  intro listed a vs hlow hd hlen heq hfree hr hw H;refine ⟨λh=>(by rw [h] at hr;cases hr),λj hj=> ?_⟩
  by_cases hji:j=i
  ·subst hji;exact H
  obtain ⟨hjun,oj,hoj,hall⟩:=mem_ready.1 hj;have hiu:=(gZ (mem_ready.1 hr).1).1;have hju:=(gZ hjun).1;have hij:i<j:=by
   rcases Nat.lt_or_ge j i with h|h
   ·rw [hlow j h] at hju;cases hju
   ·omega
  have hsz:j<ops.size:=(Array.getElem?_eq_some_iff.1 hoj).1;have hnot:∀e∈oj.after,Region.binds .any e=true->e.on≠i:=λe he hb heq=>by have:=hall e he hb;rw [heq,hiu] at this;cases this
  obtain ⟨ap1,ap2,ap3⟩:=Oper.apart_spec (hfree j oj hoj hji hjun hnot);have hrj:=ready_mono hj hji;have hri:=ready_mono hr (Ne.symm hji);have hlow':∀k,k<i->(listed.setIfInBounds j true).getD k false=true:=λk hk=>getD_set_true (hlow k hk);have hd':=hd.set hj;have hfree':∀k ok,ops[k]? =some ok->k≠i->(listed.setIfInBounds j true).getD k true=false->
    (∀e∈ok.after,Region.binds .any e=true->e.on≠i)->oi.apart ops ok=true:=λk ok hk hki hun hno=>by
   refine hfree k ok hk hki ?_ hno
   by_cases hjk:j=k
   ·subst hjk;exact hjun
   ·rw [getD_set_ne true hjk] at hun;exact hun
  have hlen':vs.length<=oL F ops (listed.setIfInBounds j true):=Nat.le_trans hlen (uc F);have heqn:∀{l:Array Bool},fQ F oj=false->(fC ops=true->vs.length=oL F ops l)->fC ops=true->vs.length=oL F ops (l.setIfInBounds j true):=λh0 hq hg=>by rw [Gj F (gP F hoj h0)];exact hq hg
  have heqm:∀u,fQ F oj=true->fC ops=true->(vs++ [u]).length=oL F ops (listed.setIfInBounds j true):=λu h0 hg=>by rw [r9 F (dR F hoj h0) hjun,List.length_append,List.length_singleton,heq hg]
  have heqw:Region.wanted oj (yielded ops a.tmps)≠true->fC ops=true->vs.length=oL F ops (listed.setIfInBounds j true):=λh0 hg=>absurd (mK hg hoj _) h0;have hcomm:(listed.setIfInBounds i true).setIfInBounds j true=(listed.setIfInBounds j true).setIfInBounds i true:=Array.setIfInBounds_comm _ _ (Ne.symm hji);have ej:∀u,execOp (a.put oi.dst u).eval oj=execOp a.eval oj:=λu=>execOp_put oj (λcs b=>hsel j oj cs b hoj) a oi.dst u ap1;have ei:∀u,execOp (a.put oj.dst u).eval oi=execOp a.eval oi:=λu=>execOp_put oi (λcs b=>hsel i oi cs b hi) a oj.dst u ap3;have wj:∀u,Region.wanted oj (yielded ops (a.put oi.dst u).tmps)=Region.wanted oj (yielded ops a.tmps):=λu=>wanted_put oj a oi.dst u ap1;have wi:∀u,Region.wanted oi (yielded ops (a.put oj.dst u).tmps)=Region.wanted oi (yielded ops a.tmps):=λu=>wanted_put oi a oj.dst u ap3
  have pc:∀v u,(a.put oi.dst v).put oj.dst u=(a.put oj.dst u).put oi.dst v:=λv u=>Act.put_comm a v u ap2;rw [jy F hi] at H;rw [jy F hoj];have caseS:∀v,(∀vs',(bC F oi=true\/era m vs'=era m vs)->∀u,∀K:Act->List Value->Prop,K ((a.put oj.dst u).put oi.dst v) vs'->Qz F C m ops i K (a.put oj.dst u) vs')->
    kp F C m ops Q (fuel+1) (listed.setIfInBounds i true) (a.put oi.dst v) vs->(if Region.wanted oj (yielded ops a.tmps)=true then CE F C m oj (kp F C m ops Q (fuel+1) (listed.setIfInBounds j true)) a vs else kp F C m ops Q (fuel+1) (listed.setIfInBounds j true) (a.put oj.dst undef) vs):=by
   intro v again HK;have h1:=HK.2 j hrj;rw [jy F hoj,wj] at h1;split
   ·rename_i hwn
    rw [if_pos hwn] at h1;rcases h1 with ⟨hnm,u,hu,hK⟩|⟨hmv,hmo,hK⟩
    ·refine .inl ⟨hnm,u,λvs' w' he hw'=> ?_,ih _ _ _ hlow' hd' hlen' (heqn hnm heq) hfree' hri hw (again vs (.inr rfl) u _ ?_)⟩
     ·have:=hu vs' w' he hw'
      rwa [ej] at this
     ·rw [<-pc,<-hcomm];exact hK
    ·have hjm:=dR F hoj hmv
     have hera:∀u,bC F oi=true\/era m (vs++ [u])=era m vs:=λu=>by
      by_cases hp:bC F oi=true
      ·exact .inl hp
      ·exact .inr (B6 (CJ F hm hd hlen heq hij hsz hiu hr hj (.inr ⟨rfl,rfl⟩) hjm hi (Bool.eq_false_iff.2 hp)))
     refine .inr ⟨hmv,λw' hw'=> ?_,λu hu=>ih _ _ _ hlow' hd' ?_ (heqm u hmv) hfree' hri hu (again _ (hera u) u _ ?_)⟩
     ·have:=hmo w' hw'
      rwa [ej] at this
     ·rw [r9 F hjm hjun,List.length_append,List.length_singleton];omega
     ·rw [<-pc,<-hcomm];exact hK u hu
   ·rename_i hwn
    rw [if_neg hwn] at h1;refine ih _ _ _ hlow' hd' hlen' (heqw hwn) hfree' hri hw (again vs (.inr rfl) undef _ ?_);rw [<-pc,<-hcomm];exact h1
  by_cases hwi:Region.wanted oi (yielded ops a.tmps)=true
  ·rw [if_pos hwi] at H
   rcases H with ⟨hni,v,hv,HK⟩|⟨hmv,hmo,HK⟩
   ·refine caseS v (λvs' he u K hK=> ?_) HK
    rw [jy F hi,wi,if_pos hwi];refine .inl ⟨hni,v,λvs'' w' he' hw'=> ?_,hK⟩;have:=hv vs'' w' (he'.elim .inl λh=>he.elim .inl λg=> .inr (h.trans g)) hw'
    rwa [ei]
   ·have him:=dR F hi hmv
    have hera:∀u,bC F oj=true\/era m (vs++ [u])=era m vs:=λu=>by
     by_cases hp:bC F oj=true
     ·exact .inl hp
     ·exact .inr (B6 (CJ F hm hd hlen heq hij hsz hiu hr hj (.inl ⟨rfl,rfl⟩) him hoj (Bool.eq_false_iff.2 hp)))
    have hnj:fQ F oj≠true:=λh=>vq F hm hd hij hiu hj him (dR F hoj h);have each:∀v,(∃w,C (vs++ [v]) w)->Qz F C m ops j (kp F C m ops Q fuel ((listed.setIfInBounds i true).setIfInBounds j true)) (a.put oi.dst v) (vs++ [v]):=λv hv=>(HK v hv).2 j hrj;split
    ·rename_i hwn
     obtain ⟨w,hw'⟩:=hw;obtain ⟨v0,w0,hv0⟩:=ic (hmo w hw');have h0:=each v0 ⟨w0,hv0⟩;rw [jy F hoj,wj,if_pos hwn] at h0;rcases h0 with ⟨hnm,u,hu,_⟩|⟨h,_⟩
     ·have hst:HA F C m oj a vs u:=λvs' w' he hw'=>by
       have:=hu vs' w' (he.elim .inl λh=>(hera v0).elim .inl λg=> .inr (h.trans g.symm)) hw'
       rwa [ej] at this
      refine .inl ⟨hnm,u,hst,ih _ _ _ hlow' hd' hlen' (heqn hnm heq) hfree' hri ⟨w,hw'⟩ ?_⟩;rw [jy F hi,wi,if_pos hwi];refine .inr ⟨hmv,λw' hw'=> ?_,λv hv=> ?_⟩
      ·rw [ei];exact hmo w' hw'
      ·have h1:=each v hv
       rw [jy F hoj,wj,if_pos hwn] at h1;rcases h1 with ⟨_,u',hu',hK⟩|⟨h,_⟩
       ·obtain ⟨w1,hw1⟩:=hv
        have e1:=hu' (vs++ [v]) w1 (.inr rfl) hw1;rw [ej] at e1;have e2:=hst (vs++ [v]) w1 (hera v) hw1;have:=kU F e1 e2;subst this;rw [<-pc,<-hcomm];exact hK
       ·exact absurd h hnj
     ·exact absurd h hnj
    ·rename_i hwn
     refine ih _ _ _ hlow' hd' hlen' (heqw hwn) hfree' hri hw ?_;rw [jy F hi,wi,if_pos hwi];refine .inr ⟨hmv,λw' hw'=> ?_,λv hv=> ?_⟩
     ·rw [ei];exact hmo w' hw'
     ·have h1:=each v hv
      rw [jy F hoj,wj,if_neg hwn] at h1;rw [<-pc,<-hcomm];exact h1
  ·rw [if_neg hwi] at H
   refine caseS undef (λvs' he u K hK=> ?_) H;rw [jy F hi,wi,if_neg hwi];exact hK
theorem wk {ops:Array Oper} {Q:Act->List Value->Prop} (hm:pC F ops=some m) (hs:Region.noSelect ops=true):∀(l:List Oper) (k:Nat) (listed:Array Bool) (a:Act) (vs:List Value),(∀j,l[j]? =ops[k+j]?)->
  Region.lexFrom .any ops l.length k listed=true->(∀i,i<k->listed.getD i false=true)->DC ops listed->vs.length<=oL F ops listed->(fC ops=true->vs.length=oL F ops listed)->(∃w,C vs w)->
  jJ F C m ops Q l a vs->kp F C m ops Q l.length listed a vs
 | [],_,_,_,_,_,hB,_,_,_,_,_,h=>⟨by simpa [Region.lexFrom] using hB,h⟩
 |o::l,k,listed,a,vs,hl,hB,hlow,hd,hlen,heq,hw,h=>by
  have h0:ops[k]? =some o:=by simpa using (hl 0).symm
  simp only [List.length_cons,Region.lexFrom,Bool.and_eq_true] at hB;obtain ⟨⟨hr,hf⟩,hB'⟩:=hB;have hr:k∈Region.ready .any ops listed:=by simpa using hr
  have hun:=(mem_ready.1 hr).1;have hl':∀j,l[j]? =ops[k+1+j]?:=λj=>by have:=hl (j+1);simpa [Nat.add_assoc,Nat.add_comm 1 j] using this
  have hlow':∀i,i<k+1->(listed.setIfInBounds k true).getD i false=true:=λi hi=>by
   by_cases e:i=k
   ·subst e;simp [(gZ hun).2]
   ·exact getD_set_true (hlow i (by omega))
  have go:∀a' vs',vs'.length<=oL F ops (listed.setIfInBounds k true)->(fC ops=true->vs'.length=oL F ops (listed.setIfInBounds k true))->(∃w,C vs' w)->jJ F C m ops Q l a' vs'->kp F C m ops Q l.length (listed.setIfInBounds k true) a' vs':=λa' vs' hc hq hw' hh=>
   wk hm hs l (k+1) _ _ _ hl' hB' hlow' (hd.set hr) hc hq hw' hh
  refine A4 F hm h0 (Region.noSelect_spec hs) l.length listed a vs hlow hd hlen heq (Region.free_spec h0 hf) hr hw ?_;rw [jy F h0];simp only [jJ] at h;split
  ·rename_i hwn
   rw [if_pos hwn] at h;rcases h with ⟨hn0,v,h1,h2⟩|⟨h1,h2,h3⟩
   ·exact .inl ⟨hn0,v,h1,go _ _ (Nat.le_trans hlen (uc F)) (λhg=>by rw [Gj F (gP F h0 hn0)];exact heq hg) hw h2⟩
   ·refine .inr ⟨h1,h2,λv hv=>go _ _ ?_ (λhg=> ?_) hv (h3 v hv)⟩
    ·rw [r9 F (dR F h0 h1) hun,List.length_append,List.length_singleton];omega
    ·rw [r9 F (dR F h0 h1) hun,List.length_append,List.length_singleton,heq hg]
  ·rename_i hwn
   rw [if_neg hwn] at h;exact go _ _ (Nat.le_trans hlen (uc F)) (λhg=>absurd (mK hg h0 _) hwn) hw h
theorem mY {ops:Array Oper} {id:Nat} {Q:Exit->Act->World->Prop} {a:Act} {w:World} (hmx:P.follows .mixedOrders=true) (hB:Region.lexB .any ops=true) (hm:pC F ops=some m) (hC:C [] {w with drawn:=w.drawn+1})
  (h:jJ F C m ops (λa' vs=>∀w',C vs w'->Q .normal a' w') ops.toList a []):(Code.region id ops true).wp P Q a w:=by
 simp only [Region.lexB,Bool.and_eq_true] at hB;refine wp_region_any hmx (im F (m:=m) (Q:=λa' vs=>∀w',C vs w'->Q .normal a' w') (λ_ vs w' hw' h=>h w' hw') _ _ _ [] _ hC ?_);have:=wk F (C:=C) hm hB.1 ops.toList 0 (Array.replicate ops.size false) a [] (by simp) (by simpa using hB.2) (by intro i hi;omega) (by
  intro j o _ hj;rcases Nat.lt_or_ge j ops.size with h'|h'
  ·simp [h'] at hj
  ·simp [Array.getElem?_eq_none,h'] at hj) (Nat.zero_le _) (λ_=>by
   have e:(bh F ops).filter (λk=>(Array.replicate ops.size false).getD k false)= []:=List.filter_eq_nil_iff.2 λk _=>by rw [Array.getD_eq_getD_getElem?,Array.getElem?_replicate];split<;>simp
   unfold oL;rw [e];rfl) ⟨_,hC⟩ h
 simpa using this
end
abbrev Fm:=Nat->Option Value
def Fm.set (ρ:Fm) (k:Nat) (v:Value):Fm:=λj=>if j=k then some v else ρ j
def Fm.none:Fm:=λ_=> .none
def Fm.at (l:List Nat) (ρ ρ':Fm):Prop:=∀k∈l,ρ' k=ρ k
def Fm.le (ρ ρ':Fm):Prop:=∀k v,ρ k=some v->ρ' k=some v
theorem Fm.iH (ρ:Fm) (k:Nat) (v:Value):ρ.set k v k=some v:=if_pos rfl
theorem Fm.fu (ρ:Fm) {k j:Nat} (v:Value) (h:j≠k):ρ.set k v j=ρ j:=if_neg h
theorem Fm.comm (ρ:Fm) {i j:Nat} (u v:Value) (h:i≠j):(ρ.set i u).set j v=(ρ.set j v).set i u:=by
 funext k;simp only [Fm.set]
 by_cases h1:k=j
 ·subst h1;simp [Ne.symm h]
 ·simp [h1]
theorem Fm.D5 {l:List Nat} {ρ ρ':Fm} {k:Nat} (v:Value) (h:k∉l):Fm.at l (ρ.set k v) ρ'↔Fm.at l ρ ρ':=by
 constructor
 ·intro g j hj;rw [g j hj];exact Fm.fu (j:=j) (k:=k) ρ v (λe=>h (e▸hj))
 ·intro g j hj;rw [g j hj];exact (Fm.fu (j:=j) (k:=k) ρ v (λe=>h (e▸hj))).symm
theorem Fm.ng (l:List Nat) (ρ:Fm):Fm.at l ρ ρ:=λ_ _=>rfl
theorem Fm.Bm {l:List Nat} {a b c:Fm} (h:Fm.at l a b) (g:Fm.at l b c):Fm.at l a c:=λk hk=>(g k hk).trans (h k hk)
structure R4 where
 ap:Fm->World->Prop
 q:Nat->List Value->Value:=λ_ _=>undef
instance:CoeFun R4 (λ_=>Fm->World->Prop):=⟨R4.ap⟩
section
variable {P:Program} (F:PF P)
def ki (ops:Array Oper) (i:Nat):List Nat:=(bh F ops).filter λj=>(wl ops j ops.size).contains i
def rf (ops:Array Oper):Bool:=(List.range ops.size).all λi=>((ops[i]?).map λo=>bC F o||o.guard.isNone).getD true
def ov (ops:Array Oper):Nat->List Oper->List (Nat×List Nat)
 |_,[]=> []
 |i,o::r=>if bC F o then ov ops (i+1) r else (i,ki F ops i)::ov ops (i+1) r
def Cl (ops:Array Oper) (ρ:Fm):Prop:=∀k,ρ k≠ .none->∀j∈ki F ops k,ρ j≠ .none
variable (C:R4)
def JO (eo:EO) (args:List Value) (pre:List Nat) (ρ:Fm) (v:Value):Prop:=eo.info P->∀ρ' w,Fm.at pre ρ ρ'->C ρ' w->stillUpon F C.q (C ρ') w v ((eo.lY args).run P w)
def JK (P:Program) (C:R4) (eo:EO) (args:List Value) (i:Nat) (pre:List Nat) (ps:List (Nat×List Nat)) (ρ:Fm):Prop:=eo.info P->∀ρ' w,Fm.at pre ρ ρ'->ρ' i= .none->(∀q∈ps,i∈q.2->ρ' q.1= .none)->C ρ' w->jz P (λv w'=>C (ρ'.set i v) w') ((eo.lY args).run P w)
def RT.oK (env:List Value) (K:List Value->Option Value->Fm->Prop):RT->List Value->List (Nat×List Nat)->Fm->Prop
 | .done sets c,bvs,_,ρ=>K (cK F env bvs sets env) (c.map (SE.val F env bvs)) ρ
 | .chk g p xs k,bvs,ps,ρ=>(bD F env bvs g->p.ok F (di.dA F env bvs xs))/\k.oK env K bvs ps ρ
 | .isb g c k,bvs,ps,ρ=>(bD F env bvs g->∃b,SE.val F env bvs c= .bool b)/\k.oK env K bvs ps ρ
 | .eff eo xs k,bvs,p::ps,ρ=>(Fj F eo=false/\∃v,JO F C eo (di.dA F env bvs xs) p.2 ρ v/\k.oK env K (bvs++ [v]) ps ρ)\/
   (Fj F eo=true/\JK P C eo (di.dA F env bvs xs) p.1 p.2 ps ρ/\∀v,(∃ρ' w,Fm.le (ρ.set p.1 v) ρ'/\C ρ' w)->k.oK env K (bvs++ [v]) ps (ρ.set p.1 v))
 | .eff _ _ _,_,[],_=>False
 | .jK e k,bvs,ps,ρ=>k.oK env K (bvs++ [SE.val F env bvs e]) ps ρ
 | .ite c v a b,bvs,ps,ρ=>if oa (SE.val F env bvs c) v=true then a.oK env K bvs ps ρ else b.oK env K bvs ps ρ
def Hz (o:Oper) (a:Act) (pre:List Nat) (ρ:Fm) (v:Value):Prop:=∀ρ' w,(bC F o=true\/Fm.at pre ρ ρ')->C ρ' w->stillUpon F C.q (C ρ') w v ((execOp a.eval o).run P w)
def Hb (ops:Array Oper) (o:Oper) (a:Act) (i:Nat) (pre:List Nat) (ρ:Fm):Prop:=∀ρ' w,Fm.at pre ρ ρ'->ρ' i= .none->Cl F ops ρ'->C ρ' w->jz P (λv w'=>C (ρ'.set i v) w') ((execOp a.eval o).run P w)
def B8 (ops:Array Oper) (o:Oper) (i:Nat) (pre:List Nat) (K:Act->Fm->Prop) (a:Act) (ρ:Fm):Prop:=
 (fQ F o=false/\∃v,Hz F C o a pre ρ v/\K (a.put o.dst v) ρ)\/(fQ F o=true/\Hb F C ops o a i pre ρ/\∀v,(∃ρ' w,Fm.le (ρ.set i v) ρ'/\Cl F ops ρ'/\C ρ' w)->K (a.put o.dst v) (ρ.set i v))
def jI (ops:Array Oper) (Q:Act->Fm->Prop):Nat->List Oper->Act->Fm->Prop
 |_,[],a,ρ=>Q a ρ
 |i,o::rest,a,ρ=>if Region.wanted o (yielded ops a.tmps) then B8 F C ops o i (ki F ops i) (jI ops Q (i+1) rest) a ρ else jI ops Q (i+1) rest (a.put o.dst undef) ρ
def MV (ops:Array Oper) (i:Nat) (K:Act->Fm->Prop) (a:Act) (ρ:Fm):Prop:=
 match ops[i]? with
 |none=>K a ρ
 |some o=>if Region.wanted o (yielded ops a.tmps) then B8 F C ops o i (ki F ops i) K a ρ else K (a.put o.dst undef) ρ
def gU (ops:Array Oper) (Q:Act->Fm->Prop):Nat->Array Bool->Act->Fm->Prop
 |0,listed,a,ρ=>Region.ready .any ops listed= []/\Q a ρ
 |fuel+1,listed,a,ρ=>(Region.ready .any ops listed= []->Q a ρ)/\∀i∈Region.ready .any ops listed,MV F C ops i (gU ops Q fuel (listed.setIfInBounds i true)) a ρ
def Dn (ops:Array Oper) (listed:Array Bool) (ρ:Fm):Prop:=∀k∈bh F ops,(ρ k).isSome=listed.getD k false
variable {C}
theorem uF {ops:Array Oper} (hf:rf F ops=true) {i:Nat} {o:Oper} (ho:ops[i]? =some o) (hp:bC F o=false) (y:Nat->Option Bool):Region.wanted o y=true:=by have hi:i<ops.size:=(Array.getElem?_eq_some_iff.1 ho).1;have:=List.all_eq_true.1 hf i (List.mem_range.2 hi);rw [ho] at this;simp only [Option.map_some,Option.getD_some,hp,Bool.false_or,Option.isNone_iff_eq_none] at this;unfold Region.wanted;rw [this]
theorem Dn.put {ops:Array Oper} {listed:Array Bool} {ρ:Fm} (hd:Dn F ops listed ρ) {i:Nat} (hi:i<listed.size) (v:Value):Dn F ops (listed.setIfInBounds i true) (ρ.set i v):=by
 intro k hk
 by_cases e:k=i
 ·subst e;rw [Fm.iH];simp [hi]
 ·rw [Fm.fu ρ v e,getD_set_ne false (Ne.symm e)];exact hd k hk
theorem Dn.ZP {ops:Array Oper} {listed:Array Bool} {ρ:Fm} (hd:Dn F ops listed ρ) {i:Nat} (hi:i∉bh F ops):Dn F ops (listed.setIfInBounds i true) ρ:=by intro k hk;have e:k≠i:=λe=>hi (e▸hk);rw [getD_set_ne false (Ne.symm e)];exact hd k hk
theorem Dn.free {ops:Array Oper} {listed:Array Bool} {ρ:Fm} (hd:Dn F ops listed ρ) {i:Nat} (hi:i∈bh F ops) (hu:listed.getD i false=false):ρ i= .none:=by
 have:=hd i hi;rw [hu] at this;cases h:ρ i with
 |none=>rfl
 |some v=>rw [h] at this;cases this
theorem Cl.put {ops:Array Oper} {ρ:Fm} (h:Cl F ops ρ) {i:Nat} (hi:∀j∈ki F ops i,ρ j≠ .none) (v:Value):Cl F ops (ρ.set i v):=by
 intro k hk j hj
 by_cases e:j=i
 ·subst e;rw [Fm.iH];simp
 ·rw [Fm.fu ρ v e]
  by_cases e':k=i
  ·subst e';exact hi j hj
  ·rw [Fm.fu ρ v e'] at hk;exact h k hk j hj
theorem C4 {ops:Array Oper} {listed:Array Bool} {ρ:Fm} (hd:DC ops listed) (hn:Dn F ops listed ρ) {i:Nat} (hr:i∈Region.ready .any ops listed):∀k∈ki F ops i,(ρ k).isSome=true:=by intro k hk;simp only [ki,List.mem_filter,List.contains_iff_mem] at hk;rw [hn k hk.1];exact gy hd hr _ hk.2
theorem FA {ops:Array Oper} {listed:Array Bool} {ρ ρ':Fm} (hd:DC ops listed) (hn:Dn F ops listed ρ) {i:Nat} (hr:i∈Region.ready .any ops listed) (hle:Fm.le ρ ρ'):Fm.at (ki F ops i) ρ ρ':=by intro k hk;obtain ⟨v,hv⟩:=Option.isSome_iff_exists.1 (C4 F hd hn hr k hk);rw [hv];exact hle k v hv
theorem AF {ops:Array Oper} {listed:Array Bool} {ρ ρ':Fm} (hd:DC ops listed) (hn:Dn F ops listed ρ) {i:Nat} (hr:i∈Region.ready .any ops listed) (hle:Fm.le ρ ρ'):∀j∈ki F ops i,ρ' j≠ .none:=by intro j hj;obtain ⟨v,hv⟩:=Option.isSome_iff_exists.1 (C4 F hd hn hr j hj);rw [hle j v hv];simp
theorem Hd {ops:Array Oper} {listed:Array Bool} (hd:DC ops listed) {i j:Nat} (hr:i∈Region.ready .any ops listed) (hu:listed.getD j false=false):j∉ki F ops i:=by intro h;simp only [ki,List.mem_filter,List.contains_iff_mem] at h;have:=gy hd hr _ h.2;rw [hu] at this;cases this
theorem gl {ops:Array Oper} {i:Nat} {o:Oper} (ho:ops[i]? =some o) {K:Act->Fm->Prop} {a:Act} {ρ:Fm}:
  MV F C ops i K a ρ=if Region.wanted o (yielded ops a.tmps) then B8 F C ops o i (ki F ops i) K a ρ else K (a.put o.dst undef) ρ:=by
 unfold MV;rw [ho]
theorem DP {ops:Array Oper} {o:Oper} {i:Nat} {pre:List Nat} {a:Act} {ρ:Fm} {K:Act->Fm->Prop} {K':Act->World->Prop} {Q':Exit->Act->World->Prop} {w:World} (hw:C ρ w) (hcl:Cl F ops ρ) (hcs:∀v,fQ F o=true->Cl F ops (ρ.set i v)) (hu:fQ F o=true->ρ i= .none)
  (h1:∀a w',fQ F o=false->C ρ w'->K a ρ->K' a w') (h2:∀a v w',fQ F o=true->C (ρ.set i v) w'->K a (ρ.set i v)->K' a w') (hh:B8 F C ops o i pre K a ρ):o.wp P a w K' Q':=by
 unfold Oper.wp;rcases hh with ⟨hm,v,g1,g2⟩|⟨hm,g1,g2⟩
 ·have h3:=g1 ρ w (.inr (Fm.ng _ _)) hw
  generalize (execOp a.eval o).run P w=r at h3;cases r with
  |ok n w1=>
   cases n with
   |value u=>obtain ⟨rfl,rfl⟩:=h3;exact h1 _ _ hm hw g2
   |skip=>obtain ⟨rfl,rfl⟩:=h3;exact h1 _ _ hm hw g2
   |enter f args=>
    obtain ⟨rfl,h3⟩:=h3;rcases h3 with ⟨hf,hok,rfl⟩|⟨_,_,h3⟩
    ·have:=F.sound f hf args.toList w1 hok
     rw [Array.toArray_toList] at this;refine Calls.mono this λe w'' ⟨he,hww⟩=> ?_;subst he;subst hww;exact h1 _ _ hm hw g2
    ·refine Calls.mono h3 λe w'' ⟨he,hD⟩=> ?_
     subst he;exact h1 _ _ hm hD g2
   |_=>exact h3.elim
  |halt x w1=>exact h3.elim
 ·have h3:=g1 ρ w (Fm.ng _ _) (hu hm) hcl hw
  have fin:∀u w',C (ρ.set i u) w'->K' (a.put o.dst u) w':=λu w' hc=>h2 _ u _ hm hc (g2 u ⟨_,w',λ_ _ e=>e,hcs u hm,hc⟩);generalize (execOp a.eval o).run P w=r at h3;cases r with
  |ok n w1=>
   cases n with
   |value u=>exact fin _ _ h3
   |skip=>exact fin _ _ h3
   |enter f args=>
    refine Calls.mono h3 λe w'' ⟨v,he,hr⟩=> ?_;subst he;exact fin _ _ hr
   |_=>exact h3.elim
  |halt x w1=>exact h3.elim
theorem il {ops:Array Oper} (hfr:rf F ops=true) {Q:Act->Fm->Prop} {Q':Exit->Act->World->Prop} (hQ:∀a ρ w,C ρ w->Q a ρ->Q' .normal a w):∀(fuel:Nat) (listed:Array Bool) (a:Act) (ρ:Fm) (w:World),DC ops listed->Cl F ops ρ->Dn F ops listed ρ->C ρ w->
  gU F C ops Q fuel listed a ρ->wpAny P .any ops Q' fuel listed a w
 |0,_,_,_,_,_,_,_,hw,h=>⟨h.1,hQ _ _ _ hw h.2⟩
 |fuel+1,listed,a,ρ,w,hd,hcl,hn,hw,h=>by
  have hle0:Fm.le ρ ρ:=λ_ _ e=>e;refine ⟨λh0=>hQ _ _ _ hw (h.1 h0),λi hi=> ?_⟩;have hun:=gZ (mem_ready.1 hi).1;obtain ⟨_,oi,hoi,_⟩:=mem_ready.1 hi;have hh:=h.2 i hi;rw [gl F hoi] at hh;unfold wpOp;rw [hoi];simp only;split
  ·rename_i hwn
   rw [if_pos hwn] at hh;refine .inl (DP F hw hcl (λv _=>hcl.put F (AF F hd hn hi hle0) v) (λhm=>hn.free F (dR F hoi hm) hun.1) ?_ ?_ hh)
   ·intro a' w' hm hc hk
    exact il hfr hQ fuel _ _ _ _ (hd.set hi) hcl (hn.ZP F (gP F hoi hm)) hc hk
   ·intro a' v w' hm hc hk
    exact il hfr hQ fuel _ _ _ _ (hd.set hi) (hcl.put F (AF F hd hn hi hle0) v) (hn.put F hun.2 v) hc hk
  ·rename_i hwn
   rw [if_neg hwn] at hh;have hp:bC F oi=true:=by
    cases hp:bC F oi with
    |true=>rfl
    |false=>exact absurd (uF F hfr hoi hp _) hwn
   have hm:fQ F oi=false:=by simp [fQ,hp]
   exact il hfr hQ fuel _ _ _ _ (hd.set hi) hcl (hn.ZP F (gP F hoi hm)) hw hh
theorem KO {ops:Array Oper} {listed:Array Bool} (hd:DC ops listed) {i:Nat} (hr:i∈Region.ready .any ops listed) {K:Act->Fm->Prop} {a:Act} {ρ:Fm} (hn:Dn F ops listed ρ) (hw:∃ρ' w,Fm.le ρ ρ'/\Cl F ops ρ'/\C ρ' w) (h:MV F C ops i K a ρ):∃a' ρ',K a' ρ':=by
 unfold MV at h;split at h
 ·exact ⟨_,_,h⟩
 ·split at h
  ·rcases h with ⟨_,v,_,h⟩|⟨hm,h1,h⟩
   ·exact ⟨_,_,h⟩
   ·rename_i o ho _
    obtain ⟨ρ',w,hle,hcl,hw⟩:=hw;cases hi:ρ' i with
    |some v=>
     refine ⟨_,_,h v ⟨ρ',w,λk u hk=> ?_,hcl,hw⟩⟩
     by_cases e:k=i
     ·subst e;rw [Fm.iH] at hk;cases hk;exact hi
     ·rw [Fm.fu ρ v e] at hk;exact hle k u hk
    |none=>
     obtain ⟨v,w',hv⟩:=ic (h1 ρ' w (FA F hd hn hr hle) hi hcl hw);refine ⟨_,_,h v ⟨_,w',λk u hk=> ?_,hcl.put F (AF F hd hn hr hle) v,hv⟩⟩
     by_cases e:k=i
     ·subst e;rw [Fm.iH] at hk⊢;exact hk
     ·rw [Fm.fu ρ v e] at hk;rw [Fm.fu ρ' v e];exact hle k u hk
  ·exact ⟨_,_,h⟩
theorem A3 {ops:Array Oper} {Q:Act->Fm->Prop} (hfr:rf F ops=true) {i:Nat} {oi:Oper} (hi:ops[i]? =some oi) (hsel:∀(j:Nat) (o:Oper) cs b,ops[j]? =some o->o.op≠ .select cs b):
  ∀(fuel:Nat) (listed:Array Bool) (a:Act) (ρ:Fm),(∀k,k<i->listed.getD k false=true)->DC ops listed->Dn F ops listed ρ->
   (∀j oj,ops[j]? =some oj->j≠i->listed.getD j true=false->(∀e∈oj.after,Region.binds .any e=true->e.on≠i)->oi.apart ops oj=true)->
   i∈Region.ready .any ops listed->(∃ρ' w,Fm.le ρ ρ'/\Cl F ops ρ'/\C ρ' w)->
   MV F C ops i (gU F C ops Q fuel (listed.setIfInBounds i true)) a ρ->gU F C ops Q (fuel+1) listed a ρ:=by
 intro fuel
 induction fuel with
 |zero=>
  intro listed a ρ _ hd hn _ hr hw H;refine ⟨λh=>(by rw [h] at hr;cases hr),λj hj=> ?_⟩
  by_cases hji:j=i
  ·subst hji;exact H
  ·obtain ⟨a',vs',h⟩:=KO F hd hr hn hw H
   have:=ready_mono hj hji;rw [h.1] at this;cases this
 |succ fuel ih=>
  intro listed a ρ hlow hd hn hfree hr hw H;refine ⟨λh=>(by rw [h] at hr;cases hr),λj hj=> ?_⟩
  by_cases hji:j=i
  ·subst hji;exact H
  obtain ⟨hjun,oj,hoj,hall⟩:=mem_ready.1 hj;have hiu:=gZ (mem_ready.1 hr).1;have hju:=gZ hjun;have hij:i<j:=by
   rcases Nat.lt_or_ge j i with h|h
   ·have:=hlow j h;rw [hju.1] at this;cases this
   ·omega
  have hnot:∀e∈oj.after,Region.binds .any e=true->e.on≠i:=λe he hb heq=>by have:=hall e he hb;rw [heq,hiu.1] at this;cases this
  obtain ⟨ap1,ap2,ap3⟩:=Oper.apart_spec (hfree j oj hoj hji hjun hnot);have hrj:=ready_mono hj hji;have hri:=ready_mono hr (Ne.symm hji);have hlow':∀k,k<i->(listed.setIfInBounds j true).getD k false=true:=λk hk=>getD_set_true (hlow k hk);have hd':=hd.set hj;have hfree':∀k ok,ops[k]? =some ok->k≠i->(listed.setIfInBounds j true).getD k true=false->
    (∀e∈ok.after,Region.binds .any e=true->e.on≠i)->oi.apart ops ok=true:=λk ok hk hki hun hno=>by
   refine hfree k ok hk hki ?_ hno
   by_cases hjk:j=k
   ·subst hjk;exact hjun
   ·rw [getD_set_ne true hjk] at hun;exact hun
  have hcomm:(listed.setIfInBounds i true).setIfInBounds j true=(listed.setIfInBounds j true).setIfInBounds i true:=Array.setIfInBounds_comm _ _ (Ne.symm hji);have ej:∀u,execOp (a.put oi.dst u).eval oj=execOp a.eval oj:=λu=>execOp_put oj (λcs b=>hsel j oj cs b hoj) a oi.dst u ap1;have ei:∀u,execOp (a.put oj.dst u).eval oi=execOp a.eval oi:=λu=>execOp_put oi (λcs b=>hsel i oi cs b hi) a oj.dst u ap3;have wj:∀u,Region.wanted oj (yielded ops (a.put oi.dst u).tmps)=Region.wanted oj (yielded ops a.tmps):=λu=>wanted_put oj a oi.dst u ap1;have wi:∀u,Region.wanted oi (yielded ops (a.put oj.dst u).tmps)=Region.wanted oi (yielded ops a.tmps):=λu=>wanted_put oi a oj.dst u ap3;have pc:∀v u,(a.put oi.dst v).put oj.dst u=(a.put oj.dst u).put oi.dst v:=λv u=>Act.put_comm a v u ap2;have npi:j∉ki F ops i:=Hd F hd hr hju.1;have npj:i∉ki F ops j:=Hd F hd hj hiu.1;rw [gl F hi] at H
  rw [gl F hoj];have after:∀u,fQ F oj=true->(∃ρ' w,Fm.le (ρ.set j u) ρ'/\Cl F ops ρ'/\C ρ' w)->MV F C ops i (gU F C ops Q fuel ((listed.setIfInBounds j true).setIfInBounds i true)) (a.put oj.dst u) (ρ.set j u)->gU F C ops Q (fuel+1) (listed.setIfInBounds j true) (a.put oj.dst u) (ρ.set j u):=λu _ hu h=>
   ih _ _ _ hlow' hd' (hn.put F hju.2 u) hfree' hri hu h
  have after0:∀u,fQ F oj=false->MV F C ops i (gU F C ops Q fuel ((listed.setIfInBounds j true).setIfInBounds i true)) (a.put oj.dst u) ρ->gU F C ops Q (fuel+1) (listed.setIfInBounds j true) (a.put oj.dst u) ρ:=λu hm h=>
   ih _ _ _ hlow' hd' (hn.ZP F (gP F hoj hm)) hfree' hri hw h
  have unw:¬Region.wanted oj (yielded ops a.tmps)=true->fQ F oj=false:=λh=>by
   cases hp:bC F oj with
   |true=>simp [fQ,hp]
   |false=>exact absurd (uF F hfr hoj hp _) h
  have caseS:∀v,(∀ρ',Fm.at (ki F ops i) ρ ρ'->∀u,∀K:Act->Fm->Prop,K ((a.put oj.dst u).put oi.dst v) ρ'->MV F C ops i K (a.put oj.dst u) ρ')->
    gU F C ops Q (fuel+1) (listed.setIfInBounds i true) (a.put oi.dst v) ρ->(if Region.wanted oj (yielded ops a.tmps)=true then B8 F C ops oj j (ki F ops j) (gU F C ops Q (fuel+1) (listed.setIfInBounds j true)) a ρ else gU F C ops Q (fuel+1) (listed.setIfInBounds j true) (a.put oj.dst undef) ρ):=by
   intro v again HK;have h1:=HK.2 j hrj;rw [gl F hoj,wj] at h1;split
   ·rename_i hwn
    rw [if_pos hwn] at h1;rcases h1 with ⟨hnm,u,hu,hK⟩|⟨hmv,hmo,hK⟩
    ·refine .inl ⟨hnm,u,λρ' w' he hw'=> ?_,after0 u hnm (again ρ (Fm.ng _ _) u _ ?_)⟩
     ·have:=hu ρ' w' he hw'
      rwa [ej] at this
     ·rw [<-pc,<-hcomm];exact hK
    ·refine .inr ⟨hmv,λρ' w' h2 h3 h4 hw'=> ?_,λu hu=>after u hmv hu (again _ ?_ u _ ?_)⟩
     ·have:=hmo ρ' w' h2 h3 h4 hw'
      rwa [ej] at this
     ·intro k hk
      exact Fm.fu ρ u (λe=>npi (e▸hk))
     ·rw [<-pc,<-hcomm];exact hK u hu
   ·rename_i hwn
    rw [if_neg hwn] at h1;refine after0 undef (unw hwn) (again ρ (Fm.ng _ _) undef _ ?_);rw [<-pc,<-hcomm];exact h1
  by_cases hwi:Region.wanted oi (yielded ops a.tmps)=true
  ·rw [if_pos hwi] at H
   rcases H with ⟨hni,v,hv,HK⟩|⟨hmv,hmo,HK⟩
   ·refine caseS v (λρ' he u K hK=> ?_) HK
    rw [gl F hi,wi,if_pos hwi];refine .inl ⟨hni,v,λρ'' w' he' hw'=> ?_,hK⟩;have:=hv ρ'' w' (he'.elim .inl λh=> .inr (Fm.Bm he h)) hw'
    rwa [ei]
   ·have each:∀v,(∃ρ' w,Fm.le (ρ.set i v) ρ'/\Cl F ops ρ'/\C ρ' w)->MV F C ops j (gU F C ops Q fuel ((listed.setIfInBounds i true).setIfInBounds j true)) (a.put oi.dst v) (ρ.set i v):=λv hv=>(HK v hv).2 j hrj
    obtain ⟨ρ1,w1,hle1,hcl1,hw1⟩:=hw;have hex:∃v,∃ρ' w,Fm.le (ρ.set i v) ρ'/\Cl F ops ρ'/\C ρ' w:=by
     cases hi1:ρ1 i with
     |some v=>
      refine ⟨v,ρ1,w1,λk u hk=> ?_,hcl1,hw1⟩
      by_cases e:k=i
      ·subst e;rw [Fm.iH] at hk;cases hk;exact hi1
      ·rw [Fm.fu ρ v e] at hk;exact hle1 k u hk
     |none=>
      obtain ⟨v,w',hv⟩:=ic (hmo ρ1 w1 (FA F hd hn hr hle1) hi1 hcl1 hw1);refine ⟨v,_,w',λk u hk=> ?_,hcl1.put F (AF F hd hn hr hle1) v,hv⟩
      by_cases e:k=i
      ·subst e;rw [Fm.iH] at hk⊢;exact hk
      ·rw [Fm.fu ρ v e] at hk;rw [Fm.fu ρ1 v e];exact hle1 k u hk
    have imo:∀u ρ0,Fm.at (ki F ops i) ρ ρ0->Hb F C ops oi (a.put oj.dst u) i (ki F ops i) ρ0:=λu ρ0 h0 ρ' w' h1 h2 h3 h4=>by rw [ei];exact hmo ρ' w' (Fm.Bm h0 h1) h2 h3 h4
    split
    ·rename_i hwn
     obtain ⟨v0,hv0⟩:=hex;have h0:=each v0 hv0;rw [gl F hoj,wj,if_pos hwn] at h0;rcases h0 with ⟨hnm,u,hu,_⟩|⟨hjm,hjmo,_⟩
     ·have hst:Hz F C oj a (ki F ops j) ρ u:=λρ' w' he hw'=>by
       have:=hu ρ' w' (he.elim .inl λh=> .inr ((Fm.D5 v0 npj).2 h)) hw'
       rwa [ej] at this
      refine .inl ⟨hnm,u,hst,after0 u hnm ?_⟩;rw [gl F hi,wi,if_pos hwi];refine .inr ⟨hmv,imo u ρ (Fm.ng _ _),λv hv=> ?_⟩;have h1:=each v hv;rw [gl F hoj,wj,if_pos hwn] at h1;rcases h1 with ⟨_,u',hu',hK⟩|⟨h,_⟩
      ·have hpa:=FA F hd hn hj hle1
       have e1:=hu' ρ1 w1 (.inr ((Fm.D5 v npj).2 hpa)) hw1;rw [ej] at e1;have e2:=hst ρ1 w1 (.inr hpa) hw1;have:=kU F e1 e2;subst this;rw [<-pc,<-hcomm];exact hK
      ·rw [hnm] at h;cases h
     ·refine .inr ⟨hjm,λρ' w' h2 h3 h4 hw'=> ?_,λu hu=>after u hjm hu ?_⟩
      ·have:=hjmo ρ' w' ((Fm.D5 v0 npj).2 h2) h3 h4 hw'
       rwa [ej] at this
      ·rw [gl F hi,wi,if_pos hwi]
       refine .inr ⟨hmv,imo u _ ((λk hk=>Fm.fu ρ u (λe=>npi (e▸hk))):Fm.at (ki F ops i) ρ (ρ.set j u)),λv hv=> ?_⟩;obtain ⟨ρ2,w2,hle2,hcl2,hw2⟩:=hv;have a1:Fm.le (ρ.set i v) ρ2:=λk x hk=>by
        by_cases e:k=i
        ·subst e;rw [Fm.iH] at hk;cases hk;exact hle2 _ _ (Fm.iH _ _ _)
        ·rw [Fm.fu ρ v e] at hk
         refine hle2 k x ?_;rw [Fm.fu _ v e]
         by_cases e':k=j
         ·subst e'
          have:=hn.free F (dR F hoj hjm) hju.1;rw [this] at hk;cases hk
         ·rw [Fm.fu ρ u e'];exact hk
       have h1:=each v ⟨ρ2,w2,a1,hcl2,hw2⟩;rw [gl F hoj,wj,if_pos hwn] at h1;rcases h1 with ⟨h,_⟩|⟨_,_,hK⟩
       ·rw [hjm] at h;cases h
       ·have hcm:=Fm.comm ρ (i:=i) (j:=j) v u (Ne.symm hji)
        have:=hK u ⟨ρ2,w2,by rw [hcm];exact hle2,hcl2,hw2⟩;rw [hcm] at this;rw [<-pc,<-hcomm];exact this
    ·rename_i hwn
     refine after0 undef (unw hwn) ?_;rw [gl F hi,wi,if_pos hwi];refine .inr ⟨hmv,imo undef ρ (Fm.ng _ _),λv hv=> ?_⟩;have h1:=each v hv;rw [gl F hoj,wj,if_neg hwn] at h1;rw [<-pc,<-hcomm];exact h1
  ·rw [if_neg hwi] at H
   refine caseS undef (λρ' he u K hK=> ?_) H;rw [gl F hi,wi,if_neg hwi];exact hK
theorem lN {ops:Array Oper} {Q:Act->Fm->Prop} (hfr:rf F ops=true) (hs:Region.noSelect ops=true):∀(l:List Oper) (k:Nat) (listed:Array Bool) (a:Act) (ρ:Fm),(∀j,l[j]? =ops[k+j]?)->
  Region.lexFrom .any ops l.length k listed=true->(∀i,i<k->listed.getD i false=true)->DC ops listed->Dn F ops listed ρ->(∃ρ' w,Fm.le ρ ρ'/\Cl F ops ρ'/\C ρ' w)->
  jI F C ops Q k l a ρ->gU F C ops Q l.length listed a ρ
 | [],_,_,_,_,_,hB,_,_,_,_,h=>⟨by simpa [Region.lexFrom] using hB,h⟩
 |o::l,k,listed,a,ρ,hl,hB,hlow,hd,hn,hw,h=>by
  have h0:ops[k]? =some o:=by simpa using (hl 0).symm
  simp only [List.length_cons,Region.lexFrom,Bool.and_eq_true] at hB;obtain ⟨⟨hr,hf⟩,hB'⟩:=hB;have hr:k∈Region.ready .any ops listed:=by simpa using hr
  have hun:=gZ (mem_ready.1 hr).1;have hl':∀j,l[j]? =ops[k+1+j]?:=λj=>by have:=hl (j+1);simpa [Nat.add_assoc,Nat.add_comm 1 j] using this
  have hlow':∀i,i<k+1->(listed.setIfInBounds k true).getD i false=true:=λi hi=>by
   by_cases e:i=k
   ·subst e;simp [hun.2]
   ·exact getD_set_true (hlow i (by omega))
  refine A3 F hfr h0 (Region.noSelect_spec hs) l.length listed a ρ hlow hd hn (Region.free_spec h0 hf) hr hw ?_;rw [gl F h0];simp only [jI] at h;split
  ·rename_i hwn
   rw [if_pos hwn] at h;rcases h with ⟨hn0,v,h1,h2⟩|⟨h1,h2,h3⟩
   ·exact .inl ⟨hn0,v,h1,lN hfr hs l (k+1) _ _ _ hl' hB' hlow' (hd.set hr) (hn.ZP F (gP F h0 hn0)) hw h2⟩
   ·exact .inr ⟨h1,h2,λv hv=>lN hfr hs l (k+1) _ _ _ hl' hB' hlow' (hd.set hr) (hn.put F hun.2 v) hv (h3 v hv)⟩
  ·rename_i hwn
   rw [if_neg hwn] at h;have hp:bC F o=true:=by
    cases hp:bC F o with
    |true=>rfl
    |false=>exact absurd (uF F hfr h0 hp _) hwn
   exact lN hfr hs l (k+1) _ _ _ hl' hB' hlow' (hd.set hr) (hn.ZP F (gP F h0 (by simp [fQ,hp]))) hw h
theorem mX {ops:Array Oper} {id:Nat} {Q:Exit->Act->World->Prop} {a:Act} {w:World} (hmx:P.follows .mixedOrders=true) (hB:Region.lexB .any ops=true) (hfr:rf F ops=true) (hC:C Fm.none {w with drawn:=w.drawn+1})
  (h:jI F C ops (λa' ρ=>∀w',C ρ w'->Q .normal a' w') 0 ops.toList a Fm.none):(Code.region id ops true).wp P Q a w:=by
 simp only [Region.lexB,Bool.and_eq_true] at hB;have hn:Dn F ops (Array.replicate ops.size false) Fm.none:=λk hk=>by rw [Array.getD_eq_getD_getElem?,Array.getElem?_replicate];split<;>rfl
 have hd0:DC ops (Array.replicate ops.size false):=by
  intro j o _ hj;rcases Nat.lt_or_ge j ops.size with h'|h'
  ·simp [h'] at hj
  ·simp [Array.getElem?_eq_none,h'] at hj
 have hc0:Cl F ops Fm.none:=λk hk=>absurd rfl hk;refine wp_region_any hmx (il F hfr (Q:=λa' ρ=>∀w',C ρ w'->Q .normal a' w') (λ_ ρ w' hw' h=>h w' hw') _ _ _ Fm.none _ hd0 hc0 hn hC ?_);have:=lN F (C:=C) hfr hB.1 ops.toList 0 (Array.replicate ops.size false) a Fm.none (by simp) (by simpa using hB.2) (by intro i hi;omega) hd0 hn ⟨_,_,λ_ _ e=>e,hc0,hC⟩ h
 simpa using this
inductive MO where
 |none
 |some (n:Nat)
 |free (ps:List (Nat×List Nat))
def vn (ops:Array Oper):MO:=match pC F ops with
 | .some n=> .some n
 | .none=>if rf F ops then .free (ov F ops 0 ops.toList) else .none
theorem xR {ops:Array Oper} {n:Nat} (h:vn F ops= .some n):pC F ops=Option.some n:=by
 unfold vn at h;split at h
 ·rename_i m e;cases h;exact e
 ·split at h<;>cases h
theorem xQ {ops:Array Oper} {ps:List (Nat×List Nat)} (h:vn F ops= .free ps):rf F ops=true/\ps=ov F ops 0 ops.toList:=by
 unfold vn at h;split at h
 ·cases h
 ·split at h
  ·rename_i e;cases h;exact ⟨e,rfl⟩
  ·cases h
end
section
variable {P:Program} (F:PF P)
structure Inv (L:List Nat) (N:Nat) (D:List Deferred) (env bvs:List Value) (σ:tF) (kn:fS) (nb:Nat) (a:Act):Prop where
 size:a.tmps.size=N
 sto:∀t e,σ.lookup t=some e->a.tmps.getD t undef=SE.val F env bvs e
 rel:∀t,σ.lookup t=none->∀i,L[i]? =some t->a.tmps.getD t undef=env.getD i undef
 kn:Holds F env bvs kn
 nb:bvs.length=nb
 dom:∀t e,σ.lookup t=some e->t<N
 dfr:a.defers=D
variable {F} {L:List Nat} {N:Nat} {D:List Deferred} {env bvs:List Value} {σ:tF} {kn:fS} {nb:Nat} {a:Act}
theorem lu {l:List Nat} {t i:Nat} (h:l.idxOf? t=some i):l[i]? =some t:=by
 have:=List.findIdx?_eq_some_iff_getElem.1 (by simpa [List.idxOf?] using h);obtain ⟨h1,h2,_⟩:=this;rw [List.getElem?_eq_getElem h1]
 simpa using h2
theorem Inv.look (I:Inv F L N D env bvs σ kn nb a) {t:Nat} {e:SE} (h:look L σ t=some e):a.tmps.getD t undef=SE.val F env bvs e:=by
 unfold HL.look at h;split at h
 ·rename_i e' he;cases h;exact I.sto t _ he
 ·rename_i he
  simp only [Option.map_eq_some_iff] at h;obtain ⟨i,hi,rfl⟩:=h;exact I.rel t he i (lu hi)
theorem Inv.pK (I:Inv F L N D env bvs σ kn nb a) {x:Operand} {e:SE} (h:pK L σ x=some e):a.eval x=SE.val F env bvs e:=by
 cases x<;>simp only [HL.pK] at h
 ·exact I.look h
 all_goals (cases h;rfl)
theorem Inv.kR (I:Inv F L N D env bvs σ kn nb a):∀{xs:List Operand} {es:di},kR L σ xs=some es->xs.map a.eval=di.dA F env bvs es
 | [],es,h=>by cases h;rfl
 |x::r,es,h=>by
  simp only [HL.kR] at h;split at h
  ·rename_i e es' h1 h2
   cases h;simp only [List.map_cons,di.dA,I.pK h1,I.kR h2]
  ·cases h
theorem uH (xs:Array Value) (d t:Nat) (v:Value) (h:d<xs.size):(xs.setIfInBounds d v).getD t undef=if d=t then v else xs.getD t undef:=by
 simp only [Array.getD_eq_getD_getElem?,Array.getElem?_setIfInBounds];split
 ·rename_i h1;subst h1;simp [h]
 ·rfl
theorem Inv.put (I:Inv F L N D env bvs σ kn nb a) {o:Oper} {e:SE} {σ':tF} (h:AG N o σ e=some σ'):Inv F L N D env bvs σ' kn nb (a.put o.dst (SE.val F env bvs e)):=by
 unfold AG at h;cases hd:o.dst with
 |none=>
  simp only [hd] at h;cases h
  simpa [Act.put] using I
 |some d=>
  simp only [hd] at h;split at h
  ·rename_i hlt
   cases h;have hs:d<a.tmps.size:=by rw [I.size];exact hlt
   refine ⟨by simp [Act.put,I.size],?_,?_,I.kn,I.nb,?_,I.dfr⟩
   ·intro t e' he
    simp only [Act.put,uH _ _ _ _ hs]
    by_cases hdt:d=t
    ·subst hdt
     simp at he;subst he;simp
    ·rw [List.lookup_cons] at he
     have:(t==d)=false:=by simpa using λh=>hdt h.symm
     simp only [this] at he;simp [hdt,I.sto t e' he]
   ·intro t he i hi
    simp only [Act.put,uH _ _ _ _ hs];rw [List.lookup_cons] at he
    by_cases hdt:d=t
    ·subst hdt;simp at he
    ·have:(t==d)=false:=by simpa using λh=>hdt h.symm
     simp only [this] at he;simp [hdt,I.rel t he i hi]
   ·intro t e' he
    rw [List.lookup_cons] at he
    by_cases hdt:d=t
    ·subst hdt;exact hlt
    ·have:(t==d)=false:=by simpa using λh=>hdt h.symm
     simp only [this] at he;exact I.dom t e' he
  ·cases h
theorem wX:∀{σ:tF} {n t:Nat} {e:SE},wW n σ=true->σ.lookup t=some e->SE.lt n e=true
 | [],_,_,_,_,h=>by cases h
 |(d,e')::r,n,t,e,h,hl=>by
  simp only [wW,Bool.and_eq_true] at h;rw [List.lookup_cons] at hl;cases hh:(t==d)<;>simp only [hh] at hl
  ·exact wX h.2 hl
  ·cases hl;exact h.1
theorem Cy:∀{kn:fS} {n:Nat},IP n kn=true->∀q∈kn,SE.lt n q.1=true
 | [],_,_,q,hq=>by cases hq
 |(e,b,p)::r,n,h,q,hq=>by
  simp only [IP,Bool.and_eq_true] at h;cases List.mem_cons.1 hq with
  |inl he=>subst he;exact h.1
  |inr hr=>exact Cy h.2 q hr
theorem Inv.ext (I:Inv F L N D env bvs σ kn nb a) (h1:wW nb σ=true) (h2:IP nb kn=true) (v:Value):Inv F L N D env (bvs++ [v]) σ kn (nb+1) a:=by
 obtain ⟨s,st,r,k,n,dm,df⟩:=I;subst n;refine ⟨s,λt e he=> ?_,r,λq hq=> ?_,by simp,dm,df⟩
 ·rw [SE.nO F env bvs v e (wX h1 he)];exact st t e he
 ·rw [SE.nO F env bvs v q.1 (Cy h2 q hq)];exact k q hq
theorem Inv.known (I:Inv F L N D env bvs σ kn nb a) {c:SE} {b p:Bool} (h:oa (SE.val F env bvs c) b=p):Inv F L N D env bvs σ ((c,b,p)::kn) nb a:=
 ⟨I.size,I.sto,I.rel,λq hq=>by
  cases List.mem_cons.1 hq with
  |inl he=>subst he;exact h
  |inr hr=>exact I.kn q hr,I.nb,I.dom,I.dfr⟩
theorem FY {o:Oper} {p:PO} {vs:List Value} {w:World} {next:Act->World->Prop} {Q:Exit->Act->World->Prop}
  (h:p.R7 P F vs (execOp a.eval o) w) (hok:p.ok F vs) (hn:next (a.put o.dst (p.val F vs)) w):o.wp P a w next Q:=by
 unfold Oper.wp;rcases h with h|⟨f,hf,rfl,h⟩
 ·rw [h];exact hn
 ·rw [h]
  simp only [PO.ok,PO.val] at hok hn;exact (F.sound f hf vs w hok).mono λe w' ⟨he,hw⟩=>by subst he;subst hw;exact hn
theorem FZ {o:Oper} {eo:EO} {vs:List Value} {w:World} {next:Act->World->Prop} {Q:Exit->Act->World->Prop}
  (hr:(execOp a.eval o).run P w=(eo.lY vs).run P w) (h:fT P (eo.lY vs) (λv w'=>next (a.put o.dst v) w') w):o.wp P a w next Q:=by
 unfold Oper.wp;rw [hr];unfold fT at h;generalize (eo.lY vs).run P w=r at h⊢
 cases r with
 |ok n w'=>
  cases n<;>simp only at h<;>(try (exfalso;exact h))
  ·exact h
  ·exact h
  ·exact h.mono λe w'' ⟨v,he,hk⟩=>by subst he;exact hk
 |halt x w'=>exact h.elim
theorem FW {all:List Oper} {o:Oper} {j gd:Nat} {want:Bool} (hg:o.guard=some (j,want)) (hd:(all[j]?).bind (·.dst)=some gd) (hs:gd<a.tmps.size):
  Region.wanted o (yielded all.toArray a.tmps)=oa (a.tmps.getD gd undef) want:=by
 have e:a.tmps[gd]? =some (a.tmps.getD gd undef):=by simp [hs]
 have hd':(all.toArray[j]?).bind (·.dst)=some gd:=by simpa using hd
 simp only [Region.wanted,hg,yielded,hd',Option.bind_some,e];generalize a.tmps.getD gd undef=v;cases v<;>simp [oa]
structure Sys (P:Program) (F:PF P) (env:List Value) (all:List Oper) (St:Type) where
 W:List Oper->Act->St->Prop
 T:RT->List Value->St->Prop
 chk:∀{g p xs k bvs w},T (.chk g p xs k) bvs w->(bD F env bvs g->p.ok F (di.dA F env bvs xs))/\T k bvs w
 isb:∀{g c k bvs w},T (.isb g c k) bvs w->(bD F env bvs g->∃b,SE.val F env bvs c= .bool b)/\T k bvs w
 jK:∀{e k bvs w},T (.jK e k) bvs w->T k (bvs++ [SE.val F env bvs e]) w
 ite:∀{c v a b bvs w},T (.ite c v a b) bvs w->if oa (SE.val F env bvs c) v=true then T a bvs w else T b bvs w
 eff:∀{eo xs k bvs w o rest a},T (.eff eo xs k) bvs w->Region.wanted o (yielded all.toArray a.tmps)=true->
  (∀w,(execOp a.eval o).run P w=(eo.lY (di.dA F env bvs xs)).run P w)->eo.info P->(∃ys,EO.of P o=some (eo,ys))->bC F o=false->
  (∀v w',T k (bvs++ [v]) w'->W rest (a.put o.dst v) w')->W (o::rest) a w
 runs:∀{p vs w o rest a},bC F o=true->Region.wanted o (yielded all.toArray a.tmps)=true->(∀w,PO.R7 P F p vs (execOp a.eval o) w)->p.ok F vs->
  W rest (a.put o.dst (p.val F vs)) w->W (o::rest) a w
 value:∀{v w o rest a},bC F o=true->Region.wanted o (yielded all.toArray a.tmps)=true->(∀w,(execOp a.eval o).run P w= .ok (.value v) w)->
  W rest (a.put o.dst v) w->W (o::rest) a w
 skip:∀{w o rest a},Region.wanted o (yielded all.toArray a.tmps)=false->W rest (a.put o.dst undef) w->W (o::rest) a w
theorem rj {env:List Value} {all:List Oper} {St:Type} (S:Sys P F env all St) {o:Oper} {rest:List Oper} {g:Option (SE×Bool)} {k:tF->Option RT} {rt:RT} {w:St}
  (I:Inv F L N D env bvs σ kn nb a) (h:pQ F L N σ kn o g k=some rt) (hw:S.T rt bvs w)
  (hgd:match g with|none=>Region.wanted o (yielded all.toArray a.tmps)=true|some (c,b)=>Region.wanted o (yielded all.toArray a.tmps)=oa (SE.val F env bvs c) b)
  (hk:∀σ' rt' a',k σ'=some rt'->Inv F L N D env bvs σ' kn nb a'->S.T rt' bvs w->S.W rest a' w):
  S.W (o::rest) a w:=by
 unfold pQ at h;have fin:∀e:SE,∀σ',AG N o σ (ER kn g e)=some σ'->
   Inv F L N D env bvs σ' kn nb (a.put o.dst (if (Region.wanted o (yielded all.toArray a.tmps))=true then SE.val F env bvs e else undef)):=by
  intro e σ' hp;cases g with
  |none=>
   simp only [ER] at hp hgd;rw [if_pos hgd];exact I.put hp
  |some q=>
   obtain ⟨c,b⟩:=q;simp only [ER] at hp hgd;have:=I.put hp;rw [IZ F env bvs I.kn] at this;rw [hgd]
   simpa [SE.val] using this
 have gon:bD F env bvs g↔Region.wanted o (yielded all.toArray a.tmps)=true:=by
  cases g with
  |none=>simp only at hgd;simp [bD,hgd]
  |some q=>obtain ⟨c,b⟩:=q;simp only at hgd;simp [bD,hgd]
 have st1:∀e:SE,bD F env bvs g->SE.val F env bvs (AU g e)=SE.val F env bvs e:=by
  intro e hg;cases g with
  |none=>rfl
  |some q=>exact nL F env bvs q.1 q.2 true e hg
 have Q3:∀es:di,bD F env bvs g->di.dA F env bvs (Dr g es)=di.dA F env bvs es:=by
  intro es hg;cases g with
  |none=>rfl
  |some q=>exact vT F env bvs q.1 q.2 hg es
 have step:∀(e:SE) (σ':tF) (rt':RT),AG N o σ (ER kn g e)=some σ'->k σ'=some rt'->S.T rt' bvs w->
   (Region.wanted o (yielded all.toArray a.tmps)=true->S.W rest (a.put o.dst (SE.val F env bvs e)) w->S.W (o::rest) a w)->S.W (o::rest) a w:=by
  intro e σ' rt' hp hkk hwp hop;have hi:=fin e σ' hp
  by_cases hwn:Region.wanted o (yielded all.toArray a.tmps)=true
  ·rw [if_pos hwn] at hi
   exact hop hwn (hk σ' rt' _ hkk hi hwp)
  ·rw [if_neg hwn] at hi
   exact S.skip (by simpa using hwn) (hk σ' rt' _ hkk hi hwp)
 split at h
 ·rename_i x hop
  simp only [Option.bind_eq_bind,Option.bind_eq_some_iff] at h;obtain ⟨e,he,σ',hp,h⟩:=h;refine step e σ' rt hp h hw λhon hn=>S.value (by simp [bC,hop]) hon (λw=> ?_) hn;have:(execOp a.eval o).run P w= .ok (.value (a.eval x)) w:=by simp [execOp,hop]
  rw [this,I.pK he]
 ·rename_i x hop
  simp only [Option.bind_eq_bind,Option.bind_eq_some_iff] at h;obtain ⟨e,he,σ',hp,h⟩:=h;refine step e σ' rt hp h hw λhon hn=>S.value (by simp [bC,hop]) hon (λw=> ?_) hn;have:(execOp a.eval o).run P w= .ok (.value (a.eval x)) w:=by simp [execOp,hop]
  rw [this,I.pK he]
 ·rename_i c x y hop
  simp only [Option.bind_eq_bind,Option.bind_eq_some_iff] at h;obtain ⟨ce,hc,xe,hx,ye,hy,σ',hp,t,ht,h⟩:=h;cases h;obtain ⟨hb,hw⟩:=S.isb hw;refine step _ σ' t hp ht hw λhon hn=> ?_;obtain ⟨b,hb⟩:=hb (gon.2 hon);rw [Fh F env bvs I.kn _ _ _ b hb,st1 xe (gon.2 hon),st1 ye (gon.2 hon)] at hn;have e1:=I.pK hc;rw [<-st1 ce (gon.2 hon),hb] at e1;refine S.value (by simp [bC,hop]) hon (λw=> ?_) hn;have:(execOp a.eval o).run P w= .ok (.value (if b then a.eval x else a.eval y)) w:=by simp [execOp,hop,e1,asBool]
  rw [this,I.pK hx,I.pK hy]
 ·simp only [Option.bind_eq_bind,Option.bind_eq_some_iff] at h
  obtain ⟨⟨p,xs⟩,hpo,es,hes,σ',hp,t,ht,h⟩:=h;cases h;obtain ⟨hok,hw⟩:=S.chk hw;refine step _ σ' t hp ht hw λhon hn=> ?_;have hok:=hok (gon.2 hon);rw [Q3 es (gon.2 hon),<-I.kR hes] at hok;refine S.runs (by simp [bC,hpo]) hon (λw=>PO.sound F hpo a hok w) hok ?_;simp only [SE.val] at hn;rw [Q3 es (gon.2 hon),<-I.kR hes] at hn;exact hn
theorem aU {env:List Value} {all:List Oper} {St:Type} (S:Sys P F env all St) {leaf:tF->Option RT}
  (hleaf:∀σ rt kn nb bvs a w,leaf σ=some rt->Inv F L N D env bvs σ kn nb a->S.T rt bvs w->S.W [] a w):
  ∀(fuel:Nat) (rest:List Oper) (σ:tF) (kn:fS) (nb:Nat) (rt:RT) (bvs:List Value) (a:Act) (w:St),
   ff F L N all leaf fuel rest σ kn nb=some rt->Inv F L N D env bvs σ kn nb a->S.T rt bvs w->S.W rest a w
 |0,_,_,_,_,_,_,_,_,h,_,_=>by simp [ff] at h
 |fuel+1,[],σ,kn,nb,rt,bvs,a,w,h,I,hw=>by simp only [ff] at h;exact hleaf σ rt kn nb bvs a w h I hw
 |fuel+1,o::rest,σ,kn,nb,rt,bvs,a,w,h,I,hw=>by
  have run:∀rt',Hu F L N σ kn nb o (λσ' nb'=>ff F L N all leaf fuel rest σ' kn nb')=some rt'->S.T rt' bvs w->Region.wanted o (yielded all.toArray a.tmps)=true->S.W (o::rest) a w:=by
   intro rt' h hw hwn;unfold Hu at h;split at h
   ·exact rj S I h hw hwn λσ' rt' a' hr hI hwp=>aU S hleaf fuel rest σ' kn nb rt' bvs a' w hr hI hwp
   ·rename_i hnp
    simp only [Option.bind_eq_bind,Option.bind_eq_some_iff] at h;obtain ⟨⟨eo,xs⟩,heo,es,hes,h⟩:=h;split at h
    ·rename_i hlt
     simp only [Bool.and_eq_true] at hlt;simp only [Option.bind_eq_bind,Option.bind_eq_some_iff] at h;obtain ⟨σ',hp,t,ht,h⟩:=h;cases h;have hes':=I.kR hes;refine S.eff hw hwn (λw=>by rw [<-hes'];exact EO.sound heo a w) (EO.N0 heo) ⟨_,heo⟩ (by simpa using hnp) λv w' hwp=> ?_;refine aU S hleaf fuel rest σ' kn (nb+1) t (bvs++ [v]) _ w' ht ?_ hwp;have hI:=(I.ext hlt.1 hlt.2 v).put hp;have e:SE.val F env (bvs++ [v]) (.bv nb)=v:=by simp [SE.val,<-I.nb]
     rw [e] at hI;exact hI
    ·cases h
  unfold ff at h;split at h
  ·rename_i hg
   exact run rt h hw (by simp [Region.wanted,hg])
  ·rename_i j want hg
   simp only [Option.bind_eq_bind,Option.bind_eq_some_iff] at h;obtain ⟨gd,hgd,g0,hg0,h⟩:=h;have hwn:=FW (a:=a) hg (by simpa [Option.bind_eq_some_iff] using hgd) (by rw [I.size];exact I.dom gd g0 hg0);rw [I.sto gd g0 hg0,<-AJ F env bvs I.kn] at hwn;have hrv:=I.sto gd g0 hg0;rw [<-AJ F env bvs I.kn] at hrv;generalize res kn g0=g at h hwn hrv;have hkind:∀k,qy kn g want (bC F o)=k->match k with
     | .yes=>Region.wanted o (yielded all.toArray a.tmps)=true
     | .no=>Region.wanted o (yielded all.toArray a.tmps)=false
     | .sym e=>Region.wanted o (yielded all.toArray a.tmps)=oa (SE.val F env bvs e) want/\bC F o=true
     | .split c w=>True
     | .name=>True:=by
    intro k hk;unfold qy at hk;split at hk
    ·rename_i v hv
     rw [jX F env bvs false (by simp) I.kn hv] at hwn;split at hk
     ·rename_i e;subst hk;rw [hwn];exact e
     ·rename_i e;subst hk;rw [hwn];simpa using e
    ·split at hk
     ·rename_i hp
      split at hk<;>subst hk
      ·exact ⟨hwn,hp⟩
      ·trivial
     ·split at hk<;>split at hk<;>subst hk<;>trivial
   have hkind:=hkind _ rfl;split at h<;>rename_i hgk<;>rw [hgk] at hkind<;>simp only at hkind
   ·exact run rt h hw hkind
   ·simp only [Option.bind_eq_some_iff] at h
    obtain ⟨σ',hp,h⟩:=h;refine S.skip hkind ?_;exact aU S hleaf fuel rest σ' kn nb rt bvs _ w h (I.put hp) hw
   ·exact rj S (g:=some (_,want)) I h hw hkind.1 λσ' rt' a' hr hI hwp=>aU S hleaf fuel rest σ' kn nb rt' bvs a' w hr hI hwp
   ·split at h
    ·rename_i hlt
     simp only [Bool.and_eq_true,decide_eq_true_eq] at hlt;simp only [Option.bind_eq_some_iff] at h;obtain ⟨t,ht,h⟩:=h;cases h;refine aU S hleaf fuel (o::rest) _ kn (nb+1) t _ a w ht ?_ (S.jK hw);have hI:=I.ext hlt.1.1 hlt.1.2 (SE.val F env bvs g);have e:SE.val F env (bvs++ [SE.val F env bvs g]) (.bv nb)=SE.val F env bvs g:=by simp [SE.val,<-I.nb]
     refine ⟨hI.size,?_,?_,hI.kn,hI.nb,?_,hI.dfr⟩
     ·intro t e' he
      rw [List.lookup_cons] at he
      by_cases hdt:t=gd
      ·subst hdt
       simp at he;subst he;rw [e];exact hrv
      ·have:(t==gd)=false:=by simpa using hdt
       simp only [this] at he;exact hI.sto t e' he
     ·intro t he
      rw [List.lookup_cons] at he
      by_cases hdt:t=gd
      ·subst hdt;simp at he
      ·have:(t==gd)=false:=by simpa using hdt
       simp only [this] at he;exact hI.rel t he
     ·intro t e' he
      rw [List.lookup_cons] at he
      by_cases hdt:t=gd
      ·subst hdt;exact hlt.2
      ·have:(t==gd)=false:=by simpa using hdt
       simp only [this] at he;exact hI.dom t e' he
    ·cases h
   ·simp only [Option.bind_eq_some_iff] at h
    obtain ⟨ta,hta,tb,htb,h⟩:=h;cases h;have hw:=S.ite hw;split at hw
    ·rename_i hc
     exact aU S hleaf fuel (o::rest) σ _ nb ta bvs a w hta (I.known hc) hw
    ·rename_i hc
     exact aU S hleaf fuel (o::rest) σ _ nb tb bvs a w htb (I.known (by simpa using hc)) hw
def pT (env:List Value) (K:List Value->Option Value->World->Prop) (Q:Exit->Act->World->Prop) (all:List Oper):Sys P F env all World where
 W:=wpList P all.toArray Q
 T:=λt bvs w=>t.wp F env K bvs w
 chk:=λh=>h
 isb:=λh=>h
 jK:=λh=>h
 ite:=λh=>h
 eff:=by
  intro eo xs k bvs w o rest a h hwn hr hi heo hnp go;unfold wpList;rw [if_pos hwn];left;have hw:=h hi;refine FZ (hr w) ?_;unfold fT at hw⊢;generalize (eo.lY (di.dA F env bvs xs)).run P w=r at hw⊢;cases r with
  |ok n w'=>
   cases n<;>simp only at hw⊢<;>(try (exfalso;exact hw))
   ·exact go _ _ hw
   ·exact go _ _ hw
   ·exact hw.mono λe w'' ⟨v,he,hk⟩=>⟨v,he,go _ _ hk⟩
  |halt x w'=>exact hw.elim
 runs:=by intro p vs w o rest a _ hwn hr hok h;unfold wpList;rw [if_pos hwn];exact .inl (FY (hr w) hok h)
 value:=by intro v w o rest a _ hwn hr h;unfold wpList;rw [if_pos hwn];left;unfold Oper.wp;rw [hr w];exact h
 skip:=by intro w o rest a hwn h;unfold wpList;rw [if_neg (by rw [hwn];simp)];exact h
def mU (C:World->Prop) (env:List Value) (K:List Value->Option Value->Prop) (Q:Act->Prop) (all:List Oper):Sys P F env all World where
 W:=λl a _=>wpQuiet P all.toArray C Q l a
 T:=λt bvs _=>t.mZ F C env K bvs
 chk:=λh=>h
 isb:=λh=>h
 jK:=λh=>h
 ite:=λh=>h
 eff:=by intro eo xs k bvs w o rest a h hwn hr hi heo hnp go;unfold wpQuiet;rw [if_pos hwn];obtain ⟨v,hv,hk⟩:=h;refine ⟨v,λw' hC=> ?_,go v w hk⟩;unfold Oper.quietAt;rw [hr w'];exact hv w' hC hi
 runs:=by
  intro p vs w o rest a _ hwn hr hok h;unfold wpQuiet;rw [if_pos hwn];refine ⟨_,λw' hC=> ?_,h⟩;unfold Oper.quietAt;rcases hr w' with h1|⟨f,hf,rfl,h1⟩
  ·rw [h1];exact ⟨rfl,rfl⟩
  ·rw [h1]
   simp only [PO.ok] at hok;exact ⟨rfl,(F.sound f hf vs w' hok).mono λe w'' ⟨he,hw⟩=>⟨he,by rw [hw];exact hC⟩⟩
 value:=by intro v w o rest a _ hwn hr h;unfold wpQuiet;rw [if_pos hwn];refine ⟨_,λw' hC=> ?_,h⟩;unfold Oper.quietAt;rw [hr w'];exact ⟨rfl,rfl⟩
 skip:=by intro w o rest a hwn h;unfold wpQuiet;rw [if_neg (by rw [hwn];simp)];exact h
def pU (C:WI) (m:Nat) (env:List Value) (K:List Value->Option Value->List Value->Prop) (Q:Act->List Value->Prop) (all:List Oper):Sys P F env all (List Value) where
 W:=λl a vs=>jJ F C m all.toArray Q l a vs
 T:=λt bvs vs=>t.nQ F C m env K bvs vs
 chk:=λh=>h
 isb:=λh=>h
 jK:=λh=>h
 ite:=λh=>h
 eff:=by
  intro eo xs k bvs vs o rest a h hwn hr hi heo hnp go;unfold jJ;rw [if_pos hwn];rcases h with ⟨hm,v,hv,hk⟩|⟨hm,hv,hk⟩
  ·refine .inl ⟨by obtain ⟨ys,hys⟩:=heo;simp [fQ,hys,hm],v,λvs' w' he hC=> ?_,go v vs hk⟩
   rw [hr w'];exact hv hi vs' w' (he.resolve_left (by rw [hnp];simp)) hC
  ·refine .inr ⟨?_,λw' hC=> ?_,λv hw=>go v _ (hk v hw)⟩
   ·obtain ⟨ys,hys⟩:=heo
    simp [fQ,hnp,hys,hm]
   ·rw [hr w']
    exact hv hi w' hC
 runs:=by
  intro p vs st o rest a hpu hwn hr hok h;unfold jJ;rw [if_pos hwn];refine .inl ⟨by simp [fQ,hpu],_,λvs' w' he hC=> ?_,h⟩;rcases hr w' with h1|⟨f,hf,rfl,h1⟩
  ·rw [h1];exact ⟨rfl,rfl⟩
  ·rw [h1]
   simp only [PO.ok] at hok;exact ⟨rfl,.inl ⟨hf,by simpa using hok,by simp [PO.val]⟩⟩
 value:=by intro v st o rest a hpu hwn hr h;unfold jJ;rw [if_pos hwn];refine .inl ⟨by simp [fQ,hpu],_,λvs' w' he hC=> ?_,h⟩;rw [hr w'];exact ⟨rfl,rfl⟩
 skip:=by intro st o rest a hwn h;unfold jJ;rw [if_neg (by rw [hwn];simp)];exact h
theorem uh (ops:Array Oper):∀(l:List Oper) (i:Nat),∀q∈ov F ops i l,q.2=ki F ops q.1
 | [],_,q,hq=>by cases hq
 |o::r,i,q,hq=>by
  unfold ov at hq;split at hq
  ·exact uh ops r _ q hq
  ·rcases List.mem_cons.1 hq with rfl|hq
   ·rfl
   ·exact uh ops r _ q hq
def pS (C:R4) (env:List Value) (K:List Value->Option Value->Fm->Prop) (Q:Act->Fm->Prop) (all:List Oper):Sys P F env all (List (Nat×List Nat)×Fm) where
 W:=λl a st=>l.length<=all.length->(∀o∈l,bC F o=false->o.guard=none)->st.1=ov F all.toArray (all.length -l.length) l->jI F C all.toArray Q (all.length -l.length) l a st.2
 T:=λt bvs st=>t.oK F C env K bvs st.1 st.2
 chk:=λh=>h
 isb:=λh=>h
 jK:=λh=>h
 ite:=λh=>h
 eff:=by
  intro eo xs k bvs st o rest a h hwn hr hi heo hnp go hl hg hps;obtain ⟨ps,ρ⟩:=st;have e1:all.length -rest.length=all.length -(o::rest).length+1:=by simp only [List.length_cons] at hl⊢;omega
  simp only [ov,hnp,Bool.false_eq_true,if_false] at hps;simp only at hps h⊢;subst hps;simp only [RT.oK] at h;unfold jI;rw [if_pos hwn];have go':∀v ρ',k.oK F C env K (bvs++ [v]) (ov F all.toArray (all.length -(o::rest).length+1) rest) ρ'->jI F C all.toArray Q (all.length -(o::rest).length+1) rest (a.put o.dst v) ρ':=λv ρ' hk=>by
   have:=go v (ov F all.toArray (all.length -(o::rest).length+1) rest,ρ') hk (by simp only [List.length_cons] at hl;omega) (λx hx=>hg x (List.mem_cons_of_mem _ hx)) (by rw [e1])
   rwa [e1] at this
  rcases h with ⟨hm,v,hv,hk⟩|⟨hm,hv,hk⟩
  ·refine .inl ⟨by obtain ⟨ys,hys⟩:=heo;simp [fQ,hys,hm],v,λρ' w' he hC=> ?_,go' v ρ hk⟩
   rw [hr w'];exact hv hi ρ' w' (he.resolve_left (by rw [hnp];simp)) hC
  ·refine .inr ⟨?_,λρ' w' h1 h2 h3 hC=> ?_,λv ⟨ρ',w',h1,_,h2⟩=>go' v _ (hk v ⟨ρ',w',h1,h2⟩)⟩
   ·obtain ⟨ys,hys⟩:=heo
    simp [fQ,hnp,hys,hm]
   ·rw [hr w']
    refine hv hi ρ' w' h1 h2 (λq hq hiq=> ?_) hC;rw [uh _ _ _ q hq] at hiq;cases hq1:ρ' q.1 with
    |none=>rfl
    |some u=>exact absurd h2 (h3 q.1 (by rw [hq1];simp) _ hiq)
 runs:=by
  intro p vs st o rest a hpu hwn hr hok h hl hg hps;obtain ⟨ps,ρ⟩:=st;have e1:all.length -rest.length=all.length -(o::rest).length+1:=by simp only [List.length_cons] at hl⊢;omega
  simp only [ov,hpu,if_true] at hps;unfold jI;rw [if_pos hwn];refine .inl ⟨by simp [fQ,hpu],p.val F vs,λρ' w' he hC=> ?_,?_⟩
  ·rcases hr w' with h1|⟨f,hf,rfl,h1⟩
   ·rw [h1];exact ⟨rfl,rfl⟩
   ·rw [h1]
    simp only [PO.ok] at hok;exact ⟨rfl,.inl ⟨hf,by simpa using hok,by simp [PO.val]⟩⟩
  ·have:=h (by simp only [List.length_cons] at hl;omega) (λx hx=>hg x (List.mem_cons_of_mem _ hx)) (by rw [e1];exact hps)
   rwa [e1] at this
 value:=by
  intro v st o rest a hpu hwn hr h hl hg hps;obtain ⟨ps,ρ⟩:=st;have e1:all.length -rest.length=all.length -(o::rest).length+1:=by simp only [List.length_cons] at hl⊢;omega
  simp only [ov,hpu,if_true] at hps;unfold jI;rw [if_pos hwn];refine .inl ⟨by simp [fQ,hpu],v,λρ' w' he hC=> ?_,?_⟩
  ·rw [hr w'];exact ⟨rfl,rfl⟩
  ·have:=h (by simp only [List.length_cons] at hl;omega) (λx hx=>hg x (List.mem_cons_of_mem _ hx)) (by rw [e1];exact hps)
   rwa [e1] at this
 skip:=by
  intro st o rest a hwn h hl hg hps;obtain ⟨ps,ρ⟩:=st;have e1:all.length -rest.length=all.length -(o::rest).length+1:=by simp only [List.length_cons] at hl⊢;omega
  have hpu:bC F o=true:=by
   cases hp:bC F o with
   |true=>rfl
   |false=>
    have:=hg o (List.mem_cons_self ..) hp;unfold Region.wanted at hwn;rw [this] at hwn;cases hwn
  simp only [ov,hpu,if_true] at hps;unfold jI;rw [if_neg (by rw [hwn];simp)];have:=h (by simp only [List.length_cons] at hl;omega) (λx hx=>hg x (List.mem_cons_of_mem _ hx)) (by rw [e1];exact hps)
  rwa [e1] at this
theorem uG {ops:Array Oper} (h:rf F ops=true):∀o∈ops.toList,bC F o=false->o.guard=none:=by
 intro o ho hp;obtain ⟨i,hi,e⟩:=List.mem_iff_getElem.1 ho;have hi':i<ops.size:=by simpa using hi
 have:=List.all_eq_true.1 h i (List.mem_range.2 hi');have e':ops[i]? =some o:=by rw [Array.getElem?_eq_getElem hi',<-e];simp
 rw [e'] at this
 simpa [hp] using this
end
theorem kf (l:List Value) (i j:Nat) (v:Value):(l.set i v).getD j undef=if i=j/\j<l.length then v else l.getD j undef:=by
 simp only [List.getD_eq_getElem?_getD,List.getElem?_set]
 by_cases h:i=j
 ·subst h
  by_cases h2:i<l.length
  ·simp [h2]
  ·simp [h2]
 ·simp [h]
section
variable {P:Program} (F:PF P)
theorem vN (env bvs:List Value):∀(sets:List (Nat×SE)) (acc:List Value),(cK F env bvs sets acc).length=acc.length
 | [],_=>rfl
 |(i,e)::r,acc=>by simp only [cK,vN env bvs r,List.length_set]
theorem oG (env bvs:List Value) (σ:tF):∀(L:List Nat) (k:Nat) (acc:List Value),k+L.length<=acc.length->(∀i,k<=i->acc.getD i undef=env.getD i undef)->
  (∀i t,L[i]? =some t->(cK F env bvs (dg σ k L) acc).getD (k+i) undef=match σ.lookup t with|some e=>SE.val F env bvs e|none=>env.getD (k+i) undef)/\
  (∀j,j<k->(cK F env bvs (dg σ k L) acc).getD j undef=acc.getD j undef)
 | [],k,acc,_,_=>⟨λi t h=>by simp at h,λj _=>rfl⟩
 |t::r,k,acc,hl,hacc=>by
  simp only [List.length_cons] at hl;have set:∀e:SE,(∀i t',(t::r)[i]? =some t'->(cK F env bvs ((k,e)::dg σ (k+1) r) acc).getD (k+i) undef=if i=0 then SE.val F env bvs e else match σ.lookup t' with|some e=>SE.val F env bvs e|none=>env.getD (k+i) undef)/\
    (∀j,j<k->(cK F env bvs ((k,e)::dg σ (k+1) r) acc).getD j undef=acc.getD j undef):=by
   intro e;simp only [cK];obtain ⟨h1,h2⟩:=oG env bvs σ r (k+1) (acc.set k (SE.val F env bvs e)) (by simp;omega) (λi hi=>by rw [kf,if_neg (by omega)];exact hacc i (by omega));refine ⟨λi t' hi=> ?_,λj hj=> ?_⟩
   ·cases i with
    |zero=>
     simp only [if_true,Nat.add_zero];rw [h2 k (by omega),kf,if_pos ⟨rfl,by omega⟩]
    |succ i=>
     have:=h1 i t' (by simpa using hi);rw [show k+(i+1)=k+1+i from by omega,this,if_neg (by omega)]
   ·rw [h2 j (by omega),kf,if_neg (by omega)]
  have skip:(∀i t',(t::r)[i]? =some t'->(cK F env bvs (dg σ (k+1) r) acc).getD (k+i) undef=if i=0 then env.getD k undef else match σ.lookup t' with|some e=>SE.val F env bvs e|none=>env.getD (k+i) undef)/\
    (∀j,j<k->(cK F env bvs (dg σ (k+1) r) acc).getD j undef=acc.getD j undef):=by
   obtain ⟨h1,h2⟩:=oG env bvs σ r (k+1) acc (by omega) (λi hi=>hacc i (by omega));refine ⟨λi t' hi=> ?_,λj hj=>h2 j (by omega)⟩;cases i with
   |zero=>
    simp only [if_true,Nat.add_zero];rw [h2 k (by omega),hacc k (Nat.le_refl _)]
   |succ i=>
    have:=h1 i t' (by simpa using hi);rw [show k+(i+1)=k+1+i from by omega,this,if_neg (by omega)]
  have fin:∀(sets:List (Nat×SE)) (v:Value),(match σ.lookup t with|some e=>SE.val F env bvs e|none=>env.getD k undef)=v->
    ((∀i t',(t::r)[i]? =some t'->(cK F env bvs sets acc).getD (k+i) undef=if i=0 then v else match σ.lookup t' with|some e=>SE.val F env bvs e|none=>env.getD (k+i) undef)/\
    (∀j,j<k->(cK F env bvs sets acc).getD j undef=acc.getD j undef))->
    (∀i t',(t::r)[i]? =some t'->(cK F env bvs sets acc).getD (k+i) undef=match σ.lookup t' with|some e=>SE.val F env bvs e|none=>env.getD (k+i) undef)/\
    (∀j,j<k->(cK F env bvs sets acc).getD j undef=acc.getD j undef):=by
   intro sets v hv ⟨h1,h2⟩;refine ⟨λi t' hi=> ?_,h2⟩;rw [h1 i t' hi];cases i with
   |zero=>simp at hi;subst hi;simpa using hv.symm
   |succ i=>simp
  unfold dg;split
  ·rename_i e he
   split
   ·rename_i j
    split
    ·rename_i hj
     subst hj;exact fin _ _ (by rw [he];rfl) skip
    ·exact fin _ _ (by rw [he]) (set (.inp j))
   ·exact fin _ _ (by rw [he]) (set _)
  ·rename_i he
   exact fin _ _ (by rw [he]) skip
structure Rel (L:List Nat) (N:Nat) (D:List Deferred) (env:List Value) (a:Act):Prop where
 size:a.tmps.size=N
 dfr:a.defers=D
 len:env.length=L.length
 get:∀i t,L[i]? =some t->a.tmps.getD t undef=env.getD i undef
variable {F} {L:List Nat} {N:Nat} {D:List Deferred} {env bvs:List Value} {σ:tF} {kn:fS} {nb:Nat} {a:Act}
theorem Rel.inv (R:Rel L N D env a):Inv F L N D env [] [] [] 0 a:=
 ⟨R.size,(λt e h=>by simp at h),(λt _ i hi=>R.get i t hi),(λq hq=>by cases hq),rfl,(λt e h=>by simp at h),R.dfr⟩
theorem Inv.C8 (I:Inv F L N D env bvs σ kn nb a) (hl:env.length=L.length):Rel L N D (cK F env bvs (dg σ 0 L) env) a:=by
 refine ⟨I.size,I.dfr,by rw [vN,hl],λi t hi=> ?_⟩;have:=(oG F env bvs σ L 0 env (by omega) (λ_ _=>rfl)).1 i t hi;rw [Nat.zero_add] at this;rw [this];cases he:σ.lookup t with
 |some e=>exact I.sto t e he
 |none=>exact I.rel t he i hi
end
inductive EX where
 |nrm|ex (id:Nat)|ret
inductive HC where
 |skip
 |reg (t:RT)
 |br (t:RT) (x y:HC)
 |regq (m:MO) (t:RT)
 |brq (m:MO) (t:RT) (x y:HC)
 |cnd (i:Nat) (x y:HC)
 |seq (x y:HC)
 |block (id:Nat) (x:HC)
 |loop (x:HC)
 |exit (id:Nat)
 |ret
def RL (I:List Value->World->Prop) (m:Nat) (μ:List Value->World->Nat) (Q:EX->List Value->World->Prop):EX->List Value->World->Prop
 | .nrm,env,w=>I env w/\μ env w<m
 |e,env,w=>Q e env w
def Rp (body:(EX->List Value->World->Prop)->List Value->World->Prop) (Q:EX->List Value->World->Prop) (env:List Value) (w:World):Prop:=
 ∃(I:List Value->World->Prop) (μ:List Value->World->Nat),I env w/\
  ∀env w,I env w->body (RL I (μ env w) μ Q) env w
section
variable {P:Program} (F:PF P)
def Dy (next:List Value->World->Prop) (Q:EX->List Value->World->Prop):EX->List Value->World->Prop
 | .nrm=>next
 |e=>Q e
def oh (id:Nat) (Q:EX->List Value->World->Prop):EX->List Value->World->Prop
 | .ex i=>if i=id then Q .nrm else Q (.ex i)
 |e=>Q e
def R6 (t:RT) (env:List Value) (w:World) (K:List Value->Option Value->World->Prop):Prop:=
 ∃C:World->Prop,C w.drew/\t.mZ F C env (λenv' c=>∀w',C w'->K env' c w') []
def Yw (m:Nat) (t:RT) (env:List Value) (w:World) (K:List Value->Option Value->World->Prop):Prop:=
 ∃C:WI,C [] w.drew/\t.nQ F C m env (λenv' c vs=>∀w',C vs w'->K env' c w') [] []
def Ys (ps:List (Nat×List Nat)) (t:RT) (env:List Value) (w:World) (K:List Value->Option Value->World->Prop):Prop:=
 ∃C:R4,C Fm.none w.drew/\t.oK F C env (λenv' c ρ=>∀w',C ρ w'->K env' c w') [] ps Fm.none
def Ro (m:MO) (t:RT) (env:List Value) (w:World) (K:List Value->Option Value->World->Prop):Prop:=
 R6 F t env w K\/(∃n,m= .some n/\Yw F n t env w K)\/∃ps,m= .free ps/\Ys F ps t env w K
def HC.wp:HC->(EX->List Value->World->Prop)->List Value->World->Prop
 | .skip,Q,env,w=>Q .nrm env w
 | .reg t,Q,env,w=>t.wp F env (λenv' _ w'=>Q .nrm env' w') [] w
 | .br t x y,Q,env,w=>t.wp F env (λenv' c w'=>l0 (c.getD undef) (x.wp Q env' w') (y.wp Q env' w')) [] w
 | .regq m t,Q,env,w=>Ro F m t env w (λenv' _ w'=>Q .nrm env' w')
 | .brq m t x y,Q,env,w=>Ro F m t env w (λenv' c w'=>l0 (c.getD undef) (x.wp Q env' w') (y.wp Q env' w'))
 | .cnd i x y,Q,env,w=>l0 (env.getD i undef) (x.wp Q env w) (y.wp Q env w)
 | .seq x y,Q,env,w=>x.wp (Dy (y.wp Q) Q) env w
 | .block id x,Q,env,w=>x.wp (oh id Q) env w
 | .loop x,Q,env,w=>Rp x.wp Q env w
 | .exit id,Q,env,w=>Q (.ex id) env w
 | .ret,Q,env,w=>Q .ret env w
def KN:EX->Exit
 | .nrm=> .normal
 | .ex id=> .exit id
 | .ret=> .ret
def flat:Code->List Code->List Code
 | .seq a b,acc=>flat a (flat b acc)
 |c,acc=>c::acc
def mQ (L:List Nat) (N:Nat) (ops:Array Oper) (c:Option Nat):Option RT:=
 ff F L N ops.toList (λσ=>match c with
  |none=>some (.done (dg σ 0 L) none)
  |some t=>(look L σ t).map λe=> .done (dg σ 0 L) (some e)) (4*ops.size+4) ops.toList [] [] 0
def iV (L:List Nat) (N:Nat):Nat->List Code->Option HC
 |0,_=>none
 |_+1,[]=>some .skip
 |fuel+1,c::rest=>
  let more (h:HC):Option HC:=match rest with
   | []=>some h
   |_=>(iV L N fuel rest).map (.seq h)
  match c with
  | .region _ ops draw=>
   if draw&& !(P.follows .mixedOrders&&Region.lexB .any ops) then none else
   match rest with
   | .cond (.tmp t) x y::rest'=>
    if L.contains t then do
     let r<-mQ F L N ops none
     more (if draw then .regq (vn F ops) r else .reg r)
    else do
     let r<-mQ F L N ops (some t)
     let hx<-iV L N fuel (flat x [])
     let hy<-iV L N fuel (flat y [])
     let h:HC:=if draw then .brq (vn F ops) r hx hy else .br r hx hy
     match rest' with
     | []=>some h
     |_=>(iV L N fuel rest').map (.seq h)
   |_=>do
    let r<-mQ F L N ops none
    more (if draw then .regq (vn F ops) r else .reg r)
  | .cond (.tmp t) x y=>do
   let i<-L.idxOf? t
   let hx<-iV L N fuel (flat x [])
   let hy<-iV L N fuel (flat y [])
   more (.cnd i hx hy)
  | .block id x=>do
   let hx<-iV L N fuel (flat x [])
   more (.block id hx)
  | .loop x=>do
   let hx<-iV L N fuel (flat x [])
   more (.loop hx)
  | .scope x=>do
   let hx<-iV L N fuel (flat x [])
   more hx
  | .exit id=>some (.exit id)
  | .ret=>some .ret
  | .skip| .label _=>more .skip
  |_=>none
def A5 (P:Program):List Code->(Exit->Act->World->Prop)->Act->World->Prop
 | [],Q=>Q .normal
 |c::r,Q=>c.wp P (Exit.then (A5 P r Q) Q)
theorem A6 {c:Code} {n n':Act->World->Prop} {Q:Exit->Act->World->Prop} {a:Act} {w:World} (h:c.wp P (Exit.then n Q) a w) (hn:∀a w,n a w->n' a w):c.wp P (Exit.then n' Q) a w:=
 wp_mono h λe a w q=>by cases e<;>first|exact hn _ _ q|exact q
theorem ze:∀(c:Code) (acc:List Code) (Q:Exit->Act->World->Prop) (a:Act) (w:World),A5 P (flat c acc) Q a w->c.wp P (Exit.then (A5 P acc Q) Q) a w
 | .seq x y,acc,Q,a,w,h=>by simp only [flat] at h;have h1:=ze x (flat y acc) Q a w h;refine wp_seq ?_;have:=A6 h1 (λa w h=>ze y acc Q a w h);refine wp_mono this λe a w q=> ?_;cases e<;>exact q
 | .skip,_,_,_,_,h| .region _ _ _,_,_,_,_,h| .cond _ _ _,_,_,_,_,h| .block _ _,_,_,_,_,h| .loop _,_,_,_,_,h| .rangeFunc _ _ _ _,_,_,_,_,h| .exit _,_,_,_,_,h| .scope _,_,_,_,_,h| .label _,_,_,_,_,h| .goto _,_,_,_,_,h| .ret,_,_,_,_,h| .refuse _,_,_,_,_,h=>h
theorem uE {c:Code} {Q:Exit->Act->World->Prop} {a:Act} {w:World} (h:A5 P (flat c []) Q a w):c.wp P Q a w:=by refine wp_mono (ze c [] Q a w h) λe a w q=> ?_;cases e<;>exact q
end
section
variable {P:Program} {F:PF P} {L:List Nat} {N:Nat} {D:List Deferred}
def KK (L:List Nat) (a:Act):List Value:=L.map λt=>a.tmps.getD t undef
theorem Rel.eq {env:List Value} {a:Act} (R:Rel L N D env a):env=KK L a:=by
 apply List.ext_getElem?;intro i;unfold KK;rw [List.getElem?_map];cases h:L[i]? with
 |none=>
  have:L.length<=i:=by simpa using h
  simp [R.len,this]
 |some t=>
  have h1:=R.get i t h;have:i<env.length:=by rw [R.len];exact (List.getElem?_eq_some_iff.1 h).1
  simp only [Option.map_some,h1];simp [this]
def Fits (L:List Nat) (N:Nat) (D:List Deferred) (Q':EX->List Value->World->Prop) (Q:Exit->Act->World->Prop):Prop:=
 ∀e env a w,Rel L N D env a->Q' e env w->Q (KN e) a w
def dJ (P:Program) (F:PF P) (L:List Nat) (N:Nat) (D:List Deferred) (c:Code) (h:HC):Prop:=
 ∀Q' Q env a w,Fits L N D Q' Q->Rel L N D env a->h.wp F Q' env w->c.wp P Q a w
def iX (P:Program) (F:PF P) (L:List Nat) (N:Nat) (D:List Deferred) (cs:List Code) (h:HC):Prop:=
 ∀Q' Q env a w,Fits L N D Q' Q->Rel L N D env a->h.wp F Q' env w->A5 P cs Q a w
theorem HM {c:Code} {Q:Exit->Act->World->Prop} {a:Act} {w:World} (h:c.wp P Q a w):A5 P [c] Q a w:=by simp only [A5];refine wp_mono h λe a w q=> ?_;cases e<;>exact q
theorem dJ.cons {c:Code} {rest:List Code} {h h':HC} (hc:dJ P F L N D c h) (hr:iX P F L N D rest h'):iX P F L N D (c::rest) (.seq h h'):=by
 intro Q' Q env a w hf R hw;simp only [A5];refine hc _ _ env a w (λe env' a' w' R' q=> ?_) R hw;cases e with
 |nrm=>exact hr Q' Q env' a' w' hf R' q
 |ex id=>exact hf _ _ _ _ R' q
 |ret=>exact hf _ _ _ _ R' q
theorem dJ.more {c:Code} {rest:List Code} {h:HC} (hc:dJ P F L N D c h) {hc':HC} {ih:List Code->Option HC}
  (hm:(match rest with| []=>some h|_=>(ih rest).map (.seq h))=some hc') (hr:∀h',ih rest=some h'->iX P F L N D rest h'):iX P F L N D (c::rest) hc':=by
 split at hm
 ·cases hm
  exact λQ' Q env a w hf R hw=>HM (hc Q' Q env a w hf R hw)
 ·simp only [Option.map_eq_some_iff] at hm
  obtain ⟨h',h1,rfl⟩:=hm;exact hc.cons (hr h' h1)
theorem iX.pg {c:Code} {h:HC} (hs:iX P F L N D (flat c []) h):dJ P F L N D c h:=
 λQ' Q env a w hf R hw=>uE (hs Q' Q env a w hf R hw)
theorem rD {id:Nat} {ops:Array Oper} {r:RT} {draw:Bool} (hd:(draw&& !(P.follows .mixedOrders&&Region.lexB .any ops))=false) (h:mQ F L N ops none=some r):
  dJ P F L N D (.region id ops draw) (if draw then .regq (vn F ops) r else .reg r):=by
 intro Q' Q env a w hf R hw;have hl:=R.len;cases draw with
 |false=>
  simp only [Bool.false_eq_true,if_false,HC.wp] at hw;refine wp_region_list ?_;have:=aU (pT env (λenv' _ w'=>Q' .nrm env' w') Q ops.toList) (leaf:=λσ=>some (.done (dg σ 0 L) none))
   (λσ rt kn nb bvs a w hlf I hwp=>by cases hlf;exact hf .nrm _ _ _ (I.C8 hl) hwp) _ _ _ _ _ r [] a w h R.inv hw
  simpa [pT] using this
 |true=>
  simp only [if_true,HC.wp] at hw;simp only [Bool.true_and,Bool.not_eq_false',Bool.and_eq_true] at hd;rcases hw with ⟨C,hC,hw⟩|⟨n,hn,C,hC,hw⟩|⟨ps,hps,C,hC,hw⟩
  ·refine wp_region_quiet hd.1 hd.2 hC ?_
   have:=aU (mU C env (λenv' _=>∀w',C w'->Q' .nrm env' w') (λa'=>∀w',C w'->Q .normal a' w') ops.toList) (leaf:=λσ=>some (.done (dg σ 0 L) none))
    (λσ rt kn nb bvs a w hlf I hwp=>by cases hlf;exact λw' hC'=>hf .nrm _ _ _ (I.C8 hl) (hwp w' hC')) _ _ _ _ _ r [] a w h R.inv hw
   simpa [mU] using this
  ·refine mY F hd.1 hd.2 (xR F hn) hC ?_
   have:=aU (pU C n env (λenv' _ vs=>∀w',C vs w'->Q' .nrm env' w') (λa' vs=>∀w',C vs w'->Q .normal a' w') ops.toList) (leaf:=λσ=>some (.done (dg σ 0 L) none))
    (λσ rt kn nb bvs a vs hlf I hwp=>by cases hlf;exact λw' hC'=>hf .nrm _ _ _ (I.C8 hl) (hwp w' hC')) _ _ _ _ _ r [] a [] h R.inv hw
   simpa [pU] using this
  ·obtain ⟨hfr,rfl⟩:=xQ F hps
   refine mX F hd.1 hd.2 hfr hC ?_;have:=aU (pS C env (λenv' _ ρ=>∀w',C ρ w'->Q' .nrm env' w') (λa' ρ=>∀w',C ρ w'->Q .normal a' w') ops.toList) (leaf:=λσ=>some (.done (dg σ 0 L) none))
    (λσ rt kn nb bvs a st hlf I hwp=>by cases hlf;exact λ_ _ _ w' hC'=>hf .nrm _ _ _ (I.C8 hl) (hwp w' hC')) _ _ _ _ _ r [] a (ov F ops 0 ops.toList,Fm.none) h R.inv hw (Nat.le_refl _) (uG hfr) (by simp)
   simpa [pS] using this
theorem pb {t:Nat} {x y:Code} {hx hy:HC} (h1:dJ P F L N D x hx) (h2:dJ P F L N D y hy) {Q':EX->List Value->World->Prop} {Q:Exit->Act->World->Prop} {env:List Value} {a:Act} {w:World}
  (hf:Fits L N D Q' Q) (R:Rel L N D env a) {v:Value} (hv:a.tmps.getD t undef=v) (hw:l0 v (hx.wp F Q' env w) (hy.wp F Q' env w)):(Code.cond (.tmp t) x y).wp P Q a w:=by
 rcases hw with ⟨rfl,hw⟩|⟨rfl,hw⟩
 ·exact wp_cond_true hv (h1 _ _ _ _ _ hf R hw)
 ·exact wp_cond_false hv (h2 _ _ _ _ _ hf R hw)
theorem Ge {id t:Nat} {ops:Array Oper} {r:RT} {x y:Code} {hx hy:HC} {rest:List Code} {h':Option HC} {draw:Bool} (hd:(draw&& !(P.follows .mixedOrders&&Region.lexB .any ops))=false)
  (h:mQ F L N ops (some t)=some r) (h1:dJ P F L N D x hx) (h2:dJ P F L N D y hy)
  (hr:match h' with|none=>rest= []|some h'=>iX P F L N D rest h'):
  iX P F L N D (.region id ops draw:: .cond (.tmp t) x y::rest) (match h' with|none=>(if draw then .brq (vn F ops) r hx hy else .br r hx hy)|some h'=> .seq (if draw then .brq (vn F ops) r hx hy else .br r hx hy) h'):=by
 have two:∀(Q':EX->List Value->World->Prop) (Q:Exit->Act->World->Prop) env a w,Fits L N D Q' Q->Rel L N D env a->(if draw then HC.brq (vn F ops) r hx hy else HC.br r hx hy).wp F Q' env w->
   (Code.region id ops draw).wp P (Exit.then ((Code.cond (.tmp t) x y).wp P Q) Q) a w:=by
  intro Q' Q env a w hf R hw;have hl:=R.len;cases draw with
  |false=>
   simp only [Bool.false_eq_true,if_false,HC.wp] at hw;refine wp_region_list ?_;have:=aU (pT env (λenv' c w'=>l0 (c.getD undef) (hx.wp F Q' env' w') (hy.wp F Q' env' w')) (Exit.then ((Code.cond (.tmp t) x y).wp P Q) Q) ops.toList)
    (leaf:=λσ=>(look L σ t).map λe=> .done (dg σ 0 L) (some e))
    (λσ rt kn nb bvs a w hlf I hwp=>by simp only [Option.map_eq_some_iff] at hlf;obtain ⟨e,he,rfl⟩:=hlf;simp only [pT,RT.wp,Option.map_some,Option.getD_some] at hwp;exact pb h1 h2 hf (I.C8 hl) (I.look he) hwp) _ _ _ _ _ r [] a w h R.inv hw
   simpa [pT] using this
  |true=>
   simp only [if_true,HC.wp] at hw;simp only [Bool.true_and,Bool.not_eq_false',Bool.and_eq_true] at hd;rcases hw with ⟨C,hC,hw⟩|⟨n,hn,C,hC,hw⟩|⟨ps,hps,C,hC,hw⟩
   ·refine wp_region_quiet hd.1 hd.2 hC ?_
    have:=aU (mU C env (λenv' c=>∀w',C w'->l0 (c.getD undef) (hx.wp F Q' env' w') (hy.wp F Q' env' w')) (λa'=>∀w',C w'->(Code.cond (.tmp t) x y).wp P Q a' w') ops.toList)
     (leaf:=λσ=>(look L σ t).map λe=> .done (dg σ 0 L) (some e))
     (λσ rt kn nb bvs a w hlf I hwp=>by simp only [Option.map_eq_some_iff] at hlf;obtain ⟨e,he,rfl⟩:=hlf;simp only [mU,RT.mZ,Option.map_some,Option.getD_some] at hwp;exact λw' hC'=>pb h1 h2 hf (I.C8 hl) (I.look he) (hwp w' hC')) _ _ _ _ _ r [] a w h R.inv hw
    simpa [mU,Exit.then] using this
   ·refine mY F hd.1 hd.2 (xR F hn) hC ?_
    have:=aU (pU C n env (λenv' c vs=>∀w',C vs w'->l0 (c.getD undef) (hx.wp F Q' env' w') (hy.wp F Q' env' w')) (λa' vs=>∀w',C vs w'->(Code.cond (.tmp t) x y).wp P Q a' w') ops.toList)
     (leaf:=λσ=>(look L σ t).map λe=> .done (dg σ 0 L) (some e))
     (λσ rt kn nb bvs a vs hlf I hwp=>by simp only [Option.map_eq_some_iff] at hlf;obtain ⟨e,he,rfl⟩:=hlf;simp only [pU,RT.nQ,Option.map_some,Option.getD_some] at hwp;exact λw' hC'=>pb h1 h2 hf (I.C8 hl) (I.look he) (hwp w' hC')) _ _ _ _ _ r [] a [] h R.inv hw
    simpa [pU,Exit.then] using this
   ·obtain ⟨hfr,rfl⟩:=xQ F hps
    refine mX F hd.1 hd.2 hfr hC ?_;have:=aU (pS C env (λenv' c ρ=>∀w',C ρ w'->l0 (c.getD undef) (hx.wp F Q' env' w') (hy.wp F Q' env' w')) (λa' ρ=>∀w',C ρ w'->(Code.cond (.tmp t) x y).wp P Q a' w') ops.toList)
     (leaf:=λσ=>(look L σ t).map λe=> .done (dg σ 0 L) (some e))
     (λσ rt kn nb bvs a st hlf I hwp=>by simp only [Option.map_eq_some_iff] at hlf;obtain ⟨e,he,rfl⟩:=hlf;simp only [pS,RT.oK,Option.map_some,Option.getD_some] at hwp;exact λ_ _ _ w' hC'=>pb h1 h2 hf (I.C8 hl) (I.look he) (hwp w' hC')) _ _ _ _ _ r [] a (ov F ops 0 ops.toList,Fm.none) h R.inv hw (Nat.le_refl _) (uG hfr) (by simp)
    simpa [pS,Exit.then] using this
 intro Q' Q env a w hf R hw;simp only [A5];cases h' with
 |none=>
  simp only at hr hw;subst hr;refine wp_mono (two Q' Q env a w hf R hw) λe a w q=> ?_;cases e with
  |normal=>simp only [Exit.then,A5] at q⊢;exact HM q
  |_=>exact q
 |some h'=>
  simp only at hr hw;simp only [HC.wp] at hw;refine wp_mono (two (Dy (h'.wp F Q') Q') (Exit.then (A5 P rest Q) Q) env a w (λe env' a' w' R' q=> ?_) R hw) λe a w q=> ?_
  ·cases e with
   |nrm=>exact hr Q' Q env' a' w' hf R' q
   |ex id=>exact hf _ _ _ _ R' q
   |ret=>exact hf _ _ _ _ R' q
  ·cases e<;>exact q
theorem CC {x:Code} {hx:HC} (h:dJ P F L N D x hx):dJ P F L N D (.loop x) (.loop hx):=by
 intro Q' Q env a w hf R hw;obtain ⟨I,μ,h0,hr⟩:=hw;refine wp_loop (λa w=>∃env,Rel L N D env a/\I env w) (λa w=>μ (KK L a) w) ⟨env,R,h0⟩ λa w ⟨env,R,hI⟩=> ?_;refine h _ _ env a w (λe env' a' w' R' q=> ?_) R (hr env w hI);cases e with
 |nrm=>exact ⟨⟨env',R',q.1⟩,by rw [<-R.eq,<-R'.eq];exact q.2⟩
 |ex id=>exact hf _ _ _ _ R' q
 |ret=>exact hf _ _ _ _ R' q
theorem yK {id:Nat} {x:Code} {hx:HC} (h:dJ P F L N D x hx):dJ P F L N D (.block id x) (.block id hx):=by
 intro Q' Q env a w hf R hw;refine wp_block (h _ _ env a w (λe env' a' w' R' q=> ?_) R hw);cases e with
 |nrm=>exact hf _ _ _ _ R' q
 |ex i=>
  simp only [oh] at q;simp only [KN,Exit.inBlock];split at q
  ·rename_i hi;rw [if_pos hi];exact hf _ _ _ _ R' q
  ·rename_i hi;rw [if_neg hi];exact hf _ _ _ _ R' q
 |ret=>exact hf _ _ _ _ R' q
theorem AM {x:Code} {hx:HC} (h:dJ P F L N D x hx):dJ P F L N D (.scope x) hx:=by
 intro Q' Q env a w hf R hw;refine wp_scope_straight (h _ _ env a w (λe env' a' w' R' q=> ?_) R hw);cases e with
 |nrm=>exact hf _ _ _ _ R' q
 |ex i=>exact hf _ _ _ _ R' q
 |ret=>exact hf _ _ _ _ R' q
theorem j3:∀(fuel:Nat) (cs:List Code) (hc:HC),iV F L N fuel cs=some hc->iX P F L N D cs hc
 |0,_,_,h=>by simp [iV] at h
 |fuel+1,[],hc,h=>by simp only [iV] at h;cases h;exact λQ' Q env a w hf R hw=>hf .nrm _ _ _ R hw
 |fuel+1,c::rest,hc,h=>by
  have ih:=j3 fuel;unfold iV at h;simp only at h;split at h
  ·rename_i id ops draw
   split at h
   ·cases h
   ·rename_i hd
    have hd:(draw&& !(P.follows .mixedOrders&&Region.lexB .any ops))=false:=by simpa using hd
    split at h
    ·split at h
     ·simp only [Option.bind_eq_bind,Option.bind_eq_some_iff] at h
      obtain ⟨r,hr,h⟩:=h;exact (rD hd hr).more h (ih _)
     ·simp only [Option.bind_eq_bind,Option.bind_eq_some_iff] at h
      obtain ⟨r,hr,hx,h1,hy,h2,h⟩:=h;split at h
      ·cases h
       exact Ge (h':=none) hd hr (ih _ _ h1).pg (ih _ _ h2).pg rfl
      ·simp only [Option.map_eq_some_iff] at h
       obtain ⟨h',h3,rfl⟩:=h;exact Ge (h':=some h') hd hr (ih _ _ h1).pg (ih _ _ h2).pg (ih _ _ h3)
    ·simp only [Option.bind_eq_bind,Option.bind_eq_some_iff] at h
     obtain ⟨r,hr,h⟩:=h;exact (rD hd hr).more h (ih _)
  ·rename_i t x y
   simp only [Option.bind_eq_bind,Option.bind_eq_some_iff] at h;obtain ⟨i,hi,hx,h1,hy,h2,h⟩:=h;have:dJ P F L N D (.cond (.tmp t) x y) (.cnd i hx hy):=λQ' Q env a w hf R hw=>
    pb (ih _ _ h1).pg (ih _ _ h2).pg hf R (R.get i t (lu hi)) hw
   exact this.more h (ih _)
  ·simp only [Option.bind_eq_bind,Option.bind_eq_some_iff] at h
   obtain ⟨hx,h1,h⟩:=h;exact (yK (ih _ _ h1).pg).more h (ih _)
  ·simp only [Option.bind_eq_bind,Option.bind_eq_some_iff] at h
   obtain ⟨hx,h1,h⟩:=h;exact (CC (ih _ _ h1).pg).more h (ih _)
  ·simp only [Option.bind_eq_bind,Option.bind_eq_some_iff] at h
   obtain ⟨hx,h1,h⟩:=h;exact (AM (ih _ _ h1).pg).more h (ih _)
  ·rename_i id
   cases h;intro Q' Q env a w hf R hw;simp only [A5];exact wp_exit (hf (.ex id) _ _ _ R hw)
  ·cases h
   intro Q' Q env a w hf R hw;simp only [A5];exact wp_ret (hf .ret _ _ _ R hw)
  ·have:dJ P F L N D .skip .skip:=λQ' Q env a w hf R hw=>wp_skip (hf .nrm _ _ _ R hw)
   exact this.more h (ih _)
  ·rename_i l
   have:dJ P F L N D (.label l) .skip:=λQ' Q env a w hf R hw=>wp_label (hf .nrm _ _ _ R hw);exact this.more h (ih _)
  ·cases h
end
inductive RV where
 |slot (i:Nat)
 |cell (i:Nat) (agg:Bool) (n:Nat)
def V7 (o:Oper):List Nat:=o.op.operands.toList.filterMap fun| .tmp t=>some t|_=>none
def Gv:List Oper->List Nat->List Nat->List Nat×List Nat
 | [],wr,ex=>(ex,wr)
 |o::r,wr,ex=>
  let ex':=(V7 o).foldl (λacc t=>if wr.contains t||acc.contains t then acc else t::acc) ex
  Gv r (o.dst.toList++wr) ex'
def yC (xs acc:List Nat):List Nat:=xs.foldl (λacc t=>if acc.contains t then acc else t::acc) acc
def jw:Nat->List Code->List Nat->List Nat
 |0,_,acc=>acc
 |_+1,[],acc=>acc
 |fuel+1,c::rest,acc=>
  match c with
  | .region _ ops _=>
   let (ex,wr):=Gv ops.toList [] []
   let acc:=yC ex acc
   match rest with
   | .cond (.tmp t) x y::rest'=>
    let acc:=if wr.contains t then acc else yC [t] acc
    jw fuel rest' (jw fuel (flat y []) (jw fuel (flat x []) acc))
   |_=>jw fuel rest acc
  | .cond (.tmp t) x y=>jw fuel rest (jw fuel (flat y []) (jw fuel (flat x []) (yC [t] acc)))
  | .block _ x=>jw fuel rest (jw fuel (flat x []) acc)
  | .loop x=>jw fuel rest (jw fuel (flat x []) acc)
  | .scope x=>jw fuel rest (jw fuel (flat x []) acc)
  |_=>jw fuel rest acc
def GS (t:Nat):List Nat->List Nat
 | []=> [t]
 |u::r=>if t<=u then t::u::r else u::GS t r
def Hx (l:List Nat):List Nat:=l.foldr GS []
def AK (P:Program) (L:List Nat):List ResultVar->Option (List RV)
 | []=>some []
 | .tmp t::r=>do
  let i<-L.idxOf? t
  let rs<-AK P L r
  some (.slot i::rs)
 | .cell t ty::r=>do
  let i<-L.idxOf? t
  let d<-P.underlying ty
  let n<-sz P ty
  let rs<-AK P L r
  some (.cell i (gN d) n::rs)
def Wn:ResultVar->Nat
 | .tmp t=>t
 | .cell t _=>t
def Li (fn:Func) (c:Code) (fuel:Nat):List Nat:=Hx (jw fuel (flat c []) (yC (fn.results.toList.map Wn) []))
def yd (P:Program) (env:List Value):List RV->(List Value->World->Prop)->World->Prop
 | [],K,w=>K [] w
 | .slot i::r,K,w=>yd P env r (λvs w=>K (env.getD i undef::vs) w) w
 | .cell i agg n::r,K,w=>fT P (dx (tt agg n (env.getD i undef))) (λv w'=>w'=w/\yd P env r (λvs w=>K (v::vs) w) w) w
def Jq:List Value->Value
 | [v]=>v
 |vs=> .tuple vs.toArray
theorem MC (vs:List Value):(if h:vs.toArray.size=1 then vs.toArray[0] else .tuple vs.toArray)=Jq vs:=by
 match vs with
 | []=>rfl
 | [v]=>rfl
 |_::_::_=>rw [dif_neg (by simp)];rfl
def rO (P:Program) (rs:List RV) (K:Value->World->Prop):EX->List Value->World->Prop
 | .ex _,_,_=>False
 |_,env,w=>yd P env rs (λvs w=>K (Jq vs) w) w
section
variable {P:Program} {F:PF P}
theorem tz {L:List Nat} {env:List Value} {a:Act} {N:Nat} {D:List Deferred} (R:Rel L N D env a):∀(l:List ResultVar) (rs:List RV) (w:World) (K:List Value->World->Prop),AK P L l=some rs->yd P env rs K w->
  ∃vs,(l.mapM (fun| .tmp t=>pure (a.tmps.getD t undef)| .cell u t=>do loadVar t (<-asAddr (a.tmps.getD u undef)):ResultVar->Sem Value)).run P w= .ok vs w/\K vs w
 | [],rs,w,K,h,hw=>by simp only [AK] at h;cases h;exact ⟨[],rfl,hw⟩
 | .tmp t::r,rs,w,K,h,hw=>by simp only [AK,Option.bind_eq_bind,Option.bind_eq_some_iff] at h;obtain ⟨i,hi,rs',hr,h⟩:=h;cases h;obtain ⟨vs,h1,h2⟩:=tz R r rs' w _ hr hw;refine ⟨_,?_,h2⟩;rw [<-R.get i t (lu hi)];simp only [List.mapM_cons,Sem.run_bind,Sem.run_pure,Result.andThen_ok,h1]
 | .cell t ty::r,rs,w,K,h,hw=>by
  simp only [AK,Option.bind_eq_bind,Option.bind_eq_some_iff] at h;obtain ⟨i,hi,d,hd,n,hn,rs',hr,h⟩:=h;cases h;simp only [yd,fT,dx,Sem.run_bind] at hw;have hg:=R.get i t (lu hi);have hl:∀v w',(tt (gN d) n (a.tmps.getD t undef)).run P w= .ok v w'->(do loadVar ty (<-asAddr (a.tmps.getD t undef)):Sem Value).run P w= .ok v w':=by
   intro v w' he;generalize a.tmps.getD t undef=u at he⊢;cases u<;>simp only [tt,Instr.sureAddr,Sem.run_bind,run_stuck,Result.andThen_halt] at he<;>(try (cases he;done));rename_i b;cases b
   ·simp [Instr.sureAddr] at he
   ·simp only [Sem.run_pure,Result.andThen_ok] at he
    simp only [asAddr,Sem.run_bind,Sem.run_pure,Result.andThen_ok,loadVar,qC hd];cases hb:gN d<;>simp [hb,fL hn] at he⊢<;>exact he
  rw [<-hg] at hw;generalize hrun:(tt (gN d) n (a.tmps.getD t undef)).run P w=q at hw;cases q with
  |halt x w'=>simp at hw
  |ok v w'=>
   simp only [Result.andThen_ok,Sem.run_pure] at hw;obtain ⟨rfl,hw⟩:=hw;obtain ⟨vs,h1,h2⟩:=tz R r rs' w' _ hr hw;have:=hl v w' hrun;simp only [Sem.run_bind] at this;refine ⟨_,?_,h2⟩;simp only [List.mapM_cons,Sem.run_bind,this,Result.andThen_ok,h1,Sem.run_pure]
def aj (P:Program) (f:FuncId) (args:List Value) (K:Value->World->Prop) (w:World):Prop:=
 Calls P f args.toArray w λe w'=>∃v,e= .returned v/\K v w'
structure ai where
 L:List Nat
 N:Nat
 rs:List RV
 hc:HC
def af (F:PF P) (f:FuncId) (fuel:Nat):Option ai:=do
 let fn<-P.funcs[f]?
 let c<-fn.body
 let L:=Li fn c fuel
 let hc<-iV F L fn.ntmps fuel (flat c [])
 let rs<-AK P L fn.results.toList
 some ⟨L,fn.ntmps,rs,hc⟩
def uv (L:List Nat) (N:Nat) (args:List Value):List Value:=L.map λt=>if t<N then (args[t]?).getD undef else undef
theorem cN {f:FuncId} {fuel:Nat} {l:ai} (hl:af F f fuel=some l) {args:List Value} {K:Value->World->Prop} {w:World} (hlen:args.length<=l.N)
  (h:l.hc.wp F (rO P l.rs K) (uv l.L l.N args) w):aj P f args K w:=by
 simp only [af,Option.bind_eq_bind,Option.bind_eq_some_iff] at hl;obtain ⟨fn,hfn,c,hc,hcode,hlc,rs,hrs,hl⟩:=hl;cases hl;refine calls_of_wp hfn hc (uE (j3 (D:= []) _ _ _ hlc _ _ _ _ _ ?_ ?_ h))
 ·intro e env a w R hq
  have fin:yd P env rs (λvs w=>K (Jq vs) w) w->a.defers= []/\∃v,(results fn a.tmps).run P w= .ok v w/\∃v',Ending.returned v= .returned v'/\K v' w:=by
   intro hq;obtain ⟨vs,h1,h2⟩:=tz R _ _ w _ hrs hq;refine ⟨R.dfr,Jq vs,?_,_,rfl,h2⟩;have hm:(fn.results.mapM (fun| .tmp t=>pure (a.tmps.getD t undef)| .cell u t=>do loadVar t (<-asAddr (a.tmps.getD u undef)):ResultVar->Sem Value)).run P w= .ok vs.toArray w:=by rw [<-Array.toArray_toList (xs:=fn.results),List.mapM_toArray];simp only [Sem.run_map,h1,Result.andThen_ok]
   have he:results fn a.tmps=(fn.results.mapM (fun| .tmp t=>pure (a.tmps.getD t undef)| .cell u t=>do loadVar t (<-asAddr (a.tmps.getD u undef)):ResultVar->Sem Value))>>=λvs=>pure (if h:vs.size=1 then vs[0] else .tuple vs):=rfl;rw [he,Sem.run_bind,hm];simp only [Result.andThen_ok,Sem.run_pure];rw [MC]
  cases e with
  |nrm=>exact fin hq
  |ex id=>exact hq.elim
  |ret=>exact fin hq
 ·refine ⟨?_,rfl,by simp [uv],λi t hi=> ?_⟩
  ·simp only [Array.size_append,List.size_toArray,Array.size_replicate]
   simp only at hlen;omega
  ·simp only [uv,List.getD_eq_getElem?_getD,List.getElem?_map,hi,Option.map_some,Option.getD_some]
   simp only [Array.getD_eq_getD_getElem?,Array.getElem?_append,List.getElem?_toArray,List.size_toArray,Array.getElem?_replicate];simp only at hlen;split
   ·rename_i hlt
    rw [if_pos (by omega)]
   ·rename_i hge
    have:args[t]? =none:=by simp;omega
    split<;>split<;>simp [this]
end
def PF.none (P:Program):PF P:=⟨[],λ_ _=>undef,λ_ _=>False,(by intro f hf;cases hf),[]⟩
def PF.quiet {P:Program} (F:PF P) (qs:List Nat):PF P:={F with qs:=qs}
section
variable {P:Program} (F:PF P)
def RT.cont (env:List Value) (K:List Value->Option Value->World->Prop) (k:RT) (bvs:List Value) (v:Value) (w:World):Prop:=k.wp F env K (bvs++ [v]) w
def qc (v:Value) (want:Bool) (a b:RT) (env:List Value) (K:List Value->Option Value->World->Prop) (bvs:List Value) (w:World):Prop:=
 if oa v want=true then a.wp F env K bvs w else b.wp F env K bvs w
def gD (v:Value) (x y:HC) (Q:EX->List Value->World->Prop) (env:List Value) (w:World):Prop:=l0 v (x.wp F Q env w) (y.wp F Q env w)
def brK (x y:HC) (Q:EX->List Value->World->Prop) (env:List Value) (c:Option Value) (w:World):Prop:=gD F (c.getD undef) x y Q env w
def Bf (x:HC) (Q:EX->List Value->World->Prop) (env:List Value) (w:World):Prop:=Rp (x.wp F) Q env w
def Z9 (Q:EX->List Value->World->Prop) (env:List Value) (_:Option Value) (w:World):Prop:=Q .nrm env w
def Mh (y:HC) (Q:EX->List Value->World->Prop):EX->List Value->World->Prop:=Dy (y.wp F Q) Q
def eJa (g:Option (SE×Bool)) (p:PO) (xs:di) (env bvs:List Value):Prop:=bD F env bvs g->p.ok F (di.dA F env bvs xs)
variable {F} {env bvs:List Value} {w:World}
theorem Ri {K} (sets:List (Nat×SE)) (c:Option SE):(RT.done sets c).wp F env K bvs w=K (cK F env bvs sets env) (c.map (SE.val F env bvs)) w:=rfl
theorem Wz {K} (g:Option (SE×Bool)) (p:PO) (xs:di) (k:RT):(RT.chk g p xs k).wp F env K bvs w=((bD F env bvs g->p.ok F (di.dA F env bvs xs))/\k.wp F env K bvs w):=rfl
theorem WE {K} (g:Option (SE×Bool)) (c:SE) (k:RT):(RT.isb g c k).wp F env K bvs w=((bD F env bvs g->∃b,SE.val F env bvs c= .bool b)/\k.wp F env K bvs w):=rfl
theorem WD {K} (eo:EO) (xs:di) (k:RT):(RT.eff eo xs k).wp F env K bvs w=aA P eo (di.dA F env bvs xs) (RT.cont F env K k bvs) w:=rfl
theorem Wy {K} (e:SE) (k:RT):(RT.jK e k).wp F env K bvs w=k.wp F env K (bvs++ [SE.val F env bvs e]) w:=rfl
theorem Rk {K} (c:SE) (v:Bool) (a b:RT):(RT.ite c v a b).wp F env K bvs w=qc F (SE.val F env bvs c) v a b env K bvs w:=rfl
theorem Kf {K} (k:RT) (v:Value):RT.cont F env K k bvs v w=k.wp F env K (bvs++ [v]) w:=rfl
variable {Q:EX->List Value->World->Prop}
theorem MQ:HC.skip.wp F Q env w=Q .nrm env w:=rfl
theorem WG (t:RT):(HC.reg t).wp F Q env w=t.wp F env (Z9 Q) [] w:=rfl
theorem aya (t:RT) (x y:HC):(HC.br t x y).wp F Q env w=t.wp F env (brK F x y Q) [] w:=rfl
theorem WC (i:Nat) (x y:HC):(HC.cnd i x y).wp F Q env w=gD F (env.getD i undef) x y Q env w:=rfl
theorem Rl (x y:HC):(HC.seq x y).wp F Q env w=x.wp F (Mh F y Q) env w:=rfl
theorem Jw (id:Nat) (x:HC):(HC.block id x).wp F Q env w=x.wp F (oh id Q) env w:=rfl
theorem MP (x:HC):(HC.loop x).wp F Q env w=Bf F x Q env w:=rfl
theorem MN (id:Nat):(HC.exit id).wp F Q env w=Q (.ex id) env w:=rfl
theorem Rj:HC.ret.wp F Q env w=Q .ret env w:=rfl
theorem Mi (y:HC):Mh F y Q .nrm env w=y.wp F Q env w:=rfl
theorem Q1 (y:HC) (i:Nat):Mh F y Q (.ex i) env w=Q (.ex i) env w:=rfl
theorem Mj (y:HC):Mh F y Q .ret env w=Q .ret env w:=rfl
theorem Eh (id:Nat):oh id Q .nrm env w=Q .nrm env w:=rfl
theorem Ej (id:Nat):oh id Q .ret env w=Q .ret env w:=rfl
theorem H2 (id i:Nat):oh id Q (.ex i) env w=(if i=id then Q .nrm env w else Q (.ex i) env w):=by simp only [oh];split<;>rfl
theorem L4 (c:Option Value):Z9 Q env c w=Q .nrm env w:=rfl
theorem Ni (x y:HC) (v:Value):brK F x y Q env (some v) w=gD F v x y Q env w:=rfl
theorem ue (x y:HC):gD F (.bool true) x y Q env w=x.wp F Q env w:=by simp [gD,l0]
theorem q8 (x y:HC):gD F (.bool false) x y Q env w=y.wp F Q env w:=by simp [gD,l0]
theorem Ez {x y:HC} {b:Bool} (h1:b=true->x.wp F Q env w) (h2:b=false->y.wp F Q env w):gD F (.bool b) x y Q env w:=by
 cases b
 ·rw [q8];exact h2 rfl
 ·rw [ue];exact h1 rfl
theorem II {K} (a b:RT):qc F (.bool true) true a b env K bvs w=a.wp F env K bvs w:=rfl
theorem IE {K} {a b:RT} {c:Bool} {want:Bool} (h1:c=want->a.wp F env K bvs w) (h2:c=(!want)->b.wp F env K bvs w):qc F (.bool c) want a b env K bvs w:=by
 unfold qc;rw [eV];split
 ·rename_i h;exact h1 (by simpa using h)
 ·rename_i h;exact h2 (by revert h;cases c<;>cases want<;>simp)
theorem IH {K} (a b:RT) (c:Bool):qc F (.bool c) c a b env K bvs w=a.wp F env K bvs w:=by unfold qc;rw [eV];simp
theorem K6 {K} (a b:RT) (c:Bool):qc F (.bool (!c)) c a b env K bvs w=b.wp F env K bvs w:=by unfold qc;rw [eV];cases c<;>rfl
theorem Ll {x:HC} (I:List Value->World->Prop) (μ:List Value->World->Nat) (h0:I env w)
  (h:∀env w,I env w->x.wp F (RL I (μ env w) μ Q) env w):Bf F x Q env w:=⟨I,μ,h0,h⟩
theorem KG {rs:List RV} {K:Value->World->Prop}:rO P rs K .nrm env w=yd P env rs (λvs w=>K (Jq vs) w) w:=rfl
theorem KH {rs:List RV} {K:Value->World->Prop}:rO P rs K .ret env w=yd P env rs (λvs w=>K (Jq vs) w) w:=rfl
theorem QZ {K:List Value->World->Prop}:yd P env [] K w=K [] w:=rfl
theorem Mc {i:Nat} {r:List RV} {K:List Value->World->Prop}:yd P env (.slot i::r) K w=yd P env r (λvs w=>K (env.getD i undef::vs) w) w:=rfl
theorem zh:bD F env bvs none=True:=rfl
theorem zi (c:SE) (b:Bool):bD F env bvs (some (c,b))=(oa (SE.val F env bvs c) b=true):=rfl
end
@[simp] theorem Xa (a:Value) (l:List Value) (d:Value):(a::l).getD 0 d=a:=rfl
@[simp] theorem W9 (a:Value) (l:List Value) (n:Nat) (d:Value):(a::l).getD (n+1) d=l.getD n d:=rfl
theorem TS (b:Bool):oa (.bool b) true=b:=by cases b<;>rfl
theorem TR (b:Bool):oa (.bool b) false= !b:=by cases b<;>rfl
theorem Ak (p q:Bool):(if p=true then Value.bool q else Value.bool false)= .bool (p&&q):=by cases p<;>rfl
theorem Cs (p q:Bool):(if p=true then Value.bool true else Value.bool q)= .bool (p||q):=by cases p<;>rfl
end Go.HL
