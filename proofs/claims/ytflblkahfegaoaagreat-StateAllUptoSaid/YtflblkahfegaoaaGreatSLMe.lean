/- Part 5. -/
import Derived.Test.YtflblkahfegaoaaGreatSLMd
import Derived.Laws.StructEq
import Derived.ChangeKeysEq
set_option linter.unusedSimpArgs false
set_option linter.unusedVariables false
set_option maxRecDepth 4000
namespace Go.HL
section
variable {P:Program}
def xI (P:Program):List Field->Nat->Bool
 | [],_=>true
 |f::fs,o=>(f.name != "_")&&(f.offset==o)&&(match P.underlying f.type with|some (.int _)=>true|_=>false)&&xI P fs (o+1)
def Yt (xs:Array Value) (o:Nat) (as_:List Int):Prop:=∀j u,as_[j]?=some u->xs[o+j]?=some (.int .i64 u)
structure WU (P:Program) (t:TypeId) (n:Nat):Prop where
 und:P.underlying t=some (.struct (P.fieldsOf t))
 stood:P.stoodInHeld t=false
 guard:P.eqGuardType P.depth t=false
 ints:xI P (P.fieldsOf t).toList 0=true
 len:(P.fieldsOf t).toList.length=n
structure Y3 (P:Program) (t:TypeId) (n:Nat):Prop where
 elem:∃e k,P.underlying t=some (.array n e)/\(P.info? e).isSome=true/\P.underlying e=some (.int k)/\P.cellsOf e=1
 guard:P.eqGuardType P.depth t=false
variable {K:Value->World->Prop} {w w0:World} {A:al} {C:World->Prop}
theorem JB {eo:EO} {vs:List Value} {v:Value} {s:Sem Value} (he:eo.mv vs=dU s) (hr:s.run P w= .ok v w):Ek P C eo vs v w:=by intro _;rw [he];simp only [dU,Sem.run_bind,hr,Result.andThen_ok,Sem.run_pure];exact ⟨rfl,rfl⟩
theorem nJ {b off m:Nat} {vs:List Value} {K:Value->Prop} (hc:∀w,C w->∀j u,vs[j]?=some u->w.cell? ⟨b,off+j,none⟩=some u) (hl:vs.length=m) (hk:K (.agg vs.toArray)):
  Eg P C (.ld true m) [.pointer (some ⟨b,off,none⟩)] K:=by
 refine ⟨_,λw hw=>JB (s:=tq true m (.pointer (some ⟨b,off,none⟩))) rfl ?_,hk⟩;have:=run_loadCells_list (P:=P) w ⟨b,off,none⟩ vs (by intro j v hj;rw [fu];exact hc w hw j v hj)
 rw [hl] at this;simp [tq,Instr.sureAddr,this]
theorem FZ {A B:al} {e size n:Nat} {v:Value} {xs:List Value} (s:St w0 A w) (h:A=B*own e size v n xs):Row w0 A v n size xs:=(bQ (s.to h)).mono λw s=>s.to h
theorem gD {F:al} {t ty e size bytes:Nat} {z v v2:Value} {n m:Nat} {xs news:List Value} (s:St w0 (F*own e size v n xs) w) (h:Row w0 (F*own e size v n xs) v2 m size news)
  (h1:∀u∈news,u.oneCell'=true) (hsz:0<size) (hz:z.cells.size=size) (hmax:n+m<=maxLen) (hb:(n+m)*bytes<=140737488355328)
  (hk:∀v' w',St w0 (F*own e size v' (n+m) (xs++news)) w'->K v' w'):aI P (.app t ty e size bytes z) [v,v2] K w:=by
 obtain ⟨hl,a,cap,rfl,hn,hc⟩:=h;cases a with
 |none=>
  rcases hc with rfl|⟨g,o,h,_⟩
  ·have:news= []:=List.eq_nil_of_length_eq_zero (by simpa using hl)
   subst this;obtain ⟨b,c,rfl,hle,_⟩:=s.ay;refine Ck hle (hk _ _ ?_)
   simpa using s
  ·cases h
 |some a=>
  refine bE s hl (λj u hu=> ?_) h1 hsz hz hmax hb hk;rcases hc with rfl|⟨g,o,h,hc⟩
  ·have:news= []:=List.eq_nil_of_length_eq_zero (by simpa using hl)
   subst this;simp at hu
  ·cases h
   rw [fu];exact hc w s j u hu
end
@[simp] theorem fCa {P:Program} {F:PF P} {C:World->Prop} {env bvs:List Value} {K} (a b:RT):wq F C (.bool false) false a b env K bvs=a.nw F C env K bvs:=rfl
@[simp] theorem fEa {P:Program} {F:PF P} {C:World->Prop} {env bvs:List Value} {K} (a b:RT):wq F C (.bool true) false a b env K bvs=b.nw F C env K bvs:=rfl
section
variable {P:Program} {F:PF P} {env bvs:List Value} {w:World} {Q:EX->List Value->World->Prop} {C:List Value->World->Prop} {q:Nat->List Value->Value} {m:Nat} {vs:List Value}
def tD (F:PF P) (C:List Value->World->Prop) (q:Nat->List Value->Value) (m:Nat) (eo:EO) (args vs:List Value) (K:Value->List Value->Prop):Prop:=
 (FL F eo=false/\∃v,Kl F ⟨C,q⟩ m eo args vs v/\K v vs)\/(FL F eo=true/\Kg P ⟨C,q⟩ eo args vs/\∀v,(∃w,C (vs++ [v]) w)->K v (vs++ [v]))
def Ry (F:PF P) (C:List Value->World->Prop) (q:Nat->List Value->Value) (m:Nat) (env:List Value) (K:List Value->Option Value->List Value->Prop) (k:RT) (bvs:List Value) (v:Value) (vs:List Value):Prop:=k.nZ F ⟨C,q⟩ m env K (bvs++ [v]) vs
def Eh (F:PF P) (C:List Value->World->Prop) (q:Nat->List Value->Value) (m:Nat) (c:Value) (v:Bool) (a b:RT) (env:List Value) (K:List Value->Option Value->List Value->Prop) (bvs vs:List Value):Prop:=if oG c v=true then a.nZ F ⟨C,q⟩ m env K bvs vs else b.nZ F ⟨C,q⟩ m env K bvs vs
def HH (C:List Value->World->Prop) (Q:EX->List Value->World->Prop) (env:List Value) (_:Option Value) (vs:List Value):Prop:=∀w,C vs w->Q .nrm env w
def Sm (F:PF P) (C:List Value->World->Prop) (x y:HC) (Q:EX->List Value->World->Prop) (env:List Value) (c:Option Value) (vs:List Value):Prop:=∀w,C vs w->iR F (c.getD undef) x y Q env w
@[simp] theorem ffa {K} (sets:List (Nat×SE)) (c:Option SE):(RT.done sets c).nZ F ⟨C,q⟩ m env K bvs vs=K (dj F env bvs sets env) (c.map (SE.val F env bvs)) vs:=rfl
@[simp] theorem fXa {K} (g:Option (SE×Bool)) (p:PO) (xs:dH) (k:RT):(RT.chk g p xs k).nZ F ⟨C,q⟩ m env K bvs vs=((bH F env bvs g->p.ok F (dH.dX F env bvs xs))/\k.nZ F ⟨C,q⟩ m env K bvs vs):=rfl
@[simp] theorem fZa {K} (g:Option (SE×Bool)) (c:SE) (k:RT):(RT.isb g c k).nZ F ⟨C,q⟩ m env K bvs vs=((bH F env bvs g->∃b,SE.val F env bvs c= .bool b)/\k.nZ F ⟨C,q⟩ m env K bvs vs):=rfl
@[simp] theorem fYa {K} (eo:EO) (xs:dH) (k:RT):(RT.eff eo xs k).nZ F ⟨C,q⟩ m env K bvs vs=tD F C q m eo (dH.dX F env bvs xs) vs (Ry F C q m env K k bvs):=rfl
@[simp] theorem fWa {K} (e:SE) (k:RT):(RT.gh e k).nZ F ⟨C,q⟩ m env K bvs vs=k.nZ F ⟨C,q⟩ m env K (bvs++ [SE.val F env bvs e]) vs:=rfl
@[simp] theorem f0a {K} (c:SE) (v:Bool) (a b:RT):(RT.ite c v a b).nZ F ⟨C,q⟩ m env K bvs vs=Eh F C q m (SE.val F env bvs c) v a b env K bvs vs:=rfl
@[simp] theorem Xb {K} (k:RT) (v:Value):Ry F C q m env K k bvs v vs=k.nZ F ⟨C,q⟩ m env K (bvs++ [v]) vs:=rfl
@[simp] theorem fBa {K} (a b:RT):Eh F C q m (.bool true) true a b env K bvs vs=a.nZ F ⟨C,q⟩ m env K bvs vs:=rfl
@[simp] theorem fza {K} (a b:RT):Eh F C q m (.bool false) true a b env K bvs vs=b.nZ F ⟨C,q⟩ m env K bvs vs:=rfl
@[simp] theorem fAa {K} (a b:RT):Eh F C q m (.bool true) false a b env K bvs vs=b.nZ F ⟨C,q⟩ m env K bvs vs:=rfl
@[simp] theorem fya {K} (a b:RT):Eh F C q m (.bool false) false a b env K bvs vs=a.nZ F ⟨C,q⟩ m env K bvs vs:=rfl
@[simp] theorem YK (c:Option Value):HH C Q env c vs=∀w,C vs w->Q .nrm env w:=rfl
@[simp] theorem Zb (x y:HC) (c:Option Value):Sm F C x y Q env c vs=∀w,C vs w->iR F (c.getD undef) x y Q env w:=rfl
theorem kG {t:RT} {n:Nat} (C:List Value->World->Prop) (hC:C [] w.drew) (h:t.nZ F ⟨C,λ_ _=>undef⟩ n env (HH C Q) [] []):(HC.regq (.some n) t).wp F Q env w:= .inr (.inl ⟨n,rfl,⟨C,_⟩,hC,h⟩)
theorem HI {t:RT} {n:Nat} (C:List Value->World->Prop) (q:Nat->List Value->Value) (hC:C [] w.drew) (h:t.nZ F ⟨C,q⟩ n env (HH C Q) [] []):(HC.regq (.some n) t).wp F Q env w:= .inr (.inl ⟨n,rfl,⟨C,q⟩,hC,h⟩)
theorem Sn {t:RT} {n:Nat} {x y:HC} (C:List Value->World->Prop) (hC:C [] w.drew) (h:t.nZ F ⟨C,λ_ _=>undef⟩ n env (Sm F C x y Q) [] []):(HC.brq (.some n) t x y).wp F Q env w:= .inr (.inl ⟨n,rfl,⟨C,_⟩,hC,h⟩)
theorem sg {f:Nat} {args:List Value} {K:Value->List Value->Prop} (hb:bZ P f=true) (hq:F.qs.contains f=true) (hi:f∉F.ids) (h:∀vs' w,era m vs'=era m vs->C vs' w->ak P f args (λr w'=>r=q f args/\C vs' w') w) (hk:K (q f args) vs):tD F C q m (.call f) args vs K:=by refine .inl ⟨by simp only [FL,qcE,hq,Bool.not_true,Bool.and_false],q f args,λ_ vs' w he hw=> ?_,hk⟩;have e:(EO.mv (.call f) args)=callFunc f args.toArray:=rfl;rw [e,dJ hb];refine ⟨rfl,.inr ⟨hi,by simp,Calls.mono (h vs' w he hw) ?_⟩⟩;rintro e w' ⟨v,rfl,rfl,hC⟩;exact ⟨rfl,hC⟩
theorem bG {eo:EO} {args:List Value} {K:Value->List Value->Prop} (hm:FL F eo=true) (h:∀w,C vs w->aI P eo args (λv w'=>C (vs++ [v]) w') w) (hk:∀v,(∃w,C (vs++ [v]) w)->K v (vs++ [v])):tD F C q m eo args vs K:=by refine .inr ⟨hm,λhi w hw=> ?_,hk⟩;have:=h w hw hi;unfold gC at this;unfold j6;exact this
theorem pE {eo:EO} {args:List Value} {v:Value} {s:Sem Value} {K:Value->List Value->Prop} (he:eo.mv args=dU s) (hr:∀vs' w,era m vs'=era m vs->C vs' w->s.run P w= .ok v w) (hk:K v vs) (hm:FL F eo=false:=by rfl):tD F C q m eo args vs K:=by refine .inl ⟨hm,v,λ_ vs' w hera hw=> ?_,hk⟩;rw [he];simp only [dU,Sem.run_bind,hr vs' w hera hw,Result.andThen_ok,Sem.run_pure];exact ⟨rfl,rfl⟩
theorem au {a:Addr} {n:Nat} {v:Value} {K:Value->List Value->Prop} (hc:∀vs' w,era m vs'=era m vs->C vs' w->w.cell? a=some v) (hk:K v vs):tD F C q m (.ld false n) [.pointer (some a)] vs K:=
 pE (s:=tq false n (.pointer (some a))) rfl (λvs' w he hw=>by simp [tq,Instr.sureAddr,hc vs' w he hw]) hk
theorem ID {b off n:Nat} {us:List Value} {K:Value->List Value->Prop} (hc:∀vs' w,era m vs'=era m vs->C vs' w->∀j u,us[j]?=some u->w.cell? ⟨b,off+j,none⟩=some u) (hl:us.length=n) (hk:K (.agg us.toArray) vs):
  tD F C q m (.ld true n) [.pointer (some ⟨b,off,none⟩)] vs K:=by
 refine pE (s:=tq true n (.pointer (some ⟨b,off,none⟩))) rfl (λvs' w he hw=> ?_) hk;have:=run_loadCells_list (P:=P) w ⟨b,off,none⟩ us (by intro j v hj;rw [fu];exact hc vs' w he hw j v hj)
 rw [hl] at this;simp [tq,Instr.sureAddr,this]
end
end Go.HL
