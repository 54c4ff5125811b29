/- Part 4. -/
import Derived.Test.YtpldhemgcoimaaaGreatMEMc
import Derived.Laws.StructEq
import Derived.ChangeKeysEq
set_option linter.unusedSimpArgs false
set_option linter.unusedVariables false
set_option maxRecDepth 4000
namespace Go.HL
section
variable {P:Program}
def xU (P:Program):List Field->Nat->Bool
 | [],_=>true
 |f::fs,o=>(f.name != "_")&&(f.offset==o)&&(match P.underlying f.type with|some (.int _)=>true|_=>false)&&xU P fs (o+1)
def Yy (xs:Array Value) (o:Nat) (as_:List Int):Prop:=∀j u,as_[j]? =some u->xs[o+j]? =some (.int .i64 u)
structure Xc (P:Program) (t:TypeId) (n:Nat):Prop where
 und:P.underlying t=some (.struct (P.fieldsOf t))
 stood:P.stoodInHeld t=false
 guard:P.eqGuardType P.depth t=false
 ints:xU P (P.fieldsOf t).toList 0=true
 len:(P.fieldsOf t).toList.length=n
structure YP (P:Program) (t:TypeId) (n:Nat):Prop where
 elem:∃e k,P.underlying t=some (.array n e)/\(P.info? e).isSome=true/\P.underlying e=some (.int k)/\P.cellsOf e=1
 guard:P.eqGuardType P.depth t=false
variable {K:Value->World->Prop} {w w0:World} {A:ak} {C:World->Prop}
theorem Jt {eo:EO} {vs:List Value} {v:Value} {s:Sem Value} (he:eo.mg vs=dB s) (hr:s.run P w= .ok v w):Ed P C eo vs v w:=by intro _;rw [he];simp only [dB,Sem.run_bind,hr,Result.andThen_ok,Sem.run_pure];exact ⟨rfl,rfl⟩
theorem nE {b off m:Nat} {vs:List Value} {K:Value->Prop} (hc:∀w,C w->∀j u,vs[j]? =some u->w.cell? ⟨b,off+j,none⟩=some u) (hl:vs.length=m) (hk:K (.agg vs.toArray)):
  Eb P C (.ld true m) [.pointer (some ⟨b,off,none⟩)] K:=by
 refine ⟨_,λw hw=>Jt (s:=tK true m (.pointer (some ⟨b,off,none⟩))) rfl ?_,hk⟩;have:=run_loadCells_list (P:=P) w ⟨b,off,none⟩ vs (by intro j v hj;rw [eZ];exact hc w hw j v hj)
 rw [hl] at this;simp [tK,Instr.sureAddr,this]
theorem ri {A B:ak} {e size n:Nat} {v:Value} {xs:List Value} (s:St w0 A w) (h:A=B*own e size v n xs):Row w0 A v n size xs:=(nR (s.to h)).mono λw s=>s.to h
theorem jw {F:ak} {t ty e size bytes:Nat} {z v v2:Value} {n m:Nat} {xs news:List Value} (s:St w0 (F*own e size v n xs) w) (h:Row w0 (F*own e size v n xs) v2 m size news)
  (h1:∀u∈news,u.oneCell'=true) (hsz:0<size) (hz:z.cells.size=size) (hmax:n+m<=maxLen) (hb:(n+m)*bytes<=140737488355328)
  (hk:∀v' w',St w0 (F*own e size v' (n+m) (xs++news)) w'->K v' w'):aA P (.app t ty e size bytes z) [v,v2] K w:=by
 obtain ⟨hl,a,cap,rfl,hn,hc⟩:=h;cases a with
 |none=>
  rcases hc with rfl|⟨g,o,h,_⟩
  ·have:news= []:=List.eq_nil_of_length_eq_zero (by simpa using hl)
   subst this;obtain ⟨b,c,rfl,hle,_⟩:=s.ax;refine Cb hle (hk _ _ ?_)
   simpa using s
  ·cases h
 |some a=>
  refine bX s hl (λj u hu=> ?_) h1 hsz hz hmax hb hk;rcases hc with rfl|⟨g,o,h,hc⟩
  ·have:news= []:=List.eq_nil_of_length_eq_zero (by simpa using hl)
   subst this;simp at hu
  ·cases h
   rw [eZ];exact hc w s j u hu
end
@[simp] theorem bra {P:Program} {F:PF P} {C:World->Prop} {env bvs:List Value} {K} (a b:RT):wR F C (.bool false) false a b env K bvs=a.np F C env K bvs:=rfl
@[simp] theorem bta {P:Program} {F:PF P} {C:World->Prop} {env bvs:List Value} {K} (a b:RT):wR F C (.bool true) false a b env K bvs=b.np F C env K bvs:=rfl
section
variable {P:Program} {F:PF P} {env bvs:List Value} {w:World} {Q:EX->List Value->World->Prop} {C:List Value->World->Prop} {q:Nat->List Value->Value} {m:Nat} {vs:List Value}
def tV (F:PF P) (C:List Value->World->Prop) (q:Nat->List Value->Value) (m:Nat) (eo:EO) (args vs:List Value) (K:Value->List Value->Prop):Prop:=
 (FA F eo=false/\∃v,J8 F ⟨C,q⟩ m eo args vs v/\K v vs)\/(FA F eo=true/\J5 P ⟨C,q⟩ eo args vs/\∀v,(∃w,C (vs++ [v]) w)->K v (vs++ [v]))
def RP (F:PF P) (C:List Value->World->Prop) (q:Nat->List Value->Value) (m:Nat) (env:List Value) (K:List Value->Option Value->List Value->Prop) (k:RT) (bvs:List Value) (v:Value) (vs:List Value):Prop:=k.oc F ⟨C,q⟩ m env K (bvs++ [v]) vs
def Ec (F:PF P) (C:List Value->World->Prop) (q:Nat->List Value->Value) (m:Nat) (c:Value) (v:Bool) (a b:RT) (env:List Value) (K:List Value->Option Value->List Value->Prop) (bvs vs:List Value):Prop:=if ov c v=true then a.oc F ⟨C,q⟩ m env K bvs vs else b.oc F ⟨C,q⟩ m env K bvs vs
def HF (C:List Value->World->Prop) (Q:EX->List Value->World->Prop) (env:List Value) (_:Option Value) (vs:List Value):Prop:=∀w,C vs w->Q .nrm env w
def Sz (F:PF P) (C:List Value->World->Prop) (x y:HC) (Q:EX->List Value->World->Prop) (env:List Value) (c:Option Value) (vs:List Value):Prop:=∀w,C vs w->gG F (c.getD undef) x y Q env w
@[simp] theorem aZa {K} (sets:List (Nat×SE)) (c:Option SE):(RT.done sets c).oc F ⟨C,q⟩ m env K bvs vs=K (cV F env bvs sets env) (c.map (SE.val F env bvs)) vs:=rfl
@[simp] theorem bOa {K} (g:Option (SE×Bool)) (p:PO) (xs:dt) (k:RT):(RT.chk g p xs k).oc F ⟨C,q⟩ m env K bvs vs=((bI F env bvs g->p.ok F (dt.dF F env bvs xs))/\k.oc F ⟨C,q⟩ m env K bvs vs):=rfl
@[simp] theorem bQa {K} (g:Option (SE×Bool)) (c:SE) (k:RT):(RT.isb g c k).oc F ⟨C,q⟩ m env K bvs vs=((bI F env bvs g->∃b,SE.val F env bvs c= .bool b)/\k.oc F ⟨C,q⟩ m env K bvs vs):=rfl
@[simp] theorem bPa {K} (eo:EO) (xs:dt) (k:RT):(RT.eff eo xs k).oc F ⟨C,q⟩ m env K bvs vs=tV F C q m eo (dt.dF F env bvs xs) vs (RP F C q m env K k bvs):=rfl
@[simp] theorem bNa {K} (e:SE) (k:RT):(RT.jQ e k).oc F ⟨C,q⟩ m env K bvs vs=k.oc F ⟨C,q⟩ m env K (bvs++ [SE.val F env bvs e]) vs:=rfl
@[simp] theorem bRa {K} (c:SE) (v:Bool) (a b:RT):(RT.ite c v a b).oc F ⟨C,q⟩ m env K bvs vs=Ec F C q m (SE.val F env bvs c) v a b env K bvs vs:=rfl
@[simp] theorem Xo {K} (k:RT) (v:Value):RP F C q m env K k bvs v vs=k.oc F ⟨C,q⟩ m env K (bvs++ [v]) vs:=rfl
@[simp] theorem bqa {K} (a b:RT):Ec F C q m (.bool true) true a b env K bvs vs=a.oc F ⟨C,q⟩ m env K bvs vs:=rfl
@[simp] theorem boa {K} (a b:RT):Ec F C q m (.bool false) true a b env K bvs vs=b.oc F ⟨C,q⟩ m env K bvs vs:=rfl
@[simp] theorem bpa {K} (a b:RT):Ec F C q m (.bool true) false a b env K bvs vs=b.oc F ⟨C,q⟩ m env K bvs vs:=rfl
@[simp] theorem bna {K} (a b:RT):Ec F C q m (.bool false) false a b env K bvs vs=a.oc F ⟨C,q⟩ m env K bvs vs:=rfl
@[simp] theorem YC (c:Option Value):HF C Q env c vs=∀w,C vs w->Q .nrm env w:=rfl
@[simp] theorem Y1 (x y:HC) (c:Option Value):Sz F C x y Q env c vs=∀w,C vs w->gG F (c.getD undef) x y Q env w:=rfl
theorem fK {t:RT} {n:Nat} (C:List Value->World->Prop) (hC:C [] w.drew) (h:t.oc F ⟨C,λ_ _=>undef⟩ n env (HF C Q) [] []):(HC.regq (.some n) t).wp F Q env w:= .inr (.inl ⟨n,rfl,⟨C,_⟩,hC,h⟩)
theorem HG {t:RT} {n:Nat} (C:List Value->World->Prop) (q:Nat->List Value->Value) (hC:C [] w.drew) (h:t.oc F ⟨C,q⟩ n env (HF C Q) [] []):(HC.regq (.some n) t).wp F Q env w:= .inr (.inl ⟨n,rfl,⟨C,q⟩,hC,h⟩)
theorem SB {t:RT} {n:Nat} {x y:HC} (C:List Value->World->Prop) (hC:C [] w.drew) (h:t.oc F ⟨C,λ_ _=>undef⟩ n env (Sz F C x y Q) [] []):(HC.brq (.some n) t x y).wp F Q env w:= .inr (.inl ⟨n,rfl,⟨C,_⟩,hC,h⟩)
theorem sx {f:Nat} {args:List Value} {K:Value->List Value->Prop} (hb:bT P f=true) (hq:F.qs.contains f=true) (hi:f∉F.ids) (h:∀vs' w,era m vs'=era m vs->C vs' w->aj P f args (λr w'=>r=q f args/\C vs' w') w) (hk:K (q f args) vs):tV F C q m (.call f) args vs K:=by refine .inl ⟨by simp only [FA,qcE,hq,Bool.not_true,Bool.and_false],q f args,λ_ vs' w he hw=> ?_,hk⟩;have e:(EO.mg (.call f) args)=callFunc f args.toArray:=rfl;rw [e,dw hb];refine ⟨rfl,.inr ⟨hi,by simp,Calls.mono (h vs' w he hw) ?_⟩⟩;rintro e w' ⟨v,rfl,rfl,hC⟩;exact ⟨rfl,hC⟩
theorem aO {eo:EO} {args:List Value} {K:Value->List Value->Prop} (hm:FA F eo=true) (h:∀w,C vs w->aA P eo args (λv w'=>C (vs++ [v]) w') w) (hk:∀v,(∃w,C (vs++ [v]) w)->K v (vs++ [v])):tV F C q m eo args vs K:=by refine .inr ⟨hm,λhi w hw=> ?_,hk⟩;have:=h w hw hi;unfold fV at this;unfold jE;exact this
theorem pC {eo:EO} {args:List Value} {v:Value} {s:Sem Value} {K:Value->List Value->Prop} (he:eo.mg args=dB s) (hr:∀vs' w,era m vs'=era m vs->C vs' w->s.run P w= .ok v w) (hk:K v vs) (hm:FA F eo=false:=by rfl):tV F C q m eo args vs K:=by refine .inl ⟨hm,v,λ_ vs' w hera hw=> ?_,hk⟩;rw [he];simp only [dB,Sem.run_bind,hr vs' w hera hw,Result.andThen_ok,Sem.run_pure];exact ⟨rfl,rfl⟩
theorem al {a:Addr} {n:Nat} {v:Value} {K:Value->List Value->Prop} (hc:∀vs' w,era m vs'=era m vs->C vs' w->w.cell? a=some v) (hk:K v vs):tV F C q m (.ld false n) [.pointer (some a)] vs K:=
 pC (s:=tK false n (.pointer (some a))) rfl (λvs' w he hw=>by simp [tK,Instr.sureAddr,hc vs' w he hw]) hk
theorem qD {b off n:Nat} {us:List Value} {K:Value->List Value->Prop} (hc:∀vs' w,era m vs'=era m vs->C vs' w->∀j u,us[j]? =some u->w.cell? ⟨b,off+j,none⟩=some u) (hl:us.length=n) (hk:K (.agg us.toArray) vs):
  tV F C q m (.ld true n) [.pointer (some ⟨b,off,none⟩)] vs K:=by
 refine pC (s:=tK true n (.pointer (some ⟨b,off,none⟩))) rfl (λvs' w he hw=> ?_) hk;have:=run_loadCells_list (P:=P) w ⟨b,off,none⟩ us (by intro j v hj;rw [eZ];exact hc vs' w he hw j v hj)
 rw [hl] at this;simp [tK,Instr.sureAddr,this]
end
end Go.HL
