/- Part 4. -/
import Derived.Test.YtpldhemgcoimaaaGreatMFMc
import Derived.Laws.StructEq
import Derived.ChangeKeysEq
set_option linter.unusedSimpArgs false
set_option linter.unusedVariables false
set_option maxRecDepth 4000
namespace Go.HL
section
variable {P:Program}
def xF (P:Program):List Field->Nat->Bool
 | [],_=>true
 |f::fs,o=>(f.name != "_")&&(f.offset==o)&&(match P.underlying f.type with|some (.int _)=>true|_=>false)&&xF P fs (o+1)
def Yf (xs:Array Value) (o:Nat) (as_:List Int):Prop:=∀j u,as_[j]? =some u->xs[o+j]? =some (.int .i64 u)
structure WM (P:Program) (t:TypeId) (n:Nat):Prop where
 und:P.underlying t=some (.struct (P.fieldsOf t))
 stood:P.stoodInHeld t=false
 guard:P.eqGuardType P.depth t=false
 ints:xF P (P.fieldsOf t).toList 0=true
 len:(P.fieldsOf t).toList.length=n
structure Yv (P:Program) (t:TypeId) (n:Nat):Prop where
 elem:∃e k,P.underlying t=some (.array n e)/\(P.info? e).isSome=true/\P.underlying e=some (.int k)/\P.cellsOf e=1
 guard:P.eqGuardType P.depth t=false
variable {K:Value->World->Prop} {w w0:World} {A:ak} {C:World->Prop}
theorem Jd {eo:EO} {vs:List Value} {v:Value} {s:Sem Value} (he:eo.lY vs=dx s) (hr:s.run P w= .ok v w):DW P C eo vs v w:=by intro _;rw [he];simp only [dx,Sem.run_bind,hr,Result.andThen_ok,Sem.run_pure];exact ⟨rfl,rfl⟩
theorem nq {b off m:Nat} {vs:List Value} {K:Value->Prop} (hc:∀w,C w->∀j u,vs[j]? =some u->w.cell? ⟨b,off+j,none⟩=some u) (hl:vs.length=m) (hk:K (.agg vs.toArray)):
  DU P C (.ld true m) [.pointer (some ⟨b,off,none⟩)] K:=by
 refine ⟨_,λw hw=>Jd (s:=tt true m (.pointer (some ⟨b,off,none⟩))) rfl ?_,hk⟩;have:=run_loadCells_list (P:=P) w ⟨b,off,none⟩ vs (by intro j v hj;rw [eQ];exact hc w hw j v hj)
 rw [hl] at this;simp [tt,Instr.sureAddr,this]
theorem vL {A B:ak} {e size n:Nat} {v:Value} {xs:List Value} (s:St w0 A w) (h:A=B*own e size v n xs):Row w0 A v n size xs:=(nH (s.to h)).mono λw s=>s.to h
theorem jr {F:ak} {t ty e size bytes:Nat} {z v v2:Value} {n m:Nat} {xs news:List Value} (s:St w0 (F*own e size v n xs) w) (h:Row w0 (F*own e size v n xs) v2 m size news)
  (h1:∀u∈news,u.oneCell'=true) (hsz:0<size) (hz:z.cells.size=size) (hmax:n+m<=maxLen) (hb:(n+m)*bytes<=140737488355328)
  (hk:∀v' w',St w0 (F*own e size v' (n+m) (xs++news)) w'->K v' w'):aA P (.app t ty e size bytes z) [v,v2] K w:=by
 obtain ⟨hl,a,cap,rfl,hn,hc⟩:=h;cases a with
 |none=>
  rcases hc with rfl|⟨g,o,h,_⟩
  ·have:news= []:=List.eq_nil_of_length_eq_zero (by simpa using hl)
   subst this;obtain ⟨b,c,rfl,hle,_⟩:=s.ax;refine BU hle (hk _ _ ?_)
   simpa using s
  ·cases h
 |some a=>
  refine bT s hl (λj u hu=> ?_) h1 hsz hz hmax hb hk;rcases hc with rfl|⟨g,o,h,hc⟩
  ·have:news= []:=List.eq_nil_of_length_eq_zero (by simpa using hl)
   subst this;simp at hu
  ·cases h
   rw [eQ];exact hc w s j u hu
end
@[simp] theorem a2a {P:Program} {F:PF P} {C:World->Prop} {env bvs:List Value} {K} (a b:RT):wx F C (.bool false) false a b env K bvs=a.mZ F C env K bvs:=rfl
@[simp] theorem a4a {P:Program} {F:PF P} {C:World->Prop} {env bvs:List Value} {K} (a b:RT):wx F C (.bool true) false a b env K bvs=b.mZ F C env K bvs:=rfl
section
variable {P:Program} {F:PF P} {env bvs:List Value} {w:World} {Q:EX->List Value->World->Prop} {C:List Value->World->Prop} {q:Nat->List Value->Value} {m:Nat} {vs:List Value}
def tD (F:PF P) (C:List Value->World->Prop) (q:Nat->List Value->Value) (m:Nat) (eo:EO) (args vs:List Value) (K:Value->List Value->Prop):Prop:=
 (Fj F eo=false/\∃v,JP F ⟨C,q⟩ m eo args vs v/\K v vs)\/(Fj F eo=true/\JL P ⟨C,q⟩ eo args vs/\∀v,(∃w,C (vs++ [v]) w)->K v (vs++ [v]))
def RA (F:PF P) (C:List Value->World->Prop) (q:Nat->List Value->Value) (m:Nat) (env:List Value) (K:List Value->Option Value->List Value->Prop) (k:RT) (bvs:List Value) (v:Value) (vs:List Value):Prop:=k.nQ F ⟨C,q⟩ m env K (bvs++ [v]) vs
def DV (F:PF P) (C:List Value->World->Prop) (q:Nat->List Value->Value) (m:Nat) (c:Value) (v:Bool) (a b:RT) (env:List Value) (K:List Value->Option Value->List Value->Prop) (bvs vs:List Value):Prop:=if oa c v=true then a.nQ F ⟨C,q⟩ m env K bvs vs else b.nQ F ⟨C,q⟩ m env K bvs vs
def Hr (C:List Value->World->Prop) (Q:EX->List Value->World->Prop) (env:List Value) (_:Option Value) (vs:List Value):Prop:=∀w,C vs w->Q .nrm env w
def Sd (F:PF P) (C:List Value->World->Prop) (x y:HC) (Q:EX->List Value->World->Prop) (env:List Value) (c:Option Value) (vs:List Value):Prop:=∀w,C vs w->gD F (c.getD undef) x y Q env w
@[simp] theorem aAa {K} (sets:List (Nat×SE)) (c:Option SE):(RT.done sets c).nQ F ⟨C,q⟩ m env K bvs vs=K (cK F env bvs sets env) (c.map (SE.val F env bvs)) vs:=rfl
@[simp] theorem bqa {K} (g:Option (SE×Bool)) (p:PO) (xs:di) (k:RT):(RT.chk g p xs k).nQ F ⟨C,q⟩ m env K bvs vs=((bD F env bvs g->p.ok F (di.dA F env bvs xs))/\k.nQ F ⟨C,q⟩ m env K bvs vs):=rfl
@[simp] theorem bsa {K} (g:Option (SE×Bool)) (c:SE) (k:RT):(RT.isb g c k).nQ F ⟨C,q⟩ m env K bvs vs=((bD F env bvs g->∃b,SE.val F env bvs c= .bool b)/\k.nQ F ⟨C,q⟩ m env K bvs vs):=rfl
@[simp] theorem bra {K} (eo:EO) (xs:di) (k:RT):(RT.eff eo xs k).nQ F ⟨C,q⟩ m env K bvs vs=tD F C q m eo (di.dA F env bvs xs) vs (RA F C q m env K k bvs):=rfl
@[simp] theorem bpa {K} (e:SE) (k:RT):(RT.jK e k).nQ F ⟨C,q⟩ m env K bvs vs=k.nQ F ⟨C,q⟩ m env K (bvs++ [SE.val F env bvs e]) vs:=rfl
@[simp] theorem bta {K} (c:SE) (v:Bool) (a b:RT):(RT.ite c v a b).nQ F ⟨C,q⟩ m env K bvs vs=DV F C q m (SE.val F env bvs c) v a b env K bvs vs:=rfl
@[simp] theorem W5 {K} (k:RT) (v:Value):RA F C q m env K k bvs v vs=k.nQ F ⟨C,q⟩ m env K (bvs++ [v]) vs:=rfl
@[simp] theorem a1a {K} (a b:RT):DV F C q m (.bool true) true a b env K bvs vs=a.nQ F ⟨C,q⟩ m env K bvs vs:=rfl
@[simp] theorem aZa {K} (a b:RT):DV F C q m (.bool false) true a b env K bvs vs=b.nQ F ⟨C,q⟩ m env K bvs vs:=rfl
@[simp] theorem a0a {K} (a b:RT):DV F C q m (.bool true) false a b env K bvs vs=b.nQ F ⟨C,q⟩ m env K bvs vs:=rfl
@[simp] theorem aYa {K} (a b:RT):DV F C q m (.bool false) false a b env K bvs vs=a.nQ F ⟨C,q⟩ m env K bvs vs:=rfl
@[simp] theorem Yj (c:Option Value):Hr C Q env c vs=∀w,C vs w->Q .nrm env w:=rfl
@[simp] theorem YI (x y:HC) (c:Option Value):Sd F C x y Q env c vs=∀w,C vs w->gD F (c.getD undef) x y Q env w:=rfl
theorem fH {t:RT} {n:Nat} (C:List Value->World->Prop) (hC:C [] w.drew) (h:t.nQ F ⟨C,λ_ _=>undef⟩ n env (Hr C Q) [] []):(HC.regq (.some n) t).wp F Q env w:= .inr (.inl ⟨n,rfl,⟨C,_⟩,hC,h⟩)
theorem Hs {t:RT} {n:Nat} (C:List Value->World->Prop) (q:Nat->List Value->Value) (hC:C [] w.drew) (h:t.nQ F ⟨C,q⟩ n env (Hr C Q) [] []):(HC.regq (.some n) t).wp F Q env w:= .inr (.inl ⟨n,rfl,⟨C,q⟩,hC,h⟩)
theorem Sf {t:RT} {n:Nat} {x y:HC} (C:List Value->World->Prop) (hC:C [] w.drew) (h:t.nQ F ⟨C,λ_ _=>undef⟩ n env (Sd F C x y Q) [] []):(HC.brq (.some n) t x y).wp F Q env w:= .inr (.inl ⟨n,rfl,⟨C,_⟩,hC,h⟩)
theorem sd {f:Nat} {args:List Value} {K:Value->List Value->Prop} (hb:bP P f=true) (hq:F.qs.contains f=true) (hi:f∉F.ids) (h:∀vs' w,era m vs'=era m vs->C vs' w->aj P f args (λr w'=>r=q f args/\C vs' w') w) (hk:K (q f args) vs):tD F C q m (.call f) args vs K:=by refine .inl ⟨by simp only [Fj,qcE,hq,Bool.not_true,Bool.and_false],q f args,λ_ vs' w he hw=> ?_,hk⟩;have e:(EO.lY (.call f) args)=callFunc f args.toArray:=rfl;rw [e,dn hb];refine ⟨rfl,.inr ⟨hi,by simp,Calls.mono (h vs' w he hw) ?_⟩⟩;rintro e w' ⟨v,rfl,rfl,hC⟩;exact ⟨rfl,hC⟩
theorem aO {eo:EO} {args:List Value} {K:Value->List Value->Prop} (hm:Fj F eo=true) (h:∀w,C vs w->aA P eo args (λv w'=>C (vs++ [v]) w') w) (hk:∀v,(∃w,C (vs++ [v]) w)->K v (vs++ [v])):tD F C q m eo args vs K:=by refine .inr ⟨hm,λhi w hw=> ?_,hk⟩;have:=h w hw hi;unfold fT at this;unfold jz;exact this
theorem pf {eo:EO} {args:List Value} {v:Value} {s:Sem Value} {K:Value->List Value->Prop} (he:eo.lY args=dx s) (hr:∀vs' w,era m vs'=era m vs->C vs' w->s.run P w= .ok v w) (hk:K v vs) (hm:Fj F eo=false:=by rfl):tD F C q m eo args vs K:=by refine .inl ⟨hm,v,λ_ vs' w hera hw=> ?_,hk⟩;rw [he];simp only [dx,Sem.run_bind,hr vs' w hera hw,Result.andThen_ok,Sem.run_pure];exact ⟨rfl,rfl⟩
theorem al {a:Addr} {n:Nat} {v:Value} {K:Value->List Value->Prop} (hc:∀vs' w,era m vs'=era m vs->C vs' w->w.cell? a=some v) (hk:K v vs):tD F C q m (.ld false n) [.pointer (some a)] vs K:=
 pf (s:=tt false n (.pointer (some a))) rfl (λvs' w he hw=>by simp [tt,Instr.sureAddr,hc vs' w he hw]) hk
theorem qo {b off n:Nat} {us:List Value} {K:Value->List Value->Prop} (hc:∀vs' w,era m vs'=era m vs->C vs' w->∀j u,us[j]? =some u->w.cell? ⟨b,off+j,none⟩=some u) (hl:us.length=n) (hk:K (.agg us.toArray) vs):
  tD F C q m (.ld true n) [.pointer (some ⟨b,off,none⟩)] vs K:=by
 refine pf (s:=tt true n (.pointer (some ⟨b,off,none⟩))) rfl (λvs' w he hw=> ?_) hk;have:=run_loadCells_list (P:=P) w ⟨b,off,none⟩ us (by intro j v hj;rw [eQ];exact hc vs' w he hw j v hj)
 rw [hl] at this;simp [tt,Instr.sureAddr,this]
end
end Go.HL
