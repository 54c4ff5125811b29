/-
  What the claim leans on, part 5 of 20. Conditions: as each theorem says.
-/
import Derived.Test.YtflblkahfegaoaaGreatSRMd
import Derived.Laws.StructEq
import Derived.ChangeKeysEq
set_option linter.unusedSimpArgs false
set_option linter.unusedVariables false
set_option maxRecDepth 4000
namespace Go.HL
section
variable {P:Program}
def wy (P:Program):List Field→Nat→Bool
 | [],_=>true
 |f::fs,o=>(f.name != "_")&&(f.offset==o)&&(match P.underlying f.type with|some (.int _)=>true|_=>false)&&wy P fs (o+1)
def WQ (xs:Array Value) (o:Nat) (as_:List Int):Prop:=∀j u,as_[j]?=some u→xs[o+j]?=some (.int .i64 u)
structure Vo (P:Program) (t:TypeId) (n:Nat):Prop where
 und:P.underlying t=some (.struct (P.fieldsOf t))
 stood:P.stoodInHeld t=false
 guard:P.eqGuardType P.depth t=false
 ints:wy P (P.fieldsOf t).toList 0=true
 len:(P.fieldsOf t).toList.length=n
structure XQ (P:Program) (t:TypeId) (n:Nat):Prop where
 elem:∃e k,P.underlying t=some (.array n e)∧(P.info? e).isSome=true∧P.underlying e=some (.int k)∧P.cellsOf e=1
 guard:P.eqGuardType P.depth t=false
variable {K:Value→World→Prop} {w w0:World} {A:aj} {C:World→Prop}
theorem HX {eo:EO} {vs:List Value} {v:Value} {s:Sem Value} (he:eo.lZ vs=dw s) (hr:s.run P w= .ok v w):C4 P C eo vs v w:=by
 intro _
 rw [he]
 simp only [dw,Sem.run_bind,hr,Result.andThen_ok,Sem.run_pure]
 exact ⟨rfl,rfl⟩
theorem nd {b off m:Nat} {vs:List Value} {K:Value→Prop} (hc:∀w,C w→∀j u,vs[j]?=some u→w.cell? ⟨b,off+j,none⟩=some u) (hl:vs.length=m) (hk:K (.agg vs.toArray)):
  GF P C (.ld true m) [.pointer (some ⟨b,off,none⟩)] K:=by
 refine ⟨_,fun w hw=>HX (s:=su true m (.pointer (some ⟨b,off,none⟩))) rfl ?_,hk⟩
 have:=run_loadCells_list (P:=P) w ⟨b,off,none⟩ vs (by
  intro j v hj
  rw [eB];exact hc w hw j v hj)
 rw [hl] at this
 simp [su,Instr.sureAddr,this]
theorem EE {A B:aj} {e size n:Nat} {v:Value} {xs:List Value} (s:St w0 A w) (h:A=B*own e size v n xs):Row w0 A v n size xs:=(bG (s.to h)).mono fun w s=>s.to h
theorem ff {F:aj} {t ty e size bytes:Nat} {z v v2:Value} {n m:Nat} {xs news:List Value} (s:St w0 (F*own e size v n xs) w) (h:Row w0 (F*own e size v n xs) v2 m size news)
  (h1:∀u∈news,u.oneCell'=true) (hsz:0<size) (hz:z.cells.size=size) (hmax:n+m≤maxLen) (hb:(n+m)*bytes≤140737488355328)
  (hk:∀v' w',St w0 (F*own e size v' (n+m) (xs++news)) w'→K v' w'):aE P (.app t ty e size bytes z) [v,v2] K w:=by
 obtain ⟨hl,a,cap,rfl,hn,hc⟩:=h
 cases a with
 |none=>
  rcases hc with rfl|⟨g,o,h,_⟩
  ·have:news= []:=List.eq_nil_of_length_eq_zero (by simpa using hl)
   subst this
   obtain ⟨b,c,rfl,hle,_⟩:=s.aq
   refine A4 hle (hk _ _ ?_)
   simpa using s
  ·cases h
 |some a=>
  refine bh s hl (fun j u hu=> ?_) h1 hsz hz hmax hb hk
  rcases hc with rfl|⟨g,o,h,hc⟩
  ·have:news= []:=List.eq_nil_of_length_eq_zero (by simpa using hl)
   subst this
   simp at hu
  ·cases h
   rw [eB]
   exact hc w s j u hu
end
@[simp] theorem eda {P:Program} {F:PF P} {C:World→Prop} {env bvs:List Value} {K} (a b:RT):Ar F C (.bool false) false a b env K bvs=a.mQ F C env K bvs:=rfl
@[simp] theorem efa {P:Program} {F:PF P} {C:World→Prop} {env bvs:List Value} {K} (a b:RT):Ar F C (.bool true) false a b env K bvs=b.mQ F C env K bvs:=rfl
section
variable {P:Program} {F:PF P} {env bvs:List Value} {w:World} {Q:EX→List Value→World→Prop} {C:List Value→World→Prop} {q:Nat→List Value→Value} {m:Nat} {vs:List Value}
def sH (F:PF P) (C:List Value→World→Prop) (q:Nat→List Value→Value) (m:Nat) (eo:EO) (args vs:List Value) (K:Value→List Value→Prop):Prop:=
 (Ef F eo=false∧∃v,IK F ⟨C,q⟩ m eo args vs v∧K v vs)∨(Ef F eo=true∧IE P ⟨C,q⟩ eo args vs∧∀v,(∃w,C (vs++ [v]) w)→K v (vs++ [v]))
def PQ (F:PF P) (C:List Value→World→Prop) (q:Nat→List Value→Value) (m:Nat) (env:List Value) (K:List Value→Option Value→List Value→Prop) (k:RT) (bvs:List Value) (v:Value) (vs:List Value):Prop:=k.l0 F ⟨C,q⟩ m env K (bvs++ [v]) vs
def CZ (F:PF P) (C:List Value→World→Prop) (q:Nat→List Value→Value) (m:Nat) (c:Value) (v:Bool) (a b:RT) (env:List Value) (K:List Value→Option Value→List Value→Prop) (bvs vs:List Value):Prop:=if oq c v=true then a.l0 F ⟨C,q⟩ m env K bvs vs else b.l0 F ⟨C,q⟩ m env K bvs vs
def Gb (C:List Value→World→Prop) (Q:EX→List Value→World→Prop) (env:List Value) (_:Option Value) (vs:List Value):Prop:=∀w,C vs w→Q .nrm env w
def QH (F:PF P) (C:List Value→World→Prop) (x y:HC) (Q:EX→List Value→World→Prop) (env:List Value) (c:Option Value) (vs:List Value):Prop:=∀w,C vs w→gR F (c.getD undef) x y Q env w
@[simp] theorem dTa {K} (sets:List (Nat×SE)) (c:Option SE):(RT.done sets c).l0 F ⟨C,q⟩ m env K bvs vs=K (cC F env bvs sets env) (c.map (SE.val F env bvs)) vs:=rfl
@[simp] theorem eya {K} (g:Option (SE×Bool)) (p:PO) (xs:de) (k:RT):(RT.chk g p xs k).l0 F ⟨C,q⟩ m env K bvs vs=((bx F env bvs g→p.ok F (de.dy F env bvs xs))∧k.l0 F ⟨C,q⟩ m env K bvs vs):=rfl
@[simp] theorem eAa {K} (g:Option (SE×Bool)) (c:SE) (k:RT):(RT.isb g c k).l0 F ⟨C,q⟩ m env K bvs vs=((bx F env bvs g→∃b,SE.val F env bvs c= .bool b)∧k.l0 F ⟨C,q⟩ m env K bvs vs):=rfl
@[simp] theorem eza {K} (eo:EO) (xs:de) (k:RT):(RT.eff eo xs k).l0 F ⟨C,q⟩ m env K bvs vs=sH F C q m eo (de.dy F env bvs xs) vs (PQ F C q m env K k bvs):=rfl
@[simp] theorem exa {K} (e:SE) (k:RT):(RT.fu e k).l0 F ⟨C,q⟩ m env K bvs vs=k.l0 F ⟨C,q⟩ m env K (bvs++ [SE.val F env bvs e]) vs:=rfl
@[simp] theorem eBa {K} (c:SE) (v:Bool) (a b:RT):(RT.ite c v a b).l0 F ⟨C,q⟩ m env K bvs vs=CZ F C q m (SE.val F env bvs c) v a b env K bvs vs:=rfl
@[simp] theorem VA {K} (k:RT) (v:Value):PQ F C q m env K k bvs v vs=k.l0 F ⟨C,q⟩ m env K (bvs++ [v]) vs:=rfl
@[simp] theorem eca {K} (a b:RT):CZ F C q m (.bool true) true a b env K bvs vs=a.l0 F ⟨C,q⟩ m env K bvs vs:=rfl
@[simp] theorem eaa {K} (a b:RT):CZ F C q m (.bool false) true a b env K bvs vs=b.l0 F ⟨C,q⟩ m env K bvs vs:=rfl
@[simp] theorem eba {K} (a b:RT):CZ F C q m (.bool true) false a b env K bvs vs=b.l0 F ⟨C,q⟩ m env K bvs vs:=rfl
@[simp] theorem d9a {K} (a b:RT):CZ F C q m (.bool false) false a b env K bvs vs=a.l0 F ⟨C,q⟩ m env K bvs vs:=rfl
@[simp] theorem Xx (c:Option Value):Gb C Q env c vs=∀w,C vs w→Q .nrm env w:=rfl
@[simp] theorem XX (x y:HC) (c:Option Value):QH F C x y Q env c vs=∀w,C vs w→gR F (c.getD undef) x y Q env w:=rfl
theorem jw {t:RT} {n:Nat} (C:List Value→World→Prop) (hC:C [] w.drew) (h:t.l0 F ⟨C,fun _ _=>undef⟩ n env (Gb C Q) [] []):(HC.regq (.some n) t).wp F Q env w:= .inr (.inl ⟨n,rfl,⟨C,_⟩,hC,h⟩)
theorem Gc {t:RT} {n:Nat} (C:List Value→World→Prop) (q:Nat→List Value→Value) (hC:C [] w.drew) (h:t.l0 F ⟨C,q⟩ n env (Gb C Q) [] []):(HC.regq (.some n) t).wp F Q env w:= .inr (.inl ⟨n,rfl,⟨C,q⟩,hC,h⟩)
theorem QJ {t:RT} {n:Nat} {x y:HC} (C:List Value→World→Prop) (hC:C [] w.drew) (h:t.l0 F ⟨C,fun _ _=>undef⟩ n env (QH F C x y Q) [] []):(HC.brq (.some n) t x y).wp F Q env w:= .inr (.inl ⟨n,rfl,⟨C,_⟩,hC,h⟩)
theorem rz {f:Nat} {args:List Value} {K:Value→List Value→Prop} (hb:bP P f=true) (hq:F.qs.contains f=true) (hi:f∉F.ids) (h:∀vs' w,era m vs'=era m vs→C vs' w→ai P f args (fun r w'=>r=q f args∧C vs' w') w) (hk:K (q f args) vs):sH F C q m (.call f) args vs K:=by
 refine .inl ⟨by simp only [Ef,qcE,hq,Bool.not_true,Bool.and_false],q f args,fun _ vs' w he hw=> ?_,hk⟩
 have e:(EO.lZ (.call f) args)=callFunc f args.toArray:=rfl
 rw [e,dh hb]
 refine ⟨rfl,.inr ⟨hi,by simp,Calls.mono (h vs' w he hw) ?_⟩⟩
 rintro e w' ⟨v,rfl,rfl,hC⟩
 exact ⟨rfl,hC⟩
theorem bm {eo:EO} {args:List Value} {K:Value→List Value→Prop} (hm:Ef F eo=true) (h:∀w,C vs w→aE P eo args (fun v w'=>C (vs++ [v]) w') w) (hk:∀v,(∃w,C (vs++ [v]) w)→K v (vs++ [v])):sH F C q m eo args vs K:=by
 refine .inr ⟨hm,fun hi w hw=> ?_,hk⟩
 have:=h w hw hi
 unfold fB at this
 unfold jt
 exact this
theorem oY {eo:EO} {args:List Value} {v:Value} {s:Sem Value} {K:Value→List Value→Prop} (he:eo.lZ args=dw s) (hr:∀vs' w,era m vs'=era m vs→C vs' w→s.run P w= .ok v w) (hk:K v vs) (hm:Ef F eo=false:=by rfl):sH F C q m eo args vs K:=by
 refine .inl ⟨hm,v,fun _ vs' w hera hw=> ?_,hk⟩
 rw [he]
 simp only [dw,Sem.run_bind,hr vs' w hera hw,Result.andThen_ok,Sem.run_pure]
 exact ⟨rfl,rfl⟩
theorem an {a:Addr} {n:Nat} {v:Value} {K:Value→List Value→Prop} (hc:∀vs' w,era m vs'=era m vs→C vs' w→w.cell? a=some v) (hk:K v vs):sH F C q m (.ld false n) [.pointer (some a)] vs K:=
 oY (s:=su false n (.pointer (some a))) rfl (fun vs' w he hw=>by simp [su,Instr.sureAddr,hc vs' w he hw]) hk
theorem G4 {b off n:Nat} {us:List Value} {K:Value→List Value→Prop} (hc:∀vs' w,era m vs'=era m vs→C vs' w→∀j u,us[j]?=some u→w.cell? ⟨b,off+j,none⟩=some u) (hl:us.length=n) (hk:K (.agg us.toArray) vs):
  sH F C q m (.ld true n) [.pointer (some ⟨b,off,none⟩)] vs K:=by
 refine oY (s:=su true n (.pointer (some ⟨b,off,none⟩))) rfl (fun vs' w he hw=> ?_) hk
 have:=run_loadCells_list (P:=P) w ⟨b,off,none⟩ us (by
  intro j v hj
  rw [eB];exact hc vs' w he hw j v hj)
 rw [hl] at this
 simp [su,Instr.sureAddr,this]
end
end Go.HL
