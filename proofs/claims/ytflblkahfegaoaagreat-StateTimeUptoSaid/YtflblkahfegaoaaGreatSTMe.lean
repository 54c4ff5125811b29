/- Part 5. -/
import Derived.Test.YtflblkahfegaoaaGreatSTMd
import Derived.Laws.StructEq
import Derived.ChangeKeysEq
set_option linter.unusedSimpArgs false
set_option linter.unusedVariables false
set_option maxRecDepth 4000
namespace Go.HL
section
variable {P:Program}
def wZ (P:Program):List Field→Nat→Bool
 | [],_=>true
 |f::fs,o=>(f.name != "_")&&(f.offset==o)&&(match P.underlying f.type with|some (.int _)=>true|_=>false)&&wZ P fs (o+1)
def XO (xs:Array Value) (o:Nat) (as_:List Int):Prop:=∀j u,as_[j]?=some u→xs[o+j]?=some (.int .i64 u)
structure Wg (P:Program) (t:TypeId) (n:Nat):Prop where
 und:P.underlying t=some (.struct (P.fieldsOf t))
 stood:P.stoodInHeld t=false
 guard:P.eqGuardType P.depth t=false
 ints:wZ P (P.fieldsOf t).toList 0=true
 len:(P.fieldsOf t).toList.length=n
structure Yr (P:Program) (t:TypeId) (n:Nat):Prop where
 elem:∃e k,P.underlying t=some (.array n e)∧(P.info? e).isSome=true∧P.underlying e=some (.int k)∧P.cellsOf e=1
 guard:P.eqGuardType P.depth t=false
variable {K:Value→World→Prop} {w w0:World} {A:al} {C:World→Prop}
theorem IZ {eo:EO} {vs:List Value} {v:Value} {s:Sem Value} (he:eo.ma vs=dC s) (hr:s.run P w= .ok v w):DR P C eo vs v w:=by
 intro _;rw [he];simp only [dC,Sem.run_bind,hr,Result.andThen_ok,Sem.run_pure];exact ⟨rfl,rfl⟩
theorem nq {b off m:Nat} {vs:List Value} {K:Value→Prop} (hc:∀w,C w→∀j u,vs[j]?=some u→w.cell? ⟨b,off+j,none⟩=some u) (hl:vs.length=m) (hk:K (.agg vs.toArray)):
  DP P C (.ld true m) [.pointer (some ⟨b,off,none⟩)] K:=by
 refine ⟨_,fun w hw=>IZ (s:=sK true m (.pointer (some ⟨b,off,none⟩))) rfl ?_,hk⟩;have:=run_loadCells_list (P:=P) w ⟨b,off,none⟩ vs (by
  intro j v hj;rw [eM];exact hc w hw j v hj)
 rw [hl] at this;simp [sK,Instr.sureAddr,this]
theorem Fu {A B:al} {e size n:Nat} {v:Value} {xs:List Value} (s:St w0 A w) (h:A=B*own e size v n xs):Row w0 A v n size xs:=(bF (s.to h)).mono fun w s=>s.to h
theorem fA {F:al} {t ty e size bytes:Nat} {z v v2:Value} {n m:Nat} {xs news:List Value} (s:St w0 (F*own e size v n xs) w) (h:Row w0 (F*own e size v n xs) v2 m size news)
  (h1:∀u∈news,u.oneCell'=true) (hsz:0<size) (hz:z.cells.size=size) (hmax:n+m≤maxLen) (hb:(n+m)*bytes≤140737488355328)
  (hk:∀v' w',St w0 (F*own e size v' (n+m) (xs++news)) w'→K v' w'):aG P (.app t ty e size bytes z) [v,v2] K w:=by
 obtain ⟨hl,a,cap,rfl,hn,hc⟩:=h;cases a with
 |none=>
  rcases hc with rfl|⟨g,o,h,_⟩
  ·have:news= []:=List.eq_nil_of_length_eq_zero (by simpa using hl)
   subst this;obtain ⟨b,c,rfl,hle,_⟩:=s.aw;refine BL hle (hk _ _ ?_)
   simpa using s
  ·cases h
 |some a=>
  refine bu s hl (fun j u hu=> ?_) h1 hsz hz hmax hb hk;rcases hc with rfl|⟨g,o,h,hc⟩
  ·have:news= []:=List.eq_nil_of_length_eq_zero (by simpa using hl)
   subst this;simp at hu
  ·cases h
   rw [eM];exact hc w s j u hu
end
@[simp] theorem e2a {P:Program} {F:PF P} {C:World→Prop} {env bvs:List Value} {K} (a b:RT):vH F C (.bool false) false a b env K bvs=a.mX F C env K bvs:=rfl
@[simp] theorem e4a {P:Program} {F:PF P} {C:World→Prop} {env bvs:List Value} {K} (a b:RT):vH F C (.bool true) false a b env K bvs=b.mX F C env K bvs:=rfl
section
variable {P:Program} {F:PF P} {env bvs:List Value} {w:World} {Q:EX→List Value→World→Prop} {C:List Value→World→Prop} {q:Nat→List Value→Value} {m:Nat} {vs:List Value}
def sU (F:PF P) (C:List Value→World→Prop) (q:Nat→List Value→Value) (m:Nat) (eo:EO) (args vs:List Value) (K:Value→List Value→Prop):Prop:=
 (Fe F eo=false∧∃v,JH F ⟨C,q⟩ m eo args vs v∧K v vs)∨(Fe F eo=true∧JC P ⟨C,q⟩ eo args vs∧∀v,(∃w,C (vs++ [v]) w)→K v (vs++ [v]))
def QV (F:PF P) (C:List Value→World→Prop) (q:Nat→List Value→Value) (m:Nat) (env:List Value) (K:List Value→Option Value→List Value→Prop) (k:RT) (bvs:List Value) (v:Value) (vs:List Value):Prop:=k.nJ F ⟨C,q⟩ m env K (bvs++ [v]) vs
def DQ (F:PF P) (C:List Value→World→Prop) (q:Nat→List Value→Value) (m:Nat) (c:Value) (v:Bool) (a b:RT) (env:List Value) (K:List Value→Option Value→List Value→Prop) (bvs vs:List Value):Prop:=if oq c v=true then a.nJ F ⟨C,q⟩ m env K bvs vs else b.nJ F ⟨C,q⟩ m env K bvs vs
def Hd (C:List Value→World→Prop) (Q:EX→List Value→World→Prop) (env:List Value) (_:Option Value) (vs:List Value):Prop:=∀w,C vs w→Q .nrm env w
def RL (F:PF P) (C:List Value→World→Prop) (x y:HC) (Q:EX→List Value→World→Prop) (env:List Value) (c:Option Value) (vs:List Value):Prop:=∀w,C vs w→ik F (c.getD undef) x y Q env w
@[simp] theorem eGa {K} (sets:List (Nat×SE)) (c:Option SE):(RT.done sets c).nJ F ⟨C,q⟩ m env K bvs vs=K (cV F env bvs sets env) (c.map (SE.val F env bvs)) vs:=rfl
@[simp] theorem foa {K} (g:Option (SE×Bool)) (p:PO) (xs:dn) (k:RT):(RT.chk g p xs k).nJ F ⟨C,q⟩ m env K bvs vs=((bI F env bvs g→p.ok F (dn.dE F env bvs xs))∧k.nJ F ⟨C,q⟩ m env K bvs vs):=rfl
@[simp] theorem fqa {K} (g:Option (SE×Bool)) (c:SE) (k:RT):(RT.isb g c k).nJ F ⟨C,q⟩ m env K bvs vs=((bI F env bvs g→∃b,SE.val F env bvs c= .bool b)∧k.nJ F ⟨C,q⟩ m env K bvs vs):=rfl
@[simp] theorem fpa {K} (eo:EO) (xs:dn) (k:RT):(RT.eff eo xs k).nJ F ⟨C,q⟩ m env K bvs vs=sU F C q m eo (dn.dE F env bvs xs) vs (QV F C q m env K k bvs):=rfl
@[simp] theorem fna {K} (e:SE) (k:RT):(RT.fL e k).nJ F ⟨C,q⟩ m env K bvs vs=k.nJ F ⟨C,q⟩ m env K (bvs++ [SE.val F env bvs e]) vs:=rfl
@[simp] theorem fra {K} (c:SE) (v:Bool) (a b:RT):(RT.ite c v a b).nJ F ⟨C,q⟩ m env K bvs vs=DQ F C q m (SE.val F env bvs c) v a b env K bvs vs:=rfl
@[simp] theorem Wq {K} (k:RT) (v:Value):QV F C q m env K k bvs v vs=k.nJ F ⟨C,q⟩ m env K (bvs++ [v]) vs:=rfl
@[simp] theorem e1a {K} (a b:RT):DQ F C q m (.bool true) true a b env K bvs vs=a.nJ F ⟨C,q⟩ m env K bvs vs:=rfl
@[simp] theorem eZa {K} (a b:RT):DQ F C q m (.bool false) true a b env K bvs vs=b.nJ F ⟨C,q⟩ m env K bvs vs:=rfl
@[simp] theorem e0a {K} (a b:RT):DQ F C q m (.bool true) false a b env K bvs vs=b.nJ F ⟨C,q⟩ m env K bvs vs:=rfl
@[simp] theorem eYa {K} (a b:RT):DQ F C q m (.bool false) false a b env K bvs vs=a.nJ F ⟨C,q⟩ m env K bvs vs:=rfl
@[simp] theorem Ya (c:Option Value):Hd C Q env c vs=∀w,C vs w→Q .nrm env w:=rfl
@[simp] theorem Yz (x y:HC) (c:Option Value):RL F C x y Q env c vs=∀w,C vs w→ik F (c.getD undef) x y Q env w:=rfl
theorem jF {t:RT} {n:Nat} (C:List Value→World→Prop) (hC:C [] w.drew) (h:t.nJ F ⟨C,fun _ _=>undef⟩ n env (Hd C Q) [] []):(HC.regq (.some n) t).wp F Q env w:= .inr (.inl ⟨n,rfl,⟨C,_⟩,hC,h⟩)
theorem He {t:RT} {n:Nat} (C:List Value→World→Prop) (q:Nat→List Value→Value) (hC:C [] w.drew) (h:t.nJ F ⟨C,q⟩ n env (Hd C Q) [] []):(HC.regq (.some n) t).wp F Q env w:= .inr (.inl ⟨n,rfl,⟨C,q⟩,hC,h⟩)
theorem RM {t:RT} {n:Nat} {x y:HC} (C:List Value→World→Prop) (hC:C [] w.drew) (h:t.nJ F ⟨C,fun _ _=>undef⟩ n env (RL F C x y Q) [] []):(HC.brq (.some n) t x y).wp F Q env w:= .inr (.inl ⟨n,rfl,⟨C,_⟩,hC,h⟩)
theorem rJ {f:Nat} {args:List Value} {K:Value→List Value→Prop} (hb:bW P f=true) (hq:F.qs.contains f=true) (hi:f∉F.ids) (h:∀vs' w,era m vs'=era m vs→C vs' w→ak P f args (fun r w'=>r=q f args∧C vs' w') w) (hk:K (q f args) vs):sU F C q m (.call f) args vs K:=by
 refine .inl ⟨by simp only [Fe,qcE,hq,Bool.not_true,Bool.and_false],q f args,fun _ vs' w he hw=> ?_,hk⟩;have e:(EO.ma (.call f) args)=callFunc f args.toArray:=rfl;rw [e,dq hb];refine ⟨rfl,.inr ⟨hi,by simp,Calls.mono (h vs' w he hw) ?_⟩⟩;rintro e w' ⟨v,rfl,rfl,hC⟩;exact ⟨rfl,hC⟩
theorem bw {eo:EO} {args:List Value} {K:Value→List Value→Prop} (hm:Fe F eo=true) (h:∀w,C vs w→aG P eo args (fun v w'=>C (vs++ [v]) w') w) (hk:∀v,(∃w,C (vs++ [v]) w)→K v (vs++ [v])):sU F C q m eo args vs K:=by
 refine .inr ⟨hm,fun hi w hw=> ?_,hk⟩;have:=h w hw hi;unfold fS at this;unfold jC;exact this
theorem pe {eo:EO} {args:List Value} {v:Value} {s:Sem Value} {K:Value→List Value→Prop} (he:eo.ma args=dC s) (hr:∀vs' w,era m vs'=era m vs→C vs' w→s.run P w= .ok v w) (hk:K v vs) (hm:Fe F eo=false:=by rfl):sU F C q m eo args vs K:=by
 refine .inl ⟨hm,v,fun _ vs' w hera hw=> ?_,hk⟩;rw [he];simp only [dC,Sem.run_bind,hr vs' w hera hw,Result.andThen_ok,Sem.run_pure];exact ⟨rfl,rfl⟩
theorem aq {a:Addr} {n:Nat} {v:Value} {K:Value→List Value→Prop} (hc:∀vs' w,era m vs'=era m vs→C vs' w→w.cell? a=some v) (hk:K v vs):sU F C q m (.ld false n) [.pointer (some a)] vs K:=
 pe (s:=sK false n (.pointer (some a))) rfl (fun vs' w he hw=>by simp [sK,Instr.sureAddr,hc vs' w he hw]) hk
theorem H2 {b off n:Nat} {us:List Value} {K:Value→List Value→Prop} (hc:∀vs' w,era m vs'=era m vs→C vs' w→∀j u,us[j]?=some u→w.cell? ⟨b,off+j,none⟩=some u) (hl:us.length=n) (hk:K (.agg us.toArray) vs):
  sU F C q m (.ld true n) [.pointer (some ⟨b,off,none⟩)] vs K:=by
 refine pe (s:=sK true n (.pointer (some ⟨b,off,none⟩))) rfl (fun vs' w he hw=> ?_) hk;have:=run_loadCells_list (P:=P) w ⟨b,off,none⟩ us (by
  intro j v hj;rw [eM];exact hc vs' w he hw j v hj)
 rw [hl] at this;simp [sK,Instr.sureAddr,this]
end
end Go.HL
