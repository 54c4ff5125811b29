/-
  What the claim leans on, part 3 of 20. Conditions: as each theorem says.
-/
import Derived.Test.YtflblkahfegaoaaGreatSRMb
import Derived.IntWalk
set_option linter.unusedSimpArgs false
set_option linter.unusedVariables false
set_option maxRecDepth 4000
namespace Go.HL
def Hp:=Nat→Option Obj
def Hp.sub (h g:Hp):Prop:=∀b o,h b=some o→g b=some o
def Hp.QT (h g:Hp):Prop:=∀b,h b=none∨g b=none
def Hp.un (h g:Hp):Hp:=fun b=>match h b with|some o=>some o|none=>g b
def Ml (w:World):Hp:=fun b=>w.heap[b]?
def aj:=Hp→Prop
def sep (A B:aj):aj:=fun h=>∃h1 h2,Hp.QT h1 h2∧h=Hp.un h1 h2∧A h1∧B h2
instance:Mul aj:=⟨sep⟩
def emp:aj:=fun h=>∀b,h b=none
def pt (b:Nat) (o:Obj):aj:=fun h=>h b=some o∧∀c,c≠b→h c=none
def nN (w0:World):aj:=fun h=>h=Ml w0
theorem Hp.Pt {h g:Hp} (d:Hp.QT h g):Hp.un h g=Hp.un g h:=by
 funext b
 simp only [Hp.un]
 rcases d b with e|e<;>rw [e]<;>cases h b<;>cases g b<;>simp_all
theorem iq (A B:aj):A*B=B*A:=by
 have:∀A B:aj,∀h,(A*B) h→(B*A) h:=by
  rintro A B h ⟨h1,h2,d,rfl,a,b⟩
  exact ⟨h2,h1,fun x=>(d x).symm,Hp.Pt d,b,a⟩
 funext h;exact propext ⟨this A B h,this B A h⟩
theorem ao (A B C:aj):A*B*C=A*(B*C):=by
 funext h;apply propext
 constructor
 ·rintro ⟨h12,h3,d,rfl,⟨h1,h2,d',rfl,a,b⟩,c⟩
  have d13:Hp.QT h1 h3:=fun x=>by
   rcases d x with e|e
   ·simp only [Hp.un] at e;cases hh:h1 x<;>simp_all
   ·exact .inr e
  have d23:Hp.QT h2 h3:=fun x=>by
   rcases d x with e|e
   ·simp only [Hp.un] at e;cases hh:h1 x<;>simp_all
   ·exact .inr e
  refine ⟨h1,Hp.un h2 h3,fun x=> ?_,?_,a,h2,h3,d23,rfl,b,c⟩
  ·rcases d' x with e|e
   ·exact .inl e
   ·rcases d13 x with e'|e'
    ·exact .inl e'
    ·right;simp only [Hp.un,e,e']
  ·funext x;simp only [Hp.un];cases h1 x<;>rfl
 ·rintro ⟨h1,h23,d,rfl,a,h2,h3,d',rfl,b,c⟩
  have d12:Hp.QT h1 h2:=fun x=>by
   rcases d x with e|e
   ·exact .inl e
   ·simp only [Hp.un] at e;cases hh:h2 x<;>simp_all
  have d13:Hp.QT h1 h3:=fun x=>by
   rcases d x with e|e
   ·exact .inl e
   ·simp only [Hp.un] at e;cases hh:h2 x<;>simp_all
  refine ⟨Hp.un h1 h2,h3,fun x=> ?_,?_,⟨h1,h2,d12,rfl,a,b⟩,c⟩
  ·rcases d' x with e|e
   ·rcases d13 x with e'|e'
    ·left;simp only [Hp.un,e,e']
    ·exact .inr e'
   ·exact .inr e
  ·funext x;simp only [Hp.un];cases h1 x<;>rfl
theorem eQ (A B C:aj):A*B*C=A*C*B:=by rw [ao,iq B C,←ao]
theorem gb {A A' B B':aj} (ha:∀h,A h→A' h) (hb:∀h,B h→B' h):∀h,(A*B) h→(A'*B') h:=by
 rintro h ⟨h1,h2,d,rfl,a,b⟩
 exact ⟨h1,h2,d,rfl,ha _ a,hb _ b⟩
theorem al (A:aj):A*emp=A:=by
 funext h;apply propext
 constructor
 ·rintro ⟨h1,h2,d,rfl,a,b⟩
  have:Hp.un h1 h2=h1:=by funext x;simp only [Hp.un,b x];cases h1 x<;>rfl
  rw [this];exact a
 ·intro a
  exact ⟨h,fun _=>none,fun x=> .inr rfl,by funext x;simp only [Hp.un];cases h x<;>rfl,a,fun x=>rfl⟩
structure St (w0:World) (A:aj) (w:World):Prop where
 os:w.os=w0.os
 out:w.output=w0.output
 size:w0.heap.size≤w.heap.size
 ran:w.tape=w0.tape∧w0.drawn≤w.drawn
 holds:∃h,Hp.sub h (Ml w)∧A h
theorem St.mono {w0 w:World} {A B:aj} (s:St w0 A w) (h:∀h,A h→B h):St w0 B w:=
 ⟨s.os,s.out,s.size,s.ran,let ⟨g,h1,h2⟩:=s.holds;⟨g,h1,h _ h2⟩⟩
theorem Cw {h1 h2 g:Hp} (s:Hp.sub (Hp.un h1 h2) g):Hp.sub h1 g:=fun b o e=>s b o (by simp only [Hp.un,e])
theorem H8 {h1 h2 g:Hp} (d:Hp.QT h1 h2) (s:Hp.sub (Hp.un h1 h2) g):Hp.sub h2 g:=fun b o e=>s b o (by
 rcases d b with e'|e'
 ·simp only [Hp.un,e',e]
 ·rw [e'] at e;cases e)
theorem St.drop {w0 w:World} {F A:aj} (s:St w0 (F*A) w):St w0 F w:=
 ⟨s.os,s.out,s.size,s.ran,let ⟨g,h1,h,h',d,e,a,_⟩:=s.holds;⟨h,Cw (e▸h1),a⟩⟩
theorem St.swap {w0 w:World} {F A B:aj} (s:St w0 (F*A*B) w):St w0 (F*B*A) w:=by rwa [eQ]
theorem St.p3 {w0 w:World} {F A B C:aj} (s:St w0 (F*A*B*C) w):St w0 (F*B*C*A) w:=by
 rw [eQ F A B,eQ (F*B) A C] at s;exact s
theorem St.look {w0 w:World} {F:aj} {b:Nat} {o:Obj} (s:St w0 (F*pt b o) w):w.heap[b]?=some o:=by
 obtain ⟨g,h1,h,h',d,e,_,a⟩:=s.holds
 exact H8 d (e▸h1) b o a.1
theorem St.kL {w0 w w1:World} (s:St w0 (nN w1) w) {b:Nat} {o:Obj} (hb:w1.heap[b]?=some o):w.heap[b]?=some o:=by
 obtain ⟨g,h1,a⟩:=s.holds
 exact h1 b o (by rw [a];exact hb)
theorem St.start (w:World):St w (nN w) w:=
 ⟨rfl,rfl,Nat.le_refl _,⟨rfl,Nat.le_refl _⟩,_,fun b o h=>h,rfl⟩
def Obj.Kn:Obj→Prop
 | .cells _ _ f=>f=(0,0)
 |_=>True
theorem heap_alloc (w:World) (o:Obj) (b:Nat):(w.alloc o).heap[b]?=if b=w.heap.size then some o else w.heap[b]?:=by
 simp only [World.alloc,Array.getElem?_push]
theorem St.alloc {w0 w:World} {F:aj} (s:St w0 F w) {o:Obj} (_:Obj.Kn o):St w0 (F*pt w.heap.size o) (w.alloc o):=by
 refine ⟨s.os,s.out,?_,s.ran,?_⟩
 ·have:=s.size;simp;omega
 ·obtain ⟨g,h1,h2⟩:=s.holds
  have hn:g w.heap.size=none:=by
   cases hh:g w.heap.size with
   |none=>rfl
   |some o'=>
    have h3:w.heap[w.heap.size]?=some o':=h1 _ _ hh
    exact absurd (Array.getElem?_eq_some_iff.1 h3).1 (by omega)
  refine ⟨Hp.un g (fun b=>if b=w.heap.size then some o else none),fun b o' hb=> ?_,g,_,fun b=> ?_,rfl,h2,?_,?_⟩
  ·show (w.alloc o).heap[b]?=some o'
   rw [heap_alloc]
   simp only [Hp.un] at hb
   by_cases e:b=w.heap.size
   ·subst e;simp only [hn,if_true] at hb;simpa using hb
   ·simp only [e,if_false] at hb⊢
    cases hg:g b with
    |none=>rw [hg] at hb;cases hb
    |some o''=>rw [hg] at hb;cases hb;exact h1 _ _ hg
  ·by_cases e:b=w.heap.size
   ·subst e;exact .inl hn
   ·right;simp [e]
  ·simp
  ·intro c hc;simp [hc]
theorem St.drew {w0 w:World} {A:aj} (s:St w0 A w):St w0 A w.drew:=⟨s.os,s.out,s.size,⟨s.ran.1,Nat.le_succ_of_le s.ran.2⟩,s.holds⟩
theorem St.CK {w0 w w':World} {F:aj} {b:Nat} {o o':Obj} (s:St w0 (F*pt b o) w) (h1:w'.heap[b]?=some o') (h2:∀c,c≠b→w'.heap[c]?=w.heap[c]?)
  (hs:w'.heap.size=w.heap.size) (hos:w'.os=w.os) (hout:w'.output=w.output) (_:∀c t f,o'= .cells c t f→f=(0,0)) (hrun:w'.tape=w.tape∧w'.drawn=w.drawn:=by exact ⟨rfl,rfl⟩):St w0 (F*pt b o') w':=by
 refine ⟨hos.trans s.os,hout.trans s.out,by rw [hs];exact s.size,⟨hrun.1.trans s.ran.1,hrun.2▸s.ran.2⟩,?_⟩
 ·obtain ⟨g,hg,h,h',d,rfl,a,hb,hn⟩:=s.holds
  have hnb:h b=none:=by
   rcases d b with e|e
   ·exact e
   ·rw [hb] at e;cases e
  refine ⟨Hp.un h (fun c=>if c=b then some o' else none),fun c x hx=> ?_,h,_,fun c=> ?_,rfl,a,?_,?_⟩
  ·show w'.heap[c]?=some x
   simp only [Hp.un] at hx
   by_cases e:c=b
   ·subst e;simp only [hnb,if_true] at hx;rw [h1];exact hx
   ·simp only [e,if_false] at hx
    rw [h2 c e]
    cases hh:h c with
    |none=>rw [hh] at hx;cases hx
    |some y=>rw [hh] at hx;cases hx;exact Cw hg c _ hh
  ·by_cases e:c=b
   ·subst e;exact .inl hnb
   ·right;simp [e]
  ·simp
  ·intro c hc;simp [hc]
theorem heap_setCell (w:World) (b off:Nat) (v:Value) (c:Array Value) (t:TypeId) (f:Nat×Nat) (h:w.heap[b]?=some (.cells c t f)) (x:Nat):
  (w.setCell ⟨b,off,none⟩ v).heap[x]?=if x=b then some (.cells (c.setIfInBounds off v) t f) else w.heap[x]?:=by
 simp only [World.setCell,Array.getElem?_modify]
 by_cases e:x=b
 ·subst e;simp [h]
 ·simp [Ne.symm e,e]
theorem St.set {w0 w:World} {F:aj} {b off:Nat} {c:Array Value} {t:TypeId} {v:Value} (s:St w0 (F*pt b (.cells c t (0,0))) w):
  St w0 (F*pt b (.cells (c.setIfInBounds off v) t (0,0))) (w.setCell ⟨b,off,none⟩ v):=by
 have hb:=s.look
 refine s.CK (w':=w.setCell ⟨b,off,none⟩ v) ?_ ?_ (by simp) rfl rfl (fun c t f e=>by cases e;rfl)
 ·rw [heap_setCell w b off v c t _ hb b,if_pos rfl]
 ·intro x hx;rw [heap_setCell w b off v c t _ hb x,if_neg hx]
end Go.HL
namespace Go.HL
section
variable {P:Program} {K:Value→World→Prop} {w w0:World} {F:aj}
theorem cell_of {b off:Nat} {c:Array Value} {t:TypeId} {f:Nat×Nat} (hb:w.heap[b]?=some (.cells c t f)):w.cell? ⟨b,off,none⟩=c[off]?:=by
 simp [World.cell?,hb]
theorem eB (b off n:Nat):(⟨b,off,none⟩:Addr).add n=⟨b,off+n,none⟩:=by
 unfold Addr.add;split<;>simp_all
theorem aI {s:Sem Value} {v:Value} {w':World} (h:s.run P w= .ok v w') (hk:K v w'):fB P (dw s) K w:=by
 unfold fB dw;simp [h];exact hk
theorem kX {s:Sem Unit} {w':World} (h:s.run P w= .ok () w') (hk:K undef w'):fB P (CO s) K w:=by
 unfold fB CO;simp [h];exact hk
theorem ad {a:Addr} {n:Nat} {v:Value} (hc:w.cell? a=some v) (hk:K v w):aE P (.ld false n) [.pointer (some a)] K w:=by
 intro _
 refine aI (w':=w) (v:=v) ?_ hk
 simp [su,Instr.sureAddr,hc]
theorem aN {b off:Nat} {c:Array Value} {t:TypeId} {v:Value} (s:St w0 (F*pt b (.cells c t (0,0))) w) (h1:v.oneCell'=true) (hoff:off<c.size)
  (hk:∀w',St w0 (F*pt b (.cells (c.setIfInBounds off v) t (0,0))) w'→K undef w'):aE P (.st 1) [.pointer (some ⟨b,off,none⟩),v] K w:=by
 intro _
 have hb:=s.look
 have hc:w.cell? ⟨b,off,none⟩=some c[off]:=by rw [cell_of hb];simp [hoff]
 have hf:w.frozen? ⟨b,off,none⟩=false:=by simp [World.frozen?,hb]
 refine kX (w':=w.setCell ⟨b,off,none⟩ v) ?_ (hk _ s.set)
 have hcs:v.cells= #[v]:=by cases v<;>first|rfl|(simp [Value.oneCell'] at h1)
 have hst:=run_store P w ⟨b,off,none⟩ v .plain h1
 simp only [hc,hf,Bool.false_eq_true,if_false] at hst
 have ha:(⟨b,off,none⟩:Addr).add 0=⟨b,off,none⟩:=rfl
 simp [stS,Instr.sureAddr,hcs,storeCells,ha,hst]
theorem q4 {b off:Nat} {c:Array Value} {t:TypeId} {vs:List Value} (s:St w0 (F*pt b (.cells c t (0,0))) w):
  St w0 (F*pt b (.cells (c.toList.take off++vs++c.toList.drop (off+vs.length)).toArray t (0,0))) (w.setRow b (c.toList.take off++vs++c.toList.drop (off+vs.length)).toArray):=
 s.CK (setRow_heap w b c _ t _ s.look) (fun x hx=>setRow_other w b x _ hx) (by simp [World.setRow]) rfl rfl (fun _ _ _ e=>by cases e;rfl)
theorem cq {b off n:Nat} {c:Array Value} {t:TypeId} {v:Value} {vs:List Value} (s:St w0 (F*pt b (.cells c t (0,0))) w) (hv:v.cells.toList=vs) (hn:vs.length=n) (h1:∀u∈vs,u.oneCell'=true) (hoff:off+n≤c.size)
  (hk:∀w',St w0 (F*pt b (.cells (c.toList.take off++vs++c.toList.drop (off+n)).toArray t (0,0))) w'→K undef w'):aE P (.st n) [.pointer (some ⟨b,off,none⟩),v] K w:=by
 intro _
 have hb:=s.look
 have hst:=run_storeCells_at P b off t vs 0 c w hb (by omega) h1
 simp only [Nat.add_zero] at hst
 have hh:=q4 (off:=off) (vs:=vs) s
 rw [hn] at hst hh
 refine kX ?_ (hk _ hh)
 have hsz:v.cells.size=n:=by rw [←Array.length_toList,hv,hn]
 simp [stS,Instr.sureAddr,hsz,hv,hst]
theorem bz {t:TypeId} {z:Value} (s:St w0 F w) (hk:∀b w',St w0 (F*pt b (.cells z.cells t (0,0))) w'→K (.pointer (some ⟨b,0,none⟩)) w'):aE P (.new t z) [] K w:=by
 intro _
 refine aI (w':=w.alloc (.cells z.cells t)) ?_ (hk _ _ (s.alloc rfl))
 simp [newVar,newRow]
theorem bj {t:TypeId} {z:Value} (s:St w0 F w) (hk:∀b w',St w0 (F*pt b (.cells z.cells t (0,0))) w'→K (.pointer (some ⟨b,0,none⟩)) w'):aE P (.box t) [z] K w:=by
 intro _
 refine aI (w':=w.alloc (.cells z.cells t)) ?_ (hk _ _ (s.alloc rfl))
 simp [Instr.box,newVar,newRow]
theorem lu {e len size:Nat} {zero cells:Array Value} {ix:List Nat} {vs:List Value} (s:St w0 F w)
  (hf:Instr.fill (fun i=>some (i*size,size)) ((Array.range (len*size)).map (zero[· %zero.size]!)) (ix.zip vs)=some cells)
  (hk:∀b w',St w0 (F*pt b (.cells cells e (0,0))) w'→K (.slice (some ⟨b,0,none⟩) len len) w'):aE P (.bsl e len size zero ix) vs K w:=by
 intro _
 refine aI (w':=w.alloc (.cells cells e)) ?_ (hk _ _ (s.alloc rfl))
 simp [LL,hf,newRow]
theorem bU {e:Nat} {z x:Value} (s:St w0 F w) (h1:x.oneCell'=true)
  (hk:∀b w',St w0 (F*pt b (.cells #[x] e (0,0))) w'→K (.slice (some ⟨b,0,none⟩) 1 1) w'):aE P (.bsl e 1 1 #[z] [0]) [x] K w:=by
 refine lu (cells:= #[x]) s ?_ hk
 have hcs:x.cells= #[x]:=by cases x<;>first|rfl|(simp [Value.oneCell'] at h1)
 have hz:((Array.range (1*1)).map fun i=>(#[z])[i %(#[z]).size]!)= #[z]:=by
  apply Array.ext
  ·simp
  ·intro i h1 h2
   have:i=0:=by simp at h2;omega
   subst this
   simp
 rw [hz]
 simp [Instr.fill,hcs]
theorem ab {f:FuncId} {vs:List Value} (h:ai P f vs K w):aE P (.call f) vs K w:=by
 intro hb
 unfold fB
 simp only [EO.lZ,dh hb]
 exact h
theorem bD {f:FuncId} {first cap:Array Value} {vs:List Value} (hb:bP P f=true) (h:ai P f (first.toList++vs++cap.toList) K w):aE P .callv (.func (.func f) first cap::vs) K w:=by
 intro _
 unfold fB
 have e:first++vs.toArray++cap=(first.toList++vs++cap.toList).toArray:=by apply Array.ext';simp
 simp only [EO.lZ,Deferred.ofValue,Sem.run_bind,Sem.run_pure,Result.andThen_ok,invoke]
 rw [e,dh hb]
 exact h
def own (e size:Nat) (v:Value) (n:Nat) (xs:List Value):aj:=fun h=>xs.length=n*size∧
 ((v= .slice none 0 0∧n=0∧emp h)∨
 ∃g cap cur,v= .slice (some ⟨g,0,none⟩) n cap∧n≤cap∧cap≤maxLen∧cap*size≤cur.size∧cur.toList.take (n*size)=xs∧pt g (.cells cur e (0,0)) h)
theorem St.ex {A:aj} (s:St w0 A w):∃h,Hp.sub h (Ml w)∧A h:=s.holds
theorem St.of {A B:aj} (s:St w0 A w) (h:∃h,Hp.sub h (Ml w)∧B h):St w0 B w:=⟨s.os,s.out,s.size,s.ran,h⟩
theorem St.or {A B C:aj} (s:St w0 (F*A) w) (h:∀h,A h→B h∨C h):St w0 (F*B) w∨St w0 (F*C) w:=by
 obtain ⟨g,h1,h2,h3,d,e,a,b⟩:=s.holds
 rcases h _ b with b|c
 ·exact .inl (s.of ⟨g,h1,h2,h3,d,e,a,b⟩)
 ·exact .inr (s.of ⟨g,h1,h2,h3,d,e,a,c⟩)
theorem St.own {e size:Nat} {v:Value} {n:Nat} {xs:List Value} (s:St w0 (F*own e size v n xs) w):xs.length=n*size∧
  ((v= .slice none 0 0∧n=0∧xs= []∧St w0 F w)∨
  ∃g cap cur,v= .slice (some ⟨g,0,none⟩) n cap∧n≤cap∧cap≤maxLen∧cap*size≤cur.size∧cur.toList.take (n*size)=xs∧St w0 (F*pt g (.cells cur e (0,0))) w):=by
 obtain ⟨g,h1,h2,h3,d,e,a,hl,b⟩:=s.holds
 refine ⟨hl,?_⟩
 rcases b with ⟨rfl,rfl,hb⟩|⟨g',cap,cur,rfl,hn,hm,hc,ht,hp⟩
 ·refine .inl ⟨rfl,rfl,List.eq_nil_of_length_eq_zero (by simpa using hl),s.drop⟩
 ·exact .inr ⟨g',cap,cur,rfl,hn,hm,hc,ht,s.of ⟨g,h1,h2,h3,d,e,a,hp⟩⟩
theorem St.aA (s:St w0 F w) (e size:Nat):St w0 (F*HL.own e size (.slice none 0 0) 0 []) w:=by
 have:F=F*emp:=(al F).symm
 rw [this] at s
 exact s.mono (gb (fun _ h=>h) fun h hh=>⟨by simp,.inl ⟨rfl,rfl,hh⟩⟩)
theorem St.pD {e size g n cap:Nat} {cur:Array Value} {xs:List Value} (s:St w0 (F*pt g (.cells cur e (0,0))) w) (hn:n≤cap) (hm:cap≤maxLen) (hc:cap*size≤cur.size) (ht:cur.toList.take (n*size)=xs):
  St w0 (F*HL.own e size (.slice (some ⟨g,0,none⟩) n cap) n xs) w:=by
 refine s.mono (gb (fun _ h=>h) fun h hh=>⟨?_,.inr ⟨g,cap,cur,rfl,hn,hm,hc,ht,hh⟩⟩)
 rw [←ht,List.length_take,Array.length_toList]
 exact Nat.min_eq_left (Nat.le_trans (Nat.mul_le_mul_right _ hn) hc)
theorem St.uq {e size g n cap:Nat} {cur:Array Value} {xs:List Value} (s:St w0 (F*pt g (.cells cur e (0,0))) w) (hn:n≤cap) (hm:cap≤maxLen) (hc:cur.size=cap*size) (ht:cur.toList.take (n*size)=xs):
  St w0 (F*HL.own e size (.slice (some ⟨g,0,none⟩) n cap) n xs) w:=s.pD hn hm (Nat.le_of_eq hc.symm) ht
theorem St.il {e size:Nat} {v:Value} {n:Nat} {xs:List Value} (s:St w0 (F*HL.own e size v n xs) w):
  xs= []∧v= .slice none 0 0∨∃g cap,v= .slice (some ⟨g,0,none⟩) n cap∧n≤cap∧∀j u,xs[j]?=some u→w.cell? ⟨g,j,none⟩=some u:=by
 rcases s.own.2 with ⟨rfl,_,hx,_⟩|⟨g,cap,cur,rfl,hn,_,hc,ht,s'⟩
 ·exact .inl ⟨hx,rfl⟩
 ·refine .inr ⟨g,cap,rfl,hn,fun j u hu=> ?_⟩
  rw [cell_of s'.look]
  rw [←ht,List.getElem?_take] at hu
  split at hu
  ·simpa using hu
  ·cases hu
theorem St.aq {e size:Nat} {v:Value} {n:Nat} {xs:List Value} (s:St w0 (F*HL.own e size v n xs) w):∃a cap,v= .slice a n cap∧n≤cap∧(0<n→a≠none):=by
 rcases s.own.2 with ⟨rfl,rfl,_⟩|⟨g,cap,cur,rfl,hn,_⟩
 ·exact ⟨_,_,rfl,Nat.le_refl _,fun h=>absurd h (by omega)⟩
 ·exact ⟨_,_,rfl,hn,fun _=>by simp⟩
theorem St.aO {e size:Nat} {v:Value} {n:Nat} {xs:List Value} (s:St w0 (F*HL.own e size v n xs) w) (hn:0<n):
  ∃g cap,v= .slice (some ⟨g,0,none⟩) n cap∧n≤cap∧∀j u,xs[j]?=some u→w.cell? ⟨g,j,none⟩=some u:=by
 rcases s.il with ⟨_,rfl⟩|h
 ·obtain ⟨a,cap,h,_⟩:=s.aq
  cases h;omega
 ·exact h
theorem bh {t ty e size bytes:Nat} {z v:Value} {n m c:Nat} {xs news:List Value} {a:Addr} (s:St w0 (F*HL.own e size v n xs) w)
  (hl:news.length=m*size) (hx:∀j u,news[j]?=some u→w.cell? (a.add j)=some u) (h1:∀u∈news,u.oneCell'=true)
  (hsz:0<size) (hz:z.cells.size=size) (hmax:n+m≤maxLen) (hb:(n+m)*bytes≤140737488355328)
  (hk:∀v' w',St w0 (F*HL.own e size v' (n+m) (xs++news)) w'→K v' w'):aE P (.app t ty e size bytes z) [v,.slice (some a) m c] K w:=by
 rintro ⟨ht,i,hi,hiz,rfl,rfl⟩
 have hsmall:n+m≤9223372036854775807:=by simp only [maxLen] at hmax;omega
 have grown:∀nN,nN<n+m→St w0 F w→xs.length=n*i.size→
   St w0 (F*HL.own e i.size (.slice (some ⟨w.heap.size,0,none⟩) (n+m) (grownCap w (n+m) nN e)) (n+m) (xs++news))
    (w.drew.alloc (.cells (xs.toArray++news.toArray++Builtin.zeroCells z.cells (grownCap w (n+m) nN e -(n+m))) e)):=by
  intro nN ho s hxl
  have hge:=grownCap_ge w (n+m) nN e
  refine St.uq (s.drew.alloc (by rfl)) hge (grownCap_le_maxLen w (n+m) nN e hmax) ?_ ?_
  ·simp only [Array.size_append,List.size_toArray,size_zeroCells,hz,hxl,hl,←Nat.add_mul]
   congr 1;omega
  ·simp only [Array.toList_append,List.append_assoc]
   rw [←List.append_assoc,Nat.add_mul,←hxl,←hl,←List.length_append]
   exact List.take_left
 obtain ⟨hxl,hc⟩:=s.own
 rcases hc with ⟨rfl,rfl,rfl,s'⟩|⟨g,cap,cur,rfl,hnc,hcm,hcs,htake,s'⟩
 ·by_cases hm:m=0
  ·subst hm
   have hn:news= []:=List.eq_nil_of_length_eq_zero (by simpa using hl)
   subst hn
   refine aI (w':=w) (v:= .slice none 0 0) ?_ (hk _ _ s)
   simp [Builtin.append_,run_underlying ht,sizeOf,typeInfo,hi,Builtin.lenOf,Builtin.firstCells,loadCells,loadCellsFrom]
  ·have hr:=run_append_nil (P:=P) w t ty e i z ht hi hiz a m c news hl hx (by omega) (by omega) (by have hb:=hb;simp only [Nat.zero_add] at hb;omega)
   have hgr:=grown 0 (by omega) s' (by simp)
   simp only [Nat.zero_add,List.nil_append,Array.empty_append] at hgr hk
   exact aI hr (hk _ _ hgr)
 ·by_cases hroom:n+m≤cap
  ·have hfit:n*i.size+news.length≤cur.size:=by rw [hl,←Nat.add_mul];exact Nat.le_trans (Nat.mul_le_mul_right _ hroom) hcs
   have hr:=run_append_room (P:=P) w t ty e i ht hi g n cap cur s'.look a m c news hl hx h1 hroom hfit
   refine aI hr (hk _ _ ((q4 (off:=n*i.size) (vs:=news) s').pD hroom hcm ?_ ?_))
   ·simp only [List.size_toArray,List.length_append,List.length_take,List.length_drop,Array.length_toList]
    omega
   ·rw [htake,Nat.add_mul,←hxl,←hl,←List.length_append]
    exact List.take_left
  ·have holds:∀j u,xs[j]?=some u→w.cell? ((⟨g,0,none⟩:Addr).add j)=some u:=by
    intro j u hu
    rcases s.il with ⟨rfl,h⟩|⟨g',cap',h,_,hh⟩
    ·simp at hu
    ·cases h;rw [eB,Nat.zero_add];exact hh j u hu
   have hr:=run_append_grow (P:=P) w t ty e i z ht hi hiz ⟨g,0,none⟩ n cap xs hxl holds a m c news hl hx (by omega) (by omega) (growslice_fits (by omega) hb)
   exact aI hr (hk _ _ (grown cap (by omega) s'.drop hxl))
theorem A4 {t ty e size bytes:Nat} {z:Value} {b:Option Addr} {n cap c:Nat} (hn:n≤cap) (hk:K (.slice b n cap) w):aE P (.app t ty e size bytes z) [.slice b n cap,.slice none 0 c] K w:=by
 rintro ⟨ht,i,hi,hiz,rfl,rfl⟩
 refine aI (w':=w) (v:= .slice b n cap) ?_ hk
 cases b<;>simp [Builtin.append_,run_underlying ht,sizeOf,typeInfo,hi,Builtin.lenOf,Builtin.firstCells,storeCells,hn]
theorem St.aF {b:Nat} {c:Array Value} {t:TypeId} {f:Nat×Nat} (s:St w0 (F*pt b (.cells c t f)) w):∀j u,c.toList[j]?=some u→w.cell? ((⟨b,0,none⟩:Addr).add j)=some u:=by
 intro j u h
 rw [eB,cell_of s.look]
 simpa using h
theorem A9 {t:TypeId} {x:ByteArray} (s:St w0 F w) (hk:∀b w',St w0 (F*pt b (.stringIter x 0)) w'→K (.pointer (some ⟨b,0,none⟩)) w'):aE P (.rngS t) [.string x] K w:=by
 intro _
 refine aI (w':=w.alloc (.stringIter x 0)) ?_ (hk _ _ (s.alloc trivial))
 simp
theorem A8 {ty:TypeId} {b:Nat} {x:ByteArray} {pos:Nat} (s:St w0 (F*pt b (.stringIter x pos)) w)
  (hk1:pos<x.size→∀w',St w0 (F*pt b (.stringIter x (pos+(Utf8.decode x pos).2))) w'→K (.tuple #[.bool true,.int .i64 pos,.int .i32 (Utf8.decode x pos).1]) w')
  (hk2:¬pos<x.size→K (.tuple #[.bool false]) w):aE P (.nxt true ty) [.pointer (some ⟨b,0,none⟩)] K w:=by
 intro _
 have hb:=s.look
 by_cases hp:pos<x.size
 ·have hlt:b<w.heap.size:=(Array.getElem?_eq_some_iff.1 hb).1
  refine aI (w':={w with heap:=w.heap.setIfInBounds b (.stringIter x (pos+(Utf8.decode x pos).2))}) ?_ (hk1 hp _ ?_)
  ·simp [Instr.next,getObj,setObj,Sem.run,hb,hp,Sem.run_bind,goInt]
  ·refine s.CK ?_ ?_ (by simp) rfl rfl (fun _ _ _ e=>by cases e)
   ·simp [hlt]
   ·intro c hc;simp [Ne.symm hc]
 ·refine aI (w':=w) ?_ (hk2 hp)
  simp [Instr.next,getObj,Sem.run,hb,hp]
end
end Go.HL
namespace Go.HL
theorem aC {h t:HC} (e:h=t) {P:Program} {F:PF P} {Q:EX→List Value→World→Prop} {env:List Value} {w:World}:h.wp F Q env w=t.wp F Q env w:=by rw [e]
theorem jI {h t:RT} (e:h=t) {P:Program} {F:PF P} {env:List Value} {K:List Value→Option Value→World→Prop} {bvs:List Value} {w:World}:h.wp F env K bvs w=t.wp F env K bvs w:=by rw [e]
theorem cV {h t:RT} (e:h=t) {P:Program} {F:PF P} {C:World→Prop} {env:List Value} {K:List Value→Option Value→Prop} {bvs:List Value}:h.mQ F C env K bvs=t.mQ F C env K bvs:=by rw [e]
theorem cR {h t:RT} (e:h=t) {P:Program} {F:PF P} {S:Qv} {m:Nat} {env:List Value} {K:List Value→Option Value→List Value→Prop} {bvs vs:List Value}:h.l0 F S m env K bvs vs=t.l0 F S m env K bvs vs:=by rw [e]
attribute [simp] Py U7 Va U9 U6 PA Ja Li Vb dRa U8 PB Ip Lh Lg Pz KK Ph KM Dk Dl GU Kw LJ tm qK Hx Hw JL Jq Jr Pd KE yh yi RU RS zB BC
attribute [simp] eB
attribute [simp] dg db fu iQ
attribute [simp] SE.val de.dy PO.ok PO.val cC Ig LH LI lE lJ
section
variable {P:Program} {F:PF P} {env:List Value} {w:World} {Q:EX→List Value→World→Prop}
theorem dR {x:HC} (I:List Value→World→Prop) (μ:List Value→World→Nat) (h0:I env w)
  (h:∀(LQ:EX→List Value→World→Prop) (env:List Value) (w:World),I env w→(∀env' w',I env' w'→μ env' w'<μ env w→LQ .nrm env' w')→(∀i env' w',Q (.ex i) env' w'→LQ (.ex i) env' w')→
   (∀env' w',Q .ret env' w'→LQ .ret env' w')→x.wp F LQ env w):Au F x Q env w:=
 JX I μ h0 fun env w hI=>h _ env w hI (fun _ _ h1 h2=>⟨h1,h2⟩) (fun _ _ _ h=>h) (fun _ _ h=>h)
theorem aJ {x y:HC} {b:Bool} (h1:b=true→x.wp F Q env w) (h2:b=false→y.wp F Q env w):gR F (.bool b) x y Q env w:=Dz h1 h2
theorem Hd (t N:Nat) (L:List Nat) (args:List Value):tC (t::L) N args=(if t<N then (args[t]?).getD undef else undef)::tC L N args:=rfl
theorem Jt (N:Nat) (args:List Value):tC [] N args= []:=rfl
theorem ai.mono {f:FuncId} {args:List Value} {K K':Value→World→Prop} (h:ai P f args K w) (hk:∀v w',K v w'→K' v w'):ai P f args K' w:=
 Calls.mono h fun _ _ ⟨v,e,h⟩=>⟨v,e,hk _ _ h⟩
end
attribute [simp] Hd Jt
def mk (l:List UInt8):ByteArray:=⟨l.toArray⟩
@[simp] theorem aaa (l:List UInt8):(mk l).data=l.toArray:=rfl
@[simp] theorem mk_data (l:List UInt8):(mk l).data.toList=l:=by simp [mk]
@[simp] theorem ela (l:List UInt8):(mk l).size=l.length:=by simp [mk,ByteArray.size]
@[simp] theorem eka (l:List UInt8):(ByteArray.mk l.toArray)=mk l:=rfl
theorem ov (s:ByteArray):s=mk s.data.toList:=by cases s;simp [mk]
@[simp] theorem Vs (l:List UInt8) (i:Int):xS (mk l) i=((l[i.toNat]?.getD 0).toNat:Int):=by simp [xS]
def au (env:List Value) (j:Nat):Nat:=match env.getD j undef with
 | .int _ k=>k.toNat
 |_=>0
theorem wrap64 {x:Int} (h1: -9223372036854775808≤x) (h2:x≤9223372036854775807):IntKind.i64.wrap x=x:=IntWalk.i64_in x ⟨h1,h2⟩
theorem wrap32 {x:Int} (h1: -2147483648≤x) (h2:x≤2147483647):IntKind.i32.wrap x=x:=IntWalk.i32_in x ⟨h1,h2⟩
theorem qF {x:Int} (h1:0≤x) (h2:x≤255):IntKind.u8.wrap x=x:=IntWalk.u8_in x ⟨h1,h2⟩
theorem bo {x:Int} (h1:0≤x) (h2:x≤18446744073709551615):IntKind.u64.wrap x=x:=IntWalk.u64_in x ⟨h1,h2⟩
theorem fH {P:Program} {F:PF P} {env:List Value} {w:World} {Q:EX→List Value→World→Prop} (x y:HC) (b:Bool):
  gR F (.bool b) x y Q env w=if b=true then x.wp F Q env w else y.wp F Q env w:=by cases b<;>simp
structure PS (P:Program) where
 f:Nat
 val:List Value→Value
 ok:List Value→Prop
 sound:∀(args:List Value) (w:World),ok args→ai P f args (fun v w'=>v=val args∧w'=w) w
def PF.of {P:Program} (l:List (PS P)):PF P where
 ids:=l.map (·.f)
 val f args:=match l.find? (fun s=>s.f==f) with
  |some s=>s.val args
  | .none=>undef
 ok f args:=match l.find? (fun s=>s.f==f) with
  |some s=>s.ok args
  | .none=>False
 sound:=by
  intro f hf args w hok
  split at hok
  ·rename_i s hs
   have h1:=List.find?_some hs
   simp only [beq_iff_eq] at h1
   subst h1
   exact Calls.mono (s.sound args w hok) fun e w' ⟨v,he,hv,hw⟩=>⟨by rw [he,hv],hw⟩
  ·exact hok.elim
def PS.ib {P:Program} (f:Nat) (k:IntKind) (g:Int→Bool) (h:∀u w,ai P f [.int k u] (fun r w'=>r= .bool (g u)∧w'=w) w):PS P where
 f:=f
 val args:=match args with
  | [.int _ u]=> .bool (g u)
  |_=>undef
 ok args:=match args with
  | [.int k' _]=>k'=k
  |_=>False
 sound args w hok:=by
  split at hok
  ·subst hok;exact h _ w
  ·exact hok.elim
end Go.HL
namespace Go.HL
inductive It where
 |n (k:Nat)
 |e (x:SE)
 |es (x:de)
 |st (l:List (Nat×SE))
 |r (t:RT)
 |h (t:HC)
structure cE where
 p:Nat→PO
 e:Nat→EO
 v:Nat→Value
def Yd:Nat→Nat→List Nat
 |0,_=> []
 |f+1,n=>if n=0 then [] else (n %1024)::Yd f (n /1024)
def P8:Nat→List Nat→List (Nat×List Nat)
 |0,_=> []
 |_+1,[]=> []
 |f+1,n::r=>match r with
  | []=> []
  |i::r=>(i -1,(r.take (n -1)).map (· -1))::P8 f (r.drop (n -1))
def aea (k:Nat):MO:=
 if k=0 then .none else if k %2=1 then .some (k /2) else .free (let l:=Yd 10000 (k /2 -1);P8 l.length l)
def eRa:Nat→HC
 |0=> .skip
 |1=> .ret
 |k+2=> .exit k
def o8:List It→List It
 | .n k::s=> .n (k*8)::s
 |s=>s
def o9:List It→List It
 | .n k::s=> .n (k*8+1)::s
 |s=>s
def wP:List It→List It
 | .n k::s=> .n (k*8+2)::s
 |s=>s
def Lo:List It→List It
 | .n k::s=> .n (k*8+3)::s
 |s=>s
def HR:List It→List It
 | .n k::s=> .n (k*8+4)::s
 |s=>s
def nG:List It→List It
 | .n k::s=> .n (k*8+5)::s
 |s=>s
def oE:List It→List It
 | .n k::s=> .n (k*8+6)::s
 |s=>s
def vq:List It→List It
 | .n k::s=> .n (k*8+7)::s
 |s=>s
def wQ:List It→List It
 | .n k::s=> .e (.inp k)::s
 |s=>s
def wR:List It→List It
 | .n k::s=> .e (.bv k)::s
 |s=>s
def wS (T:cE):List It→List It
 | .n k::s=> .e (.cst (T.v k))::s
 |s=>s
def Eh:List It→List It
 | .es l:: .e x::s=> .es (.cons x l)::s
 |s=>s
def Ej (T:cE):List It→List It
 | .es l:: .n k::s=> .e (.op (T.p k) l)::s
 |s=>s
def Ek:List It→List It
 | .e b:: .e a:: .e c::s=> .e (.ite c false a b)::s
 |s=>s
def El:List It→List It
 | .e b:: .e a:: .e c::s=> .e (.ite c true a b)::s
 |s=>s
def O4:List It→List It
 | .st l:: .e x:: .n k::s=> .st ((k,x)::l)::s
 |s=>s
def o26:List It→List It
 | .st l::s=> .r (.done l none)::s
 |s=>s
def o27:List It→List It
 | .e c:: .st l::s=> .r (.done l (some c))::s
 |s=>s
def o28 (T:cE):List It→List It
 | .r t:: .es l:: .n k::s=> .r (.chk none (T.p k) l t)::s
 |s=>s
def o29 (T:cE):List It→List It
 | .r t:: .es l:: .n k:: .e g::s=> .r (.chk (some (g,false)) (T.p k) l t)::s
 |s=>s
def o30 (T:cE):List It→List It
 | .r t:: .es l:: .n k:: .e g::s=> .r (.chk (some (g,true)) (T.p k) l t)::s
 |s=>s
def o31:List It→List It
 | .r t:: .e c::s=> .r (.isb none c t)::s
 |s=>s
def o32:List It→List It
 | .r t:: .e c:: .e g::s=> .r (.isb (some (g,false)) c t)::s
 |s=>s
def o33:List It→List It
 | .r t:: .e c:: .e g::s=> .r (.isb (some (g,true)) c t)::s
 |s=>s
def o34 (T:cE):List It→List It
 | .r t:: .es l:: .n k::s=> .r (.eff (T.e k) l t)::s
 |s=>s
def o35:List It→List It
 | .r t:: .e x::s=> .r (.fu x t)::s
 |s=>s
def o36:List It→List It
 | .r b:: .r a:: .e c::s=> .r (.ite c false a b)::s
 |s=>s
def o37:List It→List It
 | .r b:: .r a:: .e c::s=> .r (.ite c true a b)::s
 |s=>s
def o39:List It→List It
 | .r t::s=> .h (.reg t)::s
 |s=>s
def o40:List It→List It
 | .h y:: .h x:: .r t::s=> .h (.br t x y)::s
 |s=>s
def o41:List It→List It
 | .r t:: .n k::s=> .h (.regq (aea k) t)::s
 |s=>s
def o42:List It→List It
 | .h y:: .h x:: .r t:: .n k::s=> .h (.brq (aea k) t x y)::s
 |s=>s
def o43:List It→List It
 | .h y:: .h x:: .n k::s=> .h (.cnd k x y)::s
 |s=>s
def o44:List It→List It
 | .h y:: .h x::s=> .h (.seq x y)::s
 |s=>s
def o45:List It→List It
 | .h x:: .n k::s=> .h (.block k x)::s
 |s=>s
def o46:List It→List It
 | .h x::s=> .h (.loop x)::s
 |s=>s
def o47:List It→List It
 | .n k::s=> .h (eRa k)::s
 |s=>s
def o48 (H:List HC):List It→List It
 | .n k::s=> .h (H.getD k .skip)::s
 |s=>s
def Pm (T:cE) (H:List HC):Nat→List It→List It
 |0,s=> .n 0::s
 |1,s=> .n 1::s
 |2,s=> .n 2::s
 |3,s=> .n 3::s
 |4,s=> .n 4::s
 |5,s=> .n 5::s
 |6,s=> .n 6::s
 |7,s=> .n 7::s
 |8,s=>o8 s
 |9,s=>o9 s
 |10,s=>wP s
 |11,s=>Lo s
 |12,s=>HR s
 |13,s=>nG s
 |14,s=>oE s
 |15,s=>vq s
 |16,s=>wQ s
 |17,s=>wR s
 |18,s=>wS T s
 |19,s=> .es .nil::s
 |20,s=>Eh s
 |21,s=>Ej T s
 |22,s=>Ek s
 |23,s=>El s
 |24,s=> .st []::s
 |25,s=>O4 s
 |26,s=>o26 s
 |27,s=>o27 s
 |28,s=>o28 T s
 |29,s=>o29 T s
 |30,s=>o30 T s
 |31,s=>o31 s
 |32,s=>o32 s
 |33,s=>o33 s
 |34,s=>o34 T s
 |35,s=>o35 s
 |36,s=>o36 s
 |37,s=>o37 s
 |39,s=>o39 s
 |40,s=>o40 s
 |41,s=>o41 s
 |42,s=>o42 s
 |43,s=>o43 s
 |44,s=>o44 s
 |45,s=>o45 s
 |46,s=>o46 s
 |47,s=>o47 s
 |48,s=>o48 H s
 |_,s=>s
def bXa (T:cE) (H:List HC):Nat→Nat→List It→List It
 |0,_,s=>s
 |f+1,n,s=>if n=0 then s else bXa T H f (n /64) (Pm T H (n %64) s)
def eZa:List It→HC
 | .h t::_=>t
 |_=> .skip
def aM (T:cE) (H:List HC) (n:Nat):HC:=eZa (bXa T H 100000 n [])
theorem az {P:Program} {F:PF P} {f:FuncId} {fuel:Nat} {l:ag} (hl:ah F f fuel=some l) {args:List Value} {K:Value→World→Prop} {w:World} (hlen:args.length≤l.N) {t:HC}
  (h:t.wp F (tw P l.rs K) (tC l.L l.N args) w) (e:l.hc=t:=by (conv=>lhs;cbv)):ai P f args K w:=dp hl hlen (e▸h)
end Go.HL
namespace Go.HL.Nm
open Go.HL
def gg:List UInt8→Nat→Int→Option Int
 |_,0,v=>some v
 | [],_+1,_=>none
 |b::r,n+1,v=>if (b.toNat:Int)<128∨191<(b.toNat:Int) then none else gg r n (v*64+b.toNat -128)
def iz (b:Int) (r:List UInt8) (v:Int) (n:Nat) (least:Int):Int×Nat:=
 match gg r n v with
 |some v=>if v<least∨1114111<v∨(55296≤v∧v≤57343) then (2097152+b,1) else (v,1+n)
 |none=>(2097152+b,1)
def bA:List UInt8→Int×Nat
 | []=>(0,1)
 |c::r=>
  if (c.toNat:Int)<128 then ((c.toNat:Int),1)
  else if 192≤(c.toNat:Int)∧(c.toNat:Int)<224 then iz c.toNat r (c.toNat -192) 1 128
  else if 224≤(c.toNat:Int)∧(c.toNat:Int)<240 then iz c.toNat r (c.toNat -224) 2 2048
  else if 240≤(c.toNat:Int)∧(c.toNat:Int)<248 then iz c.toNat r (c.toNat -240) 3 65536
  else (2097152+c.toNat,1)
theorem kN (c:UInt8) (r:List UInt8):bA (c::r)=
  if (c.toNat:Int)<128 then ((c.toNat:Int),1)
  else if 192≤(c.toNat:Int)∧(c.toNat:Int)<224 then iz c.toNat r (c.toNat -192) 1 128
  else if 224≤(c.toNat:Int)∧(c.toNat:Int)<240 then iz c.toNat r (c.toNat -224) 2 2048
  else if 240≤(c.toNat:Int)∧(c.toNat:Int)<248 then iz c.toNat r (c.toNat -240) 3 65536
  else (2097152+c.toNat,1):=rfl
theorem CG (n:Nat):∀(r:List UInt8) (v u:Int),0≤v→gg r n v=some u→0≤u∧n≤r.length:=by
 induction n with
 |zero=>intro r v u hv h;cases r<;>simp only [gg,Option.some.injEq] at h<;>subst h<;>exact ⟨hv,Nat.zero_le _⟩
 |succ n ih=>
  intro r v u hv h
  cases r with
  |nil=>simp only [gg] at h;cases h
  |cons b r=>
   simp only [gg] at h
   split at h
   ·cases h
   ·have:=ih r _ u (by have:=b.toNat_lt;omega) h
    simp only [List.length_cons];omega
theorem xW (b:Int) (r:List UInt8) (v:Int) (n:Nat) (least:Int) (hb:0≤b∧b<256) (hv:0≤v):
  0≤(iz b r v n least).1∧(iz b r v n least).1<2097408∧1≤(iz b r v n least).2∧(iz b r v n least).2≤1+r.length:=by
 unfold iz
 split
 ·rename_i u hu
  have:=CG n r v u hv hu
  split
  ·simp only;omega
  ·simp only;omega
 ·simp only;omega
theorem gK {l:List UInt8} (h:l≠ []):0≤(bA l).1∧(bA l).1<2097408∧1≤(bA l).2∧(bA l).2≤l.length:=by
 cases l with
 |nil=>exact absurd rfl h
 |cons c r=>
  have hc:=c.toNat_lt
  unfold bA
  simp only [List.length_cons]
  split
  ·simp only;omega
  split
  ·have:=xW c.toNat r (c.toNat -192) 1 128 (by omega) (by omega);omega
  split
  ·have:=xW c.toNat r (c.toNat -224) 2 2048 (by omega) (by omega);omega
  split
  ·have:=xW c.toNat r (c.toNat -240) 3 65536 (by omega) (by omega);omega
  ·simp only;omega
theorem Q3 (l:List UInt8) (i:Nat):(mk l).get! i=l.getD i 0:=by
 simp only [mk,ByteArray.get!,List.getD_eq_getElem?_getD]
 simp
 rfl
def L0 (d:List UInt8):Nat×Nat:=
 let at' (k:Nat):Nat:=(d.getD k 0).toNat
 let cont (k:Nat):Bool:=k<d.length&&at' k /64==2
 let b0:=at' 0
 if b0<0x80 then (b0,1)
 else if b0 /32==6&&cont 1 then
  let c:=(b0 %32)*64+at' 1 %64
  if c≥0x80 then (c,2) else (65533,1)
 else if b0 /16==14&&cont 1&&cont 2 then
  let c:=(b0 %16)*4096+(at' 1 %64)*64+at' 2 %64
  if c≥0x800&&Utf8.valid c then (c,3) else (65533,1)
 else if b0 /8==30&&cont 1&&cont 2&&cont 3 then
  let c:=(b0 %8)*262144+(at' 1 %64)*4096+(at' 2 %64)*64+at' 3 %64
  if c≥0x10000&&Utf8.valid c then (c,4) else (65533,1)
 else (65533,1)
theorem jQ (l:List UInt8) (i:Nat):Utf8.decode (mk l) i=L0 (l.drop i):=by
 have e:∀k,(l.drop i).getD k 0=l.getD (i+k) 0:=by intro k;simp [List.getD_eq_getElem?_getD,List.getElem?_drop]
 have e2:∀k,decide (i+k<(mk l).size)=decide (k<(l.drop i).length):=by intro k;simp;omega
 unfold Utf8.decode L0
 simp only [Q3,e,e2,Utf8.runeError]
def dW (u:Int):Nat:=if 2097152≤u then 65533 else u.toNat
theorem xE (c:Nat):Utf8.valid (c:Int)=decide (¬(1114111<c∨(55296≤c∧c≤57343))):=by
 rw [Bool.eq_iff_iff]
 simp only [Utf8.valid,Bool.or_eq_true,Bool.and_eq_true,decide_eq_true_eq]
 omega
theorem gDa (b b1:Nat) (hb:192≤b∧b<224) (h1:128≤b1∧b1≤191):((b:Int) -192)*64+b1 -128=(((b %32)*64+b1 %64:Nat):Int):=by omega
theorem gEa (b b1 b2:Nat) (hb:224≤b∧b<240) (h1:128≤b1∧b1≤191) (h2:128≤b2∧b2≤191):
  (((b:Int) -224)*64+b1 -128)*64+b2 -128=(((b %16)*4096+(b1 %64)*64+b2 %64:Nat):Int):=by omega
theorem gFa (b b1 b2 b3:Nat) (hb:240≤b∧b<248) (h1:128≤b1∧b1≤191) (h2:128≤b2∧b2≤191) (h3:128≤b3∧b3≤191):
  ((((b:Int) -240)*64+b1 -128)*64+b2 -128)*64+b3 -128=(((b %8)*262144+(b1 %64)*4096+(b2 %64)*64+b3 %64:Nat):Int):=by omega
def dA (r:List UInt8) (k:Nat):Bool:=decide (k<r.length)&&(r.getD k 0).toNat /64==2
theorem du (r:List UInt8) (n:Nat) (v:Int):gg r (n+1) v=if dA r 0=true then gg r.tail n (v*64+(r.getD 0 0).toNat -128) else none:=by
 cases r with
 |nil=>simp [gg,dA]
 |cons b r=>
  have hb:=b.toNat_lt
  simp only [gg,dA,List.length_cons,List.getD_cons_zero,List.tail_cons]
  by_cases h:(b.toNat:Int)<128∨191<(b.toNat:Int)
  ·rw [if_pos h,if_neg];simp;omega
  ·rw [if_neg h,if_pos];simp;omega
theorem jN (r:List UInt8) (k:Nat):dA r.tail k=dA r (k+1):=by
 cases r<;>simp [dA]<;>rfl
theorem nj (r:List UInt8) (k:Nat):r.tail.getD k 0=r.getD (k+1) 0:=by cases r<;>simp
theorem iR {r:List UInt8} {k:Nat} (h:dA r k=true):128≤(r.getD k 0).toNat∧(r.getD k 0).toNat≤191:=by
 simp only [dA,Bool.and_eq_true,beq_iff_eq] at h
 omega
theorem gF (r:List UInt8) (v:Int):gg r 0 v=some v:=by cases r<;>rfl
theorem mY (d:List UInt8) (h:d≠ []):L0 d=(dW (bA d).1,(bA d).2):=by
 cases d with
 |nil=>exact absurd rfl h
 |cons c r=>
  have hc:=c.toNat_lt
  have hcont:∀k,(decide (k+1<(c::r).length)&&((c::r).getD (k+1) 0).toNat /64==2)=dA r k:=by
   intro k;simp [dA]
  have e0:=hcont 0;have e1:=hcont 1;have e2:=hcont 2
  simp only [Nat.zero_add,Nat.reduceAdd] at e0 e1 e2
  have g0:(c::r).getD 0 0=c:=rfl
  have g1:(c::r).getD 1 0=r.getD 0 0:=rfl
  have g2:(c::r).getD 2 0=r.getD 1 0:=rfl
  have g3:(c::r).getD 3 0=r.getD 2 0:=rfl
  unfold L0 bA
  simp only [e0,e1,e2,g0]
  by_cases h0:c.toNat<128
  ·have hI:(c.toNat:Int)<128:=by omega
   have hn:¬(2097152:Int)≤(c.toNat:Int):=by omega
   rw [if_pos h0,if_pos hI]
   simp only [dW]
   rw [if_neg hn];simp
  have hI:¬(c.toNat:Int)<128:=by omega
  rw [if_neg h0,if_neg hI]
  have hbad:dW (2097152+(c.toNat:Int))=65533:=by unfold dW;rw [if_pos (by omega)]
  have hgood:∀n:Nat,n≤1114111→dW (n:Int)=n:=by intro n hn;unfold dW;rw [if_neg (show¬(2097152:Int)≤(n:Int) by omega)];simp
  by_cases k2:192≤(c.toNat:Int)∧(c.toNat:Int)<224
  ·have t1:(c.toNat /32==6)=true:=by simp;omega
   have t2:(c.toNat /16==14)=false:=by simp;omega
   have t3:(c.toNat /8==30)=false:=by simp;omega
   rw [if_pos k2]
   simp only [t1,t2,t3,Bool.true_and,Bool.false_and,Bool.false_eq_true,if_false]
   unfold iz
   rw [du,gF]
   cases hc0:dA r 0
   ·simp [hbad]
   ·have b1:=iR hc0
    simp only [if_true]
    rw [gDa c.toNat (r.getD 0 0).toNat (by omega) b1]
    rw [g1]
    generalize hv:(c.toNat %32)*64+(r.getD 0 0).toNat %64=v
    have hv2:v<2048:=by omega
    by_cases hl:v≥128
    ·have q:¬((v:Int)<128∨1114111<(v:Int)∨(55296≤(v:Int)∧(v:Int)≤57343)):=by omega
     rw [if_pos hl,if_neg q]
     simp only [hgood v (by omega)]
    ·have q:((v:Int)<128∨1114111<(v:Int)∨(55296≤(v:Int)∧(v:Int)≤57343)):=by omega
     rw [if_neg hl,if_pos q]
     simp only [hbad]
  rw [if_neg k2]
  have t1:(c.toNat /32==6)=false:=by simp;omega
  by_cases k3:224≤(c.toNat:Int)∧(c.toNat:Int)<240
  ·have t2:(c.toNat /16==14)=true:=by simp;omega
   have t3:(c.toNat /8==30)=false:=by simp;omega
   rw [if_pos k3]
   simp only [t1,t2,t3,Bool.true_and,Bool.false_and,Bool.false_eq_true,if_false]
   unfold iz
   rw [du]
   cases hc0:dA r 0
   ·simp [hbad]
   ·have b1:=iR hc0
    simp only [if_true]
    rw [du,jN,gF,nj]
    cases hc1:dA r 1
    ·simp [hbad]
    ·have b2:=iR hc1
     simp only [Bool.and_self,if_true,Nat.zero_add,hc1]
     rw [gEa c.toNat (r.getD 0 0).toNat (r.getD 1 0).toNat (by omega) b1 b2]
     rw [g1,g2]
     generalize hv:(c.toNat %16)*4096+((r.getD 0 0).toNat %64)*64+(r.getD 1 0).toNat %64=v
     rw [xE]
     by_cases hl:2048≤v∧¬(1114111<v∨(55296≤v∧v≤57343))
     ·have q:¬((v:Int)<2048∨1114111<(v:Int)∨(55296≤(v:Int)∧(v:Int)≤57343)):=by omega
      have q2:(decide (v≥2048)&&decide (¬(1114111<v∨(55296≤v∧v≤57343))))=true:=by simp only [Bool.and_eq_true,decide_eq_true_eq];exact ⟨hl.1,hl.2⟩
      rw [if_pos q2,if_neg q]
      simp only [hgood v (by omega)]
     ·have q:((v:Int)<2048∨1114111<(v:Int)∨(55296≤(v:Int)∧(v:Int)≤57343)):=by omega
      have q2:¬(decide (v≥2048)&&decide (¬(1114111<v∨(55296≤v∧v≤57343))))=true:=by simp only [Bool.and_eq_true,decide_eq_true_eq];exact hl
      rw [if_neg q2,if_pos q]
      simp only [hbad]
  rw [if_neg k3]
  have t2:(c.toNat /16==14)=false:=by simp;omega
  by_cases k4:240≤(c.toNat:Int)∧(c.toNat:Int)<248
  ·have t3:(c.toNat /8==30)=true:=by simp;omega
   rw [if_pos k4]
   simp only [t1,t2,t3,Bool.true_and,Bool.false_and,Bool.false_eq_true,if_false]
   unfold iz
   rw [du]
   cases hc0:dA r 0
   ·simp [hbad]
   ·have b1:=iR hc0
    simp only [if_true]
    rw [du,jN,nj]
    cases hc1:dA r 1
    ·simp [hbad]
    ·have b2:=iR hc1
     simp only [Bool.and_self,if_true,Nat.zero_add,hc1]
     rw [du,jN,jN,gF,nj,nj]
     cases hc2:dA r 2
     ·simp [hbad]
     ·have b3:=iR hc2
      simp only [Bool.and_self,if_true,Nat.zero_add,Nat.reduceAdd,hc2]
      rw [gFa c.toNat (r.getD 0 0).toNat (r.getD 1 0).toNat (r.getD 2 0).toNat (by omega) b1 b2 b3]
      rw [g1,g2,g3]
      generalize hv:(c.toNat %8)*262144+((r.getD 0 0).toNat %64)*4096+((r.getD 1 0).toNat %64)*64+(r.getD 2 0).toNat %64=v
      rw [xE]
      by_cases hl:65536≤v∧¬(1114111<v∨(55296≤v∧v≤57343))
      ·have q:¬((v:Int)<65536∨1114111<(v:Int)∨(55296≤(v:Int)∧(v:Int)≤57343)):=by omega
       have q2:(decide (v≥65536)&&decide (¬(1114111<v∨(55296≤v∧v≤57343))))=true:=by simp only [Bool.and_eq_true,decide_eq_true_eq];exact ⟨hl.1,hl.2⟩
       rw [if_pos q2,if_neg q]
       simp only [hgood v (by omega)]
      ·have q:((v:Int)<65536∨1114111<(v:Int)∨(55296≤(v:Int)∧(v:Int)≤57343)):=by omega
       have q2:¬(decide (v≥65536)&&decide (¬(1114111<v∨(55296≤v∧v≤57343))))=true:=by simp only [Bool.and_eq_true,decide_eq_true_eq];exact hl
       rw [if_neg q2,if_pos q]
       simp only [hbad]
  rw [if_neg k4]
  have t3:(c.toNat /8==30)=false:=by simp;omega
  simp only [t1,t2,t3,Bool.false_and,Bool.false_eq_true,if_false,hbad]
def iH:Nat→List UInt8→List (Int×Nat)
 |0,_=> []
 |_+1,[]=> []
 |n+1,c::r=>bA (c::r)::iH n ((c::r).drop (bA (c::r)).2)
def dF (l:List UInt8):List (Int×Nat):=iH l.length l
theorem EV (n:Nat):iH n []= []:=by cases n<;>rfl
theorem qE (n:Nat):∀l:List UInt8,l.length≤n→iH n l=iH l.length l:=by
 induction n using Nat.strongRecOn with
 |_ n ih=>
  intro l hl
  cases l with
  |nil=>simp [EV]
  |cons c r=>
   have hb:=gK (l:=c::r) (by simp)
   cases n with
   |zero=>simp at hl
   |succ n=>
    simp only [List.length_cons,iH,List.cons.injEq,true_and] at hl hb⊢
    have hd:((c::r).drop (bA (c::r)).2).length≤r.length:=by simp only [List.length_drop,List.length_cons];omega
    rw [ih n (by omega) _ (by omega)]
    by_cases hn:r.length<n+1
    ·rw [ih r.length hn _ hd]
    ·omega
theorem nz:dF []= []:=rfl
theorem uS {l:List UInt8} (h:l≠ []):dF l=bA l::dF (l.drop (bA l).2):=by
 cases l with
 |nil=>exact absurd rfl h
 |cons c r=>
  have hb:=gK (l:=c::r) (by simp)
  have hd:((c::r).drop (bA (c::r)).2).length≤r.length:=by simp only [List.length_drop,List.length_cons];omega
  show iH (r.length+1) (c::r)=_
  simp only [iH,dF]
  rw [qE r.length _ hd]
theorem xD (l:List UInt8):(dF l).length≤l.length:=by
 unfold dF
 generalize hn:l.length=n
 induction n using Nat.strongRecOn generalizing l with
 |_ n ih=>
  cases l with
  |nil=>subst hn;simp [iH]
  |cons c r=>
   have hb:=gK (l:=c::r) (by simp)
   simp only [List.length_cons] at hn hb
   subst hn
   simp only [iH,List.length_cons]
   have hd:((c::r).drop (bA (c::r)).2).length≤r.length:=by simp only [List.length_drop,List.length_cons];omega
   rw [qE r.length _ hd]
   have:=ih _ (show ((c::r).drop (bA (c::r)).2).length<r.length+1 by omega) _ rfl
   omega
def U2:Nat→List (Int×Nat)→List Nat
 |_,[]=> []
 |p,u::r=>p::U2 (p+u.2) r
def kV:List (Int×Nat)→Nat
 | []=>0
 |u::r=>u.2+kV r
theorem Cz (a b:List (Int×Nat)):kV (a++b)=kV a+kV b:=by
 induction a with
 |nil=>simp [kV]
 |cons u a ih=>simp [kV,ih,Nat.add_assoc]
theorem uT {l:List UInt8} {done:List (Int×Nat)} {i:Nat} (h:dF l=done++dF (l.drop i)) (hi:i<l.length):
  dF l=(done++ [bA (l.drop i)])++dF (l.drop (i+(bA (l.drop i)).2)):=by
 rw [h,uS (l:=l.drop i) (by simp;omega),List.drop_drop]
 simp
theorem FW {l:List UInt8} {i:Nat} (hi:i<l.length):i+(bA (l.drop i)).2≤l.length∧1≤(bA (l.drop i)).2:=by
 have:=gK (l:=l.drop i) (by simp;omega)
 simp only [List.length_drop] at this
 omega
theorem EM (l:List UInt8):kV (dF l)=l.length:=by
 unfold dF
 generalize hn:l.length=n
 induction n using Nat.strongRecOn generalizing l with
 |_ n ih=>
  cases l with
  |nil=>subst hn;simp [iH,kV]
  |cons c r=>
   have hb:=gK (l:=c::r) (by simp)
   simp only [List.length_cons] at hn hb
   subst hn
   simp only [iH,kV]
   have hd:((c::r).drop (bA (c::r)).2).length≤r.length:=by simp only [List.length_drop,List.length_cons];omega
   rw [qE r.length _ hd]
   have:=ih _ (show ((c::r).drop (bA (c::r)).2).length<r.length+1 by omega) _ rfl
   rw [this]
   simp only [List.length_drop,List.length_cons];omega
theorem ru (b:Int) (r:List UInt8) (v:Int) (n:Nat) (least:Int):iz b r v n least=(2097152+b,1)∨
  ∃u,gg r n v=some u∧least≤u∧u≤1114111∧¬(55296≤u∧u≤57343)∧iz b r v n least=(u,1+n):=by
 unfold iz
 cases gg r n v with
 |none=>exact .inl rfl
 |some u=>
  by_cases h:u<least∨1114111<u∨(55296≤u∧u≤57343)
  ·exact .inl (by simp only [if_pos h])
  ·exact .inr ⟨u,rfl,by omega,by omega,by omega,by simp only [if_neg h]⟩
theorem K4:∀(n:Nat) (r:List UInt8) (v u M:Int),v<M→gg r n v=some u→u<M*64^n:=by
 intro n
 induction n with
 |zero=>intro r v u M hv h;rw [gF] at h;cases h;simpa using hv
 |succ n ih=>
  intro r v u M hv h
  rw [du] at h
  split at h
  ·rename_i hc
   have hb:=iR hc
   have:=ih _ _ u (M*64) (by omega) h
   rw [Int.pow_succ]
   have e:M*(64^n*64)=M*64*64^n:=by rw [Int.mul_assoc,Int.mul_comm 64]
   omega
  ·cases h
theorem Kb (c:UInt8) (r:List UInt8) (h:2097152≤(bA (c::r)).1):(bA (c::r)).1=2097152+c.toNat:=by
 have hc:=c.toNat_lt
 rw [kN] at h⊢
 have key:∀v n least,2097152≤(iz c.toNat r v n least).1→(iz c.toNat r v n least).1=2097152+c.toNat:=by
  intro v n least hh
  rcases ru c.toNat r v n least with e|⟨u,_,_,h3,_,e⟩
  ·rw [e]
  ·rw [e] at hh;simp only at hh;omega
 split at h
 ·simp only at h;omega
 rename_i h1
 split at h
 ·rename_i h2;rw [if_neg h1,if_pos h2];exact key _ _ _ h
 rename_i h2
 split at h
 ·rename_i h3;rw [if_neg h1,if_neg h2,if_pos h3];exact key _ _ _ h
 rename_i h3
 split at h
 ·rename_i h4;rw [if_neg h1,if_neg h2,if_neg h3,if_pos h4];exact key _ _ _ h
 rename_i h4
 rw [if_neg h1,if_neg h2,if_neg h3,if_neg h4]
theorem wV (d:List UInt8) (hd:d≠ []):(bA d).1=65533↔ [239,191,189].isPrefixOf d=true:=by
 constructor
 ·intro h
  cases d with
  |nil=>exact absurd rfl hd
  |cons c r=>
   have hc:=c.toNat_lt
   rw [kN] at h
   split at h
   ·simp only at h;omega
   split at h
   ·rcases ru c.toNat r (c.toNat -192) 1 128 with e|⟨u,h1,h2,h3,h4,e⟩
    ·rw [e] at h;simp only at h;omega
    ·have:=K4 1 r _ u 32 (by omega) h1
     rw [e] at h;simp only at h;omega
   split at h
   ·rcases ru c.toNat r (c.toNat -224) 2 2048 with e|⟨u,h1,h2,h3,h4,e⟩
    ·rw [e] at h;simp only at h;omega
    ·rw [e] at h;simp only at h;subst h
     rw [du] at h1
     split at h1
     ·rename_i c0
      rw [du,gF] at h1
      split at h1
      ·rename_i c1
       have b0:=iR c0
       have b1:=iR c1
       simp only [Option.some.injEq] at h1
       cases r with
       |nil=>simp [dA] at c0
       |cons x r=>
        cases r with
        |nil=>simp [dA] at c1
        |cons y r=>
         simp only [List.getD_cons_zero,List.tail_cons] at b0 b1 h1
         have e1:c.toNat=239∧x.toNat=191∧y.toNat=189:=by omega
         have f1:c=239:=UInt8.toNat_inj.1 e1.1
         have f2:x=191:=UInt8.toNat_inj.1 e1.2.1
         have f3:y=189:=UInt8.toNat_inj.1 e1.2.2
         subst f1;subst f2;subst f3
         simp
      ·cases h1
     ·cases h1
   split at h
   ·rcases ru c.toNat r (c.toNat -240) 3 65536 with e|⟨u,h1,h2,h3,h4,e⟩
    ·rw [e] at h;simp only at h;omega
    ·rw [e] at h;simp only at h;omega
   ·simp only at h;omega
 ·intro h
  rw [List.isPrefixOf_iff_prefix] at h
  obtain ⟨t,rfl⟩:=h
  show (bA (239::191::189::t)).1=65533
  rw [kN]
  simp [iz,gg]
theorem Pw {d:List UInt8} (hd:d≠ []):(if dW (bA d).1=65533∧ [239,191,189].isPrefixOf d=false then 2097152+((d.headD 0).toNat:Int) else (dW (bA d).1:Int))=(bA d).1:=by
 have hb:=gK hd
 by_cases h:2097152≤(bA d).1
 ·have hp: [239,191,189].isPrefixOf d=false:=by
   cases hh: [239,191,189].isPrefixOf d with
   |false=>rfl
   |true=>have:=(wV d hd).2 hh;omega
  rw [if_pos ⟨by unfold dW;rw [if_pos h],hp⟩]
  cases d with
  |nil=>exact absurd rfl hd
  |cons c r=>rw [Kb c r h];rfl
 ·have hr:(dW (bA d).1:Int)=(bA d).1:=by unfold dW;rw [if_neg h];omega
  rw [if_neg]
  ·exact hr
  ·rintro ⟨h1,h2⟩
   have:(bA d).1=65533:=by omega
   rw [(wV d hd).1 this] at h2
   cases h2
end Go.HL.Nm
