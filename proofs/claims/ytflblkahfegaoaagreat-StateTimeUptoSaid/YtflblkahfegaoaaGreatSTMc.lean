/- Part 3. -/
import Derived.Test.YtflblkahfegaoaaGreatSTMb
import Derived.IntWalk
set_option linter.unusedSimpArgs false
set_option linter.unusedVariables false
set_option maxRecDepth 4000
namespace Go.HL
def Hp:=Nat→Option Obj
def Hp.sub (h g:Hp):Prop:=∀b o,h b=some o→g b=some o
def Hp.RZ (h g:Hp):Prop:=∀b,h b=none∨g b=none
def Hp.un (h g:Hp):Hp:=fun b=>match h b with|some o=>some o|none=>g b
def S6 (w:World):Hp:=fun b=>w.heap[b]?
def al:=Hp→Prop
def sep (A B:al):al:=fun h=>∃h1 h2,Hp.RZ h1 h2∧h=Hp.un h1 h2∧A h1∧B h2
instance:Mul al:=⟨sep⟩
def emp:al:=fun h=>∀b,h b=none
def pt (b:Nat) (o:Obj):al:=fun h=>h b=some o∧∀c,c≠b→h c=none
def oG (w0:World):al:=fun h=>h=S6 w0
theorem Hp.QE {h g:Hp} (d:Hp.RZ h g):Hp.un h g=Hp.un g h:=by
 funext b;simp only [Hp.un];rcases d b with e|e<;>rw [e]<;>cases h b<;>cases g b<;>simp_all
theorem iD (A B:al):A*B=B*A:=by
 have:∀A B:al,∀h,(A*B) h→(B*A) h:=by
  rintro A B h ⟨h1,h2,d,rfl,a,b⟩;exact ⟨h2,h1,fun x=>(d x).symm,Hp.QE d,b,a⟩
 funext h;exact propext ⟨this A B h,this B A h⟩
theorem au (A B C:al):A*B*C=A*(B*C):=by
 funext h;apply propext;constructor
 ·rintro ⟨h12,h3,d,rfl,⟨h1,h2,d',rfl,a,b⟩,c⟩
  have d13:Hp.RZ h1 h3:=fun x=>by
   rcases d x with e|e
   ·simp only [Hp.un] at e;cases hh:h1 x<;>simp_all
   ·exact .inr e
  have d23:Hp.RZ h2 h3:=fun x=>by
   rcases d x with e|e
   ·simp only [Hp.un] at e;cases hh:h1 x<;>simp_all
   ·exact .inr e
  refine ⟨h1,Hp.un h2 h3,fun x=> ?_,?_,a,h2,h3,d23,rfl,b,c⟩
  ·rcases d' x with e|e
   ·exact .inl e
   ·rcases d13 x with e'|e'
    ·exact .inl e'
    ·right;simp only [Hp.un,e,e']
  ·funext x;simp only [Hp.un];cases h1 x<;>rfl
 ·rintro ⟨h1,h23,d,rfl,a,h2,h3,d',rfl,b,c⟩
  have d12:Hp.RZ h1 h2:=fun x=>by
   rcases d x with e|e
   ·exact .inl e
   ·simp only [Hp.un] at e;cases hh:h2 x<;>simp_all
  have d13:Hp.RZ h1 h3:=fun x=>by
   rcases d x with e|e
   ·exact .inl e
   ·simp only [Hp.un] at e;cases hh:h2 x<;>simp_all
  refine ⟨Hp.un h1 h2,h3,fun x=> ?_,?_,⟨h1,h2,d12,rfl,a,b⟩,c⟩
  ·rcases d' x with e|e
   ·rcases d13 x with e'|e'
    ·left;simp only [Hp.un,e,e']
    ·exact .inr e'
   ·exact .inr e
  ·funext x;simp only [Hp.un];cases h1 x<;>rfl
theorem fj (A B C:al):A*B*C=A*C*B:=by rw [au,iD B C,←au]
theorem kS {A A' B B':al} (ha:∀h,A h→A' h) (hb:∀h,B h→B' h):∀h,(A*B) h→(A'*B') h:=by
 rintro h ⟨h1,h2,d,rfl,a,b⟩;exact ⟨h1,h2,d,rfl,ha _ a,hb _ b⟩
theorem ao (A:al):A*emp=A:=by
 funext h;apply propext;constructor
 ·rintro ⟨h1,h2,d,rfl,a,b⟩
  have:Hp.un h1 h2=h1:=by funext x;simp only [Hp.un,b x];cases h1 x<;>rfl
  rw [this];exact a
 ·intro a
  exact ⟨h,fun _=>none,fun x=> .inr rfl,by funext x;simp only [Hp.un];cases h x<;>rfl,a,fun x=>rfl⟩
structure St (w0:World) (A:al) (w:World):Prop where
 os:w.os=w0.os
 out:w.output=w0.output
 size:w0.heap.size≤w.heap.size
 ran:w.tape=w0.tape∧w0.drawn≤w.drawn
 holds:∃h,Hp.sub h (S6 w)∧A h
theorem St.mono {w0 w:World} {A B:al} (s:St w0 A w) (h:∀h,A h→B h):St w0 B w:=
 ⟨s.os,s.out,s.size,s.ran,let ⟨g,h1,h2⟩:=s.holds;⟨g,h1,h _ h2⟩⟩
theorem Dh {h1 h2 g:Hp} (s:Hp.sub (Hp.un h1 h2) g):Hp.sub h1 g:=fun b o e=>s b o (by simp only [Hp.un,e])
theorem Jc {h1 h2 g:Hp} (d:Hp.RZ h1 h2) (s:Hp.sub (Hp.un h1 h2) g):Hp.sub h2 g:=fun b o e=>s b o (by
 rcases d b with e'|e'
 ·simp only [Hp.un,e',e]
 ·rw [e'] at e;cases e)
theorem St.drop {w0 w:World} {F A:al} (s:St w0 (F*A) w):St w0 F w:=
 ⟨s.os,s.out,s.size,s.ran,let ⟨g,h1,h,h',d,e,a,_⟩:=s.holds;⟨h,Dh (e▸h1),a⟩⟩
theorem St.swap {w0 w:World} {F A B:al} (s:St w0 (F*A*B) w):St w0 (F*B*A) w:=by rwa [fj]
theorem St.p3 {w0 w:World} {F A B C:al} (s:St w0 (F*A*B*C) w):St w0 (F*B*C*A) w:=by
 rw [fj F A B,fj (F*B) A C] at s;exact s
theorem St.look {w0 w:World} {F:al} {b:Nat} {o:Obj} (s:St w0 (F*pt b o) w):w.heap[b]?=some o:=by
 obtain ⟨g,h1,h,h',d,e,_,a⟩:=s.holds;exact Jc d (e▸h1) b o a.1
theorem St.pz {w0 w w1:World} (s:St w0 (oG w1) w) {b:Nat} {o:Obj} (hb:w1.heap[b]?=some o):w.heap[b]?=some o:=by
 obtain ⟨g,h1,a⟩:=s.holds;exact h1 b o (by rw [a];exact hb)
theorem St.start (w:World):St w (oG w) w:=
 ⟨rfl,rfl,Nat.le_refl _,⟨rfl,Nat.le_refl _⟩,_,fun b o h=>h,rfl⟩
def Obj.Lo:Obj→Prop
 | .cells _ _ f=>f=(0,0)
 |_=>True
theorem heap_alloc (w:World) (o:Obj) (b:Nat):(w.alloc o).heap[b]?=if b=w.heap.size then some o else w.heap[b]?:=by
 simp only [World.alloc,Array.getElem?_push]
theorem St.alloc {w0 w:World} {F:al} (s:St w0 F w) {o:Obj} (_:Obj.Lo o):St w0 (F*pt w.heap.size o) (w.alloc o):=by
 refine ⟨s.os,s.out,?_,s.ran,?_⟩
 ·have:=s.size;simp;omega
 ·obtain ⟨g,h1,h2⟩:=s.holds
  have hn:g w.heap.size=none:=by
   cases hh:g w.heap.size with
   |none=>rfl
   |some o'=>
    have h3:w.heap[w.heap.size]?=some o':=h1 _ _ hh;exact absurd (Array.getElem?_eq_some_iff.1 h3).1 (by omega)
  refine ⟨Hp.un g (fun b=>if b=w.heap.size then some o else none),fun b o' hb=> ?_,g,_,fun b=> ?_,rfl,h2,?_,?_⟩
  ·show (w.alloc o).heap[b]?=some o'
   rw [heap_alloc];simp only [Hp.un] at hb
   by_cases e:b=w.heap.size
   ·subst e;simp only [hn,if_true] at hb;simpa using hb
   ·simp only [e,if_false] at hb⊢
    cases hg:g b with
    |none=>rw [hg] at hb;cases hb
    |some o''=>rw [hg] at hb;cases hb;exact h1 _ _ hg
  ·by_cases e:b=w.heap.size
   ·subst e;exact .inl hn
   ·right;simp [e]
  ·simp
  ·intro c hc;simp [hc]
theorem St.drew {w0 w:World} {A:al} (s:St w0 A w):St w0 A w.drew:=⟨s.os,s.out,s.size,⟨s.ran.1,Nat.le_succ_of_le s.ran.2⟩,s.holds⟩
theorem St.vo {w0 w w':World} {F:al} {b:Nat} {o o':Obj} (s:St w0 (F*pt b o) w) (h1:w'.heap[b]?=some o') (h2:∀c,c≠b→w'.heap[c]?=w.heap[c]?)
  (hs:w'.heap.size=w.heap.size) (hos:w'.os=w.os) (hout:w'.output=w.output) (_:∀c t f,o'= .cells c t f→f=(0,0)) (hrun:w'.tape=w.tape∧w'.drawn=w.drawn:=by exact ⟨rfl,rfl⟩):St w0 (F*pt b o') w':=by
 refine ⟨hos.trans s.os,hout.trans s.out,by rw [hs];exact s.size,⟨hrun.1.trans s.ran.1,hrun.2▸s.ran.2⟩,?_⟩
 ·obtain ⟨g,hg,h,h',d,rfl,a,hb,hn⟩:=s.holds
  have hnb:h b=none:=by
   rcases d b with e|e
   ·exact e
   ·rw [hb] at e;cases e
  refine ⟨Hp.un h (fun c=>if c=b then some o' else none),fun c x hx=> ?_,h,_,fun c=> ?_,rfl,a,?_,?_⟩
  ·show w'.heap[c]?=some x
   simp only [Hp.un] at hx
   by_cases e:c=b
   ·subst e;simp only [hnb,if_true] at hx;rw [h1];exact hx
   ·simp only [e,if_false] at hx
    rw [h2 c e];cases hh:h c with
    |none=>rw [hh] at hx;cases hx
    |some y=>rw [hh] at hx;cases hx;exact Dh hg c _ hh
  ·by_cases e:c=b
   ·subst e;exact .inl hnb
   ·right;simp [e]
  ·simp
  ·intro c hc;simp [hc]
theorem heap_setCell (w:World) (b off:Nat) (v:Value) (c:Array Value) (t:TypeId) (f:Nat×Nat) (h:w.heap[b]?=some (.cells c t f)) (x:Nat):
  (w.setCell ⟨b,off,none⟩ v).heap[x]?=if x=b then some (.cells (c.setIfInBounds off v) t f) else w.heap[x]?:=by
 simp only [World.setCell,Array.getElem?_modify]
 by_cases e:x=b
 ·subst e;simp [h]
 ·simp [Ne.symm e,e]
theorem St.set {w0 w:World} {F:al} {b off:Nat} {c:Array Value} {t:TypeId} {v:Value} (s:St w0 (F*pt b (.cells c t (0,0))) w):
  St w0 (F*pt b (.cells (c.setIfInBounds off v) t (0,0))) (w.setCell ⟨b,off,none⟩ v):=by
 have hb:=s.look;refine s.vo (w':=w.setCell ⟨b,off,none⟩ v) ?_ ?_ (by simp) rfl rfl (fun c t f e=>by cases e;rfl)
 ·rw [heap_setCell w b off v c t _ hb b,if_pos rfl]
 ·intro x hx;rw [heap_setCell w b off v c t _ hb x,if_neg hx]
section
variable {P:Program} {K:Value→World→Prop} {w w0:World} {F:al}
theorem cell_of {b off:Nat} {c:Array Value} {t:TypeId} {f:Nat×Nat} (hb:w.heap[b]?=some (.cells c t f)):w.cell? ⟨b,off,none⟩=c[off]?:=by
 simp [World.cell?,hb]
theorem eM (b off n:Nat):(⟨b,off,none⟩:Addr).add n=⟨b,off+n,none⟩:=by
 unfold Addr.add;split<;>simp_all
theorem aN {s:Sem Value} {v:Value} {w':World} (h:s.run P w= .ok v w') (hk:K v w'):fS P (dC s) K w:=by
 unfold fS dC;simp [h];exact hk
theorem kX {s:Sem Unit} {w':World} (h:s.run P w= .ok () w') (hk:K undef w'):fS P (DB s) K w:=by
 unfold fS DB;simp [h];exact hk
theorem ae {a:Addr} {n:Nat} {v:Value} (hc:w.cell? a=some v) (hk:K v w):aG P (.ld false n) [.pointer (some a)] K w:=by
 intro _;refine aN (w':=w) (v:=v) ?_ hk;simp [sK,Instr.sureAddr,hc]
theorem aU {b off:Nat} {c:Array Value} {t:TypeId} {v:Value} (s:St w0 (F*pt b (.cells c t (0,0))) w) (h1:v.oneCell'=true) (hoff:off<c.size)
  (hk:∀w',St w0 (F*pt b (.cells (c.setIfInBounds off v) t (0,0))) w'→K undef w'):aG P (.st 1) [.pointer (some ⟨b,off,none⟩),v] K w:=by
 intro _;have hb:=s.look;have hc:w.cell? ⟨b,off,none⟩=some c[off]:=by rw [cell_of hb];simp [hoff]
 have hf:w.frozen? ⟨b,off,none⟩=false:=by simp [World.frozen?,hb]
 refine kX (w':=w.setCell ⟨b,off,none⟩ v) ?_ (hk _ s.set);have hcs:v.cells= #[v]:=by cases v<;>first|rfl|(simp [Value.oneCell'] at h1)
 have hst:=run_store P w ⟨b,off,none⟩ v .plain h1;simp only [hc,hf,Bool.false_eq_true,if_false] at hst;have ha:(⟨b,off,none⟩:Addr).add 0=⟨b,off,none⟩:=rfl;simp [stS,Instr.sureAddr,hcs,storeCells,ha,hst]
theorem rf {b off:Nat} {c:Array Value} {t:TypeId} {vs:List Value} (s:St w0 (F*pt b (.cells c t (0,0))) w):
  St w0 (F*pt b (.cells (c.toList.take off++vs++c.toList.drop (off+vs.length)).toArray t (0,0))) (w.setRow b (c.toList.take off++vs++c.toList.drop (off+vs.length)).toArray):=
 s.vo (setRow_heap w b c _ t _ s.look) (fun x hx=>setRow_other w b x _ hx) (by simp [World.setRow]) rfl rfl (fun _ _ _ e=>by cases e;rfl)
theorem cJ {b off n:Nat} {c:Array Value} {t:TypeId} {v:Value} {vs:List Value} (s:St w0 (F*pt b (.cells c t (0,0))) w) (hv:v.cells.toList=vs) (hn:vs.length=n) (h1:∀u∈vs,u.oneCell'=true) (hoff:off+n≤c.size)
  (hk:∀w',St w0 (F*pt b (.cells (c.toList.take off++vs++c.toList.drop (off+n)).toArray t (0,0))) w'→K undef w'):aG P (.st n) [.pointer (some ⟨b,off,none⟩),v] K w:=by
 intro _;have hb:=s.look;have hst:=run_storeCells_at P b off t vs 0 c w hb (by omega) h1;simp only [Nat.add_zero] at hst;have hh:=rf (off:=off) (vs:=vs) s;rw [hn] at hst hh;refine kX ?_ (hk _ hh);have hsz:v.cells.size=n:=by rw [←Array.length_toList,hv,hn]
 simp [stS,Instr.sureAddr,hsz,hv,hst]
theorem bO {t:TypeId} {z:Value} (s:St w0 F w) (hk:∀b w',St w0 (F*pt b (.cells z.cells t (0,0))) w'→K (.pointer (some ⟨b,0,none⟩)) w'):aG P (.new t z) [] K w:=by
 intro _;refine aN (w':=w.alloc (.cells z.cells t)) ?_ (hk _ _ (s.alloc rfl));simp [newVar,newRow]
theorem bj {t:TypeId} {z:Value} (s:St w0 F w) (hk:∀b w',St w0 (F*pt b (.cells z.cells t (0,0))) w'→K (.pointer (some ⟨b,0,none⟩)) w'):aG P (.box t) [z] K w:=by
 intro _;refine aN (w':=w.alloc (.cells z.cells t)) ?_ (hk _ _ (s.alloc rfl));simp [Instr.box,newVar,newRow]
theorem lx {e len size:Nat} {zero cells:Array Value} {ix:List Nat} {vs:List Value} (s:St w0 F w)
  (hf:Instr.fill (fun i=>some (i*size,size)) ((Array.range (len*size)).map (zero[· %zero.size]!)) (ix.zip vs)=some cells)
  (hk:∀b w',St w0 (F*pt b (.cells cells e (0,0))) w'→K (.slice (some ⟨b,0,none⟩) len len) w'):aG P (.bsl e len size zero ix) vs K w:=by
 intro _;refine aN (w':=w.alloc (.cells cells e)) ?_ (hk _ _ (s.alloc rfl));simp [MM,hf,newRow]
theorem ch {e:Nat} {z x:Value} (s:St w0 F w) (h1:x.oneCell'=true)
  (hk:∀b w',St w0 (F*pt b (.cells #[x] e (0,0))) w'→K (.slice (some ⟨b,0,none⟩) 1 1) w'):aG P (.bsl e 1 1 #[z] [0]) [x] K w:=by
 refine lx (cells:= #[x]) s ?_ hk;have hcs:x.cells= #[x]:=by cases x<;>first|rfl|(simp [Value.oneCell'] at h1)
 have hz:((Array.range (1*1)).map fun i=>(#[z])[i %(#[z]).size]!)= #[z]:=by
  apply Array.ext
  ·simp
  ·intro i h1 h2
   have:i=0:=by simp at h2;omega
   subst this;simp
 rw [hz];simp [Instr.fill,hcs]
theorem ad {f:FuncId} {vs:List Value} (h:ak P f vs K w):aG P (.call f) vs K w:=by
 intro hb;unfold fS;simp only [EO.ma,dq hb];exact h
theorem bM {f:FuncId} {first cap:Array Value} {vs:List Value} (hb:bW P f=true) (h:ak P f (first.toList++vs++cap.toList) K w):aG P .callv (.func (.func f) first cap::vs) K w:=by
 intro _;unfold fS;have e:first++vs.toArray++cap=(first.toList++vs++cap.toList).toArray:=by apply Array.ext';simp
 simp only [EO.ma,Deferred.ofValue,Sem.run_bind,Sem.run_pure,Result.andThen_ok,invoke];rw [e,dq hb];exact h
def own (e size:Nat) (v:Value) (n:Nat) (xs:List Value):al:=fun h=>xs.length=n*size∧
 ((v= .slice none 0 0∧n=0∧emp h)∨
 ∃g cap cur,v= .slice (some ⟨g,0,none⟩) n cap∧n≤cap∧cap≤maxLen∧cap*size≤cur.size∧cur.toList.take (n*size)=xs∧pt g (.cells cur e (0,0)) h)
theorem St.of {A B:al} (s:St w0 A w) (h:∃h,Hp.sub h (S6 w)∧B h):St w0 B w:=⟨s.os,s.out,s.size,s.ran,h⟩
theorem St.own {e size:Nat} {v:Value} {n:Nat} {xs:List Value} (s:St w0 (F*own e size v n xs) w):xs.length=n*size∧
  ((v= .slice none 0 0∧n=0∧xs= []∧St w0 F w)∨
  ∃g cap cur,v= .slice (some ⟨g,0,none⟩) n cap∧n≤cap∧cap≤maxLen∧cap*size≤cur.size∧cur.toList.take (n*size)=xs∧St w0 (F*pt g (.cells cur e (0,0))) w):=by
 obtain ⟨g,h1,h2,h3,d,e,a,hl,b⟩:=s.holds;refine ⟨hl,?_⟩;rcases b with ⟨rfl,rfl,hb⟩|⟨g',cap,cur,rfl,hn,hm,hc,ht,hp⟩
 ·refine .inl ⟨rfl,rfl,List.eq_nil_of_length_eq_zero (by simpa using hl),s.drop⟩
 ·exact .inr ⟨g',cap,cur,rfl,hn,hm,hc,ht,s.of ⟨g,h1,h2,h3,d,e,a,hp⟩⟩
theorem St.aE (s:St w0 F w) (e size:Nat):St w0 (F*HL.own e size (.slice none 0 0) 0 []) w:=by
 have:F=F*emp:=(ao F).symm;rw [this] at s;exact s.mono (kS (fun _ h=>h) fun h hh=>⟨by simp,.inl ⟨rfl,rfl,hh⟩⟩)
theorem St.pI {e size g n cap:Nat} {cur:Array Value} {xs:List Value} (s:St w0 (F*pt g (.cells cur e (0,0))) w) (hn:n≤cap) (hm:cap≤maxLen) (hc:cap*size≤cur.size) (ht:cur.toList.take (n*size)=xs):
  St w0 (F*HL.own e size (.slice (some ⟨g,0,none⟩) n cap) n xs) w:=by
 refine s.mono (kS (fun _ h=>h) fun h hh=>⟨?_,.inr ⟨g,cap,cur,rfl,hn,hm,hc,ht,hh⟩⟩);rw [←ht,List.length_take,Array.length_toList];exact Nat.min_eq_left (Nat.le_trans (Nat.mul_le_mul_right _ hn) hc)
theorem St.uM {e size g n cap:Nat} {cur:Array Value} {xs:List Value} (s:St w0 (F*pt g (.cells cur e (0,0))) w) (hn:n≤cap) (hm:cap≤maxLen) (hc:cur.size=cap*size) (ht:cur.toList.take (n*size)=xs):
  St w0 (F*HL.own e size (.slice (some ⟨g,0,none⟩) n cap) n xs) w:=s.pI hn hm (Nat.le_of_eq hc.symm) ht
theorem St.iB {e size:Nat} {v:Value} {n:Nat} {xs:List Value} (s:St w0 (F*HL.own e size v n xs) w):
  xs= []∧v= .slice none 0 0∨∃g cap,v= .slice (some ⟨g,0,none⟩) n cap∧n≤cap∧∀j u,xs[j]?=some u→w.cell? ⟨g,j,none⟩=some u:=by
 rcases s.own.2 with ⟨rfl,_,hx,_⟩|⟨g,cap,cur,rfl,hn,_,hc,ht,s'⟩
 ·exact .inl ⟨hx,rfl⟩
 ·refine .inr ⟨g,cap,rfl,hn,fun j u hu=> ?_⟩
  rw [cell_of s'.look];rw [←ht,List.getElem?_take] at hu;split at hu
  ·simpa using hu
  ·cases hu
theorem St.aw {e size:Nat} {v:Value} {n:Nat} {xs:List Value} (s:St w0 (F*HL.own e size v n xs) w):∃a cap,v= .slice a n cap∧n≤cap∧(0<n→a≠none):=by
 rcases s.own.2 with ⟨rfl,rfl,_⟩|⟨g,cap,cur,rfl,hn,_⟩
 ·exact ⟨_,_,rfl,Nat.le_refl _,fun h=>absurd h (by omega)⟩
 ·exact ⟨_,_,rfl,hn,fun _=>by simp⟩
theorem St.aO {e size:Nat} {v:Value} {n:Nat} {xs:List Value} (s:St w0 (F*HL.own e size v n xs) w) (hn:0<n):
  ∃g cap,v= .slice (some ⟨g,0,none⟩) n cap∧n≤cap∧∀j u,xs[j]?=some u→w.cell? ⟨g,j,none⟩=some u:=by
 rcases s.iB with ⟨_,rfl⟩|h
 ·obtain ⟨a,cap,h,_⟩:=s.aw
  cases h;omega
 ·exact h
theorem bu {t ty e size bytes:Nat} {z v:Value} {n m c:Nat} {xs news:List Value} {a:Addr} (s:St w0 (F*HL.own e size v n xs) w)
  (hl:news.length=m*size) (hx:∀j u,news[j]?=some u→w.cell? (a.add j)=some u) (h1:∀u∈news,u.oneCell'=true)
  (hsz:0<size) (hz:z.cells.size=size) (hmax:n+m≤maxLen) (hb:(n+m)*bytes≤140737488355328)
  (hk:∀v' w',St w0 (F*HL.own e size v' (n+m) (xs++news)) w'→K v' w'):aG P (.app t ty e size bytes z) [v,.slice (some a) m c] K w:=by
 rintro ⟨ht,i,hi,hiz,rfl,rfl⟩;have hsmall:n+m≤9223372036854775807:=by simp only [maxLen] at hmax;omega
 have grown:∀oG,oG<n+m→St w0 F w→xs.length=n*i.size→
   St w0 (F*HL.own e i.size (.slice (some ⟨w.heap.size,0,none⟩) (n+m) (grownCap w (n+m) oG e)) (n+m) (xs++news))
    (w.drew.alloc (.cells (xs.toArray++news.toArray++Builtin.zeroCells z.cells (grownCap w (n+m) oG e -(n+m))) e)):=by
  intro oG ho s hxl;have hge:=grownCap_ge w (n+m) oG e;refine St.uM (s.drew.alloc (by rfl)) hge (grownCap_le_maxLen w (n+m) oG e hmax) ?_ ?_
  ·simp only [Array.size_append,List.size_toArray,size_zeroCells,hz,hxl,hl,←Nat.add_mul]
   congr 1;omega
  ·simp only [Array.toList_append,List.append_assoc]
   rw [←List.append_assoc,Nat.add_mul,←hxl,←hl,←List.length_append];exact List.take_left
 obtain ⟨hxl,hc⟩:=s.own;rcases hc with ⟨rfl,rfl,rfl,s'⟩|⟨g,cap,cur,rfl,hnc,hcm,hcs,htake,s'⟩
 ·by_cases hm:m=0
  ·subst hm
   have hn:news= []:=List.eq_nil_of_length_eq_zero (by simpa using hl);subst hn;refine aN (w':=w) (v:= .slice none 0 0) ?_ (hk _ _ s);simp [Builtin.append_,run_underlying ht,sizeOf,typeInfo,hi,Builtin.lenOf,Builtin.firstCells,loadCells,loadCellsFrom]
  ·have hr:=run_append_nil (P:=P) w t ty e i z ht hi hiz a m c news hl hx (by omega) (by omega) (by have hb:=hb;simp only [Nat.zero_add] at hb;omega)
   have hgr:=grown 0 (by omega) s' (by simp);simp only [Nat.zero_add,List.nil_append,Array.empty_append] at hgr hk;exact aN hr (hk _ _ hgr)
 ·by_cases hroom:n+m≤cap
  ·have hfit:n*i.size+news.length≤cur.size:=by rw [hl,←Nat.add_mul];exact Nat.le_trans (Nat.mul_le_mul_right _ hroom) hcs
   have hr:=run_append_room (P:=P) w t ty e i ht hi g n cap cur s'.look a m c news hl hx h1 hroom hfit;refine aN hr (hk _ _ ((rf (off:=n*i.size) (vs:=news) s').pI hroom hcm ?_ ?_))
   ·simp only [List.size_toArray,List.length_append,List.length_take,List.length_drop,Array.length_toList]
    omega
   ·rw [htake,Nat.add_mul,←hxl,←hl,←List.length_append]
    exact List.take_left
  ·have holds:∀j u,xs[j]?=some u→w.cell? ((⟨g,0,none⟩:Addr).add j)=some u:=by
    intro j u hu;rcases s.iB with ⟨rfl,h⟩|⟨g',cap',h,_,hh⟩
    ·simp at hu
    ·cases h;rw [eM,Nat.zero_add];exact hh j u hu
   have hr:=run_append_grow (P:=P) w t ty e i z ht hi hiz ⟨g,0,none⟩ n cap xs hxl holds a m c news hl hx (by omega) (by omega) (growslice_fits (by omega) hb);exact aN hr (hk _ _ (grown cap (by omega) s'.drop hxl))
theorem BL {t ty e size bytes:Nat} {z:Value} {b:Option Addr} {n cap c:Nat} (hn:n≤cap) (hk:K (.slice b n cap) w):aG P (.app t ty e size bytes z) [.slice b n cap,.slice none 0 c] K w:=by
 rintro ⟨ht,i,hi,hiz,rfl,rfl⟩;refine aN (w':=w) (v:= .slice b n cap) ?_ hk;cases b<;>simp [Builtin.append_,run_underlying ht,sizeOf,typeInfo,hi,Builtin.lenOf,Builtin.firstCells,storeCells,hn]
theorem St.aH {b:Nat} {c:Array Value} {t:TypeId} {f:Nat×Nat} (s:St w0 (F*pt b (.cells c t f)) w):∀j u,c.toList[j]?=some u→w.cell? ((⟨b,0,none⟩:Addr).add j)=some u:=by
 intro j u h;rw [eM,cell_of s.look]
 simpa using h
theorem BT {t:TypeId} {x:ByteArray} (s:St w0 F w) (hk:∀b w',St w0 (F*pt b (.stringIter x 0)) w'→K (.pointer (some ⟨b,0,none⟩)) w'):aG P (.rngS t) [.string x] K w:=by
 intro _;refine aN (w':=w.alloc (.stringIter x 0)) ?_ (hk _ _ (s.alloc trivial));simp
theorem BQ {ty:TypeId} {b:Nat} {x:ByteArray} {pos:Nat} (s:St w0 (F*pt b (.stringIter x pos)) w)
  (hk1:pos<x.size→∀w',St w0 (F*pt b (.stringIter x (pos+(Utf8.decode x pos).2))) w'→K (.tuple #[.bool true,.int .i64 pos,.int .i32 (Utf8.decode x pos).1]) w')
  (hk2:¬pos<x.size→K (.tuple #[.bool false]) w):aG P (.nxt true ty) [.pointer (some ⟨b,0,none⟩)] K w:=by
 intro _;have hb:=s.look
 by_cases hp:pos<x.size
 ·have hlt:b<w.heap.size:=(Array.getElem?_eq_some_iff.1 hb).1
  refine aN (w':={w with heap:=w.heap.setIfInBounds b (.stringIter x (pos+(Utf8.decode x pos).2))}) ?_ (hk1 hp _ ?_)
  ·simp [Instr.next,getObj,setObj,Sem.run,hb,hp,Sem.run_bind,goInt]
  ·refine s.vo ?_ ?_ (by simp) rfl rfl (fun _ _ _ e=>by cases e)
   ·simp [hlt]
   ·intro c hc;simp [Ne.symm hc]
 ·refine aN (w':=w) ?_ (hk2 hp)
  simp [Instr.next,getObj,Sem.run,hb,hp]
end
theorem aF {h t:HC} (e:h=t) {P:Program} {F:PF P} {Q:EX→List Value→World→Prop} {env:List Value} {w:World}:h.wp F Q env w=t.wp F Q env w:=by rw [e]
theorem jR {h t:RT} (e:h=t) {P:Program} {F:PF P} {env:List Value} {K:List Value→Option Value→World→Prop} {bvs:List Value} {w:World}:h.wp F env K bvs w=t.wp F env K bvs w:=by rw [e]
attribute [simp] QI VY V1 V0 VX QK J4 Ml V2 eEa VZ QL Jq Mk Mj QJ LJ Qw LK Ec Ed HT Lu MK tE qQ Ix Iw KI Kh Ki Qu LC yM yN S9 S8 z8 Cp
attribute [simp] eM
attribute [simp] dp dk fL iX
attribute [simp] SE.val dn.dE PO.ok PO.val cV Jj MI MJ lF lK
section
variable {P:Program} {F:PF P} {env:List Value} {w:World} {Q:EX→List Value→World→Prop}
theorem dg {x:HC} (I:List Value→World→Prop) (μ:List Value→World→Nat) (h0:I env w)
  (h:∀(LQ:EX→List Value→World→Prop) (env:List Value) (w:World),I env w→(∀env' w',I env' w'→μ env' w'<μ env w→LQ .nrm env' w')→(∀i env' w',Q (.ex i) env' w'→LQ (.ex i) env' w')→
   (∀env' w',Q .ret env' w'→LQ .ret env' w')→x.wp F LQ env w):Bb F x Q env w:=
 KV I μ h0 fun env w hI=>h _ env w hI (fun _ _ h1 h2=>⟨h1,h2⟩) (fun _ _ _ h=>h) (fun _ _ h=>h)
theorem aM {x y:HC} {b:Bool} (h1:b=true→x.wp F Q env w) (h2:b=false→y.wp F Q env w):ik F (.bool b) x y Q env w:=Ev h1 h2
theorem H8 (t N:Nat) (L:List Nat) (args:List Value):tQ (t::L) N args=(if t<N then (args[t]?).getD undef else undef)::tQ L N args:=rfl
theorem Kk (N:Nat) (args:List Value):tQ [] N args= []:=rfl
theorem ak.mono {f:FuncId} {args:List Value} {K K':Value→World→Prop} (h:ak P f args K w) (hk:∀v w',K v w'→K' v w'):ak P f args K' w:=
 Calls.mono h fun _ _ ⟨v,e,h⟩=>⟨v,e,hk _ _ h⟩
end
attribute [simp] H8 Kk
def mk (l:List UInt8):ByteArray:=⟨l.toArray⟩
@[simp] theorem aPa (l:List UInt8):(mk l).data=l.toArray:=rfl
@[simp] theorem faa (l:List UInt8):(mk l).size=l.length:=by simp [mk,ByteArray.size]
@[simp] theorem e9a (l:List UInt8):(ByteArray.mk l.toArray)=mk l:=rfl
theorem ov (s:ByteArray):s=mk s.data.toList:=by cases s;simp [mk]
@[simp] theorem Wj (l:List UInt8) (i:Int):yy (mk l) i=((l[i.toNat]?.getD 0).toNat:Int):=by simp [yy]
def ax (env:List Value) (j:Nat):Nat:=match env.getD j undef with
 | .int _ k=>k.toNat
 |_=>0
theorem wrap64 {x:Int} (h1: -9223372036854775808≤x) (h2:x≤9223372036854775807):IntKind.i64.wrap x=x:=IntWalk.i64_in x ⟨h1,h2⟩
theorem wrap32 {x:Int} (h1: -2147483648≤x) (h2:x≤2147483647):IntKind.i32.wrap x=x:=IntWalk.i32_in x ⟨h1,h2⟩
theorem qL {x:Int} (h1:0≤x) (h2:x≤255):IntKind.u8.wrap x=x:=IntWalk.u8_in x ⟨h1,h2⟩
theorem bx {x:Int} (h1:0≤x) (h2:x≤18446744073709551615):IntKind.u64.wrap x=x:=IntWalk.u64_in x ⟨h1,h2⟩
theorem fU {P:Program} {F:PF P} {env:List Value} {w:World} {Q:EX→List Value→World→Prop} (x y:HC) (b:Bool):
  ik F (.bool b) x y Q env w=if b=true then x.wp F Q env w else y.wp F Q env w:=by cases b<;>simp
structure PS (P:Program) where
 f:Nat
 val:List Value→Value
 ok:List Value→Prop
 sound:∀(args:List Value) (w:World),ok args→ak P f args (fun v w'=>v=val args∧w'=w) w
def PF.of {P:Program} (l:List (PS P)):PF P where
 ids:=l.map (·.f)
 val f args:=match l.find? (fun s=>s.f==f) with
  |some s=>s.val args
  | .none=>undef
 ok f args:=match l.find? (fun s=>s.f==f) with
  |some s=>s.ok args
  | .none=>False
 sound:=by
  intro f hf args w hok;split at hok
  ·rename_i s hs
   have h1:=List.find?_some hs;simp only [beq_iff_eq] at h1;subst h1;exact Calls.mono (s.sound args w hok) fun e w' ⟨v,he,hv,hw⟩=>⟨by rw [he,hv],hw⟩
  ·exact hok.elim
def PS.ib {P:Program} (f:Nat) (k:IntKind) (g:Int→Bool) (h:∀u w,ak P f [.int k u] (fun r w'=>r= .bool (g u)∧w'=w) w):PS P where
 f:=f
 val args:=match args with
  | [.int _ u]=> .bool (g u)
  |_=>undef
 ok args:=match args with
  | [.int k' _]=>k'=k
  |_=>False
 sound args w hok:=by
  split at hok
  ·subst hok;exact h _ w
  ·exact hok.elim
inductive It where
 |n (k:Nat)
 |e (x:SE)
 |es (x:dn)
 |st (l:List (Nat×SE))
 |r (t:RT)
 |h (t:HC)
structure cX where
 p:Nat→PO
 e:Nat→EO
 v:Nat→Value
def YM:Nat→Nat→List Nat
 |0,_=> []
 |f+1,n=>if n=0 then [] else (n %1024)::YM f (n /1024)
def Q9:Nat→List Nat→List (Nat×List Nat)
 |0,_=> []
 |_+1,[]=> []
 |f+1,n::r=>match r with
  | []=> []
  |i::r=>(i -1,(r.take (n -1)).map (· -1))::Q9 f (r.drop (n -1))
def aUa (k:Nat):MO:=
 if k=0 then .none else if k %2=1 then .some (k /2) else .free (let l:=YM 10000 (k /2 -1);Q9 l.length l)
def fHa:Nat→HC
 |0=> .skip
 |1=> .ret
 |k+2=> .exit k
def o8:List It→List It
 | .n k::s=> .n (k*8)::s
 |s=>s
def o9:List It→List It
 | .n k::s=> .n (k*8+1)::s
 |s=>s
def vC:List It→List It
 | .n k::s=> .n (k*8+2)::s
 |s=>s
def Af:List It→List It
 | .n k::s=> .n (k*8+3)::s
 |s=>s
def vD:List It→List It
 | .n k::s=> .n (k*8+4)::s
 |s=>s
def km:List It→List It
 | .n k::s=> .n (k*8+5)::s
 |s=>s
def l9:List It→List It
 | .n k::s=> .n (k*8+6)::s
 |s=>s
def pU:List It→List It
 | .n k::s=> .n (k*8+7)::s
 |s=>s
def uJ:List It→List It
 | .n k::s=> .e (.inp k)::s
 |s=>s
def ru:List It→List It
 | .n k::s=> .e (.bv k)::s
 |s=>s
def sL (T:cX):List It→List It
 | .n k::s=> .e (.cst (T.v k))::s
 |s=>s
def ry:List It→List It
 | .es l:: .e x::s=> .es (.cons x l)::s
 |s=>s
def DL (T:cX):List It→List It
 | .es l:: .n k::s=> .e (.op (T.p k) l)::s
 |s=>s
def Ff:List It→List It
 | .e b:: .e a:: .e c::s=> .e (.ite c false a b)::s
 |s=>s
def Fg:List It→List It
 | .e b:: .e a:: .e c::s=> .e (.ite c true a b)::s
 |s=>s
def K9:List It→List It
 | .st l:: .e x:: .n k::s=> .st ((k,x)::l)::s
 |s=>s
def o26:List It→List It
 | .st l::s=> .r (.done l none)::s
 |s=>s
def o27:List It→List It
 | .e c:: .st l::s=> .r (.done l (some c))::s
 |s=>s
def o28 (T:cX):List It→List It
 | .r t:: .es l:: .n k::s=> .r (.chk none (T.p k) l t)::s
 |s=>s
def o29 (T:cX):List It→List It
 | .r t:: .es l:: .n k:: .e g::s=> .r (.chk (some (g,false)) (T.p k) l t)::s
 |s=>s
def o30 (T:cX):List It→List It
 | .r t:: .es l:: .n k:: .e g::s=> .r (.chk (some (g,true)) (T.p k) l t)::s
 |s=>s
def o31:List It→List It
 | .r t:: .e c::s=> .r (.isb none c t)::s
 |s=>s
def o32:List It→List It
 | .r t:: .e c:: .e g::s=> .r (.isb (some (g,false)) c t)::s
 |s=>s
def o33:List It→List It
 | .r t:: .e c:: .e g::s=> .r (.isb (some (g,true)) c t)::s
 |s=>s
def o34 (T:cX):List It→List It
 | .r t:: .es l:: .n k::s=> .r (.eff (T.e k) l t)::s
 |s=>s
def o35:List It→List It
 | .r t:: .e x::s=> .r (.fL x t)::s
 |s=>s
def o36:List It→List It
 | .r b:: .r a:: .e c::s=> .r (.ite c false a b)::s
 |s=>s
def o37:List It→List It
 | .r b:: .r a:: .e c::s=> .r (.ite c true a b)::s
 |s=>s
def o39:List It→List It
 | .r t::s=> .h (.reg t)::s
 |s=>s
def o40:List It→List It
 | .h y:: .h x:: .r t::s=> .h (.br t x y)::s
 |s=>s
def o41:List It→List It
 | .r t:: .n k::s=> .h (.regq (aUa k) t)::s
 |s=>s
def o42:List It→List It
 | .h y:: .h x:: .r t:: .n k::s=> .h (.brq (aUa k) t x y)::s
 |s=>s
def o43:List It→List It
 | .h y:: .h x:: .n k::s=> .h (.cnd k x y)::s
 |s=>s
def o44:List It→List It
 | .h y:: .h x::s=> .h (.seq x y)::s
 |s=>s
def o45:List It→List It
 | .h x:: .n k::s=> .h (.block k x)::s
 |s=>s
def o46:List It→List It
 | .h x::s=> .h (.loop x)::s
 |s=>s
def o47:List It→List It
 | .n k::s=> .h (fHa k)::s
 |s=>s
def o48 (H:List HC):List It→List It
 | .n k::s=> .h (H.getD k .skip)::s
 |s=>s
def Qy (T:cX) (H:List HC):Nat→List It→List It
 |0,s=> .n 0::s
 |1,s=> .n 1::s
 |2,s=> .n 2::s
 |3,s=> .n 3::s
 |4,s=> .n 4::s
 |5,s=> .n 5::s
 |6,s=> .n 6::s
 |7,s=> .n 7::s
 |8,s=>o8 s
 |9,s=>o9 s
 |10,s=>vC s
 |11,s=>Af s
 |12,s=>vD s
 |13,s=>km s
 |14,s=>l9 s
 |15,s=>pU s
 |16,s=>uJ s
 |17,s=>ru s
 |18,s=>sL T s
 |19,s=> .es .nil::s
 |20,s=>ry s
 |21,s=>DL T s
 |22,s=>Ff s
 |23,s=>Fg s
 |24,s=> .st []::s
 |25,s=>K9 s
 |26,s=>o26 s
 |27,s=>o27 s
 |28,s=>o28 T s
 |29,s=>o29 T s
 |30,s=>o30 T s
 |31,s=>o31 s
 |32,s=>o32 s
 |33,s=>o33 s
 |34,s=>o34 T s
 |35,s=>o35 s
 |36,s=>o36 s
 |37,s=>o37 s
 |38,s=>ry (.es .nil::s)
 |39,s=>o39 s
 |40,s=>o40 s
 |41,s=>o41 s
 |42,s=>o42 s
 |43,s=>o43 s
 |44,s=>o44 s
 |45,s=>o45 s
 |46,s=>o46 s
 |47,s=>o47 s
 |48,s=>o48 H s
 |49,s=>ry (.es .nil::uJ s)
 |50,s=>ry (ry (.es .nil::s))
 |51,s=>ru (.n 0::s)
 |52,s=>ry (.es .nil::DL T s)
 |53,s=>ry (ry (.es .nil::sL T s))
 |54,s=>K9 (.st []::s)
 |55,s=>o26 (K9 (.st []::s))
 |56,s=>ru (.n 1::s)
 |57,s=>o44 (o44 s)
 |58,s=>o8 (.n 1::s)
 |59,s=>o28 T (o34 T s)
 |60,s=>ry (.es .nil::uJ (.n 0::s))
 |61,s=>ry (ry (.es .nil::uJ s))
 |62,s=>o9 (.n 1::s)
 |63,s=> .n 1::o39 s
 |_,s=>s
def cEa (T:cX) (H:List HC):Nat→Nat→List It→List It
 |0,_,s=>s
 |f+1,n,s=>if n=0 then s else cEa T H f (n /64) (Qy T H (n %64) s)
def fPa:List It→HC
 | .h t::_=>t
 |_=> .skip
def aP (T:cX) (H:List HC) (n:Nat):HC:=fPa (cEa T H 100000 n [])
theorem aB {P:Program} {F:PF P} {f:FuncId} {fuel:Nat} {l:ai} (hl:aj F f fuel=some l) {args:List Value} {K:Value→World→Prop} {w:World} (hlen:args.length≤l.N) {t:HC}
  (h:t.wp F (tL P l.rs K) (tQ l.L l.N args) w) (e:l.hc=t:=by (conv=>lhs;cbv)):ak P f args K w:=dx hl hlen (e▸h)
end Go.HL
namespace Go.HL.Nm
open Go.HL
def gx:List UInt8→Nat→Int→Option Int
 |_,0,v=>some v
 | [],_+1,_=>none
 |b::r,n+1,v=>if (b.toNat:Int)<128∨191<(b.toNat:Int) then none else gx r n (v*64+b.toNat -128)
def iK (b:Int) (r:List UInt8) (v:Int) (n:Nat) (least:Int):Int×Nat:=
 match gx r n v with
 |some v=>if v<least∨1114111<v∨(55296≤v∧v≤57343) then (2097152+b,1) else (v,1+n)
 |none=>(2097152+b,1)
def bK:List UInt8→Int×Nat
 | []=>(0,1)
 |c::r=>
  if (c.toNat:Int)<128 then ((c.toNat:Int),1)
  else if 192≤(c.toNat:Int)∧(c.toNat:Int)<224 then iK c.toNat r (c.toNat -192) 1 128
  else if 224≤(c.toNat:Int)∧(c.toNat:Int)<240 then iK c.toNat r (c.toNat -224) 2 2048
  else if 240≤(c.toNat:Int)∧(c.toNat:Int)<248 then iK c.toNat r (c.toNat -240) 3 65536
  else (2097152+c.toNat,1)
theorem kL (c:UInt8) (r:List UInt8):bK (c::r)=
  if (c.toNat:Int)<128 then ((c.toNat:Int),1)
  else if 192≤(c.toNat:Int)∧(c.toNat:Int)<224 then iK c.toNat r (c.toNat -192) 1 128
  else if 224≤(c.toNat:Int)∧(c.toNat:Int)<240 then iK c.toNat r (c.toNat -224) 2 2048
  else if 240≤(c.toNat:Int)∧(c.toNat:Int)<248 then iK c.toNat r (c.toNat -240) 3 65536
  else (2097152+c.toNat,1):=rfl
theorem Ds (n:Nat):∀(r:List UInt8) (v u:Int),0≤v→gx r n v=some u→0≤u∧n≤r.length:=by
 induction n with
 |zero=>intro r v u hv h;cases r<;>simp only [gx,Option.some.injEq] at h<;>subst h<;>exact ⟨hv,Nat.zero_le _⟩
 |succ n ih=>
  intro r v u hv h;cases r with
  |nil=>simp only [gx] at h;cases h
  |cons b r=>
   simp only [gx] at h;split at h
   ·cases h
   ·have:=ih r _ u (by have:=b.toNat_lt;omega) h
    simp only [List.length_cons];omega
theorem yC (b:Int) (r:List UInt8) (v:Int) (n:Nat) (least:Int) (hb:0≤b∧b<256) (hv:0≤v):
  0≤(iK b r v n least).1∧(iK b r v n least).1<2097408∧1≤(iK b r v n least).2∧(iK b r v n least).2≤1+r.length:=by
 unfold iK;split
 ·rename_i u hu
  have:=Ds n r v u hv hu;split
  ·simp only;omega
  ·simp only;omega
 ·simp only;omega
theorem gY {l:List UInt8} (h:l≠ []):0≤(bK l).1∧(bK l).1<2097408∧1≤(bK l).2∧(bK l).2≤l.length:=by
 cases l with
 |nil=>exact absurd rfl h
 |cons c r=>
  have hc:=c.toNat_lt;unfold bK;simp only [List.length_cons];split
  ·simp only;omega
  split
  ·have:=yC c.toNat r (c.toNat -192) 1 128 (by omega) (by omega);omega
  split
  ·have:=yC c.toNat r (c.toNat -224) 2 2048 (by omega) (by omega);omega
  split
  ·have:=yC c.toNat r (c.toNat -240) 3 65536 (by omega) (by omega);omega
  ·simp only;omega
theorem R9 (l:List UInt8) (i:Nat):(mk l).get! i=l.getD i 0:=by
 simp only [mk,ByteArray.get!,List.getD_eq_getElem?_getD];simp;rfl
def M1 (d:List UInt8):Nat×Nat:=
 let at' (k:Nat):Nat:=(d.getD k 0).toNat
 let cont (k:Nat):Bool:=k<d.length&&at' k /64==2
 let b0:=at' 0
 if b0<0x80 then (b0,1)
 else if b0 /32==6&&cont 1 then
  let c:=(b0 %32)*64+at' 1 %64
  if c≥0x80 then (c,2) else (65533,1)
 else if b0 /16==14&&cont 1&&cont 2 then
  let c:=(b0 %16)*4096+(at' 1 %64)*64+at' 2 %64
  if c≥0x800&&Utf8.valid c then (c,3) else (65533,1)
 else if b0 /8==30&&cont 1&&cont 2&&cont 3 then
  let c:=(b0 %8)*262144+(at' 1 %64)*4096+(at' 2 %64)*64+at' 3 %64
  if c≥0x10000&&Utf8.valid c then (c,4) else (65533,1)
 else (65533,1)
theorem j2 (l:List UInt8) (i:Nat):Utf8.decode (mk l) i=M1 (l.drop i):=by
 have e:∀k,(l.drop i).getD k 0=l.getD (i+k) 0:=by intro k;simp [List.getD_eq_getElem?_getD,List.getElem?_drop]
 have e2:∀k,decide (i+k<(mk l).size)=decide (k<(l.drop i).length):=by intro k;simp;omega
 unfold Utf8.decode M1;simp only [R9,e,e2,Utf8.runeError]
def eD (u:Int):Nat:=if 2097152≤u then 65533 else u.toNat
theorem yf (c:Nat):Utf8.valid (c:Int)=decide (¬(1114111<c∨(55296≤c∧c≤57343))):=by
 rw [Bool.eq_iff_iff];simp only [Utf8.valid,Bool.or_eq_true,Bool.and_eq_true,decide_eq_true_eq];omega
theorem hza (b b1:Nat) (hb:192≤b∧b<224) (h1:128≤b1∧b1≤191):((b:Int) -192)*64+b1 -128=(((b %32)*64+b1 %64:Nat):Int):=by omega
theorem hAa (b b1 b2:Nat) (hb:224≤b∧b<240) (h1:128≤b1∧b1≤191) (h2:128≤b2∧b2≤191):
  (((b:Int) -224)*64+b1 -128)*64+b2 -128=(((b %16)*4096+(b1 %64)*64+b2 %64:Nat):Int):=by omega
theorem hBa (b b1 b2 b3:Nat) (hb:240≤b∧b<248) (h1:128≤b1∧b1≤191) (h2:128≤b2∧b2≤191) (h3:128≤b3∧b3≤191):
  ((((b:Int) -240)*64+b1 -128)*64+b2 -128)*64+b3 -128=(((b %8)*262144+(b1 %64)*4096+(b2 %64)*64+b3 %64:Nat):Int):=by omega
def dG (r:List UInt8) (k:Nat):Bool:=decide (k<r.length)&&(r.getD k 0).toNat /64==2
theorem dB (r:List UInt8) (n:Nat) (v:Int):gx r (n+1) v=if dG r 0=true then gx r.tail n (v*64+(r.getD 0 0).toNat -128) else none:=by
 cases r with
 |nil=>simp [gx,dG]
 |cons b r=>
  have hb:=b.toNat_lt;simp only [gx,dG,List.length_cons,List.getD_cons_zero,List.tail_cons]
  by_cases h:(b.toNat:Int)<128∨191<(b.toNat:Int)
  ·rw [if_pos h,if_neg];simp;omega
  ·rw [if_neg h,if_pos];simp;omega
theorem jY (r:List UInt8) (k:Nat):dG r.tail k=dG r (k+1):=by
 cases r<;>simp [dG]<;>rfl
theorem ny (r:List UInt8) (k:Nat):r.tail.getD k 0=r.getD (k+1) 0:=by cases r<;>simp
theorem iY {r:List UInt8} {k:Nat} (h:dG r k=true):128≤(r.getD k 0).toNat∧(r.getD k 0).toNat≤191:=by
 simp only [dG,Bool.and_eq_true,beq_iff_eq] at h;omega
theorem gQ (r:List UInt8) (v:Int):gx r 0 v=some v:=by cases r<;>rfl
theorem nn (d:List UInt8) (h:d≠ []):M1 d=(eD (bK d).1,(bK d).2):=by
 cases d with
 |nil=>exact absurd rfl h
 |cons c r=>
  have hc:=c.toNat_lt;have hcont:∀k,(decide (k+1<(c::r).length)&&((c::r).getD (k+1) 0).toNat /64==2)=dG r k:=by
   intro k;simp [dG]
  have e0:=hcont 0;have e1:=hcont 1;have e2:=hcont 2;simp only [Nat.zero_add,Nat.reduceAdd] at e0 e1 e2;have g0:(c::r).getD 0 0=c:=rfl;have g1:(c::r).getD 1 0=r.getD 0 0:=rfl;have g2:(c::r).getD 2 0=r.getD 1 0:=rfl;have g3:(c::r).getD 3 0=r.getD 2 0:=rfl;unfold M1 bK;simp only [e0,e1,e2,g0]
  by_cases h0:c.toNat<128
  ·have hI:(c.toNat:Int)<128:=by omega
   have hn:¬(2097152:Int)≤(c.toNat:Int):=by omega
   rw [if_pos h0,if_pos hI];simp only [eD];rw [if_neg hn];simp
  have hI:¬(c.toNat:Int)<128:=by omega
  rw [if_neg h0,if_neg hI];have hbad:eD (2097152+(c.toNat:Int))=65533:=by unfold eD;rw [if_pos (by omega)]
  have hgood:∀n:Nat,n≤1114111→eD (n:Int)=n:=by intro n hn;unfold eD;rw [if_neg (show¬(2097152:Int)≤(n:Int) by omega)];simp
  by_cases k2:192≤(c.toNat:Int)∧(c.toNat:Int)<224
  ·have t1:(c.toNat /32==6)=true:=by simp;omega
   have t2:(c.toNat /16==14)=false:=by simp;omega
   have t3:(c.toNat /8==30)=false:=by simp;omega
   rw [if_pos k2];simp only [t1,t2,t3,Bool.true_and,Bool.false_and,Bool.false_eq_true,if_false];unfold iK;rw [dB,gQ];cases hc0:dG r 0
   ·simp [hbad]
   ·have b1:=iY hc0
    simp only [if_true];rw [hza c.toNat (r.getD 0 0).toNat (by omega) b1];rw [g1];generalize hv:(c.toNat %32)*64+(r.getD 0 0).toNat %64=v;have hv2:v<2048:=by omega
    by_cases hl:v≥128
    ·have q:¬((v:Int)<128∨1114111<(v:Int)∨(55296≤(v:Int)∧(v:Int)≤57343)):=by omega
     rw [if_pos hl,if_neg q];simp only [hgood v (by omega)]
    ·have q:((v:Int)<128∨1114111<(v:Int)∨(55296≤(v:Int)∧(v:Int)≤57343)):=by omega
     rw [if_neg hl,if_pos q];simp only [hbad]
  rw [if_neg k2];have t1:(c.toNat /32==6)=false:=by simp;omega
  by_cases k3:224≤(c.toNat:Int)∧(c.toNat:Int)<240
  ·have t2:(c.toNat /16==14)=true:=by simp;omega
   have t3:(c.toNat /8==30)=false:=by simp;omega
   rw [if_pos k3];simp only [t1,t2,t3,Bool.true_and,Bool.false_and,Bool.false_eq_true,if_false];unfold iK;rw [dB];cases hc0:dG r 0
   ·simp [hbad]
   ·have b1:=iY hc0
    simp only [if_true];rw [dB,jY,gQ,ny];cases hc1:dG r 1
    ·simp [hbad]
    ·have b2:=iY hc1
     simp only [Bool.and_self,if_true,Nat.zero_add,hc1];rw [hAa c.toNat (r.getD 0 0).toNat (r.getD 1 0).toNat (by omega) b1 b2];rw [g1,g2];generalize hv:(c.toNat %16)*4096+((r.getD 0 0).toNat %64)*64+(r.getD 1 0).toNat %64=v;rw [yf]
     by_cases hl:2048≤v∧¬(1114111<v∨(55296≤v∧v≤57343))
     ·have q:¬((v:Int)<2048∨1114111<(v:Int)∨(55296≤(v:Int)∧(v:Int)≤57343)):=by omega
      have q2:(decide (v≥2048)&&decide (¬(1114111<v∨(55296≤v∧v≤57343))))=true:=by simp only [Bool.and_eq_true,decide_eq_true_eq];exact ⟨hl.1,hl.2⟩
      rw [if_pos q2,if_neg q];simp only [hgood v (by omega)]
     ·have q:((v:Int)<2048∨1114111<(v:Int)∨(55296≤(v:Int)∧(v:Int)≤57343)):=by omega
      have q2:¬(decide (v≥2048)&&decide (¬(1114111<v∨(55296≤v∧v≤57343))))=true:=by simp only [Bool.and_eq_true,decide_eq_true_eq];exact hl
      rw [if_neg q2,if_pos q];simp only [hbad]
  rw [if_neg k3];have t2:(c.toNat /16==14)=false:=by simp;omega
  by_cases k4:240≤(c.toNat:Int)∧(c.toNat:Int)<248
  ·have t3:(c.toNat /8==30)=true:=by simp;omega
   rw [if_pos k4];simp only [t1,t2,t3,Bool.true_and,Bool.false_and,Bool.false_eq_true,if_false];unfold iK;rw [dB];cases hc0:dG r 0
   ·simp [hbad]
   ·have b1:=iY hc0
    simp only [if_true];rw [dB,jY,ny];cases hc1:dG r 1
    ·simp [hbad]
    ·have b2:=iY hc1
     simp only [Bool.and_self,if_true,Nat.zero_add,hc1];rw [dB,jY,jY,gQ,ny,ny];cases hc2:dG r 2
     ·simp [hbad]
     ·have b3:=iY hc2
      simp only [Bool.and_self,if_true,Nat.zero_add,Nat.reduceAdd,hc2];rw [hBa c.toNat (r.getD 0 0).toNat (r.getD 1 0).toNat (r.getD 2 0).toNat (by omega) b1 b2 b3];rw [g1,g2,g3];generalize hv:(c.toNat %8)*262144+((r.getD 0 0).toNat %64)*4096+((r.getD 1 0).toNat %64)*64+(r.getD 2 0).toNat %64=v;rw [yf]
      by_cases hl:65536≤v∧¬(1114111<v∨(55296≤v∧v≤57343))
      ·have q:¬((v:Int)<65536∨1114111<(v:Int)∨(55296≤(v:Int)∧(v:Int)≤57343)):=by omega
       have q2:(decide (v≥65536)&&decide (¬(1114111<v∨(55296≤v∧v≤57343))))=true:=by simp only [Bool.and_eq_true,decide_eq_true_eq];exact ⟨hl.1,hl.2⟩
       rw [if_pos q2,if_neg q];simp only [hgood v (by omega)]
      ·have q:((v:Int)<65536∨1114111<(v:Int)∨(55296≤(v:Int)∧(v:Int)≤57343)):=by omega
       have q2:¬(decide (v≥65536)&&decide (¬(1114111<v∨(55296≤v∧v≤57343))))=true:=by simp only [Bool.and_eq_true,decide_eq_true_eq];exact hl
       rw [if_neg q2,if_pos q];simp only [hbad]
  rw [if_neg k4];have t3:(c.toNat /8==30)=false:=by simp;omega
  simp only [t1,t2,t3,Bool.false_and,Bool.false_eq_true,if_false,hbad]
def iS:Nat→List UInt8→List (Int×Nat)
 |0,_=> []
 |_+1,[]=> []
 |n+1,c::r=>bK (c::r)::iS n ((c::r).drop (bK (c::r)).2)
def dP (l:List UInt8):List (Int×Nat):=iS l.length l
theorem FG (n:Nat):iS n []= []:=by cases n<;>rfl
theorem qK (n:Nat):∀l:List UInt8,l.length≤n→iS n l=iS l.length l:=by
 induction n using Nat.strongRecOn with
 |_ n ih=>
  intro l hl;cases l with
  |nil=>simp [FG]
  |cons c r=>
   have hb:=gY (l:=c::r) (by simp);cases n with
   |zero=>simp at hl
   |succ n=>
    simp only [List.length_cons,iS,List.cons.injEq,true_and] at hl hb⊢;have hd:((c::r).drop (bK (c::r)).2).length≤r.length:=by simp only [List.length_drop,List.length_cons];omega
    rw [ih n (by omega) _ (by omega)]
    by_cases hn:r.length<n+1
    ·rw [ih r.length hn _ hd]
    ·omega
theorem nH:dP []= []:=rfl
theorem vq {l:List UInt8} (h:l≠ []):dP l=bK l::dP (l.drop (bK l).2):=by
 cases l with
 |nil=>exact absurd rfl h
 |cons c r=>
  have hb:=gY (l:=c::r) (by simp);have hd:((c::r).drop (bK (c::r)).2).length≤r.length:=by simp only [List.length_drop,List.length_cons];omega
  show iS (r.length+1) (c::r)=_;simp only [iS,dP];rw [qK r.length _ hd]
theorem yd (l:List UInt8):(dP l).length≤l.length:=by
 unfold dP;generalize hn:l.length=n
 induction n using Nat.strongRecOn generalizing l with
 |_ n ih=>
  cases l with
  |nil=>subst hn;simp [iS]
  |cons c r=>
   have hb:=gY (l:=c::r) (by simp);simp only [List.length_cons] at hn hb;subst hn;simp only [iS,List.length_cons];have hd:((c::r).drop (bK (c::r)).2).length≤r.length:=by simp only [List.length_drop,List.length_cons];omega
   rw [qK r.length _ hd];have:=ih _ (show ((c::r).drop (bK (c::r)).2).length<r.length+1 by omega) _ rfl;omega
def VT:Nat→List (Int×Nat)→List Nat
 |_,[]=> []
 |p,u::r=>p::VT (p+u.2) r
def kU:List (Int×Nat)→Nat
 | []=>0
 |u::r=>u.2+kU r
theorem Dk (a b:List (Int×Nat)):kU (a++b)=kU a+kU b:=by
 induction a with
 |nil=>simp [kU]
 |cons u a ih=>simp [kU,ih,Nat.add_assoc]
theorem vt {l:List UInt8} {done:List (Int×Nat)} {i:Nat} (h:dP l=done++dP (l.drop i)) (hi:i<l.length):
  dP l=(done++ [bK (l.drop i)])++dP (l.drop (i+(bK (l.drop i)).2)):=by
 rw [h,vq (l:=l.drop i) (by simp;omega),List.drop_drop];simp
theorem GK {l:List UInt8} {i:Nat} (hi:i<l.length):i+(bK (l.drop i)).2≤l.length∧1≤(bK (l.drop i)).2:=by
 have:=gY (l:=l.drop i) (by simp;omega);simp only [List.length_drop] at this;omega
theorem Fz (l:List UInt8):kU (dP l)=l.length:=by
 unfold dP;generalize hn:l.length=n
 induction n using Nat.strongRecOn generalizing l with
 |_ n ih=>
  cases l with
  |nil=>subst hn;simp [iS,kU]
  |cons c r=>
   have hb:=gY (l:=c::r) (by simp);simp only [List.length_cons] at hn hb;subst hn;simp only [iS,kU];have hd:((c::r).drop (bK (c::r)).2).length≤r.length:=by simp only [List.length_drop,List.length_cons];omega
   rw [qK r.length _ hd];have:=ih _ (show ((c::r).drop (bK (c::r)).2).length<r.length+1 by omega) _ rfl;rw [this];simp only [List.length_drop,List.length_cons];omega
theorem rG (b:Int) (r:List UInt8) (v:Int) (n:Nat) (least:Int):iK b r v n least=(2097152+b,1)∨
  ∃u,gx r n v=some u∧least≤u∧u≤1114111∧¬(55296≤u∧u≤57343)∧iK b r v n least=(u,1+n):=by
 unfold iK;cases gx r n v with
 |none=>exact .inl rfl
 |some u=>
  by_cases h:u<least∨1114111<u∨(55296≤u∧u≤57343)
  ·exact .inl (by simp only [if_pos h])
  ·exact .inr ⟨u,rfl,by omega,by omega,by omega,by simp only [if_neg h]⟩
theorem L6:∀(n:Nat) (r:List UInt8) (v u M:Int),v<M→gx r n v=some u→u<M*64^n:=by
 intro n
 induction n with
 |zero=>intro r v u M hv h;rw [gQ] at h;cases h;simpa using hv
 |succ n ih=>
  intro r v u M hv h;rw [dB] at h;split at h
  ·rename_i hc
   have hb:=iY hc;have:=ih _ _ u (M*64) (by omega) h;rw [Int.pow_succ];have e:M*(64^n*64)=M*64*64^n:=by rw [Int.mul_assoc,Int.mul_comm 64]
   omega
  ·cases h
theorem Lc (c:UInt8) (r:List UInt8) (h:2097152≤(bK (c::r)).1):(bK (c::r)).1=2097152+c.toNat:=by
 have hc:=c.toNat_lt;rw [kL] at h⊢
 have key:∀v n least,2097152≤(iK c.toNat r v n least).1→(iK c.toNat r v n least).1=2097152+c.toNat:=by
  intro v n least hh;rcases rG c.toNat r v n least with e|⟨u,_,_,h3,_,e⟩
  ·rw [e]
  ·rw [e] at hh;simp only at hh;omega
 split at h
 ·simp only at h;omega
 rename_i h1;split at h
 ·rename_i h2;rw [if_neg h1,if_pos h2];exact key _ _ _ h
 rename_i h2;split at h
 ·rename_i h3;rw [if_neg h1,if_neg h2,if_pos h3];exact key _ _ _ h
 rename_i h3;split at h
 ·rename_i h4;rw [if_neg h1,if_neg h2,if_neg h3,if_pos h4];exact key _ _ _ h
 rename_i h4;rw [if_neg h1,if_neg h2,if_neg h3,if_neg h4]
theorem xy (d:List UInt8) (hd:d≠ []):(bK d).1=65533↔ [239,191,189].isPrefixOf d=true:=by
 constructor
 ·intro h
  cases d with
  |nil=>exact absurd rfl hd
  |cons c r=>
   have hc:=c.toNat_lt;rw [kL] at h;split at h
   ·simp only at h;omega
   split at h
   ·rcases rG c.toNat r (c.toNat -192) 1 128 with e|⟨u,h1,h2,h3,h4,e⟩
    ·rw [e] at h;simp only at h;omega
    ·have:=L6 1 r _ u 32 (by omega) h1
     rw [e] at h;simp only at h;omega
   split at h
   ·rcases rG c.toNat r (c.toNat -224) 2 2048 with e|⟨u,h1,h2,h3,h4,e⟩
    ·rw [e] at h;simp only at h;omega
    ·rw [e] at h;simp only at h;subst h
     rw [dB] at h1;split at h1
     ·rename_i c0
      rw [dB,gQ] at h1;split at h1
      ·rename_i c1
       have b0:=iY c0;have b1:=iY c1;simp only [Option.some.injEq] at h1;cases r with
       |nil=>simp [dG] at c0
       |cons x r=>
        cases r with
        |nil=>simp [dG] at c1
        |cons y r=>
         simp only [List.getD_cons_zero,List.tail_cons] at b0 b1 h1;have e1:c.toNat=239∧x.toNat=191∧y.toNat=189:=by omega
         have f1:c=239:=UInt8.toNat_inj.1 e1.1;have f2:x=191:=UInt8.toNat_inj.1 e1.2.1;have f3:y=189:=UInt8.toNat_inj.1 e1.2.2;subst f1;subst f2;subst f3;simp
      ·cases h1
     ·cases h1
   split at h
   ·rcases rG c.toNat r (c.toNat -240) 3 65536 with e|⟨u,h1,h2,h3,h4,e⟩
    ·rw [e] at h;simp only at h;omega
    ·rw [e] at h;simp only at h;omega
   ·simp only at h;omega
 ·intro h
  rw [List.isPrefixOf_iff_prefix] at h;obtain ⟨t,rfl⟩:=h;show (bK (239::191::189::t)).1=65533;rw [kL];simp [iK,gx]
theorem QG {d:List UInt8} (hd:d≠ []):(if eD (bK d).1=65533∧ [239,191,189].isPrefixOf d=false then 2097152+((d.headD 0).toNat:Int) else (eD (bK d).1:Int))=(bK d).1:=by
 have hb:=gY hd
 by_cases h:2097152≤(bK d).1
 ·have hp: [239,191,189].isPrefixOf d=false:=by
   cases hh: [239,191,189].isPrefixOf d with
   |false=>rfl
   |true=>have:=(xy d hd).2 hh;omega
  rw [if_pos ⟨by unfold eD;rw [if_pos h],hp⟩];cases d with
  |nil=>exact absurd rfl hd
  |cons c r=>rw [Lc c r h];rfl
 ·have hr:(eD (bK d).1:Int)=(bK d).1:=by unfold eD;rw [if_neg h];omega
  rw [if_neg]
  ·exact hr
  ·rintro ⟨h1,h2⟩
   have:(bK d).1=65533:=by omega
   rw [(xy d hd).1 this] at h2;cases h2
end Go.HL.Nm
