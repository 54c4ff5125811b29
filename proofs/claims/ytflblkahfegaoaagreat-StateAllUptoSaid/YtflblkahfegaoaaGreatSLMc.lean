/- Part 3. -/
import Derived.Test.YtflblkahfegaoaaGreatSLMb
import Derived.IntWalk
set_option linter.unusedSimpArgs false
set_option linter.unusedVariables false
set_option maxRecDepth 4000
namespace Go.HL
def Hp:=Nat->Option Obj
def Hp.sub (h g:Hp):Prop:=∀b o,h b=some o->g b=some o
def Hp.SD (h g:Hp):Prop:=∀b,h b=none\/g b=none
def Hp.un (h g:Hp):Hp:=λb=>match h b with|some o=>some o|none=>g b
def TJ (w:World):Hp:=λb=>w.heap[b]?
def al:=Hp->Prop
def sep (A B:al):al:=λh=>∃h1 h2,Hp.SD h1 h2/\h=Hp.un h1 h2/\A h1/\B h2
instance:Mul al:=⟨sep⟩
def emp:al:=λh=>∀b,h b=none
def pt (b:Nat) (o:Obj):al:=λh=>h b=some o/\∀c,c≠b->h c=none
def dC (w0:World):al:=λh=>h=TJ w0
theorem Hp.Rh {h g:Hp} (d:Hp.SD h g):Hp.un h g=Hp.un g h:=by funext b;simp only [Hp.un];rcases d b with e|e<;>rw [e]<;>cases h b<;>cases g b<;>simp_all
theorem jd (A B:al):A*B=B*A:=by
 have:∀A B:al,∀h,(A*B) h->(B*A) h:=by rintro A B h ⟨h1,h2,d,rfl,a,b⟩;exact ⟨h2,h1,λx=>(d x).symm,Hp.Rh d,b,a⟩
 funext h;exact propext ⟨this A B h,this B A h⟩
theorem aw (A B C:al):A*B*C=A*(B*C):=by
 funext h;apply propext;constructor
 ·rintro ⟨h12,h3,d,rfl,⟨h1,h2,d',rfl,a,b⟩,c⟩
  have d13:Hp.SD h1 h3:=λx=>by
   rcases d x with e|e
   ·simp only [Hp.un] at e;cases hh:h1 x<;>simp_all
   ·exact .inr e
  have d23:Hp.SD h2 h3:=λx=>by
   rcases d x with e|e
   ·simp only [Hp.un] at e;cases hh:h1 x<;>simp_all
   ·exact .inr e
  refine ⟨h1,Hp.un h2 h3,λx=> ?_,?_,a,h2,h3,d23,rfl,b,c⟩
  ·rcases d' x with e|e
   ·exact .inl e
   ·rcases d13 x with e'|e'
    ·exact .inl e'
    ·right;simp only [Hp.un,e,e']
  ·funext x;simp only [Hp.un];cases h1 x<;>rfl
 ·rintro ⟨h1,h23,d,rfl,a,h2,h3,d',rfl,b,c⟩
  have d12:Hp.SD h1 h2:=λx=>by
   rcases d x with e|e
   ·exact .inl e
   ·simp only [Hp.un] at e;cases hh:h2 x<;>simp_all
  have d13:Hp.SD h1 h3:=λx=>by
   rcases d x with e|e
   ·exact .inl e
   ·simp only [Hp.un] at e;cases hh:h2 x<;>simp_all
  refine ⟨Hp.un h1 h2,h3,λx=> ?_,?_,⟨h1,h2,d12,rfl,a,b⟩,c⟩
  ·rcases d' x with e|e
   ·rcases d13 x with e'|e'
    ·left;simp only [Hp.un,e,e']
    ·exact .inr e'
   ·exact .inr e
  ·funext x;simp only [Hp.un];cases h1 x<;>rfl
theorem fK (A B C:al):A*B*C=A*C*B:=by rw [aw,jd B C,<-aw]
theorem lB {A A' B B':al} (ha:∀h,A h->A' h) (hb:∀h,B h->B' h):∀h,(A*B) h->(A'*B') h:=by rintro h ⟨h1,h2,d,rfl,a,b⟩;exact ⟨h1,h2,d,rfl,ha _ a,hb _ b⟩
theorem aq (A:al):A*emp=A:=by
 funext h;apply propext;constructor
 ·rintro ⟨h1,h2,d,rfl,a,b⟩
  have:Hp.un h1 h2=h1:=by funext x;simp only [Hp.un,b x];cases h1 x<;>rfl
  rw [this];exact a
 ·intro a
  exact ⟨h,λ_=>none,λx=> .inr rfl,by funext x;simp only [Hp.un];cases h x<;>rfl,a,λx=>rfl⟩
structure St (w0:World) (A:al) (w:World):Prop where
 os:w.os=w0.os
 out:w.output=w0.output
 size:w0.heap.size<=w.heap.size
 ran:w.tape=w0.tape/\w0.drawn<=w.drawn
 holds:∃h,Hp.sub h (TJ w)/\A h
theorem St.mono {w0 w:World} {A B:al} (s:St w0 A w) (h:∀h,A h->B h):St w0 B w:=
 ⟨s.os,s.out,s.size,s.ran,let ⟨g,h1,h2⟩:=s.holds;⟨g,h1,h _ h2⟩⟩
theorem DM {h1 h2 g:Hp} (s:Hp.sub (Hp.un h1 h2) g):Hp.sub h1 g:=λb o e=>s b o (by simp only [Hp.un,e])
theorem JP {h1 h2 g:Hp} (d:Hp.SD h1 h2) (s:Hp.sub (Hp.un h1 h2) g):Hp.sub h2 g:=λb o e=>s b o (by
 rcases d b with e'|e'
 ·simp only [Hp.un,e',e]
 ·rw [e'] at e;cases e)
theorem St.drop {w0 w:World} {F A:al} (s:St w0 (F*A) w):St w0 F w:=
 ⟨s.os,s.out,s.size,s.ran,let ⟨g,h1,h,h',d,e,a,_⟩:=s.holds;⟨h,DM (e▸h1),a⟩⟩
theorem St.swap {w0 w:World} {F A B:al} (s:St w0 (F*A*B) w):St w0 (F*B*A) w:=by rwa [fK]
theorem St.p3 {w0 w:World} {F A B C:al} (s:St w0 (F*A*B*C) w):St w0 (F*B*C*A) w:=by rw [fK F A B,fK (F*B) A C] at s;exact s
theorem St.look {w0 w:World} {F:al} {b:Nat} {o:Obj} (s:St w0 (F*pt b o) w):w.heap[b]?=some o:=by obtain ⟨g,h1,h,h',d,e,_,a⟩:=s.holds;exact JP d (e▸h1) b o a.1
theorem St.pS {w0 w w1:World} (s:St w0 (dC w1) w) {b:Nat} {o:Obj} (hb:w1.heap[b]?=some o):w.heap[b]?=some o:=by obtain ⟨g,h1,a⟩:=s.holds;exact h1 b o (by rw [a];exact hb)
theorem St.start (w:World):St w (dC w) w:=
 ⟨rfl,rfl,Nat.le_refl _,⟨rfl,Nat.le_refl _⟩,_,λb o h=>h,rfl⟩
def Obj.Ma:Obj->Prop
 | .cells _ _ f=>f=(0,0)
 |_=>True
theorem heap_alloc (w:World) (o:Obj) (b:Nat):(w.alloc o).heap[b]?=if b=w.heap.size then some o else w.heap[b]?:=by simp only [World.alloc,Array.getElem?_push]
theorem St.alloc {w0 w:World} {F:al} (s:St w0 F w) {o:Obj} (_:Obj.Ma o):St w0 (F*pt w.heap.size o) (w.alloc o):=by
 refine ⟨s.os,s.out,?_,s.ran,?_⟩
 ·have:=s.size;simp;omega
 ·obtain ⟨g,h1,h2⟩:=s.holds
  have hn:g w.heap.size=none:=by
   cases hh:g w.heap.size with
   |none=>rfl
   |some o'=>
    have h3:w.heap[w.heap.size]?=some o':=h1 _ _ hh;exact absurd (Array.getElem?_eq_some_iff.1 h3).1 (by omega)
  refine ⟨Hp.un g (λb=>if b=w.heap.size then some o else none),λb o' hb=> ?_,g,_,λb=> ?_,rfl,h2,?_,?_⟩
  ·show (w.alloc o).heap[b]?=some o'
   rw [heap_alloc];simp only [Hp.un] at hb
   by_cases e:b=w.heap.size
   ·subst e;simp only [hn,if_true] at hb;simpa using hb
   ·simp only [e,if_false] at hb⊢
    cases hg:g b with
    |none=>rw [hg] at hb;cases hb
    |some o''=>rw [hg] at hb;cases hb;exact h1 _ _ hg
  ·by_cases e:b=w.heap.size
   ·subst e;exact .inl hn
   ·right;simp [e]
  ·simp
  ·intro c hc;simp [hc]
theorem St.drew {w0 w:World} {A:al} (s:St w0 A w):St w0 A w.drew:=⟨s.os,s.out,s.size,⟨s.ran.1,Nat.le_succ_of_le s.ran.2⟩,s.holds⟩
theorem St.oe {w0 w w':World} {F:al} {b:Nat} {o o':Obj} (s:St w0 (F*pt b o) w) (h1:w'.heap[b]?=some o') (h2:∀c,c≠b->w'.heap[c]?=w.heap[c]?)
  (hs:w'.heap.size=w.heap.size) (hos:w'.os=w.os) (hout:w'.output=w.output) (_:∀c t f,o'= .cells c t f->f=(0,0)) (hrun:w'.tape=w.tape/\w'.drawn=w.drawn:=by exact ⟨rfl,rfl⟩):St w0 (F*pt b o') w':=by
 refine ⟨hos.trans s.os,hout.trans s.out,by rw [hs];exact s.size,⟨hrun.1.trans s.ran.1,hrun.2▸s.ran.2⟩,?_⟩
 ·obtain ⟨g,hg,h,h',d,rfl,a,hb,hn⟩:=s.holds
  have hnb:h b=none:=by
   rcases d b with e|e
   ·exact e
   ·rw [hb] at e;cases e
  refine ⟨Hp.un h (λc=>if c=b then some o' else none),λc x hx=> ?_,h,_,λc=> ?_,rfl,a,?_,?_⟩
  ·show w'.heap[c]?=some x
   simp only [Hp.un] at hx
   by_cases e:c=b
   ·subst e;simp only [hnb,if_true] at hx;rw [h1];exact hx
   ·simp only [e,if_false] at hx
    rw [h2 c e];cases hh:h c with
    |none=>rw [hh] at hx;cases hx
    |some y=>rw [hh] at hx;cases hx;exact DM hg c _ hh
  ·by_cases e:c=b
   ·subst e;exact .inl hnb
   ·right;simp [e]
  ·simp
  ·intro c hc;simp [hc]
theorem heap_setCell (w:World) (b off:Nat) (v:Value) (c:Array Value) (t:TypeId) (f:Nat×Nat) (h:w.heap[b]?=some (.cells c t f)) (x:Nat):
  (w.setCell ⟨b,off,none⟩ v).heap[x]?=if x=b then some (.cells (c.setIfInBounds off v) t f) else w.heap[x]?:=by
 simp only [World.setCell,Array.getElem?_modify]
 by_cases e:x=b
 ·subst e;simp [h]
 ·simp [Ne.symm e,e]
theorem St.set {w0 w:World} {F:al} {b off:Nat} {c:Array Value} {t:TypeId} {v:Value} (s:St w0 (F*pt b (.cells c t (0,0))) w):
  St w0 (F*pt b (.cells (c.setIfInBounds off v) t (0,0))) (w.setCell ⟨b,off,none⟩ v):=by
 have hb:=s.look;refine s.oe (w':=w.setCell ⟨b,off,none⟩ v) ?_ ?_ (by simp) rfl rfl (λc t f e=>by cases e;rfl)
 ·rw [heap_setCell w b off v c t _ hb b,if_pos rfl]
 ·intro x hx;rw [heap_setCell w b off v c t _ hb x,if_neg hx]
section
variable {P:Program} {K:Value->World->Prop} {w w0:World} {F:al}
theorem cell_of {b off:Nat} {c:Array Value} {t:TypeId} {f:Nat×Nat} (hb:w.heap[b]?=some (.cells c t f)):w.cell? ⟨b,off,none⟩=c[off]?:=by simp [World.cell?,hb]
theorem fu (b off n:Nat):(⟨b,off,none⟩:Addr).add n=⟨b,off+n,none⟩:=by unfold Addr.add;split<;>simp_all
theorem bm {s:Sem Value} {v:Value} {w':World} (h:s.run P w= .ok v w') (hk:K v w'):gC P (dU s) K w:=by unfold gC dU;simp [h];exact hk
theorem lF {s:Sem Unit} {w':World} (h:s.run P w= .ok () w') (hk:K undef w'):gC P (D6 s) K w:=by unfold gC D6;simp [h];exact hk
theorem af {a:Addr} {n:Nat} {v:Value} (hc:w.cell? a=some v) (hk:K v w):aI P (.ld false n) [.pointer (some a)] K w:=by intro _;refine bm (w':=w) (v:=v) ?_ hk;simp [tq,Instr.sureAddr,hc]
theorem bj {b off:Nat} {c:Array Value} {t:TypeId} {v:Value} (s:St w0 (F*pt b (.cells c t (0,0))) w) (h1:v.oneCell'=true) (hoff:off<c.size)
  (hk:∀w',St w0 (F*pt b (.cells (c.setIfInBounds off v) t (0,0))) w'->K undef w'):aI P (.st 1) [.pointer (some ⟨b,off,none⟩),v] K w:=by
 intro _;have hb:=s.look;have hc:w.cell? ⟨b,off,none⟩=some c[off]:=by rw [cell_of hb];simp [hoff]
 have hf:w.frozen? ⟨b,off,none⟩=false:=by simp [World.frozen?,hb]
 refine lF (w':=w.setCell ⟨b,off,none⟩ v) ?_ (hk _ s.set);have hcs:v.cells= #[v]:=by cases v<;>first|rfl|(simp [Value.oneCell'] at h1)
 have hst:=run_store P w ⟨b,off,none⟩ v .plain h1;simp only [hc,hf,Bool.false_eq_true,if_false] at hst;have ha:(⟨b,off,none⟩:Addr).add 0=⟨b,off,none⟩:=rfl;simp [stS,Instr.sureAddr,hcs,storeCells,ha,hst]
theorem rS {b off:Nat} {c:Array Value} {t:TypeId} {vs:List Value} (s:St w0 (F*pt b (.cells c t (0,0))) w):
  St w0 (F*pt b (.cells (c.toList.take off++vs++c.toList.drop (off+vs.length)).toArray t (0,0))) (w.setRow b (c.toList.take off++vs++c.toList.drop (off+vs.length)).toArray):=
 s.oe (setRow_heap w b c _ t _ s.look) (λx hx=>setRow_other w b x _ hx) (by simp [World.setRow]) rfl rfl (λ_ _ _ e=>by cases e;rfl)
theorem dg {b off n:Nat} {c:Array Value} {t:TypeId} {v:Value} {vs:List Value} (s:St w0 (F*pt b (.cells c t (0,0))) w) (hv:v.cells.toList=vs) (hn:vs.length=n) (h1:∀u∈vs,u.oneCell'=true) (hoff:off+n<=c.size)
  (hk:∀w',St w0 (F*pt b (.cells (c.toList.take off++vs++c.toList.drop (off+n)).toArray t (0,0))) w'->K undef w'):aI P (.st n) [.pointer (some ⟨b,off,none⟩),v] K w:=by
 intro _;have hb:=s.look;have hst:=run_storeCells_at P b off t vs 0 c w hb (by omega) h1;simp only [Nat.add_zero] at hst;have hh:=rS (off:=off) (vs:=vs) s;rw [hn] at hst hh;refine lF ?_ (hk _ hh);have hsz:v.cells.size=n:=by rw [<-Array.length_toList,hv,hn]
 simp [stS,Instr.sureAddr,hsz,hv,hst]
theorem bX {t:TypeId} {z:Value} (s:St w0 F w) (hk:∀b w',St w0 (F*pt b (.cells z.cells t (0,0))) w'->K (.pointer (some ⟨b,0,none⟩)) w'):aI P (.new t z) [] K w:=by intro _;refine bm (w':=w.alloc (.cells z.cells t)) ?_ (hk _ _ (s.alloc rfl));simp [newVar,newRow]
theorem bA {t:TypeId} {z:Value} (s:St w0 F w) (hk:∀b w',St w0 (F*pt b (.cells z.cells t (0,0))) w'->K (.pointer (some ⟨b,0,none⟩)) w'):aI P (.box t) [z] K w:=by intro _;refine bm (w':=w.alloc (.cells z.cells t)) ?_ (hk _ _ (s.alloc rfl));simp [Instr.box,newVar,newRow]
theorem lP {e len size:Nat} {zero cells:Array Value} {ix:List Nat} {vs:List Value} (s:St w0 F w)
  (hf:Instr.fill (λi=>some (i*size,size)) ((Array.range (len*size)).map (zero[· %zero.size]!)) (ix.zip vs)=some cells)
  (hk:∀b w',St w0 (F*pt b (.cells cells e (0,0))) w'->K (.slice (some ⟨b,0,none⟩) len len) w'):aI P (.bsl e len size zero ix) vs K w:=by
 intro _;refine bm (w':=w.alloc (.cells cells e)) ?_ (hk _ _ (s.alloc rfl));simp [Nt,hf,newRow]
theorem cw {e:Nat} {z x:Value} (s:St w0 F w) (h1:x.oneCell'=true)
  (hk:∀b w',St w0 (F*pt b (.cells #[x] e (0,0))) w'->K (.slice (some ⟨b,0,none⟩) 1 1) w'):aI P (.bsl e 1 1 #[z] [0]) [x] K w:=by
 refine lP (cells:= #[x]) s ?_ hk;have hcs:x.cells= #[x]:=by cases x<;>first|rfl|(simp [Value.oneCell'] at h1)
 have hz:((Array.range (1*1)).map λi=>(#[z])[i %(#[z]).size]!)= #[z]:=by
  apply Array.ext
  ·simp
  ·intro i h1 h2
   have:i=0:=by simp at h2;omega
   subst this;simp
 rw [hz];simp [Instr.fill,hcs]
theorem ad {f:FuncId} {vs:List Value} (h:ak P f vs K w):aI P (.call f) vs K w:=by intro hb;unfold gC;simp only [EO.mv,dJ hb];exact h
theorem bO {f:FuncId} {first cap:Array Value} {vs:List Value} (hb:bZ P f=true) (h:ak P f (first.toList++vs++cap.toList) K w):aI P .callv (.func (.func f) first cap::vs) K w:=by
 intro _;unfold gC;have e:first++vs.toArray++cap=(first.toList++vs++cap.toList).toArray:=by apply Array.ext';simp
 simp only [EO.mv,Deferred.ofValue,Sem.run_bind,Sem.run_pure,Result.andThen_ok,invoke];rw [e,dJ hb];exact h
def own (e size:Nat) (v:Value) (n:Nat) (xs:List Value):al:=λh=>xs.length=n*size/\
 ((v= .slice none 0 0/\n=0/\emp h)\/
 ∃g cap cur,v= .slice (some ⟨g,0,none⟩) n cap/\n<=cap/\cap<=maxLen/\cap*size<=cur.size/\cur.toList.take (n*size)=xs/\pt g (.cells cur e (0,0)) h)
theorem St.of {A B:al} (s:St w0 A w) (h:∃h,Hp.sub h (TJ w)/\B h):St w0 B w:=⟨s.os,s.out,s.size,s.ran,h⟩
theorem St.own {e size:Nat} {v:Value} {n:Nat} {xs:List Value} (s:St w0 (F*own e size v n xs) w):xs.length=n*size/\
  ((v= .slice none 0 0/\n=0/\xs= []/\St w0 F w)\/
  ∃g cap cur,v= .slice (some ⟨g,0,none⟩) n cap/\n<=cap/\cap<=maxLen/\cap*size<=cur.size/\cur.toList.take (n*size)=xs/\St w0 (F*pt g (.cells cur e (0,0))) w):=by
 obtain ⟨g,h1,h2,h3,d,e,a,hl,b⟩:=s.holds;refine ⟨hl,?_⟩;rcases b with ⟨rfl,rfl,hb⟩|⟨g',cap,cur,rfl,hn,hm,hc,ht,hp⟩
 ·refine .inl ⟨rfl,rfl,List.eq_nil_of_length_eq_zero (by simpa using hl),s.drop⟩
 ·exact .inr ⟨g',cap,cur,rfl,hn,hm,hc,ht,s.of ⟨g,h1,h2,h3,d,e,a,hp⟩⟩
theorem St.aG (s:St w0 F w) (e size:Nat):St w0 (F*HL.own e size (.slice none 0 0) 0 []) w:=by have:F=F*emp:=(aq F).symm;rw [this] at s;exact s.mono (lB (λ_ h=>h) λh hh=>⟨by simp,.inl ⟨rfl,rfl,hh⟩⟩)
theorem St.qe {e size g n cap:Nat} {cur:Array Value} {xs:List Value} (s:St w0 (F*pt g (.cells cur e (0,0))) w) (hn:n<=cap) (hm:cap<=maxLen) (hc:cap*size<=cur.size) (ht:cur.toList.take (n*size)=xs):
  St w0 (F*HL.own e size (.slice (some ⟨g,0,none⟩) n cap) n xs) w:=by
 refine s.mono (lB (λ_ h=>h) λh hh=>⟨?_,.inr ⟨g,cap,cur,rfl,hn,hm,hc,ht,hh⟩⟩);rw [<-ht,List.length_take,Array.length_toList];exact Nat.min_eq_left (Nat.le_trans (Nat.mul_le_mul_right _ hn) hc)
theorem St.vo {e size g n cap:Nat} {cur:Array Value} {xs:List Value} (s:St w0 (F*pt g (.cells cur e (0,0))) w) (hn:n<=cap) (hm:cap<=maxLen) (hc:cur.size=cap*size) (ht:cur.toList.take (n*size)=xs):
  St w0 (F*HL.own e size (.slice (some ⟨g,0,none⟩) n cap) n xs) w:=s.qe hn hm (Nat.le_of_eq hc.symm) ht
theorem St.jb {e size:Nat} {v:Value} {n:Nat} {xs:List Value} (s:St w0 (F*HL.own e size v n xs) w):
  xs= []/\v= .slice none 0 0\/∃g cap,v= .slice (some ⟨g,0,none⟩) n cap/\n<=cap/\∀j u,xs[j]?=some u->w.cell? ⟨g,j,none⟩=some u:=by
 rcases s.own.2 with ⟨rfl,_,hx,_⟩|⟨g,cap,cur,rfl,hn,_,hc,ht,s'⟩
 ·exact .inl ⟨hx,rfl⟩
 ·refine .inr ⟨g,cap,rfl,hn,λj u hu=> ?_⟩
  rw [cell_of s'.look];rw [<-ht,List.getElem?_take] at hu;split at hu
  ·simpa using hu
  ·cases hu
theorem St.ay {e size:Nat} {v:Value} {n:Nat} {xs:List Value} (s:St w0 (F*HL.own e size v n xs) w):∃a cap,v= .slice a n cap/\n<=cap/\(0<n->a≠none):=by
 rcases s.own.2 with ⟨rfl,rfl,_⟩|⟨g,cap,cur,rfl,hn,_⟩
 ·exact ⟨_,_,rfl,Nat.le_refl _,λh=>absurd h (by omega)⟩
 ·exact ⟨_,_,rfl,hn,λ_=>by simp⟩
theorem St.aU {e size:Nat} {v:Value} {n:Nat} {xs:List Value} (s:St w0 (F*HL.own e size v n xs) w) (hn:0<n):
  ∃g cap,v= .slice (some ⟨g,0,none⟩) n cap/\n<=cap/\∀j u,xs[j]?=some u->w.cell? ⟨g,j,none⟩=some u:=by
 rcases s.jb with ⟨_,rfl⟩|h
 ·obtain ⟨a,cap,h,_⟩:=s.ay
  cases h;omega
 ·exact h
theorem bE {t ty e size bytes:Nat} {z v:Value} {n m c:Nat} {xs news:List Value} {a:Addr} (s:St w0 (F*HL.own e size v n xs) w)
  (hl:news.length=m*size) (hx:∀j u,news[j]?=some u->w.cell? (a.add j)=some u) (h1:∀u∈news,u.oneCell'=true)
  (hsz:0<size) (hz:z.cells.size=size) (hmax:n+m<=maxLen) (hb:(n+m)*bytes<=140737488355328)
  (hk:∀v' w',St w0 (F*HL.own e size v' (n+m) (xs++news)) w'->K v' w'):aI P (.app t ty e size bytes z) [v,.slice (some a) m c] K w:=by
 rintro ⟨ht,i,hi,hiz,rfl,rfl⟩;have hsmall:n+m<=9223372036854775807:=by simp only [maxLen] at hmax;omega
 have grown:∀dC,dC<n+m->St w0 F w->xs.length=n*i.size->
   St w0 (F*HL.own e i.size (.slice (some ⟨w.heap.size,0,none⟩) (n+m) (grownCap w (n+m) dC e)) (n+m) (xs++news))
    (w.drew.alloc (.cells (xs.toArray++news.toArray++Builtin.zeroCells z.cells (grownCap w (n+m) dC e -(n+m))) e)):=by
  intro dC ho s hxl;have hge:=grownCap_ge w (n+m) dC e;refine St.vo (s.drew.alloc (by rfl)) hge (grownCap_le_maxLen w (n+m) dC e hmax) ?_ ?_
  ·simp only [Array.size_append,List.size_toArray,size_zeroCells,hz,hxl,hl,<-Nat.add_mul]
   congr 1;omega
  ·simp only [Array.toList_append,List.append_assoc]
   rw [<-List.append_assoc,Nat.add_mul,<-hxl,<-hl,<-List.length_append];exact List.take_left
 obtain ⟨hxl,hc⟩:=s.own;rcases hc with ⟨rfl,rfl,rfl,s'⟩|⟨g,cap,cur,rfl,hnc,hcm,hcs,htake,s'⟩
 ·by_cases hm:m=0
  ·subst hm
   have hn:news= []:=List.eq_nil_of_length_eq_zero (by simpa using hl);subst hn;refine bm (w':=w) (v:= .slice none 0 0) ?_ (hk _ _ s);simp [Builtin.append_,run_underlying ht,sizeOf,typeInfo,hi,Builtin.lenOf,Builtin.firstCells,loadCells,loadCellsFrom]
  ·have hr:=run_append_nil (P:=P) w t ty e i z ht hi hiz a m c news hl hx (by omega) (by omega) (by have hb:=hb;simp only [Nat.zero_add] at hb;omega)
   have hgr:=grown 0 (by omega) s' (by simp);simp only [Nat.zero_add,List.nil_append,Array.empty_append] at hgr hk;exact bm hr (hk _ _ hgr)
 ·by_cases hroom:n+m<=cap
  ·have hfit:n*i.size+news.length<=cur.size:=by rw [hl,<-Nat.add_mul];exact Nat.le_trans (Nat.mul_le_mul_right _ hroom) hcs
   have hr:=run_append_room (P:=P) w t ty e i ht hi g n cap cur s'.look a m c news hl hx h1 hroom hfit;refine bm hr (hk _ _ ((rS (off:=n*i.size) (vs:=news) s').qe hroom hcm ?_ ?_))
   ·simp only [List.size_toArray,List.length_append,List.length_take,List.length_drop,Array.length_toList]
    omega
   ·rw [htake,Nat.add_mul,<-hxl,<-hl,<-List.length_append]
    exact List.take_left
  ·have holds:∀j u,xs[j]?=some u->w.cell? ((⟨g,0,none⟩:Addr).add j)=some u:=by
    intro j u hu;rcases s.jb with ⟨rfl,h⟩|⟨g',cap',h,_,hh⟩
    ·simp at hu
    ·cases h;rw [fu,Nat.zero_add];exact hh j u hu
   have hr:=run_append_grow (P:=P) w t ty e i z ht hi hiz ⟨g,0,none⟩ n cap xs hxl holds a m c news hl hx (by omega) (by omega) (growslice_fits (by omega) hb);exact bm hr (hk _ _ (grown cap (by omega) s'.drop hxl))
theorem Ck {t ty e size bytes:Nat} {z:Value} {b:Option Addr} {n cap c:Nat} (hn:n<=cap) (hk:K (.slice b n cap) w):aI P (.app t ty e size bytes z) [.slice b n cap,.slice none 0 c] K w:=by rintro ⟨ht,i,hi,hiz,rfl,rfl⟩;refine bm (w':=w) (v:= .slice b n cap) ?_ hk;cases b<;>simp [Builtin.append_,run_underlying ht,sizeOf,typeInfo,hi,Builtin.lenOf,Builtin.firstCells,storeCells,hn]
theorem St.aJ {b:Nat} {c:Array Value} {t:TypeId} {f:Nat×Nat} (s:St w0 (F*pt b (.cells c t f)) w):∀j u,c.toList[j]?=some u->w.cell? ((⟨b,0,none⟩:Addr).add j)=some u:=by
 intro j u h;rw [fu,cell_of s.look]
 simpa using h
theorem Cq {t:TypeId} {x:ByteArray} (s:St w0 F w) (hk:∀b w',St w0 (F*pt b (.stringIter x 0)) w'->K (.pointer (some ⟨b,0,none⟩)) w'):aI P (.rngS t) [.string x] K w:=by intro _;refine bm (w':=w.alloc (.stringIter x 0)) ?_ (hk _ _ (s.alloc trivial));simp
theorem Cp {ty:TypeId} {b:Nat} {x:ByteArray} {pos:Nat} (s:St w0 (F*pt b (.stringIter x pos)) w)
  (hk1:pos<x.size->∀w',St w0 (F*pt b (.stringIter x (pos+(Utf8.decode x pos).2))) w'->K (.tuple #[.bool true,.int .i64 pos,.int .i32 (Utf8.decode x pos).1]) w')
  (hk2:¬pos<x.size->K (.tuple #[.bool false]) w):aI P (.nxt true ty) [.pointer (some ⟨b,0,none⟩)] K w:=by
 intro _;have hb:=s.look
 by_cases hp:pos<x.size
 ·have hlt:b<w.heap.size:=(Array.getElem?_eq_some_iff.1 hb).1
  refine bm (w':={w with heap:=w.heap.setIfInBounds b (.stringIter x (pos+(Utf8.decode x pos).2))}) ?_ (hk1 hp _ ?_)
  ·simp [Instr.next,getObj,setObj,Sem.run,hb,hp,Sem.run_bind,goInt]
  ·refine s.oe ?_ ?_ (by simp) rfl rfl (λ_ _ _ e=>by cases e)
   ·simp [hlt]
   ·intro c hc;simp [Ne.symm hc]
 ·refine bm (w':=w) ?_ (hk2 hp)
  simp [Instr.next,getObj,Sem.run,hb,hp]
end
theorem aH {h t:HC} (e:h=t) {P:Program} {F:PF P} {Q:EX->List Value->World->Prop} {env:List Value} {w:World}:h.wp F Q env w=t.wp F Q env w:=by rw [e]
theorem ki {h t:RT} (e:h=t) {P:Program} {F:PF P} {env:List Value} {K:List Value->Option Value->World->Prop} {bvs:List Value} {w:World}:h.wp F env K bvs w=t.wp F env K bvs w:=by rw [e]
attribute [simp] Rl Ww Wz Wy Wv Rn KO M1 WC fda Wx Ro J3 M0 MZ Rm Mr Q5 Ms EM EN Iu Mf Nr uh rz Jd Jc Lq KZ K0 Q3 Mm zm zn TM TL AD CN
attribute [simp] fu
attribute [simp] dI dG gh jy
attribute [simp] SE.val dH.dX PO.ok PO.val dj JW Np Nq lZ l8
section
variable {P:Program} {F:PF P} {env:List Value} {w:World} {Q:EX->List Value->World->Prop}
theorem dB {x:HC} (I:List Value->World->Prop) (μ:List Value->World->Nat) (h0:I env w)
  (h:∀(LQ:EX->List Value->World->Prop) (env:List Value) (w:World),I env w->(∀env' w',I env' w'->μ env' w'<μ env w->LQ .nrm env' w')->(∀i env' w',Q (.ex i) env' w'->LQ (.ex i) env' w')->
   (∀env' w',Q .ret env' w'->LQ .ret env' w')->x.wp F LQ env w):BI F x Q env w:=
 LA I μ h0 λenv w hI=>h _ env w hI (λ_ _ h1 h2=>⟨h1,h2⟩) (λ_ _ _ h=>h) (λ_ _ h=>h)
theorem aN {x y:HC} {b:Bool} (h1:b=true->x.wp F Q env w) (h2:b=false->y.wp F Q env w):iR F (.bool b) x y Q env w:=E9 h1 h2
theorem IM (t N:Nat) (L:List Nat) (args:List Value):uw (t::L) N args=(if t<N then (args[t]?).getD undef else undef)::uw L N args:=rfl
theorem K3 (N:Nat) (args:List Value):uw [] N args= []:=rfl
theorem ak.mono {f:FuncId} {args:List Value} {K K':Value->World->Prop} (h:ak P f args K w) (hk:∀v w',K v w'->K' v w'):ak P f args K' w:=
 Calls.mono h λ_ _ ⟨v,e,h⟩=>⟨v,e,hk _ _ h⟩
end
attribute [simp] IM K3
def mk (l:List UInt8):ByteArray:=⟨l.toArray⟩
@[simp] theorem boa (l:List UInt8):(mk l).data=l.toArray:=rfl
@[simp] theorem fKa (l:List UInt8):(mk l).size=l.length:=by simp [mk,ByteArray.size]
@[simp] theorem fJa (l:List UInt8):(ByteArray.mk l.toArray)=mk l:=rfl
theorem oK (s:ByteArray):s=mk s.data.toList:=by cases s;simp [mk]
@[simp] theorem WX (l:List UInt8) (i:Int):yX (mk l) i=((l[i.toNat]?.getD 0).toNat:Int):=by simp [yX]
def ax (env:List Value) (j:Nat):Nat:=match env.getD j undef with
 | .int _ k=>k.toNat
 |_=>0
theorem wrap64 {x:Int} (h1: -9223372036854775808<=x) (h2:x<=9223372036854775807):IntKind.i64.wrap x=x:=IntWalk.i64_in x ⟨h1,h2⟩
theorem wrap32 {x:Int} (h1: -2147483648<=x) (h2:x<=2147483647):IntKind.i32.wrap x=x:=IntWalk.i32_in x ⟨h1,h2⟩
theorem rn {x:Int} (h1:0<=x) (h2:x<=255):IntKind.u8.wrap x=x:=IntWalk.u8_in x ⟨h1,h2⟩
theorem bB {x:Int} (h1:0<=x) (h2:x<=18446744073709551615):IntKind.u64.wrap x=x:=IntWalk.u64_in x ⟨h1,h2⟩
theorem gr {P:Program} {F:PF P} {env:List Value} {w:World} {Q:EX->List Value->World->Prop} (x y:HC) (b:Bool):
  iR F (.bool b) x y Q env w=if b=true then x.wp F Q env w else y.wp F Q env w:=by cases b<;>simp
structure PS (P:Program) where
 f:Nat
 val:List Value->Value
 ok:List Value->Prop
 sound:∀(args:List Value) (w:World),ok args->ak P f args (λv w'=>v=val args/\w'=w) w
def PF.of {P:Program} (l:List (PS P)):PF P where
 ids:=l.map (·.f)
 val f args:=match l.find? (λs=>s.f==f) with
  |some s=>s.val args
  | .none=>undef
 ok f args:=match l.find? (λs=>s.f==f) with
  |some s=>s.ok args
  | .none=>False
 sound:=by
  intro f hf args w hok;split at hok
  ·rename_i s hs
   have h1:=List.find?_some hs;simp only [beq_iff_eq] at h1;subst h1;exact Calls.mono (s.sound args w hok) λe w' ⟨v,he,hv,hw⟩=>⟨by rw [he,hv],hw⟩
  ·exact hok.elim
def PS.ib {P:Program} (f:Nat) (k:IntKind) (g:Int->Bool) (h:∀u w,ak P f [.int k u] (λr w'=>r= .bool (g u)/\w'=w) w):PS P where
 f:=f
 val args:=match args with
  | [.int _ u]=> .bool (g u)
  |_=>undef
 ok args:=match args with
  | [.int k' _]=>k'=k
  |_=>False
 sound args w hok:=by
  split at hok
  ·subst hok;exact h _ w
  ·exact hok.elim
inductive It where
 |n (k:Nat)
 |e (x:SE)
 |es (x:dH)
 |st (l:List (Nat×SE))
 |r (t:RT)
 |h (t:HC)
structure dk where
 p:Nat->PO
 e:Nat->EO
 v:Nat->Value
def Zo:Nat->Nat->List Nat
 |0,_=> []
 |f+1,n=>if n=0 then [] else (n %1024)::Zo f (n /1024)
def RN:Nat->List Nat->List (Nat×List Nat)
 |0,_=> []
 |_+1,[]=> []
 |f+1,n::r=>match r with
  | []=> []
  |i::r=>(i -1,(r.take (n -1)).map (· -1))::RN f (r.drop (n -1))
def bta (k:Nat):MO:=
 if k=0 then .none else if k %2=1 then .some (k /2) else .free (let l:=Zo 10000 (k /2 -1);RN l.length l)
def gha:Nat->HC
 |0=> .skip
 |1=> .ret
 |k+2=> .exit k
def o8:List It->List It
 | .n k::s=> .n (k*8)::s
 |s=>s
def o9:List It->List It
 | .n k::s=> .n (k*8+1)::s
 |s=>s
def xW:List It->List It
 | .n k::s=> .n (k*8+2)::s
 |s=>s
def Dh:List It->List It
 | .n k::s=> .n (k*8+3)::s
 |s=>s
def xX:List It->List It
 | .n k::s=> .n (k*8+4)::s
 |s=>s
def lH:List It->List It
 | .n k::s=> .n (k*8+5)::s
 |s=>s
def lI:List It->List It
 | .n k::s=> .n (k*8+6)::s
 |s=>s
def oM:List It->List It
 | .n k::s=> .n (k*8+7)::s
 |s=>s
def rN:List It->List It
 | .n k::s=> .e (.inp k)::s
 |s=>s
def sa:List It->List It
 | .n k::s=> .e (.bv k)::s
 |s=>s
def tr (T:dk):List It->List It
 | .n k::s=> .e (.cst (T.v k))::s
 |s=>s
def qt:List It->List It
 | .es l:: .e x::s=> .es (.cons x l)::s
 |s=>s
def AJ (T:dk):List It->List It
 | .es l:: .n k::s=> .e (.op (T.p k) l)::s
 |s=>s
def FN:List It->List It
 | .e b:: .e a:: .e c::s=> .e (.ite c false a b)::s
 |s=>s
def FO:List It->List It
 | .e b:: .e a:: .e c::s=> .e (.ite c true a b)::s
 |s=>s
def LS:List It->List It
 | .st l:: .e x:: .n k::s=> .st ((k,x)::l)::s
 |s=>s
def o26:List It->List It
 | .st l::s=> .r (.done l none)::s
 |s=>s
def o27:List It->List It
 | .e c:: .st l::s=> .r (.done l (some c))::s
 |s=>s
def o28 (T:dk):List It->List It
 | .r t:: .es l:: .n k::s=> .r (.chk none (T.p k) l t)::s
 |s=>s
def o29 (T:dk):List It->List It
 | .r t:: .es l:: .n k:: .e g::s=> .r (.chk (some (g,false)) (T.p k) l t)::s
 |s=>s
def o30 (T:dk):List It->List It
 | .r t:: .es l:: .n k:: .e g::s=> .r (.chk (some (g,true)) (T.p k) l t)::s
 |s=>s
def o31:List It->List It
 | .r t:: .e c::s=> .r (.isb none c t)::s
 |s=>s
def o32:List It->List It
 | .r t:: .e c:: .e g::s=> .r (.isb (some (g,false)) c t)::s
 |s=>s
def o33:List It->List It
 | .r t:: .e c:: .e g::s=> .r (.isb (some (g,true)) c t)::s
 |s=>s
def o34 (T:dk):List It->List It
 | .r t:: .es l:: .n k::s=> .r (.eff (T.e k) l t)::s
 |s=>s
def o35:List It->List It
 | .r t:: .e x::s=> .r (.gh x t)::s
 |s=>s
def o36:List It->List It
 | .r b:: .r a:: .e c::s=> .r (.ite c false a b)::s
 |s=>s
def o37:List It->List It
 | .r b:: .r a:: .e c::s=> .r (.ite c true a b)::s
 |s=>s
def o39:List It->List It
 | .r t::s=> .h (.reg t)::s
 |s=>s
def o40:List It->List It
 | .h y:: .h x:: .r t::s=> .h (.br t x y)::s
 |s=>s
def o41:List It->List It
 | .r t:: .n k::s=> .h (.regq (bta k) t)::s
 |s=>s
def o42:List It->List It
 | .h y:: .h x:: .r t:: .n k::s=> .h (.brq (bta k) t x y)::s
 |s=>s
def o43:List It->List It
 | .h y:: .h x:: .n k::s=> .h (.cnd k x y)::s
 |s=>s
def o44:List It->List It
 | .h y:: .h x::s=> .h (.seq x y)::s
 |s=>s
def o45:List It->List It
 | .h x:: .n k::s=> .h (.block k x)::s
 |s=>s
def o46:List It->List It
 | .h x::s=> .h (.loop x)::s
 |s=>s
def o47:List It->List It
 | .n k::s=> .h (gha k)::s
 |s=>s
def o48 (H:List HC):List It->List It
 | .n k::s=> .h (H.getD k .skip)::s
 |s=>s
def Q8 (T:dk) (H:List HC):Nat->List It->List It
 |0,s=> .n 0::s
 |1,s=> .n 1::s
 |2,s=> .n 2::s
 |3,s=> .n 3::s
 |4,s=> .n 4::s
 |5,s=> .n 5::s
 |6,s=> .n 6::s
 |7,s=> .n 7::s
 |8,s=>o8 s
 |9,s=>o9 s
 |10,s=>xW s
 |11,s=>Dh s
 |12,s=>xX s
 |13,s=>lH s
 |14,s=>lI s
 |15,s=>oM s
 |16,s=>rN s
 |17,s=>sa s
 |18,s=>tr T s
 |19,s=> .es .nil::s
 |20,s=>qt s
 |21,s=>AJ T s
 |22,s=>FN s
 |23,s=>FO s
 |24,s=> .st []::s
 |25,s=>LS s
 |26,s=>o26 s
 |27,s=>o27 s
 |28,s=>o28 T s
 |29,s=>o29 T s
 |30,s=>o30 T s
 |31,s=>o31 s
 |32,s=>o32 s
 |33,s=>o33 s
 |34,s=>o34 T s
 |35,s=>o35 s
 |36,s=>o36 s
 |37,s=>o37 s
 |38,s=>qt (.es .nil::s)
 |39,s=>o39 s
 |40,s=>o40 s
 |41,s=>o41 s
 |42,s=>o42 s
 |43,s=>o43 s
 |44,s=>o44 s
 |45,s=>o45 s
 |46,s=>o46 s
 |47,s=>o47 s
 |48,s=>o48 H s
 |49,s=>qt (.es .nil::rN s)
 |50,s=>qt (qt (.es .nil::s))
 |51,s=>sa (.n 0::s)
 |52,s=>qt (.es .nil::AJ T s)
 |53,s=>qt (qt (.es .nil::tr T s))
 |54,s=>LS (.st []::s)
 |55,s=>o26 (LS (.st []::s))
 |56,s=>sa (.n 1::s)
 |57,s=>o44 (o44 s)
 |58,s=>o8 (.n 1::s)
 |59,s=>o28 T (o34 T s)
 |60,s=>qt (.es .nil::rN (.n 0::s))
 |61,s=>qt (qt (.es .nil::rN s))
 |62,s=>o9 (.n 1::s)
 |63,s=> .n 1::o39 s
 |_,s=>s
def dfa (T:dk) (H:List HC):Nat->Nat->List It->List It
 |0,_,s=>s
 |f+1,n,s=>if n=0 then s else dfa T H f (n /64) (Q8 T H (n %64) s)
def gpa:List It->HC
 | .h t::_=>t
 |_=> .skip
def aW (T:dk) (H:List HC) (n:Nat):HC:=gpa (dfa T H 100000 n [])
theorem aE {P:Program} {F:PF P} {f:FuncId} {fuel:Nat} {l:ai} (hl:aj F f fuel=some l) {args:List Value} {K:Value->World->Prop} {w:World} (hlen:args.length<=l.N) {t:HC}
  (h:t.wp F (uq P l.rs K) (uw l.L l.N args) w) (e:l.hc=t:=by (conv=>lhs;cbv)):ak P f args K w:=dQ hl hlen (e▸h)
end Go.HL
namespace Go.HL.Nm
open Go.HL
def gM:List UInt8->Nat->Int->Option Int
 |_,0,v=>some v
 | [],_+1,_=>none
 |b::r,n+1,v=>if (b.toNat:Int)<128\/191<(b.toNat:Int) then none else gM r n (v*64+b.toNat -128)
def gS (b:Int) (r:List UInt8) (v:Int) (n:Nat) (least:Int):Int×Nat:=
 match gM r n v with
 |some v=>if v<least\/1114111<v\/(55296<=v/\v<=57343) then (2097152+b,1) else (v,1+n)
 |none=>(2097152+b,1)
def bJ:List UInt8->Int×Nat
 | []=>(0,1)
 |c::r=>
  if (c.toNat:Int)<128 then ((c.toNat:Int),1)
  else if 192<=(c.toNat:Int)/\(c.toNat:Int)<224 then gS c.toNat r (c.toNat -192) 1 128
  else if 224<=(c.toNat:Int)/\(c.toNat:Int)<240 then gS c.toNat r (c.toNat -224) 2 2048
  else if 240<=(c.toNat:Int)/\(c.toNat:Int)<248 then gS c.toNat r (c.toNat -240) 3 65536
  else (2097152+c.toNat,1)
theorem jL (c:UInt8) (r:List UInt8):bJ (c::r)=
  if (c.toNat:Int)<128 then ((c.toNat:Int),1)
  else if 192<=(c.toNat:Int)/\(c.toNat:Int)<224 then gS c.toNat r (c.toNat -192) 1 128
  else if 224<=(c.toNat:Int)/\(c.toNat:Int)<240 then gS c.toNat r (c.toNat -224) 2 2048
  else if 240<=(c.toNat:Int)/\(c.toNat:Int)<248 then gS c.toNat r (c.toNat -240) 3 65536
  else (2097152+c.toNat,1):=rfl
theorem DW (n:Nat):∀(r:List UInt8) (v u:Int),0<=v->gM r n v=some u->0<=u/\n<=r.length:=by
 induction n with
 |zero=>intro r v u hv h;cases r<;>simp only [gM,Option.some.injEq] at h<;>subst h<;>exact ⟨hv,Nat.zero_le _⟩
 |succ n ih=>
  intro r v u hv h;cases r with
  |nil=>simp only [gM] at h;cases h
  |cons b r=>
   simp only [gM] at h;split at h
   ·cases h
   ·have:=ih r _ u (by have:=b.toNat_lt;omega) h
    simp only [List.length_cons];omega
theorem zb (b:Int) (r:List UInt8) (v:Int) (n:Nat) (least:Int) (hb:0<=b/\b<256) (hv:0<=v):
  0<=(gS b r v n least).1/\(gS b r v n least).1<2097408/\1<=(gS b r v n least).2/\(gS b r v n least).2<=1+r.length:=by
 unfold gS;split
 ·rename_i u hu
  have:=DW n r v u hv hu;split
  ·simp only;omega
  ·simp only;omega
 ·simp only;omega
theorem iJ {l:List UInt8} (h:l≠ []):0<=(bJ l).1/\(bJ l).1<2097408/\1<=(bJ l).2/\(bJ l).2<=l.length:=by
 cases l with
 |nil=>exact absurd rfl h
 |cons c r=>
  have hc:=c.toNat_lt;unfold bJ;simp only [List.length_cons];split
  ·simp only;omega
  split
  ·have:=zb c.toNat r (c.toNat -192) 1 128 (by omega) (by omega);omega
  split
  ·have:=zb c.toNat r (c.toNat -224) 2 2048 (by omega) (by omega);omega
  split
  ·have:=zb c.toNat r (c.toNat -240) 3 65536 (by omega) (by omega);omega
  ·simp only;omega
theorem SO (l:List UInt8) (i:Nat):(mk l).get! i=l.getD i 0:=by simp only [mk,ByteArray.get!,List.getD_eq_getElem?_getD];simp;rfl
def NJ (d:List UInt8):Nat×Nat:=
 let at' (k:Nat):Nat:=(d.getD k 0).toNat
 let cont (k:Nat):Bool:=k<d.length&&at' k /64==2
 let b0:=at' 0
 if b0<0x80 then (b0,1)
 else if b0 /32==6&&cont 1 then
  let c:=(b0 %32)*64+at' 1 %64
  if c≥0x80 then (c,2) else (65533,1)
 else if b0 /16==14&&cont 1&&cont 2 then
  let c:=(b0 %16)*4096+(at' 1 %64)*64+at' 2 %64
  if c≥0x800&&Utf8.valid c then (c,3) else (65533,1)
 else if b0 /8==30&&cont 1&&cont 2&&cont 3 then
  let c:=(b0 %8)*262144+(at' 1 %64)*4096+(at' 2 %64)*64+at' 3 %64
  if c≥0x10000&&Utf8.valid c then (c,4) else (65533,1)
 else (65533,1)
theorem kA (l:List UInt8) (i:Nat):Utf8.decode (mk l) i=NJ (l.drop i):=by
 have e:∀k,(l.drop i).getD k 0=l.getD (i+k) 0:=by intro k;simp [List.getD_eq_getElem?_getD,List.getElem?_drop]
 have e2:∀k,decide (i+k<(mk l).size)=decide (k<(l.drop i).length):=by intro k;simp;omega
 unfold Utf8.decode NJ;simp only [SO,e,e2,Utf8.runeError]
def fk (u:Int):Nat:=if 2097152<=u then 65533 else u.toNat
theorem yJ (c:Nat):Utf8.valid (c:Int)=decide (¬(1114111<c\/(55296<=c/\c<=57343))):=by rw [Bool.eq_iff_iff];simp only [Utf8.valid,Bool.or_eq_true,Bool.and_eq_true,decide_eq_true_eq];omega
theorem h7a (b b1:Nat) (hb:192<=b/\b<224) (h1:128<=b1/\b1<=191):((b:Int) -192)*64+b1 -128=(((b %32)*64+b1 %64:Nat):Int):=by omega
theorem h8a (b b1 b2:Nat) (hb:224<=b/\b<240) (h1:128<=b1/\b1<=191) (h2:128<=b2/\b2<=191):
  (((b:Int) -224)*64+b1 -128)*64+b2 -128=(((b %16)*4096+(b1 %64)*64+b2 %64:Nat):Int):=by omega
theorem h9a (b b1 b2 b3:Nat) (hb:240<=b/\b<248) (h1:128<=b1/\b1<=191) (h2:128<=b2/\b2<=191) (h3:128<=b3/\b3<=191):
  ((((b:Int) -240)*64+b1 -128)*64+b2 -128)*64+b3 -128=(((b %8)*262144+(b1 %64)*4096+(b2 %64)*64+b3 %64:Nat):Int):=by omega
def eh (r:List UInt8) (k:Nat):Bool:=decide (k<r.length)&&(r.getD k 0).toNat /64==2
theorem dS (r:List UInt8) (n:Nat) (v:Int):gM r (n+1) v=if eh r 0=true then gM r.tail n (v*64+(r.getD 0 0).toNat -128) else none:=by
 cases r with
 |nil=>simp [gM,eh]
 |cons b r=>
  have hb:=b.toNat_lt;simp only [gM,eh,List.length_cons,List.getD_cons_zero,List.tail_cons]
  by_cases h:(b.toNat:Int)<128\/191<(b.toNat:Int)
  ·rw [if_pos h,if_neg];simp;omega
  ·rw [if_neg h,if_pos];simp;omega
theorem kr (r:List UInt8) (k:Nat):eh r.tail k=eh r (k+1):=by cases r<;>simp [eh]<;>rfl
theorem nN (r:List UInt8) (k:Nat):r.tail.getD k 0=r.getD (k+1) 0:=by cases r<;>simp
theorem jB {r:List UInt8} {k:Nat} (h:eh r k=true):128<=(r.getD k 0).toNat/\(r.getD k 0).toNat<=191:=by simp only [eh,Bool.and_eq_true,beq_iff_eq] at h;omega
theorem iB (r:List UInt8) (v:Int):gM r 0 v=some v:=by cases r<;>rfl
theorem nH (d:List UInt8) (h:d≠ []):NJ d=(fk (bJ d).1,(bJ d).2):=by
 cases d with
 |nil=>exact absurd rfl h
 |cons c r=>
  have hc:=c.toNat_lt;have hcont:∀k,(decide (k+1<(c::r).length)&&((c::r).getD (k+1) 0).toNat /64==2)=eh r k:=by intro k;simp [eh]
  have e0:=hcont 0;have e1:=hcont 1;have e2:=hcont 2;simp only [Nat.zero_add,Nat.reduceAdd] at e0 e1 e2;have g0:(c::r).getD 0 0=c:=rfl;have g1:(c::r).getD 1 0=r.getD 0 0:=rfl;have g2:(c::r).getD 2 0=r.getD 1 0:=rfl;have g3:(c::r).getD 3 0=r.getD 2 0:=rfl;unfold NJ bJ;simp only [e0,e1,e2,g0]
  by_cases h0:c.toNat<128
  ·have hI:(c.toNat:Int)<128:=by omega
   have hn:¬(2097152:Int)<=(c.toNat:Int):=by omega
   rw [if_pos h0,if_pos hI];simp only [fk];rw [if_neg hn];simp
  have hI:¬(c.toNat:Int)<128:=by omega
  rw [if_neg h0,if_neg hI];have hbad:fk (2097152+(c.toNat:Int))=65533:=by unfold fk;rw [if_pos (by omega)]
  have hgood:∀n:Nat,n<=1114111->fk (n:Int)=n:=by intro n hn;unfold fk;rw [if_neg (show¬(2097152:Int)<=(n:Int) by omega)];simp
  by_cases k2:192<=(c.toNat:Int)/\(c.toNat:Int)<224
  ·have t1:(c.toNat /32==6)=true:=by simp;omega
   have t2:(c.toNat /16==14)=false:=by simp;omega
   have t3:(c.toNat /8==30)=false:=by simp;omega
   rw [if_pos k2];simp only [t1,t2,t3,Bool.true_and,Bool.false_and,Bool.false_eq_true,if_false];unfold gS;rw [dS,iB];cases hc0:eh r 0
   ·simp [hbad]
   ·have b1:=jB hc0
    simp only [if_true];rw [h7a c.toNat (r.getD 0 0).toNat (by omega) b1];rw [g1];generalize hv:(c.toNat %32)*64+(r.getD 0 0).toNat %64=v;have hv2:v<2048:=by omega
    by_cases hl:v≥128
    ·have q:¬((v:Int)<128\/1114111<(v:Int)\/(55296<=(v:Int)/\(v:Int)<=57343)):=by omega
     rw [if_pos hl,if_neg q];simp only [hgood v (by omega)]
    ·have q:((v:Int)<128\/1114111<(v:Int)\/(55296<=(v:Int)/\(v:Int)<=57343)):=by omega
     rw [if_neg hl,if_pos q];simp only [hbad]
  rw [if_neg k2];have t1:(c.toNat /32==6)=false:=by simp;omega
  by_cases k3:224<=(c.toNat:Int)/\(c.toNat:Int)<240
  ·have t2:(c.toNat /16==14)=true:=by simp;omega
   have t3:(c.toNat /8==30)=false:=by simp;omega
   rw [if_pos k3];simp only [t1,t2,t3,Bool.true_and,Bool.false_and,Bool.false_eq_true,if_false];unfold gS;rw [dS];cases hc0:eh r 0
   ·simp [hbad]
   ·have b1:=jB hc0
    simp only [if_true];rw [dS,kr,iB,nN];cases hc1:eh r 1
    ·simp [hbad]
    ·have b2:=jB hc1
     simp only [Bool.and_self,if_true,Nat.zero_add,hc1];rw [h8a c.toNat (r.getD 0 0).toNat (r.getD 1 0).toNat (by omega) b1 b2];rw [g1,g2];generalize hv:(c.toNat %16)*4096+((r.getD 0 0).toNat %64)*64+(r.getD 1 0).toNat %64=v;rw [yJ]
     by_cases hl:2048<=v/\¬(1114111<v\/(55296<=v/\v<=57343))
     ·have q:¬((v:Int)<2048\/1114111<(v:Int)\/(55296<=(v:Int)/\(v:Int)<=57343)):=by omega
      have q2:(decide (v≥2048)&&decide (¬(1114111<v\/(55296<=v/\v<=57343))))=true:=by simp only [Bool.and_eq_true,decide_eq_true_eq];exact ⟨hl.1,hl.2⟩
      rw [if_pos q2,if_neg q];simp only [hgood v (by omega)]
     ·have q:((v:Int)<2048\/1114111<(v:Int)\/(55296<=(v:Int)/\(v:Int)<=57343)):=by omega
      have q2:¬(decide (v≥2048)&&decide (¬(1114111<v\/(55296<=v/\v<=57343))))=true:=by simp only [Bool.and_eq_true,decide_eq_true_eq];exact hl
      rw [if_neg q2,if_pos q];simp only [hbad]
  rw [if_neg k3];have t2:(c.toNat /16==14)=false:=by simp;omega
  by_cases k4:240<=(c.toNat:Int)/\(c.toNat:Int)<248
  ·have t3:(c.toNat /8==30)=true:=by simp;omega
   rw [if_pos k4];simp only [t1,t2,t3,Bool.true_and,Bool.false_and,Bool.false_eq_true,if_false];unfold gS;rw [dS];cases hc0:eh r 0
   ·simp [hbad]
   ·have b1:=jB hc0
    simp only [if_true];rw [dS,kr,nN];cases hc1:eh r 1
    ·simp [hbad]
    ·have b2:=jB hc1
     simp only [Bool.and_self,if_true,Nat.zero_add,hc1];rw [dS,kr,kr,iB,nN,nN];cases hc2:eh r 2
     ·simp [hbad]
     ·have b3:=jB hc2
      simp only [Bool.and_self,if_true,Nat.zero_add,Nat.reduceAdd,hc2];rw [h9a c.toNat (r.getD 0 0).toNat (r.getD 1 0).toNat (r.getD 2 0).toNat (by omega) b1 b2 b3];rw [g1,g2,g3];generalize hv:(c.toNat %8)*262144+((r.getD 0 0).toNat %64)*4096+((r.getD 1 0).toNat %64)*64+(r.getD 2 0).toNat %64=v;rw [yJ]
      by_cases hl:65536<=v/\¬(1114111<v\/(55296<=v/\v<=57343))
      ·have q:¬((v:Int)<65536\/1114111<(v:Int)\/(55296<=(v:Int)/\(v:Int)<=57343)):=by omega
       have q2:(decide (v≥65536)&&decide (¬(1114111<v\/(55296<=v/\v<=57343))))=true:=by simp only [Bool.and_eq_true,decide_eq_true_eq];exact ⟨hl.1,hl.2⟩
       rw [if_pos q2,if_neg q];simp only [hgood v (by omega)]
      ·have q:((v:Int)<65536\/1114111<(v:Int)\/(55296<=(v:Int)/\(v:Int)<=57343)):=by omega
       have q2:¬(decide (v≥65536)&&decide (¬(1114111<v\/(55296<=v/\v<=57343))))=true:=by simp only [Bool.and_eq_true,decide_eq_true_eq];exact hl
       rw [if_neg q2,if_pos q];simp only [hbad]
  rw [if_neg k4];have t3:(c.toNat /8==30)=false:=by simp;omega
  simp only [t1,t2,t3,Bool.false_and,Bool.false_eq_true,if_false,hbad]
def iC:Nat->List UInt8->List (Int×Nat)
 |0,_=> []
 |_+1,[]=> []
 |n+1,c::r=>bJ (c::r)::iC n ((c::r).drop (bJ (c::r)).2)
def eC (l:List UInt8):List (Int×Nat):=iC l.length l
theorem Gi (n:Nat):iC n []= []:=by cases n<;>rfl
theorem rm (n:Nat):∀l:List UInt8,l.length<=n->iC n l=iC l.length l:=by
 induction n using Nat.strongRecOn with
 |_ n ih=>
  intro l hl;cases l with
  |nil=>simp [Gi]
  |cons c r=>
   have hb:=iJ (l:=c::r) (by simp);cases n with
   |zero=>simp at hl
   |succ n=>
    simp only [List.length_cons,iC,List.cons.injEq,true_and] at hl hb⊢;have hd:((c::r).drop (bJ (c::r)).2).length<=r.length:=by simp only [List.length_drop,List.length_cons];omega
    rw [ih n (by omega) _ (by omega)]
    by_cases hn:r.length<n+1
    ·rw [ih r.length hn _ hd]
    ·omega
theorem nX:eC []= []:=rfl
theorem vV {l:List UInt8} (h:l≠ []):eC l=bJ l::eC (l.drop (bJ l).2):=by
 cases l with
 |nil=>exact absurd rfl h
 |cons c r=>
  have hb:=iJ (l:=c::r) (by simp);have hd:((c::r).drop (bJ (c::r)).2).length<=r.length:=by simp only [List.length_drop,List.length_cons];omega
  show iC (r.length+1) (c::r)=_;simp only [iC,eC];rw [rm r.length _ hd]
theorem yH (l:List UInt8):(eC l).length<=l.length:=by
 unfold eC;generalize hn:l.length=n
 induction n using Nat.strongRecOn generalizing l with
 |_ n ih=>
  cases l with
  |nil=>subst hn;simp [iC]
  |cons c r=>
   have hb:=iJ (l:=c::r) (by simp);simp only [List.length_cons] at hn hb;subst hn;simp only [iC,List.length_cons];have hd:((c::r).drop (bJ (c::r)).2).length<=r.length:=by simp only [List.length_drop,List.length_cons];omega
   rw [rm r.length _ hd];have:=ih _ (show ((c::r).drop (bJ (c::r)).2).length<r.length+1 by omega) _ rfl;omega
def Wo:Nat->List (Int×Nat)->List Nat
 |_,[]=> []
 |p,u::r=>p::Wo (p+u.2) r
def km:List (Int×Nat)->Nat
 | []=>0
 |u::r=>u.2+km r
theorem DR (a b:List (Int×Nat)):km (a++b)=km a+km b:=by
 induction a with
 |nil=>simp [km]
 |cons u a ih=>simp [km,ih,Nat.add_assoc]
theorem vW {l:List UInt8} {done:List (Int×Nat)} {i:Nat} (h:eC l=done++eC (l.drop i)) (hi:i<l.length):
  eC l=(done++ [bJ (l.drop i)])++eC (l.drop (i+(bJ (l.drop i)).2)):=by
 rw [h,vV (l:=l.drop i) (by simp;omega),List.drop_drop];simp
theorem Hk {l:List UInt8} {i:Nat} (hi:i<l.length):i+(bJ (l.drop i)).2<=l.length/\1<=(bJ (l.drop i)).2:=by have:=iJ (l:=l.drop i) (by simp;omega);simp only [List.length_drop] at this;omega
theorem vO (l:List UInt8):km (eC l)=l.length:=by
 unfold eC;generalize hn:l.length=n
 induction n using Nat.strongRecOn generalizing l with
 |_ n ih=>
  cases l with
  |nil=>subst hn;simp [iC,km]
  |cons c r=>
   have hb:=iJ (l:=c::r) (by simp);simp only [List.length_cons] at hn hb;subst hn;simp only [iC,km];have hd:((c::r).drop (bJ (c::r)).2).length<=r.length:=by simp only [List.length_drop,List.length_cons];omega
   rw [rm r.length _ hd];have:=ih _ (show ((c::r).drop (bJ (c::r)).2).length<r.length+1 by omega) _ rfl;rw [this];simp only [List.length_drop,List.length_cons];omega
theorem se (b:Int) (r:List UInt8) (v:Int) (n:Nat) (least:Int):gS b r v n least=(2097152+b,1)\/
  ∃u,gM r n v=some u/\least<=u/\u<=1114111/\¬(55296<=u/\u<=57343)/\gS b r v n least=(u,1+n):=by
 unfold gS;cases gM r n v with
 |none=>exact .inl rfl
 |some u=>
  by_cases h:u<least\/1114111<u\/(55296<=u/\u<=57343)
  ·exact .inl (by simp only [if_pos h])
  ·exact .inr ⟨u,rfl,by omega,by omega,by omega,by simp only [if_neg h]⟩
theorem ML:∀(n:Nat) (r:List UInt8) (v u M:Int),v<M->gM r n v=some u->u<M*64^n:=by
 intro n
 induction n with
 |zero=>intro r v u M hv h;rw [iB] at h;cases h;simpa using hv
 |succ n ih=>
  intro r v u M hv h;rw [dS] at h;split at h
  ·rename_i hc
   have hb:=jB hc;have:=ih _ _ u (M*64) (by omega) h;rw [Int.pow_succ];have e:M*(64^n*64)=M*64*64^n:=by rw [Int.mul_assoc,Int.mul_comm 64]
   omega
  ·cases h
theorem LW (c:UInt8) (r:List UInt8) (h:2097152<=(bJ (c::r)).1):(bJ (c::r)).1=2097152+c.toNat:=by
 have hc:=c.toNat_lt;rw [jL] at h⊢
 have key:∀v n least,2097152<=(gS c.toNat r v n least).1->(gS c.toNat r v n least).1=2097152+c.toNat:=by
  intro v n least hh;rcases se c.toNat r v n least with e|⟨u,_,_,h3,_,e⟩
  ·rw [e]
  ·rw [e] at hh;simp only at hh;omega
 split at h
 ·simp only at h;omega
 rename_i h1;split at h
 ·rename_i h2;rw [if_neg h1,if_pos h2];exact key _ _ _ h
 rename_i h2;split at h
 ·rename_i h3;rw [if_neg h1,if_neg h2,if_pos h3];exact key _ _ _ h
 rename_i h3;split at h
 ·rename_i h4;rw [if_neg h1,if_neg h2,if_neg h3,if_pos h4];exact key _ _ _ h
 rename_i h4;rw [if_neg h1,if_neg h2,if_neg h3,if_neg h4]
theorem ya (d:List UInt8) (hd:d≠ []):(bJ d).1=65533↔ [239,191,189].isPrefixOf d=true:=by
 constructor
 ·intro h
  cases d with
  |nil=>exact absurd rfl hd
  |cons c r=>
   have hc:=c.toNat_lt;rw [jL] at h;split at h
   ·simp only at h;omega
   split at h
   ·rcases se c.toNat r (c.toNat -192) 1 128 with e|⟨u,h1,h2,h3,h4,e⟩
    ·rw [e] at h;simp only at h;omega
    ·have:=ML 1 r _ u 32 (by omega) h1
     rw [e] at h;simp only at h;omega
   split at h
   ·rcases se c.toNat r (c.toNat -224) 2 2048 with e|⟨u,h1,h2,h3,h4,e⟩
    ·rw [e] at h;simp only at h;omega
    ·rw [e] at h;simp only at h;subst h
     rw [dS] at h1;split at h1
     ·rename_i c0
      rw [dS,iB] at h1;split at h1
      ·rename_i c1
       have b0:=jB c0;have b1:=jB c1;simp only [Option.some.injEq] at h1;cases r with
       |nil=>simp [eh] at c0
       |cons x r=>
        cases r with
        |nil=>simp [eh] at c1
        |cons y r=>
         simp only [List.getD_cons_zero,List.tail_cons] at b0 b1 h1;have e1:c.toNat=239/\x.toNat=191/\y.toNat=189:=by omega
         have f1:c=239:=UInt8.toNat_inj.1 e1.1;have f2:x=191:=UInt8.toNat_inj.1 e1.2.1;have f3:y=189:=UInt8.toNat_inj.1 e1.2.2;subst f1;subst f2;subst f3;simp
      ·cases h1
     ·cases h1
   split at h
   ·rcases se c.toNat r (c.toNat -240) 3 65536 with e|⟨u,h1,h2,h3,h4,e⟩
    ·rw [e] at h;simp only at h;omega
    ·rw [e] at h;simp only at h;omega
   ·simp only at h;omega
 ·intro h
  rw [List.isPrefixOf_iff_prefix] at h;obtain ⟨t,rfl⟩:=h;show (bJ (239::191::189::t)).1=65533;rw [jL];simp [gS,gM]
theorem Rj {d:List UInt8} (hd:d≠ []):(if fk (bJ d).1=65533/\ [239,191,189].isPrefixOf d=false then 2097152+((d.headD 0).toNat:Int) else (fk (bJ d).1:Int))=(bJ d).1:=by
 have hb:=iJ hd
 by_cases h:2097152<=(bJ d).1
 ·have hp: [239,191,189].isPrefixOf d=false:=by
   cases hh: [239,191,189].isPrefixOf d with
   |false=>rfl
   |true=>have:=(ya d hd).2 hh;omega
  rw [if_pos ⟨by unfold fk;rw [if_pos h],hp⟩];cases d with
  |nil=>exact absurd rfl hd
  |cons c r=>rw [LW c r h];rfl
 ·have hr:(fk (bJ d).1:Int)=(bJ d).1:=by unfold fk;rw [if_neg h];omega
  rw [if_neg]
  ·exact hr
  ·rintro ⟨h1,h2⟩
   have:(bJ d).1=65533:=by omega
   rw [(ya d hd).1 this] at h2;cases h2
end Go.HL.Nm
