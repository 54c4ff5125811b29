/- Part 3. -/
import Derived.Test.YtpldhemgcoimaaaGreatMFMb
import Derived.IntWalk
set_option linter.unusedSimpArgs false
set_option linter.unusedVariables false
set_option maxRecDepth 4000
namespace Go.HL
def Hp:=Nat->Option Obj
def Hp.sub (h g:Hp):Prop:=∀b o,h b=some o->g b=some o
def Hp.Sw (h g:Hp):Prop:=∀b,h b=none\/g b=none
def Hp.un (h g:Hp):Hp:=λb=>match h b with|some o=>some o|none=>g b
def TP (w:World):Hp:=λb=>w.heap[b]?
def ak:=Hp->Prop
def sep (A B:ak):ak:=λh=>∃h1 h2,Hp.Sw h1 h2/\h=Hp.un h1 h2/\A h1/\B h2
instance:Mul ak:=⟨sep⟩
def emp:ak:=λh=>∀b,h b=none
def pt (b:Nat) (o:Obj):ak:=λh=>h b=some o/\∀c,c≠b->h c=none
def od (w0:World):ak:=λh=>h=TP w0
theorem Hp.Rb {h g:Hp} (d:Hp.Sw h g):Hp.un h g=Hp.un g h:=by funext b;simp only [Hp.un];rcases d b with e|e<;>rw [e]<;>cases h b<;>cases g b<;>simp_all
theorem gx (A B:ak):A*B=B*A:=by
 have:∀A B:ak,∀h,(A*B) h->(B*A) h:=by rintro A B h ⟨h1,h2,d,rfl,a,b⟩;exact ⟨h2,h1,λx=>(d x).symm,Hp.Rb d,b,a⟩
 funext h;exact propext ⟨this A B h,this B A h⟩
theorem au (A B C:ak):A*B*C=A*(B*C):=by
 funext h;apply propext;constructor
 ·rintro ⟨h12,h3,d,rfl,⟨h1,h2,d',rfl,a,b⟩,c⟩
  have d13:Hp.Sw h1 h3:=λx=>by
   rcases d x with e|e
   ·simp only [Hp.un] at e;cases hh:h1 x<;>simp_all
   ·exact .inr e
  have d23:Hp.Sw h2 h3:=λx=>by
   rcases d x with e|e
   ·simp only [Hp.un] at e;cases hh:h1 x<;>simp_all
   ·exact .inr e
  refine ⟨h1,Hp.un h2 h3,λx=> ?_,?_,a,h2,h3,d23,rfl,b,c⟩
  ·rcases d' x with e|e
   ·exact .inl e
   ·rcases d13 x with e'|e'
    ·exact .inl e'
    ·right;simp only [Hp.un,e,e']
  ·funext x;simp only [Hp.un];cases h1 x<;>rfl
 ·rintro ⟨h1,h23,d,rfl,a,h2,h3,d',rfl,b,c⟩
  have d12:Hp.Sw h1 h2:=λx=>by
   rcases d x with e|e
   ·exact .inl e
   ·simp only [Hp.un] at e;cases hh:h2 x<;>simp_all
  have d13:Hp.Sw h1 h3:=λx=>by
   rcases d x with e|e
   ·exact .inl e
   ·simp only [Hp.un] at e;cases hh:h2 x<;>simp_all
  refine ⟨Hp.un h1 h2,h3,λx=> ?_,?_,⟨h1,h2,d12,rfl,a,b⟩,c⟩
  ·rcases d' x with e|e
   ·rcases d13 x with e'|e'
    ·left;simp only [Hp.un,e,e']
    ·exact .inr e'
   ·exact .inr e
  ·funext x;simp only [Hp.un];cases h1 x<;>rfl
theorem fj (A B C:ak):A*B*C=A*C*B:=by rw [au,gx B C,<-au]
theorem eY {A A' B B':ak} (ha:∀h,A h->A' h) (hb:∀h,B h->B' h):∀h,(A*B) h->(A'*B') h:=by rintro h ⟨h1,h2,d,rfl,a,b⟩;exact ⟨h1,h2,d,rfl,ha _ a,hb _ b⟩
theorem aq (A:ak):A*emp=A:=by
 funext h;apply propext;constructor
 ·rintro ⟨h1,h2,d,rfl,a,b⟩
  have:Hp.un h1 h2=h1:=by funext x;simp only [Hp.un,b x];cases h1 x<;>rfl
  rw [this];exact a
 ·intro a
  exact ⟨h,λ_=>none,λx=> .inr rfl,by funext x;simp only [Hp.un];cases h x<;>rfl,a,λx=>rfl⟩
structure St (w0:World) (A:ak) (w:World):Prop where
 os:w.os=w0.os
 out:w.output=w0.output
 size:w0.heap.size<=w.heap.size
 ran:w.tape=w0.tape/\w0.drawn<=w.drawn
 holds:∃h,Hp.sub h (TP w)/\A h
theorem St.mono {w0 w:World} {A B:ak} (s:St w0 A w) (h:∀h,A h->B h):St w0 B w:=
 ⟨s.os,s.out,s.size,s.ran,let ⟨g,h1,h2⟩:=s.holds;⟨g,h1,h _ h2⟩⟩
theorem Ds {h1 h2 g:Hp} (s:Hp.sub (Hp.un h1 h2) g):Hp.sub h1 g:=λb o e=>s b o (by simp only [Hp.un,e])
theorem Jm {h1 h2 g:Hp} (d:Hp.Sw h1 h2) (s:Hp.sub (Hp.un h1 h2) g):Hp.sub h2 g:=λb o e=>s b o (by
 rcases d b with e'|e'
 ·simp only [Hp.un,e',e]
 ·rw [e'] at e;cases e)
theorem St.drop {w0 w:World} {F A:ak} (s:St w0 (F*A) w):St w0 F w:=
 ⟨s.os,s.out,s.size,s.ran,let ⟨g,h1,h,h',d,e,a,_⟩:=s.holds;⟨h,Ds (e▸h1),a⟩⟩
theorem St.swap {w0 w:World} {F A B:ak} (s:St w0 (F*A*B) w):St w0 (F*B*A) w:=by rwa [fj]
theorem St.p3 {w0 w:World} {F A B C:ak} (s:St w0 (F*A*B*C) w):St w0 (F*B*C*A) w:=by rw [fj F A B,fj (F*B) A C] at s;exact s
theorem St.look {w0 w:World} {F:ak} {b:Nat} {o:Obj} (s:St w0 (F*pt b o) w):w.heap[b]?=some o:=by obtain ⟨g,h1,h,h',d,e,_,a⟩:=s.holds;exact Jm d (e▸h1) b o a.1
theorem St.mI {w0 w w1:World} (s:St w0 (od w1) w) {b:Nat} {o:Obj} (hb:w1.heap[b]?=some o):w.heap[b]?=some o:=by obtain ⟨g,h1,a⟩:=s.holds;exact h1 b o (by rw [a];exact hb)
theorem St.start (w:World):St w (od w) w:=
 ⟨rfl,rfl,Nat.le_refl _,⟨rfl,Nat.le_refl _⟩,_,λb o h=>h,rfl⟩
def Obj.LV:Obj->Prop
 | .cells _ _ f=>f=(0,0)
 |_=>True
theorem heap_alloc (w:World) (o:Obj) (b:Nat):(w.alloc o).heap[b]?=if b=w.heap.size then some o else w.heap[b]?:=by simp only [World.alloc,Array.getElem?_push]
theorem St.alloc {w0 w:World} {F:ak} (s:St w0 F w) {o:Obj} (_:Obj.LV o):St w0 (F*pt w.heap.size o) (w.alloc o):=by
 refine ⟨s.os,s.out,?_,s.ran,?_⟩
 ·have:=s.size;simp;omega
 ·obtain ⟨g,h1,h2⟩:=s.holds
  have hn:g w.heap.size=none:=by
   cases hh:g w.heap.size with
   |none=>rfl
   |some o'=>
    have h3:w.heap[w.heap.size]?=some o':=h1 _ _ hh;exact absurd (Array.getElem?_eq_some_iff.1 h3).1 (by omega)
  refine ⟨Hp.un g (λb=>if b=w.heap.size then some o else none),λb o' hb=> ?_,g,_,λb=> ?_,rfl,h2,?_,?_⟩
  ·show (w.alloc o).heap[b]?=some o'
   rw [heap_alloc];simp only [Hp.un] at hb
   by_cases e:b=w.heap.size
   ·subst e;simp only [hn,if_true] at hb;simpa using hb
   ·simp only [e,if_false] at hb⊢
    cases hg:g b with
    |none=>rw [hg] at hb;cases hb
    |some o''=>rw [hg] at hb;cases hb;exact h1 _ _ hg
  ·by_cases e:b=w.heap.size
   ·subst e;exact .inl hn
   ·right;simp [e]
  ·simp
  ·intro c hc;simp [hc]
theorem St.drew {w0 w:World} {A:ak} (s:St w0 A w):St w0 A w.drew:=⟨s.os,s.out,s.size,⟨s.ran.1,Nat.le_succ_of_le s.ran.2⟩,s.holds⟩
theorem St.rX {w0 w w':World} {F:ak} {b:Nat} {o o':Obj} (s:St w0 (F*pt b o) w) (h1:w'.heap[b]?=some o') (h2:∀c,c≠b->w'.heap[c]?=w.heap[c]?)
  (hs:w'.heap.size=w.heap.size) (hos:w'.os=w.os) (hout:w'.output=w.output) (_:∀c t f,o'= .cells c t f->f=(0,0)) (hrun:w'.tape=w.tape/\w'.drawn=w.drawn:=by exact ⟨rfl,rfl⟩):St w0 (F*pt b o') w':=by
 refine ⟨hos.trans s.os,hout.trans s.out,by rw [hs];exact s.size,⟨hrun.1.trans s.ran.1,hrun.2▸s.ran.2⟩,?_⟩
 ·obtain ⟨g,hg,h,h',d,rfl,a,hb,hn⟩:=s.holds
  have hnb:h b=none:=by
   rcases d b with e|e
   ·exact e
   ·rw [hb] at e;cases e
  refine ⟨Hp.un h (λc=>if c=b then some o' else none),λc x hx=> ?_,h,_,λc=> ?_,rfl,a,?_,?_⟩
  ·show w'.heap[c]?=some x
   simp only [Hp.un] at hx
   by_cases e:c=b
   ·subst e;simp only [hnb,if_true] at hx;rw [h1];exact hx
   ·simp only [e,if_false] at hx
    rw [h2 c e];cases hh:h c with
    |none=>rw [hh] at hx;cases hx
    |some y=>rw [hh] at hx;cases hx;exact Ds hg c _ hh
  ·by_cases e:c=b
   ·subst e;exact .inl hnb
   ·right;simp [e]
  ·simp
  ·intro c hc;simp [hc]
theorem heap_setCell (w:World) (b off:Nat) (v:Value) (c:Array Value) (t:TypeId) (f:Nat×Nat) (h:w.heap[b]?=some (.cells c t f)) (x:Nat):
  (w.setCell ⟨b,off,none⟩ v).heap[x]?=if x=b then some (.cells (c.setIfInBounds off v) t f) else w.heap[x]?:=by
 simp only [World.setCell,Array.getElem?_modify]
 by_cases e:x=b
 ·subst e;simp [h]
 ·simp [Ne.symm e,e]
theorem St.set {w0 w:World} {F:ak} {b off:Nat} {c:Array Value} {t:TypeId} {v:Value} (s:St w0 (F*pt b (.cells c t (0,0))) w):
  St w0 (F*pt b (.cells (c.setIfInBounds off v) t (0,0))) (w.setCell ⟨b,off,none⟩ v):=by
 have hb:=s.look;refine s.rX (w':=w.setCell ⟨b,off,none⟩ v) ?_ ?_ (by simp) rfl rfl (λc t f e=>by cases e;rfl)
 ·rw [heap_setCell w b off v c t _ hb b,if_pos rfl]
 ·intro x hx;rw [heap_setCell w b off v c t _ hb x,if_neg hx]
section
variable {P:Program} {K:Value->World->Prop} {w w0:World} {F:ak}
theorem cell_of {b off:Nat} {c:Array Value} {t:TypeId} {f:Nat×Nat} (hb:w.heap[b]?=some (.cells c t f)):w.cell? ⟨b,off,none⟩=c[off]?:=by simp [World.cell?,hb]
theorem eR (b off n:Nat):(⟨b,off,none⟩:Addr).add n=⟨b,off+n,none⟩:=by unfold Addr.add;split<;>simp_all
theorem aK {s:Sem Value} {v:Value} {w':World} (h:s.run P w= .ok v w') (hk:K v w'):fU P (dx s) K w:=by unfold fU dx;simp [h];exact hk
theorem kX {s:Sem Unit} {w':World} (h:s.run P w= .ok () w') (hk:K undef w'):fU P (DG s) K w:=by unfold fU DG;simp [h];exact hk
theorem ag {a:Addr} {n:Nat} {v:Value} (hc:w.cell? a=some v) (hk:K v w):aB P (.ld false n) [.pointer (some a)] K w:=by intro _;refine aK (w':=w) (v:=v) ?_ hk;simp [tt,Instr.sureAddr,hc]
theorem cy {b off:Nat} {c:Array Value} {t:TypeId} {v:Value} (s:St w0 (F*pt b (.cells c t (0,0))) w) (h1:v.oneCell'=true) (hoff:off<c.size)
  (hk:∀w',St w0 (F*pt b (.cells (c.setIfInBounds off v) t (0,0))) w'->K undef w'):aB P (.st 1) [.pointer (some ⟨b,off,none⟩),v] K w:=by
 intro _;have hb:=s.look;have hc:w.cell? ⟨b,off,none⟩=some c[off]:=by rw [cell_of hb];simp [hoff]
 have hf:w.frozen? ⟨b,off,none⟩=false:=by simp [World.frozen?,hb]
 refine kX (w':=w.setCell ⟨b,off,none⟩ v) ?_ (hk _ s.set);have hcs:v.cells= #[v]:=by cases v<;>first|rfl|(simp [Value.oneCell'] at h1)
 have hst:=run_store P w ⟨b,off,none⟩ v .plain h1;simp only [hc,hf,Bool.false_eq_true,if_false] at hst;have ha:(⟨b,off,none⟩:Addr).add 0=⟨b,off,none⟩:=rfl;simp [stS,Instr.sureAddr,hcs,storeCells,ha,hst]
theorem rH {b off:Nat} {c:Array Value} {t:TypeId} {vs:List Value} (s:St w0 (F*pt b (.cells c t (0,0))) w):
  St w0 (F*pt b (.cells (c.toList.take off++vs++c.toList.drop (off+vs.length)).toArray t (0,0))) (w.setRow b (c.toList.take off++vs++c.toList.drop (off+vs.length)).toArray):=
 s.rX (setRow_heap w b c _ t _ s.look) (λx hx=>setRow_other w b x _ hx) (by simp [World.setRow]) rfl rfl (λ_ _ _ e=>by cases e;rfl)
theorem dP {b off n:Nat} {c:Array Value} {t:TypeId} {v:Value} {vs:List Value} (s:St w0 (F*pt b (.cells c t (0,0))) w) (hv:v.cells.toList=vs) (hn:vs.length=n) (h1:∀u∈vs,u.oneCell'=true) (hoff:off+n<=c.size)
  (hk:∀w',St w0 (F*pt b (.cells (c.toList.take off++vs++c.toList.drop (off+n)).toArray t (0,0))) w'->K undef w'):aB P (.st n) [.pointer (some ⟨b,off,none⟩),v] K w:=by
 intro _;have hb:=s.look;have hst:=run_storeCells_at P b off t vs 0 c w hb (by omega) h1;simp only [Nat.add_zero] at hst;have hh:=rH (off:=off) (vs:=vs) s;rw [hn] at hst hh;refine kX ?_ (hk _ hh);have hsz:v.cells.size=n:=by rw [<-Array.length_toList,hv,hn]
 simp [stS,Instr.sureAddr,hsz,hv,hst]
theorem bV {t:TypeId} {z:Value} (s:St w0 F w) (hk:∀b w',St w0 (F*pt b (.cells z.cells t (0,0))) w'->K (.pointer (some ⟨b,0,none⟩)) w'):aB P (.new t z) [] K w:=by intro _;refine aK (w':=w.alloc (.cells z.cells t)) ?_ (hk _ _ (s.alloc rfl));simp [newVar,newRow]
theorem bu {t:TypeId} {z:Value} (s:St w0 F w) (hk:∀b w',St w0 (F*pt b (.cells z.cells t (0,0))) w'->K (.pointer (some ⟨b,0,none⟩)) w'):aB P (.box t) [z] K w:=by intro _;refine aK (w':=w.alloc (.cells z.cells t)) ?_ (hk _ _ (s.alloc rfl));simp [Instr.box,newVar,newRow]
theorem ln {e len size:Nat} {zero cells:Array Value} {ix:List Nat} {vs:List Value} (s:St w0 F w)
  (hf:Instr.fill (λi=>some (i*size,size)) ((Array.range (len*size)).map (zero[· %zero.size]!)) (ix.zip vs)=some cells)
  (hk:∀b w',St w0 (F*pt b (.cells cells e (0,0))) w'->K (.slice (some ⟨b,0,none⟩) len len) w'):aB P (.bsl e len size zero ix) vs K w:=by
 intro _;refine aK (w':=w.alloc (.cells cells e)) ?_ (hk _ _ (s.alloc rfl));simp [Nk,hf,newRow]
theorem fA {e:Nat} {z x:Value} (s:St w0 F w) (h1:x.oneCell'=true)
  (hk:∀b w',St w0 (F*pt b (.cells #[x] e (0,0))) w'->K (.slice (some ⟨b,0,none⟩) 1 1) w'):aB P (.bsl e 1 1 #[z] [0]) [x] K w:=by
 refine ln (cells:= #[x]) s ?_ hk;have hcs:x.cells= #[x]:=by cases x<;>first|rfl|(simp [Value.oneCell'] at h1)
 have hz:((Array.range (1*1)).map λi=>(#[z])[i %(#[z]).size]!)= #[z]:=by
  apply Array.ext
  ·simp
  ·intro i h1 h2
   have:i=0:=by simp at h2;omega
   subst this;simp
 rw [hz];simp [Instr.fill,hcs]
theorem ad {f:FuncId} {vs:List Value} (h:aj P f vs K w):aB P (.call f) vs K w:=by intro hb;unfold fU;simp only [EO.lY,dn hb];exact h
theorem bE {f:FuncId} {first cap:Array Value} {vs:List Value} (hb:bP P f=true) (h:aj P f (first.toList++vs++cap.toList) K w):aB P .callv (.func (.func f) first cap::vs) K w:=by
 intro _;unfold fU;have e:first++vs.toArray++cap=(first.toList++vs++cap.toList).toArray:=by apply Array.ext';simp
 simp only [EO.lY,Deferred.ofValue,Sem.run_bind,Sem.run_pure,Result.andThen_ok,invoke];rw [e,dn hb];exact h
def own (e size:Nat) (v:Value) (n:Nat) (xs:List Value):ak:=λh=>xs.length=n*size/\
 ((v= .slice none 0 0/\n=0/\emp h)\/
 ∃g cap cur,v= .slice (some ⟨g,0,none⟩) n cap/\n<=cap/\cap<=maxLen/\cap*size<=cur.size/\cur.toList.take (n*size)=xs/\pt g (.cells cur e (0,0)) h)
theorem St.of {A B:ak} (s:St w0 A w) (h:∃h,Hp.sub h (TP w)/\B h):St w0 B w:=⟨s.os,s.out,s.size,s.ran,h⟩
theorem St.own {e size:Nat} {v:Value} {n:Nat} {xs:List Value} (s:St w0 (F*own e size v n xs) w):xs.length=n*size/\
  ((v= .slice none 0 0/\n=0/\xs= []/\St w0 F w)\/
  ∃g cap cur,v= .slice (some ⟨g,0,none⟩) n cap/\n<=cap/\cap<=maxLen/\cap*size<=cur.size/\cur.toList.take (n*size)=xs/\St w0 (F*pt g (.cells cur e (0,0))) w):=by
 obtain ⟨g,h1,h2,h3,d,e,a,hl,b⟩:=s.holds;refine ⟨hl,?_⟩;rcases b with ⟨rfl,rfl,hb⟩|⟨g',cap,cur,rfl,hn,hm,hc,ht,hp⟩
 ·refine .inl ⟨rfl,rfl,List.eq_nil_of_length_eq_zero (by simpa using hl),s.drop⟩
 ·exact .inr ⟨g',cap,cur,rfl,hn,hm,hc,ht,s.of ⟨g,h1,h2,h3,d,e,a,hp⟩⟩
theorem St.aD (s:St w0 F w) (e size:Nat):St w0 (F*HL.own e size (.slice none 0 0) 0 []) w:=by have:F=F*emp:=(aq F).symm;rw [this] at s;exact s.mono (eY (λ_ h=>h) λh hh=>⟨by simp,.inl ⟨rfl,rfl,hh⟩⟩)
theorem St.nF {e size g n cap:Nat} {cur:Array Value} {xs:List Value} (s:St w0 (F*pt g (.cells cur e (0,0))) w) (hn:n<=cap) (hm:cap<=maxLen) (hc:cap*size<=cur.size) (ht:cur.toList.take (n*size)=xs):
  St w0 (F*HL.own e size (.slice (some ⟨g,0,none⟩) n cap) n xs) w:=by
 refine s.mono (eY (λ_ h=>h) λh hh=>⟨?_,.inr ⟨g,cap,cur,rfl,hn,hm,hc,ht,hh⟩⟩);rw [<-ht,List.length_take,Array.length_toList];exact Nat.min_eq_left (Nat.le_trans (Nat.mul_le_mul_right _ hn) hc)
theorem St.vw {e size g n cap:Nat} {cur:Array Value} {xs:List Value} (s:St w0 (F*pt g (.cells cur e (0,0))) w) (hn:n<=cap) (hm:cap<=maxLen) (hc:cur.size=cap*size) (ht:cur.toList.take (n*size)=xs):
  St w0 (F*HL.own e size (.slice (some ⟨g,0,none⟩) n cap) n xs) w:=s.nF hn hm (Nat.le_of_eq hc.symm) ht
theorem St.iE {e size:Nat} {v:Value} {n:Nat} {xs:List Value} (s:St w0 (F*HL.own e size v n xs) w):
  xs= []/\v= .slice none 0 0\/∃g cap,v= .slice (some ⟨g,0,none⟩) n cap/\n<=cap/\∀j u,xs[j]?=some u->w.cell? ⟨g,j,none⟩=some u:=by
 rcases s.own.2 with ⟨rfl,_,hx,_⟩|⟨g,cap,cur,rfl,hn,_,hc,ht,s'⟩
 ·exact .inl ⟨hx,rfl⟩
 ·refine .inr ⟨g,cap,rfl,hn,λj u hu=> ?_⟩
  rw [cell_of s'.look];rw [<-ht,List.getElem?_take] at hu;split at hu
  ·simpa using hu
  ·cases hu
theorem St.ax {e size:Nat} {v:Value} {n:Nat} {xs:List Value} (s:St w0 (F*HL.own e size v n xs) w):∃a cap,v= .slice a n cap/\n<=cap/\(0<n->a≠none):=by
 rcases s.own.2 with ⟨rfl,rfl,_⟩|⟨g,cap,cur,rfl,hn,_⟩
 ·exact ⟨_,_,rfl,Nat.le_refl _,λh=>absurd h (by omega)⟩
 ·exact ⟨_,_,rfl,hn,λ_=>by simp⟩
theorem St.aP {e size:Nat} {v:Value} {n:Nat} {xs:List Value} (s:St w0 (F*HL.own e size v n xs) w) (hn:0<n):
  ∃g cap,v= .slice (some ⟨g,0,none⟩) n cap/\n<=cap/\∀j u,xs[j]?=some u->w.cell? ⟨g,j,none⟩=some u:=by
 rcases s.iE with ⟨_,rfl⟩|h
 ·obtain ⟨a,cap,h,_⟩:=s.ax
  cases h;omega
 ·exact h
theorem bU {t ty e size bytes:Nat} {z v:Value} {n m c:Nat} {xs news:List Value} {a:Addr} (s:St w0 (F*HL.own e size v n xs) w)
  (hl:news.length=m*size) (hx:∀j u,news[j]?=some u->w.cell? (a.add j)=some u) (h1:∀u∈news,u.oneCell'=true)
  (hsz:0<size) (hz:z.cells.size=size) (hmax:n+m<=maxLen) (hb:(n+m)*bytes<=140737488355328)
  (hk:∀v' w',St w0 (F*HL.own e size v' (n+m) (xs++news)) w'->K v' w'):aB P (.app t ty e size bytes z) [v,.slice (some a) m c] K w:=by
 rintro ⟨ht,i,hi,hiz,rfl,rfl⟩;have hsmall:n+m<=9223372036854775807:=by simp only [maxLen] at hmax;omega
 have grown:∀od,od<n+m->St w0 F w->xs.length=n*i.size->
   St w0 (F*HL.own e i.size (.slice (some ⟨w.heap.size,0,none⟩) (n+m) (grownCap w (n+m) od e)) (n+m) (xs++news))
    (w.drew.alloc (.cells (xs.toArray++news.toArray++Builtin.zeroCells z.cells (grownCap w (n+m) od e -(n+m))) e)):=by
  intro od ho s hxl;have hge:=grownCap_ge w (n+m) od e;refine St.vw (s.drew.alloc (by rfl)) hge (grownCap_le_maxLen w (n+m) od e hmax) ?_ ?_
  ·simp only [Array.size_append,List.size_toArray,size_zeroCells,hz,hxl,hl,<-Nat.add_mul]
   congr 1;omega
  ·simp only [Array.toList_append,List.append_assoc]
   rw [<-List.append_assoc,Nat.add_mul,<-hxl,<-hl,<-List.length_append];exact List.take_left
 obtain ⟨hxl,hc⟩:=s.own;rcases hc with ⟨rfl,rfl,rfl,s'⟩|⟨g,cap,cur,rfl,hnc,hcm,hcs,htake,s'⟩
 ·by_cases hm:m=0
  ·subst hm
   have hn:news= []:=List.eq_nil_of_length_eq_zero (by simpa using hl);subst hn;refine aK (w':=w) (v:= .slice none 0 0) ?_ (hk _ _ s);simp [Builtin.append_,run_underlying ht,sizeOf,typeInfo,hi,Builtin.lenOf,Builtin.firstCells,loadCells,loadCellsFrom]
  ·have hr:=run_append_nil (P:=P) w t ty e i z ht hi hiz a m c news hl hx (by omega) (by omega) (by have hb:=hb;simp only [Nat.zero_add] at hb;omega)
   have hgr:=grown 0 (by omega) s' (by simp);simp only [Nat.zero_add,List.nil_append,Array.empty_append] at hgr hk;exact aK hr (hk _ _ hgr)
 ·by_cases hroom:n+m<=cap
  ·have hfit:n*i.size+news.length<=cur.size:=by rw [hl,<-Nat.add_mul];exact Nat.le_trans (Nat.mul_le_mul_right _ hroom) hcs
   have hr:=run_append_room (P:=P) w t ty e i ht hi g n cap cur s'.look a m c news hl hx h1 hroom hfit;refine aK hr (hk _ _ ((rH (off:=n*i.size) (vs:=news) s').nF hroom hcm ?_ ?_))
   ·simp only [List.size_toArray,List.length_append,List.length_take,List.length_drop,Array.length_toList]
    omega
   ·rw [htake,Nat.add_mul,<-hxl,<-hl,<-List.length_append]
    exact List.take_left
  ·have holds:∀j u,xs[j]?=some u->w.cell? ((⟨g,0,none⟩:Addr).add j)=some u:=by
    intro j u hu;rcases s.iE with ⟨rfl,h⟩|⟨g',cap',h,_,hh⟩
    ·simp at hu
    ·cases h;rw [eR,Nat.zero_add];exact hh j u hu
   have hr:=run_append_grow (P:=P) w t ty e i z ht hi hiz ⟨g,0,none⟩ n cap xs hxl holds a m c news hl hx (by omega) (by omega) (growslice_fits (by omega) hb);exact aK hr (hk _ _ (grown cap (by omega) s'.drop hxl))
theorem BW {t ty e size bytes:Nat} {z:Value} {b:Option Addr} {n cap c:Nat} (hn:n<=cap) (hk:K (.slice b n cap) w):aB P (.app t ty e size bytes z) [.slice b n cap,.slice none 0 c] K w:=by rintro ⟨ht,i,hi,hiz,rfl,rfl⟩;refine aK (w':=w) (v:= .slice b n cap) ?_ hk;cases b<;>simp [Builtin.append_,run_underlying ht,sizeOf,typeInfo,hi,Builtin.lenOf,Builtin.firstCells,storeCells,hn]
theorem St.aL {b:Nat} {c:Array Value} {t:TypeId} {f:Nat×Nat} (s:St w0 (F*pt b (.cells c t f)) w):∀j u,c.toList[j]?=some u->w.cell? ((⟨b,0,none⟩:Addr).add j)=some u:=by
 intro j u h;rw [eR,cell_of s.look]
 simpa using h
theorem B3 {t:TypeId} {x:ByteArray} (s:St w0 F w) (hk:∀b w',St w0 (F*pt b (.stringIter x 0)) w'->K (.pointer (some ⟨b,0,none⟩)) w'):aB P (.rngS t) [.string x] K w:=by intro _;refine aK (w':=w.alloc (.stringIter x 0)) ?_ (hk _ _ (s.alloc trivial));simp
theorem B2 {ty:TypeId} {b:Nat} {x:ByteArray} {pos:Nat} (s:St w0 (F*pt b (.stringIter x pos)) w)
  (hk1:pos<x.size->∀w',St w0 (F*pt b (.stringIter x (pos+(Utf8.decode x pos).2))) w'->K (.tuple #[.bool true,.int .i64 pos,.int .i32 (Utf8.decode x pos).1]) w')
  (hk2:¬pos<x.size->K (.tuple #[.bool false]) w):aB P (.nxt true ty) [.pointer (some ⟨b,0,none⟩)] K w:=by
 intro _;have hb:=s.look
 by_cases hp:pos<x.size
 ·have hlt:b<w.heap.size:=(Array.getElem?_eq_some_iff.1 hb).1
  refine aK (w':={w with heap:=w.heap.setIfInBounds b (.stringIter x (pos+(Utf8.decode x pos).2))}) ?_ (hk1 hp _ ?_)
  ·simp [Instr.next,getObj,setObj,Sem.run,hb,hp,Sem.run_bind,goInt]
  ·refine s.rX ?_ ?_ (by simp) rfl rfl (λ_ _ _ e=>by cases e)
   ·simp [hlt]
   ·intro c hc;simp [Ne.symm hc]
 ·refine aK (w':=w) ?_ (hk2 hp)
  simp [Instr.next,getObj,Sem.run,hb,hp]
end
theorem aF {h t:HC} (e:h=t) {P:Program} {F:PF P} {Q:EX->List Value->World->Prop} {env:List Value} {w:World}:h.wp F Q env w=t.wp F Q env w:=by rw [e]
attribute [simp] Rj WC WG WE Wz Rl Kf MR WH aCa WD Rm Jw MQ MP Rk Mi Q2 Mj Eh Ej H2 L4 Nj ue q8 II IH K6 KG KH Q0 Mc zj zk TT TS Am Ct
attribute [simp] eR
attribute [simp] dj dh jK iY
attribute [simp] SE.val di.dA PO.ok PO.val cK Jq Nh Ni lA lG
section
variable {P:Program} {F:PF P} {env:List Value} {w:World} {Q:EX->List Value->World->Prop}
theorem gr {x:HC} (I:List Value->World->Prop) (μ:List Value->World->Nat) (h0:I env w)
  (h:∀(LQ:EX->List Value->World->Prop) (env:List Value) (w:World),I env w->(∀env' w',I env' w'->μ env' w'<μ env w->LQ .nrm env' w')->(∀i env' w',Q (.ex i) env' w'->LQ (.ex i) env' w')->
   (∀env' w',Q .ret env' w'->LQ .ret env' w')->x.wp F LQ env w):Bg F x Q env w:=
 Ll I μ h0 λenv w hI=>h _ env w hI (λ_ _ h1 h2=>⟨h1,h2⟩) (λ_ _ _ h=>h) (λ_ _ h=>h)
theorem aR {x y:HC} {b:Bool} (h1:b=true->x.wp F Q env w) (h2:b=false->y.wp F Q env w):gE F (.bool b) x y Q env w:=Ez h1 h2
theorem Ii (t N:Nat) (L:List Nat) (args:List Value):uv (t::L) N args=(if t<N then (args[t]?).getD undef else undef)::uv L N args:=rfl
theorem KJ (N:Nat) (args:List Value):uv [] N args= []:=rfl
theorem aj.mono {f:FuncId} {args:List Value} {K K':Value->World->Prop} (h:aj P f args K w) (hk:∀v w',K v w'->K' v w'):aj P f args K' w:=
 Calls.mono h λ_ _ ⟨v,e,h⟩=>⟨v,e,hk _ _ h⟩
end
attribute [simp] Ii KJ
def mk (l:List UInt8):ByteArray:=⟨l.toArray⟩
@[simp] theorem ZR (l:List UInt8):(mk l).data=l.toArray:=rfl
@[simp] theorem bha (l:List UInt8):(mk l).size=l.length:=by simp [mk,ByteArray.size]
@[simp] theorem bga (l:List UInt8):(ByteArray.mk l.toArray)=mk l:=rfl
theorem qG (s:ByteArray):s=mk s.data.toList:=by cases s;simp [mk]
@[simp] theorem WQ (l:List UInt8) (i:Int):yQ (mk l) i=((l[i.toNat]?.getD 0).toNat:Int):=by simp [yQ]
def ay (env:List Value) (j:Nat):Nat:=match env.getD j undef with
 | .int _ k=>k.toNat
 |_=>0
theorem wrap64 {x:Int} (h1: -9223372036854775808<=x) (h2:x<=9223372036854775807):IntKind.i64.wrap x=x:=IntWalk.i64_in x ⟨h1,h2⟩
theorem wrap32 {x:Int} (h1: -2147483648<=x) (h2:x<=2147483647):IntKind.i32.wrap x=x:=IntWalk.i32_in x ⟨h1,h2⟩
theorem qX {x:Int} (h1:0<=x) (h2:x<=255):IntKind.u8.wrap x=x:=IntWalk.u8_in x ⟨h1,h2⟩
theorem bp {x:Int} (h1:0<=x) (h2:x<=18446744073709551615):IntKind.u64.wrap x=x:=IntWalk.u64_in x ⟨h1,h2⟩
theorem kG {P:Program} {F:PF P} {env:List Value} {w:World} {Q:EX->List Value->World->Prop} (x y:HC) (b:Bool):
  gE F (.bool b) x y Q env w=if b=true then x.wp F Q env w else y.wp F Q env w:=by cases b<;>simp
structure PS (P:Program) where
 f:Nat
 val:List Value->Value
 ok:List Value->Prop
 sound:∀(args:List Value) (w:World),ok args->aj P f args (λv w'=>v=val args/\w'=w) w
def PF.of {P:Program} (l:List (PS P)):PF P where
 ids:=l.map (·.f)
 val f args:=match l.find? (λs=>s.f==f) with
  |some s=>s.val args
  | .none=>undef
 ok f args:=match l.find? (λs=>s.f==f) with
  |some s=>s.ok args
  | .none=>False
 sound:=by
  intro f hf args w hok;split at hok
  ·rename_i s hs
   have h1:=List.find?_some hs;simp only [beq_iff_eq] at h1;subst h1;exact Calls.mono (s.sound args w hok) λe w' ⟨v,he,hv,hw⟩=>⟨by rw [he,hv],hw⟩
  ·exact hok.elim
def PS.ib {P:Program} (f:Nat) (k:IntKind) (g:Int->Bool) (h:∀u w,aj P f [.int k u] (λr w'=>r= .bool (g u)/\w'=w) w):PS P where
 f:=f
 val args:=match args with
  | [.int _ u]=> .bool (g u)
  |_=>undef
 ok args:=match args with
  | [.int k' _]=>k'=k
  |_=>False
 sound args w hok:=by
  split at hok
  ·subst hok;exact h _ w
  ·exact hok.elim
inductive It where
 |n (k:Nat)
 |e (x:SE)
 |es (x:di)
 |st (l:List (Nat×SE))
 |r (t:RT)
 |h (t:HC)
structure A8 where
 p:Nat->PO
 e:Nat->EO
 v:Nat->Value
def YY:Nat->Nat->List Nat
 |0,_=> []
 |f+1,n=>if n=0 then [] else (n %1024)::YY f (n /1024)
def RU:Nat->List Nat->List (Nat×List Nat)
 |0,_=> []
 |_+1,[]=> []
 |f+1,n::r=>match r with
  | []=> []
  |i::r=>(i -1,(r.take (n -1)).map (· -1))::RU f (r.drop (n -1))
def ZV (k:Nat):MO:=
 if k=0 then .none else if k %2=1 then .some (k /2) else .free (let l:=YY 10000 (k /2 -1);RU l.length l)
def b3a:Nat->HC
 |0=> .skip
 |1=> .ret
 |k+2=> .exit k
def o8:List It->List It
 | .n k::s=> .n (k*8)::s
 |s=>s
def o9:List It->List It
 | .n k::s=> .n (k*8+1)::s
 |s=>s
def LB:List It->List It
 | .n k::s=> .n (k*8+2)::s
 |s=>s
def o11:List It->List It
 | .n k::s=> .n (k*8+3)::s
 |s=>s
def V5:List It->List It
 | .n k::s=> .n (k*8+4)::s
 |s=>s
def tu:List It->List It
 | .n k::s=> .n (k*8+5)::s
 |s=>s
def wM:List It->List It
 | .n k::s=> .n (k*8+6)::s
 |s=>s
def JA:List It->List It
 | .n k::s=> .n (k*8+7)::s
 |s=>s
def CM:List It->List It
 | .n k::s=> .e (.inp k)::s
 |s=>s
def DR:List It->List It
 | .n k::s=> .e (.bv k)::s
 |s=>s
def Fo (T:A8):List It->List It
 | .n k::s=> .e (.cst (T.v k))::s
 |s=>s
def Av:List It->List It
 | .es l:: .e x::s=> .es (.cons x l)::s
 |s=>s
def M0 (T:A8):List It->List It
 | .es l:: .n k::s=> .e (.op (T.p k) l)::s
 |s=>s
def QM:List It->List It
 | .e b:: .e a:: .e c::s=> .e (.ite c false a b)::s
 |s=>s
def QN:List It->List It
 | .e b:: .e a:: .e c::s=> .e (.ite c true a b)::s
 |s=>s
def LC:List It->List It
 | .st l:: .e x:: .n k::s=> .st ((k,x)::l)::s
 |s=>s
def o26:List It->List It
 | .st l::s=> .r (.done l none)::s
 |s=>s
def o27:List It->List It
 | .e c:: .st l::s=> .r (.done l (some c))::s
 |s=>s
def o28 (T:A8):List It->List It
 | .r t:: .es l:: .n k::s=> .r (.chk none (T.p k) l t)::s
 |s=>s
def o29 (T:A8):List It->List It
 | .r t:: .es l:: .n k:: .e g::s=> .r (.chk (some (g,false)) (T.p k) l t)::s
 |s=>s
def o30 (T:A8):List It->List It
 | .r t:: .es l:: .n k:: .e g::s=> .r (.chk (some (g,true)) (T.p k) l t)::s
 |s=>s
def o31:List It->List It
 | .r t:: .e c::s=> .r (.isb none c t)::s
 |s=>s
def o32:List It->List It
 | .r t:: .e c:: .e g::s=> .r (.isb (some (g,false)) c t)::s
 |s=>s
def o33:List It->List It
 | .r t:: .e c:: .e g::s=> .r (.isb (some (g,true)) c t)::s
 |s=>s
def o34 (T:A8):List It->List It
 | .r t:: .es l:: .n k::s=> .r (.eff (T.e k) l t)::s
 |s=>s
def o35:List It->List It
 | .r t:: .e x::s=> .r (.jK x t)::s
 |s=>s
def o36:List It->List It
 | .r b:: .r a:: .e c::s=> .r (.ite c false a b)::s
 |s=>s
def o37:List It->List It
 | .r b:: .r a:: .e c::s=> .r (.ite c true a b)::s
 |s=>s
def o39:List It->List It
 | .r t::s=> .h (.reg t)::s
 |s=>s
def o40:List It->List It
 | .h y:: .h x:: .r t::s=> .h (.br t x y)::s
 |s=>s
def o41:List It->List It
 | .r t:: .n k::s=> .h (.regq (ZV k) t)::s
 |s=>s
def o42:List It->List It
 | .h y:: .h x:: .r t:: .n k::s=> .h (.brq (ZV k) t x y)::s
 |s=>s
def o43:List It->List It
 | .h y:: .h x:: .n k::s=> .h (.cnd k x y)::s
 |s=>s
def o44:List It->List It
 | .h y:: .h x::s=> .h (.seq x y)::s
 |s=>s
def o45:List It->List It
 | .h x:: .n k::s=> .h (.block k x)::s
 |s=>s
def o46:List It->List It
 | .h x::s=> .h (.loop x)::s
 |s=>s
def o47:List It->List It
 | .n k::s=> .h (b3a k)::s
 |s=>s
def o48 (H:List HC):List It->List It
 | .n k::s=> .h (H.getD k .skip)::s
 |s=>s
def Q5 (T:A8) (H:List HC):Nat->List It->List It
 |0,s=> .n 0::s
 |1,s=> .n 1::s
 |2,s=> .n 2::s
 |3,s=> .n 3::s
 |4,s=> .n 4::s
 |5,s=> .n 5::s
 |6,s=> .n 6::s
 |7,s=> .n 7::s
 |8,s=>o8 s
 |9,s=>o9 s
 |10,s=>LB s
 |11,s=>o11 s
 |12,s=>V5 s
 |13,s=>tu s
 |14,s=>wM s
 |15,s=>JA s
 |16,s=>CM s
 |17,s=>DR s
 |18,s=>Fo T s
 |19,s=> .es .nil::s
 |20,s=>Av s
 |21,s=>M0 T s
 |22,s=>QM s
 |23,s=>QN s
 |24,s=> .st []::s
 |25,s=>LC s
 |26,s=>o26 s
 |27,s=>o27 s
 |28,s=>o28 T s
 |29,s=>o29 T s
 |30,s=>o30 T s
 |31,s=>o31 s
 |32,s=>o32 s
 |33,s=>o33 s
 |34,s=>o34 T s
 |35,s=>o35 s
 |36,s=>o36 s
 |37,s=>o37 s
 |38,s=>Av (.es .nil::s)
 |39,s=>o39 s
 |40,s=>o40 s
 |41,s=>o41 s
 |42,s=>o42 s
 |43,s=>o43 s
 |44,s=>o44 s
 |45,s=>o45 s
 |46,s=>o46 s
 |47,s=>o47 s
 |48,s=>o48 H s
 |49,s=>Av (.es .nil::CM s)
 |50,s=>Av (Av (.es .nil::s))
 |51,s=>DR (.n 0::s)
 |52,s=>Av (.es .nil::M0 T s)
 |53,s=>Av (Av (.es .nil::Fo T s))
 |54,s=>LC (.st []::s)
 |55,s=>o26 (LC (.st []::s))
 |56,s=>DR (.n 1::s)
 |57,s=>o44 (o44 s)
 |58,s=>o8 (.n 1::s)
 |59,s=>o28 T (o34 T s)
 |60,s=>Av (.es .nil::CM (.n 0::s))
 |61,s=>Av (Av (.es .nil::CM s))
 |62,s=>o9 (.n 1::s)
 |63,s=> .n 1::o39 s
 |_,s=>s
def afa (T:A8) (H:List HC):Nat->Nat->List It->List It
 |0,_,s=>s
 |f+1,n,s=>if n=0 then s else afa T H f (n /64) (Q5 T H (n %64) s)
def b9a:List It->HC
 | .h t::_=>t
 |_=> .skip
def aN (T:A8) (H:List HC) (n:Nat):HC:=b9a (afa T H 100000 n [])
theorem aG {P:Program} {F:PF P} {f:FuncId} {fuel:Nat} {l:ai} (hl:af F f fuel=some l) {args:List Value} {K:Value->World->Prop} {w:World} (hlen:args.length<=l.N) {t:HC}
  (h:t.wp F (rO P l.rs K) (uv l.L l.N args) w) (e:l.hc=t:=by (conv=>lhs;cbv)):aj P f args K w:=cN hl hlen (e▸h)
def pG0:Nat->PO
 |0=> .chkp
 |1=>(.fld 0)
 |2=> .lenL
 |3=>(.bin .eql)
 |4=>(.bin .neq)
 |5=>(.fld 1)
 |6=>(.fld 2)
 |7=>(.bin .lss)
 |8=>(.fld 10)
 |9=>(.bin .add)
 |10=>(.fld 4)
 |11=>(.idxL 1)
 |12=>(.ext 0)
 |13=>(.fld 3)
 |14=>(.ext 1)
 |15=>(.un .not)
 |_=> .same
def pG1:Nat->PO
 |0=>(.idxL 5)
 |1=>(.bin .sub)
 |2=>(.bin .gtr)
 |3=>(.bin .geq)
 |4=>(.bin .leq)
 |5=>(.fld 6)
 |6=>(.fld 7)
 |7=>(.fld 5)
 |8=>(.convI .u8)
 |9=>(.bin .shr)
 |10=>(.build #[(.int .i64 0),(.int .i64 0),(.slice none 0 0)] [(0,1),(1,1),(2,1)] [])
 |11=>(.idxL 2)
 |12=>(.fld 8)
 |13=>(.fld 9)
 |14=>(.fld 17)
 |15=>(.fld 12)
 |_=> .same
def pG2:Nat->PO
 |0=>(.eqNil false (.pointer 94) (.pointer none))
 |1=>(.eqNil false (.pointer 168) (.pointer none))
 |2=>(.fld 13)
 |3=>(.bin .or)
 |4=>(.fld 14)
 |5=>(.bin .and)
 |6=>(.eqNil false (.pointer 175) (.pointer none))
 |7=>(.idxL 4)
 |8=>(.fld 11)
 |9=>(.fld 15)
 |10=> .lenS
 |11=>(.bin .mul)
 |12=>(.slL 1 false true false)
 |13=>(.convI .u64)
 |14=>(.build #[(.slice none 0 0),(.int .i64 0),(.int .i64 0)] [(0,1),(1,1),(2,1)] [])
 |15=>(.fld 23)
 |_=> .same
def pG3:Nat->PO
 |0=>(.build #[(.int .i64 0),(.int .i64 0),(.int .u64 0)] [(0,1),(1,1),(2,1)] [0,1])
 |1=>(.build #[(.int .i64 0),(.int .i64 0),(.int .i64 0),(.int .i64 0),(.int .i64 0),(.int .i64 0),(.int .u64 0),(.int .u64 0),(.int .u64 0),(.int .i64 0),(.slice none 0 0)] [(0,1),(1,1),(2,1),(3,1),(4,1),(5,1),(6,1),(7,1),(8,1),(9,1),(10,1)] [])
 |2=>(.cal 102)
 |3=>(.build #[.nilFunc,.nilFunc,.nilFunc] [(0,1),(1,1),(2,1)] [0,1,2])
 |4=>(.fld 16)
 |5=>(.build #[(.int .i64 0),(.int .i64 0),(.int .u64 0)] [(0,1),(1,1),(2,1)] [0,2])
 |6=>(.cal 250)
 |7=>(.eqNil false (.pointer 217) (.pointer none))
 |8=>(.ext 2)
 |9=>(.build (rl [(1,(.int .i64 0)),(1,(.string ⟨#[]⟩)),(2,(.int .i64 0)),(1,(.int .u64 0)),(4,(.int .i64 0)),(2,(.int .u64 0)),(1,(.slice none 0 0)),(6,(.int .i64 0)),(3,(.int .u64 0)),(1,(.int .i64 0)),(1,(.slice none 0 0)),(1,(.int .i64 0))]) [(0,1),(1,1),(2,1),(3,1),(4,1),(5,1),(6,1),(7,5),(12,11),(23,1)] [])
 |10=>(.eqNil false (.func #[] #[3,27] false) .nilFunc)
 |11=>(.slL 1 false true true)
 |12=>(.cal 149)
 |13=>(.convI .u32)
 |14=>(.bin .rem)
 |15=>(.cal 200)
 |_=> .same
def pG4:Nat->PO
 |0=>(.build #[(.slice none 0 0),(.slice none 0 0),(.int .u64 0),(.int .u64 0)] [(0,1),(1,1),(2,1),(3,1)] [])
 |1=>(.slL 1 true false false)
 |2=>(.build #[(.int .i64 0),(.int .i64 0),(.int .i64 0),(.int .i64 0)] [(0,1),(1,1),(2,1),(3,1)] [])
 |3=>(.build (rl [(1,(.int .i64 0)),(1,(.string ⟨#[]⟩)),(2,(.int .i64 0)),(1,(.int .u64 0)),(4,(.int .i64 0)),(2,(.int .u64 0)),(1,(.slice none 0 0)),(6,(.int .i64 0)),(3,(.int .u64 0)),(1,(.int .i64 0)),(1,(.slice none 0 0)),(1,(.int .i64 0))]) [(0,1),(1,1),(2,1),(3,1),(4,1),(5,1),(6,1),(7,5),(12,11),(23,1)] [0,3,4])
 |4=>(.slS true false)
 |5=> .chS
 |6=>(.cal 147)
 |7=>(.eqNil false (.pointer 111) (.pointer none))
 |8=>(.build #[(.string ⟨#[]⟩),(.int .u64 0)] [(0,1),(1,1)] [0])
 |9=>(.eqNil false (.pointer 231) (.pointer none))
 |10=>(.slL 3 false true true)
 |11=>(.slL 2 false true true)
 |12=>(.cal 148)
 |13=>(.bin .quo)
 |14=>(.build #[(.int .i64 0),(.int .i64 0),(.int .i64 0),(.int .i64 0)] [(0,1),(1,1),(2,1),(3,1)] [0,1,2])
 |15=>(.cal 202)
 |_=> .same
def pG5:Nat->PO
 |0=>(.cal 103)
 |1=>(.convI .i32)
 |2=>(.slS false true)
 |3=>(.idxP 4 64)
 |4=>(.cal 191)
 |5=>(.build #[(.int .i64 0),(.int .i64 0)] [(0,1),(1,1)] [0,1])
 |6=>(.build #[(.int .i64 0),(.slice none 0 0)] [(0,1),(1,1)] [0])
 |7=>(.mkf (.func 67) 0)
 |8=>(.mkf (.func 68) 0)
 |9=>(.eqNil false (.func #[] #[48] false) .nilFunc)
 |10=>(.build #[(.slice none 0 0),(.slice none 0 0),(.map none),(.slice none 0 0),(.slice none 0 0)] [(0,1),(1,1),(2,1),(3,1),(4,1)] [0,1,2,3,4])
 |11=>(.build (rl [(3,(.int .i64 0)),(1,(.int .u64 0)),(1,(.slice none 0 0)),(1,(.string ⟨#[]⟩)),(1,(.int .u32 0)),(6,(.int .i64 0)),(3,(.int .u64 0)),(1,(.int .i64 0)),(1,(.slice none 0 0))]) [(0,1),(1,1),(2,1),(3,1),(4,1),(5,1),(6,1),(7,11)] [0])
 |12=>(.mkf (.func 214) 0)
 |13=>(.mkf (.func 224) 0)
 |14=>(.build #[(.int .i64 0),(.int .i64 0),(.int .i64 0),(.int .i64 0),(.int .i64 0),(.int .i64 0),(.int .i64 0),(.int .i64 0),(.int .i64 0),(.int .i64 0),(.int .i64 0),(.int .i64 0)] [(0,1),(1,1),(2,1),(3,1),(4,1),(5,1),(6,1),(7,1),(8,1),(9,1),(10,2)] [7,8,9])
 |15=>(.build (rl [(2,(.int .i64 0)),(1,(.string ⟨#[]⟩)),(1,(.int .i64 0)),(1,(.int .u64 0)),(5,(.int .i64 0)),(2,(.int .u64 0)),(1,(.slice none 0 0)),(6,(.int .i64 0)),(3,(.int .u64 0)),(1,(.int .i64 0)),(1,(.slice none 0 0))]) [(0,1),(1,1),(2,1),(3,1),(4,1),(5,1),(6,1),(7,1),(8,5),(13,11)] [0,1,3,4])
 |_=> .same
def pG6:Nat->PO
 |0=>(.build (rl [(2,(.int .i64 0)),(1,(.string ⟨#[]⟩)),(1,(.int .i64 0)),(1,(.int .u64 0)),(5,(.int .i64 0)),(2,(.int .u64 0)),(1,(.slice none 0 0)),(6,(.int .i64 0)),(3,(.int .u64 0)),(1,(.int .i64 0)),(1,(.slice none 0 0))]) [(0,1),(1,1),(2,1),(3,1),(4,1),(5,1),(6,1),(7,1),(8,5),(13,11)] [0,1,2])
 |1=>(.build (rl [(3,(.int .i64 0)),(1,(.int .u64 0)),(1,(.slice none 0 0)),(1,(.string ⟨#[]⟩)),(1,(.int .u32 0)),(6,(.int .i64 0)),(3,(.int .u64 0)),(1,(.int .i64 0)),(1,(.slice none 0 0))]) [(0,1),(1,1),(2,1),(3,1),(4,1),(5,1),(6,1),(7,11)] [0,1])
 |2=>(.build #[(.int .i64 0),(.int .i64 0),(.int .u64 0),(.int .u64 0),(.slice none 0 0)] [(0,1),(1,1),(2,1),(3,1),(4,1)] [0])
 |3=>(.slL 5 false true false)
 |4=>(.mkf (.func 280) 0)
 |5=>(.eqB true)
 |6=>(.cal 276)
 |7=>(.build #[(.int .i64 0),(.int .i64 0),(.int .i64 0),(.int .i64 0)] [(0,4)] [0])
 |8=>(.mkf (.func 188) 0)
 |9=>(.mkf (.func 294) 0)
 |10=>(.eqNil false (.slice 178) (.slice none 0 0))
 |11=>(.build #[(.int .i64 0),(.slice none 0 0)] [(0,1),(1,1)] [0,1])
 |12=>(.build (rl [(13,(.int .i64 0)),(3,(.pointer none)),(1,(.int .i64 0)),(1,(.map none))]) [(0,12),(12,1),(13,1),(14,1),(15,1),(16,1),(17,1)] [0,2,3,4,6])
 |13=>(.mkf (.func 333) 0)
 |14=>(.cal 278)
 |15=>(.build #[(.slice none 0 0),(.slice none 0 0),(.slice none 0 0),(.slice none 0 0),(.int .i64 0)] [(0,1),(1,1),(2,1),(3,1),(4,1)] [0,1])
 |_=> .same
def pG7:Nat->PO
 |0=>(.eqNil false (.slice 3) (.slice none 0 0))
 |1=>(.slL 5 true false false)
 |2=>(.build #[(.slice none 0 0),(.slice none 0 0),(.int .u64 0),(.int .u64 0)] [(0,1),(1,1),(2,1),(3,1)] [0,1,2,3])
 |3=>(.mkf (.func 226) 0)
 |4=>(.eqNil false (.map 9 3) (.map none))
 |5=>(.ifc 171)
 |6=>(.mkf (.func 289) 0)
 |7=>(.eqNil false (.slice 119) (.slice none 0 0))
 |8=>(.build #[(.int .i64 0),(.int .i64 0),(.int .i64 0),(.int .i64 0),(.int .i64 0),(.int .i64 0),(.int .u64 0),(.int .u64 0),(.int .u64 0),(.int .i64 0),(.slice none 0 0),.nilFunc] [(0,11),(11,1)] [0])
 |9=>(.build #[(.string ⟨#[]⟩),(.int .u64 0)] [(0,1),(1,1)] [])
 |10=>(.mkf (.func 58) 0)
 |11=>(.mkf (.func 168) 0)
 |12=>(.build #[(.int .i64 0),(.int .i64 0),(.int .u64 0),(.int .u64 0),(.slice none 0 0)] [(0,1),(1,1),(2,1),(3,1),(4,1)] [])
 |13=>(.eqNil false (.slice 30) (.slice none 0 0))
 |14=>(.slL 5 false true true)
 |15=>(.mkf (.func 235) 0)
 |_=> .same
def pG8:Nat->PO
 |0=>(.build #[.nilFunc,.nilFunc,.nilFunc] [(0,1),(1,1),(2,1)] [0])
 |1=>(.mkf (.func 221) 0)
 |2=>(.mkf (.func 279) 0)
 |3=>(.build #[(.pointer none),(.pointer none),(.map none)] [(0,1),(1,1),(2,1)] [0,1,2])
 |4=>(.eqNil false (.map 3 3) (.map none))
 |5=>(.build #[(.int .i64 0),(.int .i64 0),(.slice none 0 0)] [(0,1),(1,1),(2,1)] [1,2])
 |6=>(.mkf (.func 116) 0)
 |7=>(.mkf (.func 307) 0)
 |8=>(.part false 1 1)
 |9=>(.ext 3)
 |10=>(.build #[(.int .i64 0),(.int .i64 0),(.slice none 0 0)] [(0,1),(1,1),(2,1)] [2])
 |11=>(.part false 2 1)
 |12=>(.mkf (.func 142) 0)
 |13=>(.eqNil false (.slice 5) (.slice none 0 0))
 |14=>(.mkf (.func 59) 0)
 |15=>(.mkf (.func 208) 0)
 |_=> .same
def pG9:Nat->PO
 |0=>(.mkf (.func 209) 0)
 |1=>(.mkf (.func 60) 0)
 |2=>(.fld 259)
 |3=>(.mkf (.func 61) 0)
 |4=>(.idxP 64 1)
 |5=>(.mkf (.func 63) 0)
 |6=>(.mkf (.func 64) 0)
 |7=>(.build (rl [(2,(.int .i64 0)),(258,(.map none))]) [(0,1),(1,1),(2,1),(3,256),(259,1)] [0,2,4])
 |8=>(.build #[(.int .i64 0),(.int .u64 0)] [(0,1),(1,1)] [0,1])
 |9=>(.eqNil true (.pointer 220) (.pointer none))
 |10=>(.mkf (.func 65) 0)
 |11=>(.build #[(.int .i64 0),(.int .i64 0),(.int .i64 0),(.int .i64 0)] [(0,2),(2,1),(3,1)] [0])
 |12=>(.eqNil false (.pointer 220) (.pointer none))
 |_=> .same
def pH:Nat->Nat->PO
 |0,k=>pG0 k
 |1,k=>pG1 k
 |2,k=>pG2 k
 |3,k=>pG3 k
 |4,k=>pG4 k
 |5,k=>pG5 k
 |6,k=>pG6 k
 |7,k=>pG7 k
 |8,k=>pG8 k
 |9,k=>pG9 k
 |_,_=> .same
def pG (k:Nat):PO:=pH (k /16) (k %16)
def eG0:Nat->EO
 |0=>(.ld false 1)
 |1=>(.st 1)
 |2=>(.ld true 5)
 |3=>(.ld true 11)
 |4=>(.st 3)
 |5=>(.st 11)
 |6=>(.st 5)
 |7=>(.box 33)
 |8=>(.box 30)
 |9=>(.new 30 (.agg #[(.int .i64 0),(.int .i64 0),(.int .u64 0),(.int .u64 0),(.slice none 0 0)]))
 |10=>(.new 33 (.agg #[(.int .i64 0),(.int .i64 0),(.int .i64 0),(.int .i64 0),(.int .i64 0),(.int .i64 0),(.int .u64 0),(.int .u64 0),(.int .u64 0),(.int .i64 0),(.slice none 0 0)]))
 |11=>(.st 4)
 |12=> .callv
 |13=>(.app 50 50 5 1 1 (.int .u8 0))
 |14=>(.app 31 31 30 5 56 (.agg #[(.int .i64 0),(.int .i64 0),(.int .u64 0),(.int .u64 0),(.slice none 0 0)]))
 |15=>(.bsl 30 1 5 #[(.int .i64 0),(.int .i64 0),(.int .u64 0),(.int .u64 0),(.slice none 0 0)] [0])
 |_=> .an
def eG1:Nat->EO
 |0=>(.bsl 3 1 1 #[(.int .i64 0)] [0])
 |1=>(.app 28 28 3 1 8 (.int .i64 0))
 |2=>(.ld true 4)
 |3=>(.bsl 73 1 3 #[(.int .i64 0),(.int .i64 0),(.int .u64 0)] [0])
 |4=>(.lM 133)
 |5=>(.call 89)
 |6=>(.app 42 42 73 3 24 (.agg #[(.int .i64 0),(.int .i64 0),(.int .u64 0)]))
 |7=>(.st 24)
 |8=>(.call 50)
 |9=>(.new 126 (.agg #[(.int .i64 0),(.int .i64 0),(.int .i64 0),(.int .i64 0)]))
 |10=>(.new 44 (.agg #[(.int .i64 0),(.int .i64 0),(.slice none 0 0)]))
 |11=>(.call 39)
 |12=>(.st 2)
 |13=>(.call 49)
 |14=>(.call 219)
 |15=>(.call 100)
 |_=> .an
def eG2:Nat->EO
 |0=>(.mks 28 3 1 8 (.int .i64 0))
 |1=>(.bsl 50 1 1 #[(.slice none 0 0)] [0])
 |2=>(.box 48)
 |3=>(.ld true 24)
 |4=>(.box 3)
 |5=>(.bsl 5 1 1 #[(.int .u8 0)] [0])
 |6=>(.call 57)
 |7=>(.app 115 115 50 1 24 (.slice none 0 0))
 |8=>(.call 54)
 |9=>(.call 119)
 |10=>(.box 111)
 |11=>(.st 18)
 |12=>(.ld true 2)
 |13=>(.new 48 (.agg #[(.int .i64 0),(.string ⟨#[]⟩),(.int .i64 0),(.int .i64 0),(.int .u64 0),(.int .i64 0),(.int .i64 0),(.int .i64 0),(.int .i64 0),(.int .u64 0),(.int .u64 0),(.slice none 0 0),(.int .i64 0),(.int .i64 0),(.int .i64 0),(.int .i64 0),(.int .i64 0),(.int .i64 0),(.int .u64 0),(.int .u64 0),(.int .u64 0),(.int .i64 0),(.slice none 0 0),(.int .i64 0)]))
 |14=>(.call 105)
 |15=>(.new 119 (.agg #[(.string ⟨#[]⟩),(.int .u64 0)]))
 |_=> .an
def eG3:Nat->EO
 |0=>(.call 115)
 |1=>(.look 92 true)
 |2=>(.ld true 18)
 |3=>(.call 107)
 |4=>(.call 151)
 |5=>(.new 352 (.agg #[(.slice none 0 0),(.slice none 0 0),(.slice none 0 0),(.slice none 0 0),(.int .i64 0)]))
 |6=>(.call 189)
 |7=>(.call 104)
 |8=>(.call 9)
 |9=>(.call 285)
 |10=>(.call 286)
 |11=>(.new 297 (.agg #[(.slice none 0 0),(.slice none 0 0),(.int .u64 0),(.int .u64 0)]))
 |12=>(.look 293 true)
 |13=>(.new 56 (.agg #[(.int .i64 0),(.int .i64 0),(.int .i64 0),(.int .u64 0),(.slice none 0 0),(.string ⟨#[]⟩),(.int .u32 0),(.int .i64 0),(.int .i64 0),(.int .i64 0),(.int .i64 0),(.int .i64 0),(.int .i64 0),(.int .u64 0),(.int .u64 0),(.int .u64 0),(.int .i64 0),(.slice none 0 0)]))
 |14=>(.bsl 27 1 1 #[(.int .u64 0)] [0])
 |15=>(.app 232 232 27 1 8 (.int .u64 0))
 |_=> .an
def eG4:Nat->EO
 |0=>(.call 215)
 |1=>(.call 211)
 |2=>(.box 178)
 |3=>(.box 352)
 |4=>(.bsl 3 2 1 #[(.int .i64 0)] [0,1])
 |5=>(.call 112)
 |6=>(.call 114)
 |7=>(.call 133)
 |8=>(.call 108)
 |9=>(.lM 92)
 |10=>(.call 118)
 |11=>(.call 207)
 |12=>(.call 76)
 |13=>(.call 339)
 |14=>(.call 98)
 |15=>(.lM 229)
 |_=> .an
def eG5:Nat->EO
 |0=>(.box 89)
 |1=>(.mks 31 30 5 56 (.agg #[(.int .i64 0),(.int .i64 0),(.int .u64 0),(.int .u64 0),(.slice none 0 0)]))
 |2=>(.call 167)
 |3=>(.call 113)
 |4=>(.look 229 false)
 |5=>(.bi .max #[27,27] 27 #[false,false])
 |6=>(.call 95)
 |7=>(.call 91)
 |8=>(.lM 293)
 |9=>(.box 168)
 |10=>(.app 166 166 178 4 32 (.agg #[(.int .i64 0),(.int .i64 0),(.int .i64 0),(.int .i64 0)]))
 |11=>(.mks 299 4 1 1 (.bool false))
 |12=>(.call 218)
 |13=>(.new 178 (.agg #[(.int .i64 0),(.int .i64 0),(.int .i64 0),(.int .i64 0)]))
 |14=>(.call 187)
 |15=>(.box 25)
 |_=> .an
def eG6:Nat->EO
 |0=>(.ld true 12)
 |1=>(.mkm 92 false)
 |2=>(.call 131)
 |3=>(.box 35)
 |4=>(.bsl 28 1 1 #[(.slice none 0 0)] [0])
 |5=>(.app 77 77 28 1 24 (.slice none 0 0))
 |6=>(.call 26)
 |7=>(.call 75)
 |8=>(.box 56)
 |9=>(.call 338)
 |10=>(.call 13)
 |11=>(.new 185 (.agg #[.nilFunc,.nilFunc,.nilFunc]))
 |12=>(.rngS 9)
 |13=>(.nxt true 0)
 |14=>(.app 278 278 21 1 4 (.int .i32 0))
 |15=>(.bsl 5 3 1 #[(.int .u8 0)] [0,1,2])
 |_=> .an
def eG7:Nat->EO
 |0=>(.call 334)
 |1=>(.call 150)
 |2=>(.app 116 116 119 2 24 (.agg #[(.string ⟨#[]⟩),(.int .u64 0)]))
 |3=>(.bsl 119 1 2 #[(.string ⟨#[]⟩),(.int .u64 0)] [0])
 |4=>(.call 121)
 |5=>(.bsl 3 0 1 #[] [])
 |6=>(.call 317)
 |7=>(.bi .max #[3,3] 3 #[false,true])
 |8=>(.call 216)
 |9=>(.call 90)
 |10=>(.call 122)
 |11=>(.call 212)
 |12=>(.call 217)
 |13=>(.call 220)
 |14=>(.call 111)
 |15=>(.nxt false 0)
 |_=> .an
def eG8:Nat->EO
 |0=> .an
 |1=>(.mkm 213 false)
 |2=>(.call 205)
 |3=>(.call 206)
 |4=>(.bi .delete #[213,3] 0 #[false,false])
 |5=>(.call 274)
 |6=>(.look 213 false)
 |7=>(.box 164)
 |8=>(.call 201)
 |9=>(.call 169)
 |10=>(.bsl 234 1 2 #[(.int .i64 0),(.int .u64 0)] [0])
 |11=>(.mkm 293 false)
 |12=>(.call 69)
 |13=>(.call 70)
 |14=>(.call 71)
 |15=>(.call 72)
 |_=> .an
def eG9:Nat->EO
 |0=>(.call 73)
 |1=>(.call 74)
 |2=>(.app 228 228 234 2 16 (.agg #[(.int .i64 0),(.int .u64 0)]))
 |3=>(.call 254)
 |4=>(.call 222)
 |5=>(.call 143)
 |6=>(.call 233)
 |7=>(.call 8)
 |8=>(.call 223)
 |9=>(.new 35 (.agg #[(.int .i64 0),(.int .i64 0),(.string ⟨#[]⟩),(.int .i64 0),(.int .u64 0),(.int .i64 0),(.int .i64 0),(.int .i64 0),(.int .i64 0),(.int .i64 0),(.int .u64 0),(.int .u64 0),(.slice none 0 0),(.int .i64 0),(.int .i64 0),(.int .i64 0),(.int .i64 0),(.int .i64 0),(.int .i64 0),(.int .u64 0),(.int .u64 0),(.int .u64 0),(.int .i64 0),(.slice none 0 0)]))
 |10=>(.call 236)
 |11=>(.bsl 178 1 4 #[(.int .i64 0),(.int .i64 0),(.int .i64 0),(.int .i64 0)] [0])
 |12=>(.call 14)
 |13=>(.call 15)
 |14=>(.call 27)
 |15=>(.mkm 229 false)
 |_=> .an
def bRa:Nat->EO
 |0=>(.call 24)
 |1=>(.call 66)
 |2=>(.call 281)
 |3=>(.box 231)
 |4=>(.mks 278 21 1 4 (.int .i32 0))
 |5=>(.bsl 21 2 1 #[(.int .i32 0)] [0,1])
 |6=>(.mkm 293 true)
 |7=>(.bsl 21 1 1 #[(.int .i32 0)] [0])
 |8=>(.bsl 5 2 1 #[(.int .u8 0)] [0,1])
 |9=>(.call 337)
 |10=>(.box 348)
 |11=>(.bsl 5 4 1 #[(.int .u8 0)] [0,1,2,3])
 |12=>(.new 234 (.agg #[(.int .i64 0),(.int .u64 0)]))
 |13=>(.call 331)
 |14=>(.call 316)
 |15=>(.call 277)
 |_=> .an
def bSa:Nat->EO
 |0=>(.b2s 50 9)
 |1=>(.call 204)
 |2=>(.call 203)
 |3=>(.bsl 126 1 4 #[(.int .i64 0),(.int .i64 0),(.int .i64 0),(.int .i64 0)] [0])
 |4=>(.look 171 true)
 |5=>(.lM 171)
 |6=>(.cext 306)
 |7=>(.tas 20 171 false)
 |8=>(.bsl 119 0 2 #[] [])
 |9=>(.app 123 123 126 4 32 (.agg #[(.int .i64 0),(.int .i64 0),(.int .i64 0),(.int .i64 0)]))
 |10=>(.call 97)
 |11=>(.bi .delete #[229,3] 0 #[false,false])
 |12=>(.call 232)
 |13=>(.call 99)
 |14=>(.call 318)
 |15=>(.bi .max #[38,38] 38 #[false,false])
 |_=> .an
def bTa:Nat->EO
 |0=>(.box 232)
 |1=>(.bsl 178 0 4 #[] [])
 |2=>(.call 120)
 |3=>(.new 175 (.agg #[(.map none),(.int .i64 0),(.slice none 0 0),(.int .u64 0),(.int .u64 0)]))
 |4=>(.call 251)
 |5=>(.call 94)
 |6=>(.box 369)
 |7=>(.call 332)
 |8=>(.call 252)
 |9=>(.call 213)
 |10=>(.call 171)
 |11=>(.call 145)
 |12=>(.box 287)
 |13=>(.bsl 3 6 1 #[(.int .i64 0)] [0,1,2,3,4,5])
 |14=>(.call 123)
 |15=>(.call 146)
 |_=> .an
def bUa:Nat->EO
 |0=>(.call 96)
 |1=>(.bsl 30 0 5 #[] [])
 |2=>(.call 153)
 |3=>(.call 152)
 |4=>(.call 32)
 |5=>(.call 33)
 |6=>(.call 34)
 |7=>(.call 101)
 |8=>(.call 284)
 |9=>(.bi .min #[27,27] 27 #[false,false])
 |10=>(.call 106)
 |11=>(.call 287)
 |12=>(.call 170)
 |13=>(.bi .delete #[92,3] 0 #[false,false])
 |14=>(.call 288)
 |15=>(.call 35)
 |_=> .an
def bVa:Nat->EO
 |0=>(.call 117)
 |1=>(.call 234)
 |2=>(.call 225)
 |3=>(.new 42 (.slice none 0 0))
 |4=>(.call 109)
 |5=>(.call 110)
 |6=>(.bi .len #[92] 3 #[false])
 |7=>(.box 94)
 |8=>(.box 300)
 |9=>(.call 36)
 |10=>(.call 37)
 |11=>(.call 38)
 |12=>(.call 40)
 |13=>(.call 41)
 |14=>(.call 42)
 |15=>(.call 43)
 |_=> .an
def bWa:Nat->EO
 |0=>(.call 44)
 |1=>(.call 45)
 |2=>(.call 46)
 |3=>(.call 47)
 |4=>(.ld true 3)
 |5=>(.new 94 (.agg #[(.int .i64 0),(.int .i64 0),(.int .i64 0),(.int .i64 0),(.int .i64 0),(.int .i64 0),(.int .i64 0),(.int .i64 0),(.int .i64 0),(.int .i64 0),(.int .i64 0),(.int .i64 0),(.int .i64 0),(.pointer none),(.pointer none),(.pointer none),(.int .i64 0),(.map none)]))
 |6=>(.call 192)
 |7=>(.call 193)
 |8=>(.call 194)
 |9=>(.rng 92)
 |10=>(.box 229)
 |11=>(.call 135)
 |12=>(.box 92)
 |13=>(.call 92)
 |14=>(.call 51)
 |15=>(.call 52)
 |_=> .an
def bXa:Nat->EO
 |0=>(.call 53)
 |1=>(.call 55)
 |2=>(.bsl 3 3 1 #[(.int .i64 0)] [0,1,2])
 |3=>(.call 23)
 |4=>(.look 92 false)
 |5=>(.call 56)
 |6=>(.call 132)
 |7=>(.bsl 1 1 1 #[.nilFunc] [0])
 |8=>(.call 186)
 |9=>(.call 134)
 |10=>(.call 139)
 |11=>(.call 10)
 |12=>(.mks 50 5 1 1 (.int .u8 0))
 |13=>(.call 174)
 |14=>(.call 173)
 |15=>(.bsl 5 0 1 #[] [])
 |_=> .an
def bYa:Nat->EO
 |0=>(.call 172)
 |1=>(.app 300 300 1 1 8 .nilFunc)
 |2=>(.cnv 9 50)
 |3=>(.box 37)
 |4=>(.call 124)
 |5=>(.call 253)
 |6=>(.new 283 (.pointer none))
 |7=>(.call 154)
 |8=>(.cext 275)
 |9=>(.call 156)
 |10=>(.call 282)
 |11=>(.mkm 133 false)
 |12=>(.box 217)
 |13=>(.call 283)
 |14=>(.bi .len #[213] 3 #[false])
 |15=>(.box 220)
 |_=> .an
def bZa:Nat->EO
 |0=>(.lM 213)
 |1=>(.call 136)
 |2=>(.call 138)
 |3=>(.look 133 false)
 |4=>(.call 81)
 |5=>(.call 199)
 |6=>(.rng 213)
 |7=>(.bsl 164 1 2 #[(.int .i64 0),(.int .i64 0)] [0])
 |8=>(.app 161 161 164 2 16 (.agg #[(.int .i64 0),(.int .i64 0)]))
 |_=> .an
def eH:Nat->Nat->EO
 |0,k=>eG0 k
 |1,k=>eG1 k
 |2,k=>eG2 k
 |3,k=>eG3 k
 |4,k=>eG4 k
 |5,k=>eG5 k
 |6,k=>eG6 k
 |7,k=>eG7 k
 |8,k=>eG8 k
 |9,k=>eG9 k
 |10,k=>bRa k
 |11,k=>bSa k
 |12,k=>bTa k
 |13,k=>bUa k
 |14,k=>bVa k
 |15,k=>bWa k
 |16,k=>bXa k
 |17,k=>bYa k
 |18,k=>bZa k
 |_,_=> .an
def eG (k:Nat):EO:=eH (k /16) (k %16)
def vG0:Nat->Value
 |0=>(.int .i64 0)
 |1=>(.bool false)
 |2=>(.bool true)
 |3=>(.int .i64 1)
 |4=>(.tuple #[])
 |5=>(.slice none 0 0)
 |6=>(.int .u64 0)
 |7=>(.int .i64 2)
 |8=>(.pointer none)
 |9=>(.int .i64 3)
 |10=>(.int .i64 4)
 |11=>(.int .u8 63)
 |12=>(.int .i64 5)
 |13=>(.int .i64 200)
 |14=>(.int .u64 6)
 |15=>(.int .u8 128)
 |_=>undef
def vG1:Nat->Value
 |0=>(.int .u64 4611686018427387904)
 |1=>(.int .i64 16)
 |2=>(.int .i64 7)
 |3=>(.int .i64 6)
 |4=>(.int .i64 10)
 |5=>(.int .i64 142)
 |6=>(.int .u64 12)
 |7=>(.int .i64 1099511627776)
 |8=>(.int .i64 64)
 |9=>(.int .i64 9)
 |10=>(.int .i32 2097152)
 |11=>(.int .i64 (-1))
 |12=>(.string ⟨#[]⟩)
 |13=>(.int .i64 8)
 |14=>(.int .i64 234)
 |15=>(.int .i64 512)
 |_=>undef
def vG2:Nat->Value
 |0=>(.int .u64 24)
 |1=>(.map none)
 |2=>(.int .i32 90)
 |3=>(.int .i32 192)
 |4=>(.int .i32 215)
 |5=>(.int .i32 913)
 |6=>(.int .i32 937)
 |7=>(.int .i32 930)
 |8=>(.int .i32 1040)
 |9=>(.int .i32 1025)
 |10=>(.int .u64 5)
 |11=>(.int .i32 32)
 |12=>(.int .i64 232)
 |13=>(.int .i64 236)
 |14=>(.int .u64 18)
 |15=>(.int .u32 65535)
 |_=>undef
def vG3:Nat->Value
 |0=>(.int .i64 11)
 |1=>(.int .i64 231)
 |2=>(.int .i64 14)
 |3=>(.int .i32 65)
 |4=>(.int .i64 240)
 |5=>(.int .i64 (-77))
 |6=>(.int .i32 1105)
 |7=>(.string ⟨#[239,191,189]⟩)
 |8=>(.int .u64 2)
 |9=>(.int .i64 143)
 |10=>(.int .i64 151)
 |11=> .nilFunc
 |12=>(.int .i32 222)
 |13=>(.int .i32 247)
 |14=>(.int .i32 122)
 |15=>(.int .i64 12)
 |_=>undef
def vG4:Nat->Value
 |0=>(.int .i32 945)
 |1=>(.int .i32 969)
 |2=>(.int .i32 1103)
 |3=>(.string ⟨#[110,111,98,111,100,121]⟩)
 |4=>(.int .i32 0)
 |5=>(.int .i32 1071)
 |6=>(.int .i32 962)
 |7=>(.int .i32 65533)
 |8=>(.int .i64 210)
 |9=>(.int .i32 45)
 |10=>(.int .i64 24)
 |11=>(.int .i32 223)
 |12=>(.int .i32 115)
 |13=>(.int .u32 2047)
 |14=>(.int .i32 95)
 |15=>(.int .u8 192)
 |_=>undef
def vG5:Nat->Value
 |0=>(.int .i32 48)
 |1=>(.int .i32 57)
 |2=>(.int .u32 55296)
 |3=>(.int .u32 57343)
 |4=>(.int .i64 170)
 |5=>(.int .u8 224)
 |6=>(.int .u32 1114111)
 |7=>(.int .i32 97)
 |8=>(.int .u8 240)
 |9=>(.int .u32 127)
 |10=>(.func (.func 166) #[] #[])
 |11=>(.string ⟨#[98,97,110,107]⟩)
 |12=>(.func (.func 154) #[] #[])
 |13=>(.func (.func 155) #[] #[])
 |14=>(.func (.func 156) #[] #[])
 |15=>(.func (.func 157) #[] #[])
 |_=>undef
def vG6:Nat->Value
 |0=>(.func (.func 158) #[] #[])
 |1=>(.func (.func 159) #[] #[])
 |2=>(.func (.func 160) #[] #[])
 |3=>(.func (.func 161) #[] #[])
 |4=>(.func (.func 162) #[] #[])
 |5=>(.func (.func 163) #[] #[])
 |6=>(.func (.func 164) #[] #[])
 |7=>(.func (.func 165) #[] #[])
 |8=>(.int .i64 9223372036854775807)
 |9=>(.int .i64 2147483648)
 |10=>(.int .u64 1)
 |11=>(.int .i64 239)
 |12=>(.int .i32 255)
 |13=>(.int .i64 233)
 |14=>(.int .i64 1073741824)
 |15=>(.int .i64 255)
 |_=>undef
def vG7:Nat->Value
 |0=>(.int .u64 127)
 |1=>(.int .u64 7)
 |2=>(.int .i64 90)
 |3=>(.int .i64 1048576)
 |4=>(.int .i64 65536)
 |5=>(.int .i64 152)
 |6=>(.int .i64 41)
 |7=>(.int .i64 140)
 |8=>(.int .i64 141)
 |9=>(.int .i64 144)
 |10=>(.int .i64 220)
 |11=>(.int .i64 42)
 |12=>(.int .i64 40)
 |13=>(.int .i64 235)
 |14=>(.int .i64 20)
 |15=>(.int .i32 963)
 |_=>undef
def vG8:Nat->Value
 |0=>(.int .i64 150)
 |1=>(.int .i64 237)
 |2=>(.int .i64 238)
 |3=>(.int .i64 (-78))
 |4=>(.func (.func 144) #[] #[])
 |5=>(.func (.func 319) #[] #[])
 |6=>(.int .i64 21)
 |7=>(.int .u8 239)
 |8=>(.func (.func 210) #[] #[])
 |9=>(.func (.func 318) #[] #[])
 |10=>(.int .u8 191)
 |11=>(.int .i64 92)
 |12=>(.int .u8 189)
 |13=>(.int .i64 91)
 |14=>(.int .i64 93)
 |_=>undef
def vH:Nat->Nat->Value
 |0,k=>vG0 k
 |1,k=>vG1 k
 |2,k=>vG2 k
 |3,k=>vG3 k
 |4,k=>vG4 k
 |5,k=>vG5 k
 |6,k=>vG6 k
 |7,k=>vG7 k
 |8,k=>vG8 k
 |_,_=>undef
def vG (k:Nat):Value:=vH (k /16) (k %16)
def tG:A8:=⟨pG,eG,vG⟩
end Go.HL
namespace Go.HL.Nm
open Go.HL
def jE:List UInt8->Nat->Int->Option Int
 |_,0,v=>some v
 | [],_+1,_=>none
 |b::r,n+1,v=>if (b.toNat:Int)<128\/191<(b.toNat:Int) then none else jE r n (v*64+b.toNat -128)
def jO (b:Int) (r:List UInt8) (v:Int) (n:Nat) (least:Int):Int×Nat:=
 match jE r n v with
 |some v=>if v<least\/1114111<v\/(55296<=v/\v<=57343) then (2097152+b,1) else (v,1+n)
 |none=>(2097152+b,1)
def bQ:List UInt8->Int×Nat
 | []=>(0,1)
 |c::r=>
  if (c.toNat:Int)<128 then ((c.toNat:Int),1)
  else if 192<=(c.toNat:Int)/\(c.toNat:Int)<224 then jO c.toNat r (c.toNat -192) 1 128
  else if 224<=(c.toNat:Int)/\(c.toNat:Int)<240 then jO c.toNat r (c.toNat -224) 2 2048
  else if 240<=(c.toNat:Int)/\(c.toNat:Int)<248 then jO c.toNat r (c.toNat -240) 3 65536
  else (2097152+c.toNat,1)
theorem nE (c:UInt8) (r:List UInt8):bQ (c::r)=
  if (c.toNat:Int)<128 then ((c.toNat:Int),1)
  else if 192<=(c.toNat:Int)/\(c.toNat:Int)<224 then jO c.toNat r (c.toNat -192) 1 128
  else if 224<=(c.toNat:Int)/\(c.toNat:Int)<240 then jO c.toNat r (c.toNat -224) 2 2048
  else if 240<=(c.toNat:Int)/\(c.toNat:Int)<248 then jO c.toNat r (c.toNat -240) 3 65536
  else (2097152+c.toNat,1):=rfl
theorem Dx (n:Nat):∀(r:List UInt8) (v u:Int),0<=v->jE r n v=some u->0<=u/\n<=r.length:=by
 induction n with
 |zero=>intro r v u hv h;cases r<;>simp only [jE,Option.some.injEq] at h<;>subst h<;>exact ⟨hv,Nat.zero_le _⟩
 |succ n ih=>
  intro r v u hv h;cases r with
  |nil=>simp only [jE] at h;cases h
  |cons b r=>
   simp only [jE] at h;split at h
   ·cases h
   ·have:=ih r _ u (by have:=b.toNat_lt;omega) h
    simp only [List.length_cons];omega
theorem yU (b:Int) (r:List UInt8) (v:Int) (n:Nat) (least:Int) (hb:0<=b/\b<256) (hv:0<=v):
  0<=(jO b r v n least).1/\(jO b r v n least).1<2097408/\1<=(jO b r v n least).2/\(jO b r v n least).2<=1+r.length:=by
 unfold jO;split
 ·rename_i u hu
  have:=Dx n r v u hv hu;split
  ·simp only;omega
  ·simp only;omega
 ·simp only;omega
theorem ie {l:List UInt8} (h:l≠ []):0<=(bQ l).1/\(bQ l).1<2097408/\1<=(bQ l).2/\(bQ l).2<=l.length:=by
 cases l with
 |nil=>exact absurd rfl h
 |cons c r=>
  have hc:=c.toNat_lt;unfold bQ;simp only [List.length_cons];split
  ·simp only;omega
  split
  ·have:=yU c.toNat r (c.toNat -192) 1 128 (by omega) (by omega);omega
  split
  ·have:=yU c.toNat r (c.toNat -224) 2 2048 (by omega) (by omega);omega
  split
  ·have:=yU c.toNat r (c.toNat -240) 3 65536 (by omega) (by omega);omega
  ·simp only;omega
theorem SN (l:List UInt8) (i:Nat):(mk l).get! i=l.getD i 0:=by simp only [mk,ByteArray.get!,List.getD_eq_getElem?_getD];simp;rfl
def Ny (d:List UInt8):Nat×Nat:=
 let at' (k:Nat):Nat:=(d.getD k 0).toNat
 let cont (k:Nat):Bool:=k<d.length&&at' k /64==2
 let b0:=at' 0
 if b0<0x80 then (b0,1)
 else if b0 /32==6&&cont 1 then
  let c:=(b0 %32)*64+at' 1 %64
  if c≥0x80 then (c,2) else (65533,1)
 else if b0 /16==14&&cont 1&&cont 2 then
  let c:=(b0 %16)*4096+(at' 1 %64)*64+at' 2 %64
  if c≥0x800&&Utf8.valid c then (c,3) else (65533,1)
 else if b0 /8==30&&cont 1&&cont 2&&cont 3 then
  let c:=(b0 %8)*262144+(at' 1 %64)*4096+(at' 2 %64)*64+at' 3 %64
  if c≥0x10000&&Utf8.valid c then (c,4) else (65533,1)
 else (65533,1)
theorem jY (l:List UInt8) (i:Nat):Utf8.decode (mk l) i=Ny (l.drop i):=by
 have e:∀k,(l.drop i).getD k 0=l.getD (i+k) 0:=by intro k;simp [List.getD_eq_getElem?_getD,List.getElem?_drop]
 have e2:∀k,decide (i+k<(mk l).size)=decide (k<(l.drop i).length):=by intro k;simp;omega
 unfold Utf8.decode Ny;simp only [SN,e,e2,Utf8.runeError]
def eJ (u:Int):Nat:=if 2097152<=u then 65533 else u.toNat
theorem yy (c:Nat):Utf8.valid (c:Int)=decide (¬(1114111<c\/(55296<=c/\c<=57343))):=by rw [Bool.eq_iff_iff];simp only [Utf8.valid,Bool.or_eq_true,Bool.and_eq_true,decide_eq_true_eq];omega
theorem dMa (b b1:Nat) (hb:192<=b/\b<224) (h1:128<=b1/\b1<=191):((b:Int) -192)*64+b1 -128=(((b %32)*64+b1 %64:Nat):Int):=by omega
theorem dNa (b b1 b2:Nat) (hb:224<=b/\b<240) (h1:128<=b1/\b1<=191) (h2:128<=b2/\b2<=191):
  (((b:Int) -224)*64+b1 -128)*64+b2 -128=(((b %16)*4096+(b1 %64)*64+b2 %64:Nat):Int):=by omega
theorem dOa (b b1 b2 b3:Nat) (hb:240<=b/\b<248) (h1:128<=b1/\b1<=191) (h2:128<=b2/\b2<=191) (h3:128<=b3/\b3<=191):
  ((((b:Int) -240)*64+b1 -128)*64+b2 -128)*64+b3 -128=(((b %8)*262144+(b1 %64)*4096+(b2 %64)*64+b3 %64:Nat):Int):=by omega
def eF (r:List UInt8) (k:Nat):Bool:=decide (k<r.length)&&(r.getD k 0).toNat /64==2
theorem dW (r:List UInt8) (n:Nat) (v:Int):jE r (n+1) v=if eF r 0=true then jE r.tail n (v*64+(r.getD 0 0).toNat -128) else none:=by
 cases r with
 |nil=>simp [jE,eF]
 |cons b r=>
  have hb:=b.toNat_lt;simp only [jE,eF,List.length_cons,List.getD_cons_zero,List.tail_cons]
  by_cases h:(b.toNat:Int)<128\/191<(b.toNat:Int)
  ·rw [if_pos h,if_neg];simp;omega
  ·rw [if_neg h,if_pos];simp;omega
theorem jU (r:List UInt8) (k:Nat):eF r.tail k=eF r (k+1):=by cases r<;>simp [eF]<;>rfl
theorem nu (r:List UInt8) (k:Nat):r.tail.getD k 0=r.getD (k+1) 0:=by cases r<;>simp
theorem iZ {r:List UInt8} {k:Nat} (h:eF r k=true):128<=(r.getD k 0).toNat/\(r.getD k 0).toNat<=191:=by simp only [eF,Bool.and_eq_true,beq_iff_eq] at h;omega
theorem jF (r:List UInt8) (v:Int):jE r 0 v=some v:=by cases r<;>rfl
theorem nn (d:List UInt8) (h:d≠ []):Ny d=(eJ (bQ d).1,(bQ d).2):=by
 cases d with
 |nil=>exact absurd rfl h
 |cons c r=>
  have hc:=c.toNat_lt;have hcont:∀k,(decide (k+1<(c::r).length)&&((c::r).getD (k+1) 0).toNat /64==2)=eF r k:=by intro k;simp [eF]
  have e0:=hcont 0;have e1:=hcont 1;have e2:=hcont 2;simp only [Nat.zero_add,Nat.reduceAdd] at e0 e1 e2;have g0:(c::r).getD 0 0=c:=rfl;have g1:(c::r).getD 1 0=r.getD 0 0:=rfl;have g2:(c::r).getD 2 0=r.getD 1 0:=rfl;have g3:(c::r).getD 3 0=r.getD 2 0:=rfl;unfold Ny bQ;simp only [e0,e1,e2,g0]
  by_cases h0:c.toNat<128
  ·have hI:(c.toNat:Int)<128:=by omega
   have hn:¬(2097152:Int)<=(c.toNat:Int):=by omega
   rw [if_pos h0,if_pos hI];simp only [eJ];rw [if_neg hn];simp
  have hI:¬(c.toNat:Int)<128:=by omega
  rw [if_neg h0,if_neg hI];have hbad:eJ (2097152+(c.toNat:Int))=65533:=by unfold eJ;rw [if_pos (by omega)]
  have hgood:∀n:Nat,n<=1114111->eJ (n:Int)=n:=by intro n hn;unfold eJ;rw [if_neg (show¬(2097152:Int)<=(n:Int) by omega)];simp
  by_cases k2:192<=(c.toNat:Int)/\(c.toNat:Int)<224
  ·have t1:(c.toNat /32==6)=true:=by simp;omega
   have t2:(c.toNat /16==14)=false:=by simp;omega
   have t3:(c.toNat /8==30)=false:=by simp;omega
   rw [if_pos k2];simp only [t1,t2,t3,Bool.true_and,Bool.false_and,Bool.false_eq_true,if_false];unfold jO;rw [dW,jF];cases hc0:eF r 0
   ·simp [hbad]
   ·have b1:=iZ hc0
    simp only [if_true];rw [dMa c.toNat (r.getD 0 0).toNat (by omega) b1];rw [g1];generalize hv:(c.toNat %32)*64+(r.getD 0 0).toNat %64=v;have hv2:v<2048:=by omega
    by_cases hl:v≥128
    ·have q:¬((v:Int)<128\/1114111<(v:Int)\/(55296<=(v:Int)/\(v:Int)<=57343)):=by omega
     rw [if_pos hl,if_neg q];simp only [hgood v (by omega)]
    ·have q:((v:Int)<128\/1114111<(v:Int)\/(55296<=(v:Int)/\(v:Int)<=57343)):=by omega
     rw [if_neg hl,if_pos q];simp only [hbad]
  rw [if_neg k2];have t1:(c.toNat /32==6)=false:=by simp;omega
  by_cases k3:224<=(c.toNat:Int)/\(c.toNat:Int)<240
  ·have t2:(c.toNat /16==14)=true:=by simp;omega
   have t3:(c.toNat /8==30)=false:=by simp;omega
   rw [if_pos k3];simp only [t1,t2,t3,Bool.true_and,Bool.false_and,Bool.false_eq_true,if_false];unfold jO;rw [dW];cases hc0:eF r 0
   ·simp [hbad]
   ·have b1:=iZ hc0
    simp only [if_true];rw [dW,jU,jF,nu];cases hc1:eF r 1
    ·simp [hbad]
    ·have b2:=iZ hc1
     simp only [Bool.and_self,if_true,Nat.zero_add,hc1];rw [dNa c.toNat (r.getD 0 0).toNat (r.getD 1 0).toNat (by omega) b1 b2];rw [g1,g2];generalize hv:(c.toNat %16)*4096+((r.getD 0 0).toNat %64)*64+(r.getD 1 0).toNat %64=v;rw [yy]
     by_cases hl:2048<=v/\¬(1114111<v\/(55296<=v/\v<=57343))
     ·have q:¬((v:Int)<2048\/1114111<(v:Int)\/(55296<=(v:Int)/\(v:Int)<=57343)):=by omega
      have q2:(decide (v≥2048)&&decide (¬(1114111<v\/(55296<=v/\v<=57343))))=true:=by simp only [Bool.and_eq_true,decide_eq_true_eq];exact ⟨hl.1,hl.2⟩
      rw [if_pos q2,if_neg q];simp only [hgood v (by omega)]
     ·have q:((v:Int)<2048\/1114111<(v:Int)\/(55296<=(v:Int)/\(v:Int)<=57343)):=by omega
      have q2:¬(decide (v≥2048)&&decide (¬(1114111<v\/(55296<=v/\v<=57343))))=true:=by simp only [Bool.and_eq_true,decide_eq_true_eq];exact hl
      rw [if_neg q2,if_pos q];simp only [hbad]
  rw [if_neg k3];have t2:(c.toNat /16==14)=false:=by simp;omega
  by_cases k4:240<=(c.toNat:Int)/\(c.toNat:Int)<248
  ·have t3:(c.toNat /8==30)=true:=by simp;omega
   rw [if_pos k4];simp only [t1,t2,t3,Bool.true_and,Bool.false_and,Bool.false_eq_true,if_false];unfold jO;rw [dW];cases hc0:eF r 0
   ·simp [hbad]
   ·have b1:=iZ hc0
    simp only [if_true];rw [dW,jU,nu];cases hc1:eF r 1
    ·simp [hbad]
    ·have b2:=iZ hc1
     simp only [Bool.and_self,if_true,Nat.zero_add,hc1];rw [dW,jU,jU,jF,nu,nu];cases hc2:eF r 2
     ·simp [hbad]
     ·have b3:=iZ hc2
      simp only [Bool.and_self,if_true,Nat.zero_add,Nat.reduceAdd,hc2];rw [dOa c.toNat (r.getD 0 0).toNat (r.getD 1 0).toNat (r.getD 2 0).toNat (by omega) b1 b2 b3];rw [g1,g2,g3];generalize hv:(c.toNat %8)*262144+((r.getD 0 0).toNat %64)*4096+((r.getD 1 0).toNat %64)*64+(r.getD 2 0).toNat %64=v;rw [yy]
      by_cases hl:65536<=v/\¬(1114111<v\/(55296<=v/\v<=57343))
      ·have q:¬((v:Int)<65536\/1114111<(v:Int)\/(55296<=(v:Int)/\(v:Int)<=57343)):=by omega
       have q2:(decide (v≥65536)&&decide (¬(1114111<v\/(55296<=v/\v<=57343))))=true:=by simp only [Bool.and_eq_true,decide_eq_true_eq];exact ⟨hl.1,hl.2⟩
       rw [if_pos q2,if_neg q];simp only [hgood v (by omega)]
      ·have q:((v:Int)<65536\/1114111<(v:Int)\/(55296<=(v:Int)/\(v:Int)<=57343)):=by omega
       have q2:¬(decide (v≥65536)&&decide (¬(1114111<v\/(55296<=v/\v<=57343))))=true:=by simp only [Bool.and_eq_true,decide_eq_true_eq];exact hl
       rw [if_neg q2,if_pos q];simp only [hbad]
  rw [if_neg k4];have t3:(c.toNat /8==30)=false:=by simp;omega
  simp only [t1,t2,t3,Bool.false_and,Bool.false_eq_true,if_false,hbad]
def iS:Nat->List UInt8->List (Int×Nat)
 |0,_=> []
 |_+1,[]=> []
 |n+1,c::r=>bQ (c::r)::iS n ((c::r).drop (bQ (c::r)).2)
def dJ (l:List UInt8):List (Int×Nat):=iS l.length l
theorem FU (n:Nat):iS n []= []:=by cases n<;>rfl
theorem qV (n:Nat):∀l:List UInt8,l.length<=n->iS n l=iS l.length l:=by
 induction n using Nat.strongRecOn with
 |_ n ih=>
  intro l hl;cases l with
  |nil=>simp [FU]
  |cons c r=>
   have hb:=ie (l:=c::r) (by simp);cases n with
   |zero=>simp at hl
   |succ n=>
    simp only [List.length_cons,iS,List.cons.injEq,true_and] at hl hb⊢;have hd:((c::r).drop (bQ (c::r)).2).length<=r.length:=by simp only [List.length_drop,List.length_cons];omega
    rw [ih n (by omega) _ (by omega)]
    by_cases hn:r.length<n+1
    ·rw [ih r.length hn _ hd]
    ·omega
theorem nN:dJ []= []:=rfl
theorem wg {l:List UInt8} (h:l≠ []):dJ l=bQ l::dJ (l.drop (bQ l).2):=by
 cases l with
 |nil=>exact absurd rfl h
 |cons c r=>
  have hb:=ie (l:=c::r) (by simp);have hd:((c::r).drop (bQ (c::r)).2).length<=r.length:=by simp only [List.length_drop,List.length_cons];omega
  show iS (r.length+1) (c::r)=_;simp only [iS,dJ];rw [qV r.length _ hd]
theorem yx (l:List UInt8):(dJ l).length<=l.length:=by
 unfold dJ;generalize hn:l.length=n
 induction n using Nat.strongRecOn generalizing l with
 |_ n ih=>
  cases l with
  |nil=>subst hn;simp [iS]
  |cons c r=>
   have hb:=ie (l:=c::r) (by simp);simp only [List.length_cons] at hn hb;subst hn;simp only [iS,List.length_cons];have hd:((c::r).drop (bQ (c::r)).2).length<=r.length:=by simp only [List.length_drop,List.length_cons];omega
   rw [qV r.length _ hd];have:=ih _ (show ((c::r).drop (bQ (c::r)).2).length<r.length+1 by omega) _ rfl;omega
def Wv:Nat->List (Int×Nat)->List Nat
 |_,[]=> []
 |p,u::r=>p::Wv (p+u.2) r
def kV:List (Int×Nat)->Nat
 | []=>0
 |u::r=>u.2+kV r
theorem Dv (a b:List (Int×Nat)):kV (a++b)=kV a+kV b:=by
 induction a with
 |nil=>simp [kV]
 |cons u a ih=>simp [kV,ih,Nat.add_assoc]
theorem wh {l:List UInt8} {done:List (Int×Nat)} {i:Nat} (h:dJ l=done++dJ (l.drop i)) (hi:i<l.length):
  dJ l=(done++ [bQ (l.drop i)])++dJ (l.drop (i+(bQ (l.drop i)).2)):=by
 rw [h,wg (l:=l.drop i) (by simp;omega),List.drop_drop];simp
theorem Hg {l:List UInt8} {i:Nat} (hi:i<l.length):i+(bQ (l.drop i)).2<=l.length/\1<=(bQ (l.drop i)).2:=by have:=ie (l:=l.drop i) (by simp;omega);simp only [List.length_drop] at this;omega
theorem FL (l:List UInt8):kV (dJ l)=l.length:=by
 unfold dJ;generalize hn:l.length=n
 induction n using Nat.strongRecOn generalizing l with
 |_ n ih=>
  cases l with
  |nil=>subst hn;simp [iS,kV]
  |cons c r=>
   have hb:=ie (l:=c::r) (by simp);simp only [List.length_cons] at hn hb;subst hn;simp only [iS,kV];have hd:((c::r).drop (bQ (c::r)).2).length<=r.length:=by simp only [List.length_drop,List.length_cons];omega
   rw [qV r.length _ hd];have:=ih _ (show ((c::r).drop (bQ (c::r)).2).length<r.length+1 by omega) _ rfl;rw [this];simp only [List.length_drop,List.length_cons];omega
theorem r5 (b:Int) (r:List UInt8) (v:Int) (n:Nat) (least:Int):jO b r v n least=(2097152+b,1)\/
  ∃u,jE r n v=some u/\least<=u/\u<=1114111/\¬(55296<=u/\u<=57343)/\jO b r v n least=(u,1+n):=by
 unfold jO;cases jE r n v with
 |none=>exact .inl rfl
 |some u=>
  by_cases h:u<least\/1114111<u\/(55296<=u/\u<=57343)
  ·exact .inl (by simp only [if_pos h])
  ·exact .inr ⟨u,rfl,by omega,by omega,by omega,by simp only [if_neg h]⟩
theorem My:∀(n:Nat) (r:List UInt8) (v u M:Int),v<M->jE r n v=some u->u<M*64^n:=by
 intro n
 induction n with
 |zero=>intro r v u M hv h;rw [jF] at h;cases h;simpa using hv
 |succ n ih=>
  intro r v u M hv h;rw [dW] at h;split at h
  ·rename_i hc
   have hb:=iZ hc;have:=ih _ _ u (M*64) (by omega) h;rw [Int.pow_succ];have e:M*(64^n*64)=M*64*64^n:=by rw [Int.mul_assoc,Int.mul_comm 64]
   omega
  ·cases h
theorem LI (c:UInt8) (r:List UInt8) (h:2097152<=(bQ (c::r)).1):(bQ (c::r)).1=2097152+c.toNat:=by
 have hc:=c.toNat_lt;rw [nE] at h⊢
 have key:∀v n least,2097152<=(jO c.toNat r v n least).1->(jO c.toNat r v n least).1=2097152+c.toNat:=by
  intro v n least hh;rcases r5 c.toNat r v n least with e|⟨u,_,_,h3,_,e⟩
  ·rw [e]
  ·rw [e] at hh;simp only at hh;omega
 split at h
 ·simp only at h;omega
 rename_i h1;split at h
 ·rename_i h2;rw [if_neg h1,if_pos h2];exact key _ _ _ h
 rename_i h2;split at h
 ·rename_i h3;rw [if_neg h1,if_neg h2,if_pos h3];exact key _ _ _ h
 rename_i h3;split at h
 ·rename_i h4;rw [if_neg h1,if_neg h2,if_neg h3,if_pos h4];exact key _ _ _ h
 rename_i h4;rw [if_neg h1,if_neg h2,if_neg h3,if_neg h4]
theorem xX (d:List UInt8) (hd:d≠ []):(bQ d).1=65533↔ [239,191,189].isPrefixOf d=true:=by
 constructor
 ·intro h
  cases d with
  |nil=>exact absurd rfl hd
  |cons c r=>
   have hc:=c.toNat_lt;rw [nE] at h;split at h
   ·simp only at h;omega
   split at h
   ·rcases r5 c.toNat r (c.toNat -192) 1 128 with e|⟨u,h1,h2,h3,h4,e⟩
    ·rw [e] at h;simp only at h;omega
    ·have:=My 1 r _ u 32 (by omega) h1
     rw [e] at h;simp only at h;omega
   split at h
   ·rcases r5 c.toNat r (c.toNat -224) 2 2048 with e|⟨u,h1,h2,h3,h4,e⟩
    ·rw [e] at h;simp only at h;omega
    ·rw [e] at h;simp only at h;subst h
     rw [dW] at h1;split at h1
     ·rename_i c0
      rw [dW,jF] at h1;split at h1
      ·rename_i c1
       have b0:=iZ c0;have b1:=iZ c1;simp only [Option.some.injEq] at h1;cases r with
       |nil=>simp [eF] at c0
       |cons x r=>
        cases r with
        |nil=>simp [eF] at c1
        |cons y r=>
         simp only [List.getD_cons_zero,List.tail_cons] at b0 b1 h1;have e1:c.toNat=239/\x.toNat=191/\y.toNat=189:=by omega
         have f1:c=239:=UInt8.toNat_inj.1 e1.1;have f2:x=191:=UInt8.toNat_inj.1 e1.2.1;have f3:y=189:=UInt8.toNat_inj.1 e1.2.2;subst f1;subst f2;subst f3;simp
      ·cases h1
     ·cases h1
   split at h
   ·rcases r5 c.toNat r (c.toNat -240) 3 65536 with e|⟨u,h1,h2,h3,h4,e⟩
    ·rw [e] at h;simp only at h;omega
    ·rw [e] at h;simp only at h;omega
   ·simp only at h;omega
 ·intro h
  rw [List.isPrefixOf_iff_prefix] at h;obtain ⟨t,rfl⟩:=h;show (bQ (239::191::189::t)).1=65533;rw [nE];simp [jO,jE]
theorem Re {d:List UInt8} (hd:d≠ []):(if eJ (bQ d).1=65533/\ [239,191,189].isPrefixOf d=false then 2097152+((d.headD 0).toNat:Int) else (eJ (bQ d).1:Int))=(bQ d).1:=by
 have hb:=ie hd
 by_cases h:2097152<=(bQ d).1
 ·have hp: [239,191,189].isPrefixOf d=false:=by
   cases hh: [239,191,189].isPrefixOf d with
   |false=>rfl
   |true=>have:=(xX d hd).2 hh;omega
  rw [if_pos ⟨by unfold eJ;rw [if_pos h],hp⟩];cases d with
  |nil=>exact absurd rfl hd
  |cons c r=>rw [LI c r h];rfl
 ·have hr:(eJ (bQ d).1:Int)=(bQ d).1:=by unfold eJ;rw [if_neg h];omega
  rw [if_neg]
  ·exact hr
  ·rintro ⟨h1,h2⟩
   have:(bQ d).1=65533:=by omega
   rw [(xX d hd).1 this] at h2;cases h2
end Go.HL.Nm
