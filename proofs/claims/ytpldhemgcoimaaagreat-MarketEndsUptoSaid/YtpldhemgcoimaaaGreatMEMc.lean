/- Part 3. -/
import Derived.Test.YtpldhemgcoimaaaGreatMEMb
import Derived.IntWalk
set_option linter.unusedSimpArgs false
set_option linter.unusedVariables false
set_option maxRecDepth 4000
namespace Go.HL
def Hp:=Nat->Option Obj
def Hp.sub (h g:Hp):Prop:=∀b o,h b=some o->g b=some o
def Hp.SO (h g:Hp):Prop:=∀b,h b=none\/g b=none
def Hp.un (h g:Hp):Hp:=λb=>match h b with|some o=>some o|none=>g b
def T8 (w:World):Hp:=λb=>w.heap[b]?
def ak:=Hp->Prop
def sep (A B:ak):ak:=λh=>∃h1 h2,Hp.SO h1 h2/\h=Hp.un h1 h2/\A h1/\B h2
instance:Mul ak:=⟨sep⟩
def emp:ak:=λh=>∀b,h b=none
def pt (b:Nat) (o:Obj):ak:=λh=>h b=some o/\∀c,c≠b->h c=none
def ox (w0:World):ak:=λh=>h=T8 w0
theorem Hp.Rq {h g:Hp} (d:Hp.SO h g):Hp.un h g=Hp.un g h:=by funext b;simp only [Hp.un];rcases d b with e|e<;>rw [e]<;>cases h b<;>cases g b<;>simp_all
theorem gy (A B:ak):A*B=B*A:=by
 have:∀A B:ak,∀h,(A*B) h->(B*A) h:=by rintro A B h ⟨h1,h2,d,rfl,a,b⟩;exact ⟨h2,h1,λx=>(d x).symm,Hp.Rq d,b,a⟩
 funext h;exact propext ⟨this A B h,this B A h⟩
theorem au (A B C:ak):A*B*C=A*(B*C):=by
 funext h;apply propext;constructor
 ·rintro ⟨h12,h3,d,rfl,⟨h1,h2,d',rfl,a,b⟩,c⟩
  have d13:Hp.SO h1 h3:=λx=>by
   rcases d x with e|e
   ·simp only [Hp.un] at e;cases hh:h1 x<;>simp_all
   ·exact .inr e
  have d23:Hp.SO h2 h3:=λx=>by
   rcases d x with e|e
   ·simp only [Hp.un] at e;cases hh:h1 x<;>simp_all
   ·exact .inr e
  refine ⟨h1,Hp.un h2 h3,λx=> ?_,?_,a,h2,h3,d23,rfl,b,c⟩
  ·rcases d' x with e|e
   ·exact .inl e
   ·rcases d13 x with e'|e'
    ·exact .inl e'
    ·right;simp only [Hp.un,e,e']
  ·funext x;simp only [Hp.un];cases h1 x<;>rfl
 ·rintro ⟨h1,h23,d,rfl,a,h2,h3,d',rfl,b,c⟩
  have d12:Hp.SO h1 h2:=λx=>by
   rcases d x with e|e
   ·exact .inl e
   ·simp only [Hp.un] at e;cases hh:h2 x<;>simp_all
  have d13:Hp.SO h1 h3:=λx=>by
   rcases d x with e|e
   ·exact .inl e
   ·simp only [Hp.un] at e;cases hh:h2 x<;>simp_all
  refine ⟨Hp.un h1 h2,h3,λx=> ?_,?_,⟨h1,h2,d12,rfl,a,b⟩,c⟩
  ·rcases d' x with e|e
   ·rcases d13 x with e'|e'
    ·left;simp only [Hp.un,e,e']
    ·exact .inr e'
   ·exact .inr e
  ·funext x;simp only [Hp.un];cases h1 x<;>rfl
theorem ft (A B C:ak):A*B*C=A*C*B:=by rw [au,gy B C,<-au]
theorem fe {A A' B B':ak} (ha:∀h,A h->A' h) (hb:∀h,B h->B' h):∀h,(A*B) h->(A'*B') h:=by rintro h ⟨h1,h2,d,rfl,a,b⟩;exact ⟨h1,h2,d,rfl,ha _ a,hb _ b⟩
theorem aq (A:ak):A*emp=A:=by
 funext h;apply propext;constructor
 ·rintro ⟨h1,h2,d,rfl,a,b⟩
  have:Hp.un h1 h2=h1:=by funext x;simp only [Hp.un,b x];cases h1 x<;>rfl
  rw [this];exact a
 ·intro a
  exact ⟨h,λ_=>none,λx=> .inr rfl,by funext x;simp only [Hp.un];cases h x<;>rfl,a,λx=>rfl⟩
structure St (w0:World) (A:ak) (w:World):Prop where
 os:w.os=w0.os
 out:w.output=w0.output
 size:w0.heap.size<=w.heap.size
 ran:w.tape=w0.tape/\w0.drawn<=w.drawn
 holds:∃h,Hp.sub h (T8 w)/\A h
theorem St.mono {w0 w:World} {A B:ak} (s:St w0 A w) (h:∀h,A h->B h):St w0 B w:=
 ⟨s.os,s.out,s.size,s.ran,let ⟨g,h1,h2⟩:=s.holds;⟨g,h1,h _ h2⟩⟩
theorem DJ {h1 h2 g:Hp} (s:Hp.sub (Hp.un h1 h2) g):Hp.sub h1 g:=λb o e=>s b o (by simp only [Hp.un,e])
theorem JD {h1 h2 g:Hp} (d:Hp.SO h1 h2) (s:Hp.sub (Hp.un h1 h2) g):Hp.sub h2 g:=λb o e=>s b o (by
 rcases d b with e'|e'
 ·simp only [Hp.un,e',e]
 ·rw [e'] at e;cases e)
theorem St.drop {w0 w:World} {F A:ak} (s:St w0 (F*A) w):St w0 F w:=
 ⟨s.os,s.out,s.size,s.ran,let ⟨g,h1,h,h',d,e,a,_⟩:=s.holds;⟨h,DJ (e▸h1),a⟩⟩
theorem St.swap {w0 w:World} {F A B:ak} (s:St w0 (F*A*B) w):St w0 (F*B*A) w:=by rwa [ft]
theorem St.p3 {w0 w:World} {F A B C:ak} (s:St w0 (F*A*B*C) w):St w0 (F*B*C*A) w:=by rw [ft F A B,ft (F*B) A C] at s;exact s
theorem St.look {w0 w:World} {F:ak} {b:Nat} {o:Obj} (s:St w0 (F*pt b o) w):w.heap[b]? =some o:=by obtain ⟨g,h1,h,h',d,e,_,a⟩:=s.holds;exact JD d (e▸h1) b o a.1
theorem St.mS {w0 w w1:World} (s:St w0 (ox w1) w) {b:Nat} {o:Obj} (hb:w1.heap[b]? =some o):w.heap[b]? =some o:=by obtain ⟨g,h1,a⟩:=s.holds;exact h1 b o (by rw [a];exact hb)
theorem St.start (w:World):St w (ox w) w:=
 ⟨rfl,rfl,Nat.le_refl _,⟨rfl,Nat.le_refl _⟩,_,λb o h=>h,rfl⟩
def Obj.L9:Obj->Prop
 | .cells _ _ f=>f=(0,0)
 |_=>True
theorem heap_alloc (w:World) (o:Obj) (b:Nat):(w.alloc o).heap[b]? =if b=w.heap.size then some o else w.heap[b]?:=by simp only [World.alloc,Array.getElem?_push]
theorem St.alloc {w0 w:World} {F:ak} (s:St w0 F w) {o:Obj} (_:Obj.L9 o):St w0 (F*pt w.heap.size o) (w.alloc o):=by
 refine ⟨s.os,s.out,?_,s.ran,?_⟩
 ·have:=s.size;simp;omega
 ·obtain ⟨g,h1,h2⟩:=s.holds
  have hn:g w.heap.size=none:=by
   cases hh:g w.heap.size with
   |none=>rfl
   |some o'=>
    have h3:w.heap[w.heap.size]? =some o':=h1 _ _ hh;exact absurd (Array.getElem?_eq_some_iff.1 h3).1 (by omega)
  refine ⟨Hp.un g (λb=>if b=w.heap.size then some o else none),λb o' hb=> ?_,g,_,λb=> ?_,rfl,h2,?_,?_⟩
  ·show (w.alloc o).heap[b]? =some o'
   rw [heap_alloc];simp only [Hp.un] at hb
   by_cases e:b=w.heap.size
   ·subst e;simp only [hn,if_true] at hb;simpa using hb
   ·simp only [e,if_false] at hb⊢
    cases hg:g b with
    |none=>rw [hg] at hb;cases hb
    |some o''=>rw [hg] at hb;cases hb;exact h1 _ _ hg
  ·by_cases e:b=w.heap.size
   ·subst e;exact .inl hn
   ·right;simp [e]
  ·simp
  ·intro c hc;simp [hc]
theorem St.drew {w0 w:World} {A:ak} (s:St w0 A w):St w0 A w.drew:=⟨s.os,s.out,s.size,⟨s.ran.1,Nat.le_succ_of_le s.ran.2⟩,s.holds⟩
theorem St.om {w0 w w':World} {F:ak} {b:Nat} {o o':Obj} (s:St w0 (F*pt b o) w) (h1:w'.heap[b]? =some o') (h2:∀c,c≠b->w'.heap[c]? =w.heap[c]?)
  (hs:w'.heap.size=w.heap.size) (hos:w'.os=w.os) (hout:w'.output=w.output) (_:∀c t f,o'= .cells c t f->f=(0,0)) (hrun:w'.tape=w.tape/\w'.drawn=w.drawn:=by exact ⟨rfl,rfl⟩):St w0 (F*pt b o') w':=by
 refine ⟨hos.trans s.os,hout.trans s.out,by rw [hs];exact s.size,⟨hrun.1.trans s.ran.1,hrun.2▸s.ran.2⟩,?_⟩
 ·obtain ⟨g,hg,h,h',d,rfl,a,hb,hn⟩:=s.holds
  have hnb:h b=none:=by
   rcases d b with e|e
   ·exact e
   ·rw [hb] at e;cases e
  refine ⟨Hp.un h (λc=>if c=b then some o' else none),λc x hx=> ?_,h,_,λc=> ?_,rfl,a,?_,?_⟩
  ·show w'.heap[c]? =some x
   simp only [Hp.un] at hx
   by_cases e:c=b
   ·subst e;simp only [hnb,if_true] at hx;rw [h1];exact hx
   ·simp only [e,if_false] at hx
    rw [h2 c e];cases hh:h c with
    |none=>rw [hh] at hx;cases hx
    |some y=>rw [hh] at hx;cases hx;exact DJ hg c _ hh
  ·by_cases e:c=b
   ·subst e;exact .inl hnb
   ·right;simp [e]
  ·simp
  ·intro c hc;simp [hc]
theorem heap_setCell (w:World) (b off:Nat) (v:Value) (c:Array Value) (t:TypeId) (f:Nat×Nat) (h:w.heap[b]? =some (.cells c t f)) (x:Nat):
  (w.setCell ⟨b,off,none⟩ v).heap[x]? =if x=b then some (.cells (c.setIfInBounds off v) t f) else w.heap[x]?:=by
 simp only [World.setCell,Array.getElem?_modify]
 by_cases e:x=b
 ·subst e;simp [h]
 ·simp [Ne.symm e,e]
theorem St.set {w0 w:World} {F:ak} {b off:Nat} {c:Array Value} {t:TypeId} {v:Value} (s:St w0 (F*pt b (.cells c t (0,0))) w):
  St w0 (F*pt b (.cells (c.setIfInBounds off v) t (0,0))) (w.setCell ⟨b,off,none⟩ v):=by
 have hb:=s.look;refine s.om (w':=w.setCell ⟨b,off,none⟩ v) ?_ ?_ (by simp) rfl rfl (λc t f e=>by cases e;rfl)
 ·rw [heap_setCell w b off v c t _ hb b,if_pos rfl]
 ·intro x hx;rw [heap_setCell w b off v c t _ hb x,if_neg hx]
section
variable {P:Program} {K:Value->World->Prop} {w w0:World} {F:ak}
theorem cell_of {b off:Nat} {c:Array Value} {t:TypeId} {f:Nat×Nat} (hb:w.heap[b]? =some (.cells c t f)):w.cell? ⟨b,off,none⟩=c[off]?:=by simp [World.cell?,hb]
theorem eZ (b off n:Nat):(⟨b,off,none⟩:Addr).add n=⟨b,off+n,none⟩:=by unfold Addr.add;split<;>simp_all
theorem aK {s:Sem Value} {v:Value} {w':World} (h:s.run P w= .ok v w') (hk:K v w'):fV P (dB s) K w:=by unfold fV dB;simp [h];exact hk
theorem lk {s:Sem Unit} {w':World} (h:s.run P w= .ok () w') (hk:K undef w'):fV P (DX s) K w:=by unfold fV DX;simp [h];exact hk
theorem af {a:Addr} {n:Nat} {v:Value} (hc:w.cell? a=some v) (hk:K v w):aA P (.ld false n) [.pointer (some a)] K w:=by intro _;refine aK (w':=w) (v:=v) ?_ hk;simp [tK,Instr.sureAddr,hc]
theorem cH {b off:Nat} {c:Array Value} {t:TypeId} {v:Value} (s:St w0 (F*pt b (.cells c t (0,0))) w) (h1:v.oneCell'=true) (hoff:off<c.size)
  (hk:∀w',St w0 (F*pt b (.cells (c.setIfInBounds off v) t (0,0))) w'->K undef w'):aA P (.st 1) [.pointer (some ⟨b,off,none⟩),v] K w:=by
 intro _;have hb:=s.look;have hc:w.cell? ⟨b,off,none⟩=some c[off]:=by rw [cell_of hb];simp [hoff]
 have hf:w.frozen? ⟨b,off,none⟩=false:=by simp [World.frozen?,hb]
 refine lk (w':=w.setCell ⟨b,off,none⟩ v) ?_ (hk _ s.set);have hcs:v.cells= #[v]:=by cases v<;>first|rfl|(simp [Value.oneCell'] at h1)
 have hst:=run_store P w ⟨b,off,none⟩ v .plain h1;simp only [hc,hf,Bool.false_eq_true,if_false] at hst;have ha:(⟨b,off,none⟩:Addr).add 0=⟨b,off,none⟩:=rfl;simp [stS,Instr.sureAddr,hcs,storeCells,ha,hst]
theorem rU {b off:Nat} {c:Array Value} {t:TypeId} {vs:List Value} (s:St w0 (F*pt b (.cells c t (0,0))) w):
  St w0 (F*pt b (.cells (c.toList.take off++vs++c.toList.drop (off+vs.length)).toArray t (0,0))) (w.setRow b (c.toList.take off++vs++c.toList.drop (off+vs.length)).toArray):=
 s.om (setRow_heap w b c _ t _ s.look) (λx hx=>setRow_other w b x _ hx) (by simp [World.setRow]) rfl rfl (λ_ _ _ e=>by cases e;rfl)
theorem dW {b off n:Nat} {c:Array Value} {t:TypeId} {v:Value} {vs:List Value} (s:St w0 (F*pt b (.cells c t (0,0))) w) (hv:v.cells.toList=vs) (hn:vs.length=n) (h1:∀u∈vs,u.oneCell'=true) (hoff:off+n<=c.size)
  (hk:∀w',St w0 (F*pt b (.cells (c.toList.take off++vs++c.toList.drop (off+n)).toArray t (0,0))) w'->K undef w'):aA P (.st n) [.pointer (some ⟨b,off,none⟩),v] K w:=by
 intro _;have hb:=s.look;have hst:=run_storeCells_at P b off t vs 0 c w hb (by omega) h1;simp only [Nat.add_zero] at hst;have hh:=rU (off:=off) (vs:=vs) s;rw [hn] at hst hh;refine lk ?_ (hk _ hh);have hsz:v.cells.size=n:=by rw [<-Array.length_toList,hv,hn]
 simp [stS,Instr.sureAddr,hsz,hv,hst]
theorem bZ {t:TypeId} {z:Value} (s:St w0 F w) (hk:∀b w',St w0 (F*pt b (.cells z.cells t (0,0))) w'->K (.pointer (some ⟨b,0,none⟩)) w'):aA P (.new t z) [] K w:=by intro _;refine aK (w':=w.alloc (.cells z.cells t)) ?_ (hk _ _ (s.alloc rfl));simp [newVar,newRow]
theorem bA {t:TypeId} {z:Value} (s:St w0 F w) (hk:∀b w',St w0 (F*pt b (.cells z.cells t (0,0))) w'->K (.pointer (some ⟨b,0,none⟩)) w'):aA P (.box t) [z] K w:=by intro _;refine aK (w':=w.alloc (.cells z.cells t)) ?_ (hk _ _ (s.alloc rfl));simp [Instr.box,newVar,newRow]
theorem lA {e len size:Nat} {zero cells:Array Value} {ix:List Nat} {vs:List Value} (s:St w0 F w)
  (hf:Instr.fill (λi=>some (i*size,size)) ((Array.range (len*size)).map (zero[· %zero.size]!)) (ix.zip vs)=some cells)
  (hk:∀b w',St w0 (F*pt b (.cells cells e (0,0))) w'->K (.slice (some ⟨b,0,none⟩) len len) w'):aA P (.bsl e len size zero ix) vs K w:=by
 intro _;refine aK (w':=w.alloc (.cells cells e)) ?_ (hk _ _ (s.alloc rfl));simp [Nw,hf,newRow]
theorem fH {e:Nat} {z x:Value} (s:St w0 F w) (h1:x.oneCell'=true)
  (hk:∀b w',St w0 (F*pt b (.cells #[x] e (0,0))) w'->K (.slice (some ⟨b,0,none⟩) 1 1) w'):aA P (.bsl e 1 1 #[z] [0]) [x] K w:=by
 refine lA (cells:= #[x]) s ?_ hk;have hcs:x.cells= #[x]:=by cases x<;>first|rfl|(simp [Value.oneCell'] at h1)
 have hz:((Array.range (1*1)).map λi=>(#[z])[i %(#[z]).size]!)= #[z]:=by
  apply Array.ext
  ·simp
  ·intro i h1 h2
   have:i=0:=by simp at h2;omega
   subst this;simp
 rw [hz];simp [Instr.fill,hcs]
theorem ab {f:FuncId} {vs:List Value} (h:aj P f vs K w):aA P (.call f) vs K w:=by intro hb;unfold fV;simp only [EO.mg,dw hb];exact h
theorem bJ {f:FuncId} {first cap:Array Value} {vs:List Value} (hb:bT P f=true) (h:aj P f (first.toList++vs++cap.toList) K w):aA P .callv (.func (.func f) first cap::vs) K w:=by
 intro _;unfold fV;have e:first++vs.toArray++cap=(first.toList++vs++cap.toList).toArray:=by apply Array.ext';simp
 simp only [EO.mg,Deferred.ofValue,Sem.run_bind,Sem.run_pure,Result.andThen_ok,invoke];rw [e,dw hb];exact h
def own (e size:Nat) (v:Value) (n:Nat) (xs:List Value):ak:=λh=>xs.length=n*size/\
 ((v= .slice none 0 0/\n=0/\emp h)\/
 ∃g cap cur,v= .slice (some ⟨g,0,none⟩) n cap/\n<=cap/\cap<=maxLen/\cap*size<=cur.size/\cur.toList.take (n*size)=xs/\pt g (.cells cur e (0,0)) h)
theorem St.of {A B:ak} (s:St w0 A w) (h:∃h,Hp.sub h (T8 w)/\B h):St w0 B w:=⟨s.os,s.out,s.size,s.ran,h⟩
theorem St.own {e size:Nat} {v:Value} {n:Nat} {xs:List Value} (s:St w0 (F*own e size v n xs) w):xs.length=n*size/\
  ((v= .slice none 0 0/\n=0/\xs= []/\St w0 F w)\/
  ∃g cap cur,v= .slice (some ⟨g,0,none⟩) n cap/\n<=cap/\cap<=maxLen/\cap*size<=cur.size/\cur.toList.take (n*size)=xs/\St w0 (F*pt g (.cells cur e (0,0))) w):=by
 obtain ⟨g,h1,h2,h3,d,e,a,hl,b⟩:=s.holds;refine ⟨hl,?_⟩;rcases b with ⟨rfl,rfl,hb⟩|⟨g',cap,cur,rfl,hn,hm,hc,ht,hp⟩
 ·refine .inl ⟨rfl,rfl,List.eq_nil_of_length_eq_zero (by simpa using hl),s.drop⟩
 ·exact .inr ⟨g',cap,cur,rfl,hn,hm,hc,ht,s.of ⟨g,h1,h2,h3,d,e,a,hp⟩⟩
theorem St.aD (s:St w0 F w) (e size:Nat):St w0 (F*HL.own e size (.slice none 0 0) 0 []) w:=by have:F=F*emp:=(aq F).symm;rw [this] at s;exact s.mono (fe (λ_ h=>h) λh hh=>⟨by simp,.inl ⟨rfl,rfl,hh⟩⟩)
theorem St.nP {e size g n cap:Nat} {cur:Array Value} {xs:List Value} (s:St w0 (F*pt g (.cells cur e (0,0))) w) (hn:n<=cap) (hm:cap<=maxLen) (hc:cap*size<=cur.size) (ht:cur.toList.take (n*size)=xs):
  St w0 (F*HL.own e size (.slice (some ⟨g,0,none⟩) n cap) n xs) w:=by
 refine s.mono (fe (λ_ h=>h) λh hh=>⟨?_,.inr ⟨g,cap,cur,rfl,hn,hm,hc,ht,hh⟩⟩);rw [<-ht,List.length_take,Array.length_toList];exact Nat.min_eq_left (Nat.le_trans (Nat.mul_le_mul_right _ hn) hc)
theorem St.vS {e size g n cap:Nat} {cur:Array Value} {xs:List Value} (s:St w0 (F*pt g (.cells cur e (0,0))) w) (hn:n<=cap) (hm:cap<=maxLen) (hc:cur.size=cap*size) (ht:cur.toList.take (n*size)=xs):
  St w0 (F*HL.own e size (.slice (some ⟨g,0,none⟩) n cap) n xs) w:=s.nP hn hm (Nat.le_of_eq hc.symm) ht
theorem St.iI {e size:Nat} {v:Value} {n:Nat} {xs:List Value} (s:St w0 (F*HL.own e size v n xs) w):
  xs= []/\v= .slice none 0 0\/∃g cap,v= .slice (some ⟨g,0,none⟩) n cap/\n<=cap/\∀j u,xs[j]? =some u->w.cell? ⟨g,j,none⟩=some u:=by
 rcases s.own.2 with ⟨rfl,_,hx,_⟩|⟨g,cap,cur,rfl,hn,_,hc,ht,s'⟩
 ·exact .inl ⟨hx,rfl⟩
 ·refine .inr ⟨g,cap,rfl,hn,λj u hu=> ?_⟩
  rw [cell_of s'.look];rw [<-ht,List.getElem?_take] at hu;split at hu
  ·simpa using hu
  ·cases hu
theorem St.ax {e size:Nat} {v:Value} {n:Nat} {xs:List Value} (s:St w0 (F*HL.own e size v n xs) w):∃a cap,v= .slice a n cap/\n<=cap/\(0<n->a≠none):=by
 rcases s.own.2 with ⟨rfl,rfl,_⟩|⟨g,cap,cur,rfl,hn,_⟩
 ·exact ⟨_,_,rfl,Nat.le_refl _,λh=>absurd h (by omega)⟩
 ·exact ⟨_,_,rfl,hn,λ_=>by simp⟩
theorem St.aP {e size:Nat} {v:Value} {n:Nat} {xs:List Value} (s:St w0 (F*HL.own e size v n xs) w) (hn:0<n):
  ∃g cap,v= .slice (some ⟨g,0,none⟩) n cap/\n<=cap/\∀j u,xs[j]? =some u->w.cell? ⟨g,j,none⟩=some u:=by
 rcases s.iI with ⟨_,rfl⟩|h
 ·obtain ⟨a,cap,h,_⟩:=s.ax
  cases h;omega
 ·exact h
theorem bX {t ty e size bytes:Nat} {z v:Value} {n m c:Nat} {xs news:List Value} {a:Addr} (s:St w0 (F*HL.own e size v n xs) w)
  (hl:news.length=m*size) (hx:∀j u,news[j]? =some u->w.cell? (a.add j)=some u) (h1:∀u∈news,u.oneCell'=true)
  (hsz:0<size) (hz:z.cells.size=size) (hmax:n+m<=maxLen) (hb:(n+m)*bytes<=140737488355328)
  (hk:∀v' w',St w0 (F*HL.own e size v' (n+m) (xs++news)) w'->K v' w'):aA P (.app t ty e size bytes z) [v,.slice (some a) m c] K w:=by
 rintro ⟨ht,i,hi,hiz,rfl,rfl⟩;have hsmall:n+m<=9223372036854775807:=by simp only [maxLen] at hmax;omega
 have grown:∀ox,ox<n+m->St w0 F w->xs.length=n*i.size->
   St w0 (F*HL.own e i.size (.slice (some ⟨w.heap.size,0,none⟩) (n+m) (grownCap w (n+m) ox e)) (n+m) (xs++news))
    (w.drew.alloc (.cells (xs.toArray++news.toArray++Builtin.zeroCells z.cells (grownCap w (n+m) ox e -(n+m))) e)):=by
  intro ox ho s hxl;have hge:=grownCap_ge w (n+m) ox e;refine St.vS (s.drew.alloc (by rfl)) hge (grownCap_le_maxLen w (n+m) ox e hmax) ?_ ?_
  ·simp only [Array.size_append,List.size_toArray,size_zeroCells,hz,hxl,hl,<-Nat.add_mul]
   congr 1;omega
  ·simp only [Array.toList_append,List.append_assoc]
   rw [<-List.append_assoc,Nat.add_mul,<-hxl,<-hl,<-List.length_append];exact List.take_left
 obtain ⟨hxl,hc⟩:=s.own;rcases hc with ⟨rfl,rfl,rfl,s'⟩|⟨g,cap,cur,rfl,hnc,hcm,hcs,htake,s'⟩
 ·by_cases hm:m=0
  ·subst hm
   have hn:news= []:=List.eq_nil_of_length_eq_zero (by simpa using hl);subst hn;refine aK (w':=w) (v:= .slice none 0 0) ?_ (hk _ _ s);simp [Builtin.append_,run_underlying ht,sizeOf,typeInfo,hi,Builtin.lenOf,Builtin.firstCells,loadCells,loadCellsFrom]
  ·have hr:=run_append_nil (P:=P) w t ty e i z ht hi hiz a m c news hl hx (by omega) (by omega) (by have hb:=hb;simp only [Nat.zero_add] at hb;omega)
   have hgr:=grown 0 (by omega) s' (by simp);simp only [Nat.zero_add,List.nil_append,Array.empty_append] at hgr hk;exact aK hr (hk _ _ hgr)
 ·by_cases hroom:n+m<=cap
  ·have hfit:n*i.size+news.length<=cur.size:=by rw [hl,<-Nat.add_mul];exact Nat.le_trans (Nat.mul_le_mul_right _ hroom) hcs
   have hr:=run_append_room (P:=P) w t ty e i ht hi g n cap cur s'.look a m c news hl hx h1 hroom hfit;refine aK hr (hk _ _ ((rU (off:=n*i.size) (vs:=news) s').nP hroom hcm ?_ ?_))
   ·simp only [List.size_toArray,List.length_append,List.length_take,List.length_drop,Array.length_toList]
    omega
   ·rw [htake,Nat.add_mul,<-hxl,<-hl,<-List.length_append]
    exact List.take_left
  ·have holds:∀j u,xs[j]? =some u->w.cell? ((⟨g,0,none⟩:Addr).add j)=some u:=by
    intro j u hu;rcases s.iI with ⟨rfl,h⟩|⟨g',cap',h,_,hh⟩
    ·simp at hu
    ·cases h;rw [eZ,Nat.zero_add];exact hh j u hu
   have hr:=run_append_grow (P:=P) w t ty e i z ht hi hiz ⟨g,0,none⟩ n cap xs hxl holds a m c news hl hx (by omega) (by omega) (growslice_fits (by omega) hb);exact aK hr (hk _ _ (grown cap (by omega) s'.drop hxl))
theorem Cb {t ty e size bytes:Nat} {z:Value} {b:Option Addr} {n cap c:Nat} (hn:n<=cap) (hk:K (.slice b n cap) w):aA P (.app t ty e size bytes z) [.slice b n cap,.slice none 0 c] K w:=by rintro ⟨ht,i,hi,hiz,rfl,rfl⟩;refine aK (w':=w) (v:= .slice b n cap) ?_ hk;cases b<;>simp [Builtin.append_,run_underlying ht,sizeOf,typeInfo,hi,Builtin.lenOf,Builtin.firstCells,storeCells,hn]
theorem St.aL {b:Nat} {c:Array Value} {t:TypeId} {f:Nat×Nat} (s:St w0 (F*pt b (.cells c t f)) w):∀j u,c.toList[j]? =some u->w.cell? ((⟨b,0,none⟩:Addr).add j)=some u:=by
 intro j u h;rw [eZ,cell_of s.look]
 simpa using h
theorem Cf {t:TypeId} {x:ByteArray} (s:St w0 F w) (hk:∀b w',St w0 (F*pt b (.stringIter x 0)) w'->K (.pointer (some ⟨b,0,none⟩)) w'):aA P (.rngS t) [.string x] K w:=by intro _;refine aK (w':=w.alloc (.stringIter x 0)) ?_ (hk _ _ (s.alloc trivial));simp
theorem Ce {ty:TypeId} {b:Nat} {x:ByteArray} {pos:Nat} (s:St w0 (F*pt b (.stringIter x pos)) w)
  (hk1:pos<x.size->∀w',St w0 (F*pt b (.stringIter x (pos+(Utf8.decode x pos).2))) w'->K (.tuple #[.bool true,.int .i64 pos,.int .i32 (Utf8.decode x pos).1]) w')
  (hk2:¬pos<x.size->K (.tuple #[.bool false]) w):aA P (.nxt true ty) [.pointer (some ⟨b,0,none⟩)] K w:=by
 intro _;have hb:=s.look
 by_cases hp:pos<x.size
 ·have hlt:b<w.heap.size:=(Array.getElem?_eq_some_iff.1 hb).1
  refine aK (w':={w with heap:=w.heap.setIfInBounds b (.stringIter x (pos+(Utf8.decode x pos).2))}) ?_ (hk1 hp _ ?_)
  ·simp [Instr.next,getObj,setObj,Sem.run,hb,hp,Sem.run_bind,goInt]
  ·refine s.om ?_ ?_ (by simp) rfl rfl (λ_ _ _ e=>by cases e)
   ·simp [hlt]
   ·intro c hc;simp [Ne.symm hc]
 ·refine aK (w':=w) ?_ (hk2 hp)
  simp [Instr.next,getObj,Sem.run,hb,hp]
end
theorem aF {h t:HC} (e:h=t) {P:Program} {F:PF P} {Q:EX->List Value->World->Prop} {env:List Value} {w:World}:h.wp F Q env w=t.wp F Q env w:=by rw [e]
attribute [simp] Ry WX W5 WZ WW RB Kz M3 W6 aXa WY RC JR M0 MZ RA Mu Rh Mv Ey Ez Ii Mf Nv uz rC I3 I2 Lm KW KX Re Mo zv zw Uc Ub Az CF
attribute [simp] eZ
attribute [simp] du dq jQ jb
attribute [simp] SE.val dt.dF PO.ok PO.val cV JI Ns Nt lH lM
section
variable {P:Program} {F:PF P} {env:List Value} {w:World} {Q:EX->List Value->World->Prop}
theorem gI {x:HC} (I:List Value->World->Prop) (μ:List Value->World->Nat) (h0:I env w)
  (h:∀(LQ:EX->List Value->World->Prop) (env:List Value) (w:World),I env w->(∀env' w',I env' w'->μ env' w'<μ env w->LQ .nrm env' w')->(∀i env' w',Q (.ex i) env' w'->LQ (.ex i) env' w')->
   (∀env' w',Q .ret env' w'->LQ .ret env' w')->x.wp F LQ env w):Bt F x Q env w:=
 LB I μ h0 λenv w hI=>h _ env w hI (λ_ _ h1 h2=>⟨h1,h2⟩) (λ_ _ _ h=>h) (λ_ _ h=>h)
theorem aR {x y:HC} {b:Bool} (h1:b=true->x.wp F Q env w) (h2:b=false->y.wp F Q env w):gG F (.bool b) x y Q env w:=EP h1 h2
theorem IB (t N:Nat) (L:List Nat) (args:List Value):uL (t::L) N args=(if t<N then (args[t]?).getD undef else undef)::uL L N args:=rfl
theorem KZ (N:Nat) (args:List Value):uL [] N args= []:=rfl
theorem aj.mono {f:FuncId} {args:List Value} {K K':Value->World->Prop} (h:aj P f args K w) (hk:∀v w',K v w'->K' v w'):aj P f args K' w:=
 Calls.mono h λ_ _ ⟨v,e,h⟩=>⟨v,e,hk _ _ h⟩
end
attribute [simp] IB KZ
def mk (l:List UInt8):ByteArray:=⟨l.toArray⟩
@[simp] theorem aaa (l:List UInt8):(mk l).data=l.toArray:=rfl
@[simp] theorem bAa (l:List UInt8):(mk l).size=l.length:=by simp [mk,ByteArray.size]
@[simp] theorem bza (l:List UInt8):(ByteArray.mk l.toArray)=mk l:=rfl
theorem qU (s:ByteArray):s=mk s.data.toList:=by cases s;simp [mk]
@[simp] theorem Xf (l:List UInt8) (i:Int):zc (mk l) i=((l[i.toNat]?.getD 0).toNat:Int):=by simp [zc]
def aw (env:List Value) (j:Nat):Nat:=match env.getD j undef with
 | .int _ k=>k.toNat
 |_=>0
theorem wrap64 {x:Int} (h1: -9223372036854775808<=x) (h2:x<=9223372036854775807):IntKind.i64.wrap x=x:=IntWalk.i64_in x ⟨h1,h2⟩
theorem wrap32 {x:Int} (h1: -2147483648<=x) (h2:x<=2147483647):IntKind.i32.wrap x=x:=IntWalk.i32_in x ⟨h1,h2⟩
theorem rp {x:Int} (h1:0<=x) (h2:x<=255):IntKind.u8.wrap x=x:=IntWalk.u8_in x ⟨h1,h2⟩
theorem bw {x:Int} (h1:0<=x) (h2:x<=18446744073709551615):IntKind.u64.wrap x=x:=IntWalk.u64_in x ⟨h1,h2⟩
theorem kL {P:Program} {F:PF P} {env:List Value} {w:World} {Q:EX->List Value->World->Prop} (x y:HC) (b:Bool):
  gG F (.bool b) x y Q env w=if b=true then x.wp F Q env w else y.wp F Q env w:=by cases b<;>simp
structure PS (P:Program) where
 f:Nat
 val:List Value->Value
 ok:List Value->Prop
 sound:∀(args:List Value) (w:World),ok args->aj P f args (λv w'=>v=val args/\w'=w) w
def PF.of {P:Program} (l:List (PS P)):PF P where
 ids:=l.map (·.f)
 val f args:=match l.find? (λs=>s.f==f) with
  |some s=>s.val args
  | .none=>undef
 ok f args:=match l.find? (λs=>s.f==f) with
  |some s=>s.ok args
  | .none=>False
 sound:=by
  intro f hf args w hok;split at hok
  ·rename_i s hs
   have h1:=List.find?_some hs;simp only [beq_iff_eq] at h1;subst h1;exact Calls.mono (s.sound args w hok) λe w' ⟨v,he,hv,hw⟩=>⟨by rw [he,hv],hw⟩
  ·exact hok.elim
def PS.ib {P:Program} (f:Nat) (k:IntKind) (g:Int->Bool) (h:∀u w,aj P f [.int k u] (λr w'=>r= .bool (g u)/\w'=w) w):PS P where
 f:=f
 val args:=match args with
  | [.int _ u]=> .bool (g u)
  |_=>undef
 ok args:=match args with
  | [.int k' _]=>k'=k
  |_=>False
 sound args w hok:=by
  split at hok
  ·subst hok;exact h _ w
  ·exact hok.elim
inductive It where
 |n (k:Nat)
 |e (x:SE)
 |es (x:dt)
 |st (l:List (Nat×SE))
 |r (t:RT)
 |h (t:HC)
structure xj where
 p:Nat->PO
 e:Nat->EO
 v:Nat->Value
def Zg:Nat->Nat->List Nat
 |0,_=> []
 |f+1,n=>if n=0 then [] else (n %1024)::Zg f (n /1024)
def Sb:Nat->List Nat->List (Nat×List Nat)
 |0,_=> []
 |_+1,[]=> []
 |f+1,n::r=>match r with
  | []=> []
  |i::r=>(i -1,(r.take (n -1)).map (· -1))::Sb f (r.drop (n -1))
def aea (k:Nat):MO:=
 if k=0 then .none else if k %2=1 then .some (k /2) else .free (let l:=Zg 10000 (k /2 -1);Sb l.length l)
def cla:Nat->HC
 |0=> .skip
 |1=> .ret
 |k+2=> .exit k
def o8:List It->List It
 | .n k::s=> .n (k*8)::s
 |s=>s
def o9:List It->List It
 | .n k::s=> .n (k*8+1)::s
 |s=>s
def R9:List It->List It
 | .n k::s=> .n (k*8+2)::s
 |s=>s
def o11:List It->List It
 | .n k::s=> .n (k*8+3)::s
 |s=>s
def o12:List It->List It
 | .n k::s=> .n (k*8+4)::s
 |s=>s
def tL:List It->List It
 | .n k::s=> .n (k*8+5)::s
 |s=>s
def tM:List It->List It
 | .n k::s=> .n (k*8+6)::s
 |s=>s
def AH:List It->List It
 | .n k::s=> .n (k*8+7)::s
 |s=>s
def tN:List It->List It
 | .n k::s=> .e (.inp k)::s
 |s=>s
def D8:List It->List It
 | .n k::s=> .e (.bv k)::s
 |s=>s
def FD (T:xj):List It->List It
 | .n k::s=> .e (.cst (T.v k))::s
 |s=>s
def AI:List It->List It
 | .es l:: .e x::s=> .es (.cons x l)::s
 |s=>s
def Nb (T:xj):List It->List It
 | .es l:: .n k::s=> .e (.op (T.p k) l)::s
 |s=>s
def Q0:List It->List It
 | .e b:: .e a:: .e c::s=> .e (.ite c false a b)::s
 |s=>s
def Q1:List It->List It
 | .e b:: .e a:: .e c::s=> .e (.ite c true a b)::s
 |s=>s
def LS:List It->List It
 | .st l:: .e x:: .n k::s=> .st ((k,x)::l)::s
 |s=>s
def o26:List It->List It
 | .st l::s=> .r (.done l none)::s
 |s=>s
def o27:List It->List It
 | .e c:: .st l::s=> .r (.done l (some c))::s
 |s=>s
def o28 (T:xj):List It->List It
 | .r t:: .es l:: .n k::s=> .r (.chk none (T.p k) l t)::s
 |s=>s
def o29 (T:xj):List It->List It
 | .r t:: .es l:: .n k:: .e g::s=> .r (.chk (some (g,false)) (T.p k) l t)::s
 |s=>s
def o30 (T:xj):List It->List It
 | .r t:: .es l:: .n k:: .e g::s=> .r (.chk (some (g,true)) (T.p k) l t)::s
 |s=>s
def o31:List It->List It
 | .r t:: .e c::s=> .r (.isb none c t)::s
 |s=>s
def o32:List It->List It
 | .r t:: .e c:: .e g::s=> .r (.isb (some (g,false)) c t)::s
 |s=>s
def o33:List It->List It
 | .r t:: .e c:: .e g::s=> .r (.isb (some (g,true)) c t)::s
 |s=>s
def o34 (T:xj):List It->List It
 | .r t:: .es l:: .n k::s=> .r (.eff (T.e k) l t)::s
 |s=>s
def o35:List It->List It
 | .r t:: .e x::s=> .r (.jQ x t)::s
 |s=>s
def o36:List It->List It
 | .r b:: .r a:: .e c::s=> .r (.ite c false a b)::s
 |s=>s
def o37:List It->List It
 | .r b:: .r a:: .e c::s=> .r (.ite c true a b)::s
 |s=>s
def o39:List It->List It
 | .r t::s=> .h (.reg t)::s
 |s=>s
def o40:List It->List It
 | .h y:: .h x:: .r t::s=> .h (.br t x y)::s
 |s=>s
def o41:List It->List It
 | .r t:: .n k::s=> .h (.regq (aea k) t)::s
 |s=>s
def o42:List It->List It
 | .h y:: .h x:: .r t:: .n k::s=> .h (.brq (aea k) t x y)::s
 |s=>s
def o43:List It->List It
 | .h y:: .h x:: .n k::s=> .h (.cnd k x y)::s
 |s=>s
def o44:List It->List It
 | .h y:: .h x::s=> .h (.seq x y)::s
 |s=>s
def o45:List It->List It
 | .h x:: .n k::s=> .h (.block k x)::s
 |s=>s
def o46:List It->List It
 | .h x::s=> .h (.loop x)::s
 |s=>s
def o47:List It->List It
 | .n k::s=> .h (cla k)::s
 |s=>s
def o48 (H:List HC):List It->List It
 | .n k::s=> .h (H.getD k .skip)::s
 |s=>s
def Rk (T:xj) (H:List HC):Nat->List It->List It
 |0,s=> .n 0::s
 |1,s=> .n 1::s
 |2,s=> .n 2::s
 |3,s=> .n 3::s
 |4,s=> .n 4::s
 |5,s=> .n 5::s
 |6,s=> .n 6::s
 |7,s=> .n 7::s
 |8,s=>o8 s
 |9,s=>o9 s
 |10,s=>R9 s
 |11,s=>o11 s
 |12,s=>o12 s
 |13,s=>tL s
 |14,s=>tM s
 |15,s=>AH s
 |16,s=>tN s
 |17,s=>D8 s
 |18,s=>FD T s
 |19,s=> .es .nil::s
 |20,s=>AI s
 |21,s=>Nb T s
 |22,s=>Q0 s
 |23,s=>Q1 s
 |24,s=> .st []::s
 |25,s=>LS s
 |26,s=>o26 s
 |27,s=>o27 s
 |28,s=>o28 T s
 |29,s=>o29 T s
 |30,s=>o30 T s
 |31,s=>o31 s
 |32,s=>o32 s
 |33,s=>o33 s
 |34,s=>o34 T s
 |35,s=>o35 s
 |36,s=>o36 s
 |37,s=>o37 s
 |38,s=>AI (.es .nil::s)
 |39,s=>o39 s
 |40,s=>o40 s
 |41,s=>o41 s
 |42,s=>o42 s
 |43,s=>o43 s
 |44,s=>o44 s
 |45,s=>o45 s
 |46,s=>o46 s
 |47,s=>o47 s
 |48,s=>o48 H s
 |49,s=>AI (.es .nil::tN s)
 |50,s=>AI (AI (.es .nil::s))
 |51,s=>D8 (.n 0::s)
 |52,s=>AI (.es .nil::Nb T s)
 |53,s=>AI (AI (.es .nil::FD T s))
 |54,s=>LS (.st []::s)
 |55,s=>o26 (LS (.st []::s))
 |56,s=>D8 (.n 1::s)
 |57,s=>o44 (o44 s)
 |58,s=>o8 (.n 1::s)
 |59,s=>o28 T (o34 T s)
 |60,s=>AI (.es .nil::tN (.n 0::s))
 |61,s=>AI (AI (.es .nil::tN s))
 |62,s=>o9 (.n 1::s)
 |63,s=> .n 1::o39 s
 |_,s=>s
def aza (T:xj) (H:List HC):Nat->Nat->List It->List It
 |0,_,s=>s
 |f+1,n,s=>if n=0 then s else aza T H f (n /64) (Rk T H (n %64) s)
def csa:List It->HC
 | .h t::_=>t
 |_=> .skip
def aM (T:xj) (H:List HC) (n:Nat):HC:=csa (aza T H 100000 n [])
theorem aG {P:Program} {F:PF P} {f:FuncId} {fuel:Nat} {l:ag} (hl:ai F f fuel=some l) {args:List Value} {K:Value->World->Prop} {w:World} (hlen:args.length<=l.N) {t:HC}
  (h:t.wp F (r9 P l.rs K) (uL l.L l.N args) w) (e:l.hc=t:=by (conv=>lhs;cbv)):aj P f args K w:=cX hl hlen (e▸h)
def pG0:Nat->PO
 |0=> .chkp
 |1=>(.fld 0)
 |2=> .lenL
 |3=>(.bin .eql)
 |4=>(.bin .neq)
 |5=>(.fld 1)
 |6=>(.fld 2)
 |7=>(.bin .lss)
 |8=>(.fld 10)
 |9=>(.bin .add)
 |10=>(.fld 4)
 |11=>(.idxL 1)
 |12=>(.ext 0)
 |13=>(.fld 3)
 |14=>(.ext 1)
 |15=>(.un .not)
 |_=> .same
def pG1:Nat->PO
 |0=>(.idxL 5)
 |1=>(.bin .sub)
 |2=>(.bin .gtr)
 |3=>(.bin .geq)
 |4=>(.bin .leq)
 |5=>(.fld 6)
 |6=>(.fld 7)
 |7=>(.fld 5)
 |8=>(.convI .u8)
 |9=>(.bin .shr)
 |10=>(.build #[(.int .i64 0),(.int .i64 0),(.slice none 0 0)] [(0,1),(1,1),(2,1)] [])
 |11=>(.idxL 2)
 |12=>(.fld 8)
 |13=>(.fld 9)
 |14=>(.fld 17)
 |15=>(.fld 12)
 |_=> .same
def pG2:Nat->PO
 |0=>(.eqNil false (.pointer 94) (.pointer none))
 |1=>(.eqNil false (.pointer 168) (.pointer none))
 |2=>(.fld 13)
 |3=>(.bin .or)
 |4=>(.fld 14)
 |5=>(.bin .and)
 |6=>(.eqNil false (.pointer 175) (.pointer none))
 |7=>(.idxL 4)
 |8=>(.fld 11)
 |9=>(.fld 15)
 |10=> .lenS
 |11=>(.bin .mul)
 |12=>(.slL 1 false true false)
 |13=>(.convI .u64)
 |14=>(.build #[(.slice none 0 0),(.int .i64 0),(.int .i64 0)] [(0,1),(1,1),(2,1)] [])
 |15=>(.fld 23)
 |_=> .same
def pG3:Nat->PO
 |0=>(.build #[(.int .i64 0),(.int .i64 0),(.int .u64 0)] [(0,1),(1,1),(2,1)] [0,1])
 |1=>(.build #[(.int .i64 0),(.int .i64 0),(.int .i64 0),(.int .i64 0),(.int .i64 0),(.int .i64 0),(.int .u64 0),(.int .u64 0),(.int .u64 0),(.int .i64 0),(.slice none 0 0)] [(0,1),(1,1),(2,1),(3,1),(4,1),(5,1),(6,1),(7,1),(8,1),(9,1),(10,1)] [])
 |2=>(.cal 102)
 |3=>(.build #[.nilFunc,.nilFunc,.nilFunc] [(0,1),(1,1),(2,1)] [0,1,2])
 |4=>(.fld 16)
 |5=>(.build #[(.int .i64 0),(.int .i64 0),(.int .u64 0)] [(0,1),(1,1),(2,1)] [0,2])
 |6=>(.cal 250)
 |7=>(.eqNil false (.pointer 217) (.pointer none))
 |8=>(.ext 2)
 |9=>(.build (rl [(1,(.int .i64 0)),(1,(.string ⟨#[]⟩)),(2,(.int .i64 0)),(1,(.int .u64 0)),(4,(.int .i64 0)),(2,(.int .u64 0)),(1,(.slice none 0 0)),(6,(.int .i64 0)),(3,(.int .u64 0)),(1,(.int .i64 0)),(1,(.slice none 0 0)),(1,(.int .i64 0))]) [(0,1),(1,1),(2,1),(3,1),(4,1),(5,1),(6,1),(7,5),(12,11),(23,1)] [])
 |10=>(.eqNil false (.func #[] #[3,27] false) .nilFunc)
 |11=>(.slL 1 false true true)
 |12=>(.cal 149)
 |13=>(.convI .u32)
 |14=>(.bin .rem)
 |15=>(.cal 200)
 |_=> .same
def pG4:Nat->PO
 |0=>(.build #[(.slice none 0 0),(.slice none 0 0),(.int .u64 0),(.int .u64 0)] [(0,1),(1,1),(2,1),(3,1)] [])
 |1=>(.slL 1 true false false)
 |2=>(.build #[(.int .i64 0),(.int .i64 0),(.int .i64 0),(.int .i64 0)] [(0,1),(1,1),(2,1),(3,1)] [])
 |3=>(.build (rl [(1,(.int .i64 0)),(1,(.string ⟨#[]⟩)),(2,(.int .i64 0)),(1,(.int .u64 0)),(4,(.int .i64 0)),(2,(.int .u64 0)),(1,(.slice none 0 0)),(6,(.int .i64 0)),(3,(.int .u64 0)),(1,(.int .i64 0)),(1,(.slice none 0 0)),(1,(.int .i64 0))]) [(0,1),(1,1),(2,1),(3,1),(4,1),(5,1),(6,1),(7,5),(12,11),(23,1)] [0,3,4])
 |4=>(.slS true false)
 |5=> .chS
 |6=>(.cal 147)
 |7=>(.eqNil false (.pointer 111) (.pointer none))
 |8=>(.build #[(.string ⟨#[]⟩),(.int .u64 0)] [(0,1),(1,1)] [0])
 |9=>(.eqNil false (.pointer 231) (.pointer none))
 |10=>(.slL 3 false true true)
 |11=>(.slL 2 false true true)
 |12=>(.cal 148)
 |13=>(.bin .quo)
 |14=>(.build #[(.int .i64 0),(.int .i64 0),(.int .i64 0),(.int .i64 0)] [(0,1),(1,1),(2,1),(3,1)] [0,1,2])
 |15=>(.cal 202)
 |_=> .same
def pG5:Nat->PO
 |0=>(.cal 103)
 |1=>(.convI .i32)
 |2=>(.slS false true)
 |3=>(.idxP 4 64)
 |4=>(.cal 191)
 |5=>(.build #[(.int .i64 0),(.int .i64 0)] [(0,1),(1,1)] [0,1])
 |6=>(.build #[(.int .i64 0),(.slice none 0 0)] [(0,1),(1,1)] [0])
 |7=>(.mkf (.func 67) 0)
 |8=>(.mkf (.func 68) 0)
 |9=>(.eqNil false (.func #[] #[48] false) .nilFunc)
 |10=>(.build #[(.slice none 0 0),(.slice none 0 0),(.map none),(.slice none 0 0),(.slice none 0 0)] [(0,1),(1,1),(2,1),(3,1),(4,1)] [0,1,2,3,4])
 |11=>(.build (rl [(3,(.int .i64 0)),(1,(.int .u64 0)),(1,(.slice none 0 0)),(1,(.string ⟨#[]⟩)),(1,(.int .u32 0)),(6,(.int .i64 0)),(3,(.int .u64 0)),(1,(.int .i64 0)),(1,(.slice none 0 0))]) [(0,1),(1,1),(2,1),(3,1),(4,1),(5,1),(6,1),(7,11)] [0])
 |12=>(.mkf (.func 214) 0)
 |13=>(.mkf (.func 224) 0)
 |14=>(.build #[(.int .i64 0),(.int .i64 0),(.int .i64 0),(.int .i64 0),(.int .i64 0),(.int .i64 0),(.int .i64 0),(.int .i64 0),(.int .i64 0),(.int .i64 0),(.int .i64 0),(.int .i64 0)] [(0,1),(1,1),(2,1),(3,1),(4,1),(5,1),(6,1),(7,1),(8,1),(9,1),(10,2)] [7,8,9])
 |15=>(.build (rl [(2,(.int .i64 0)),(1,(.string ⟨#[]⟩)),(1,(.int .i64 0)),(1,(.int .u64 0)),(5,(.int .i64 0)),(2,(.int .u64 0)),(1,(.slice none 0 0)),(6,(.int .i64 0)),(3,(.int .u64 0)),(1,(.int .i64 0)),(1,(.slice none 0 0))]) [(0,1),(1,1),(2,1),(3,1),(4,1),(5,1),(6,1),(7,1),(8,5),(13,11)] [0,1,3,4])
 |_=> .same
def pG6:Nat->PO
 |0=>(.build (rl [(2,(.int .i64 0)),(1,(.string ⟨#[]⟩)),(1,(.int .i64 0)),(1,(.int .u64 0)),(5,(.int .i64 0)),(2,(.int .u64 0)),(1,(.slice none 0 0)),(6,(.int .i64 0)),(3,(.int .u64 0)),(1,(.int .i64 0)),(1,(.slice none 0 0))]) [(0,1),(1,1),(2,1),(3,1),(4,1),(5,1),(6,1),(7,1),(8,5),(13,11)] [0,1,2])
 |1=>(.build (rl [(3,(.int .i64 0)),(1,(.int .u64 0)),(1,(.slice none 0 0)),(1,(.string ⟨#[]⟩)),(1,(.int .u32 0)),(6,(.int .i64 0)),(3,(.int .u64 0)),(1,(.int .i64 0)),(1,(.slice none 0 0))]) [(0,1),(1,1),(2,1),(3,1),(4,1),(5,1),(6,1),(7,11)] [0,1])
 |2=>(.build #[(.int .i64 0),(.int .i64 0),(.int .u64 0),(.int .u64 0),(.slice none 0 0)] [(0,1),(1,1),(2,1),(3,1),(4,1)] [0])
 |3=>(.slL 5 false true false)
 |4=>(.mkf (.func 280) 0)
 |5=>(.eqB true)
 |6=>(.cal 276)
 |7=>(.build #[(.int .i64 0),(.int .i64 0),(.int .i64 0),(.int .i64 0)] [(0,4)] [0])
 |8=>(.mkf (.func 188) 0)
 |9=>(.mkf (.func 294) 0)
 |10=>(.eqNil false (.slice 178) (.slice none 0 0))
 |11=>(.build #[(.int .i64 0),(.slice none 0 0)] [(0,1),(1,1)] [0,1])
 |12=>(.build (rl [(13,(.int .i64 0)),(3,(.pointer none)),(1,(.int .i64 0)),(1,(.map none))]) [(0,12),(12,1),(13,1),(14,1),(15,1),(16,1),(17,1)] [0,2,3,4,6])
 |13=>(.mkf (.func 333) 0)
 |14=>(.cal 278)
 |15=>(.build #[(.slice none 0 0),(.slice none 0 0),(.slice none 0 0),(.slice none 0 0),(.int .i64 0)] [(0,1),(1,1),(2,1),(3,1),(4,1)] [0,1])
 |_=> .same
def pG7:Nat->PO
 |0=>(.eqNil false (.slice 3) (.slice none 0 0))
 |1=>(.slL 5 true false false)
 |2=>(.build #[(.slice none 0 0),(.slice none 0 0),(.int .u64 0),(.int .u64 0)] [(0,1),(1,1),(2,1),(3,1)] [0,1,2,3])
 |3=>(.mkf (.func 226) 0)
 |4=>(.eqNil false (.map 9 3) (.map none))
 |5=>(.ifc 171)
 |6=>(.mkf (.func 289) 0)
 |7=>(.eqNil false (.slice 119) (.slice none 0 0))
 |8=>(.build #[(.int .i64 0),(.int .i64 0),(.int .i64 0),(.int .i64 0),(.int .i64 0),(.int .i64 0),(.int .u64 0),(.int .u64 0),(.int .u64 0),(.int .i64 0),(.slice none 0 0),.nilFunc] [(0,11),(11,1)] [0])
 |9=>(.build #[(.string ⟨#[]⟩),(.int .u64 0)] [(0,1),(1,1)] [])
 |10=>(.mkf (.func 58) 0)
 |11=>(.mkf (.func 168) 0)
 |12=>(.build #[(.int .i64 0),(.int .i64 0),(.int .u64 0),(.int .u64 0),(.slice none 0 0)] [(0,1),(1,1),(2,1),(3,1),(4,1)] [])
 |13=>(.eqNil false (.slice 30) (.slice none 0 0))
 |14=>(.slL 5 false true true)
 |15=>(.mkf (.func 235) 0)
 |_=> .same
def pG8:Nat->PO
 |0=>(.build #[.nilFunc,.nilFunc,.nilFunc] [(0,1),(1,1),(2,1)] [0])
 |1=>(.mkf (.func 221) 0)
 |2=>(.mkf (.func 279) 0)
 |3=>(.build #[(.pointer none),(.pointer none),(.map none)] [(0,1),(1,1),(2,1)] [0,1,2])
 |4=>(.eqNil false (.map 3 3) (.map none))
 |5=>(.build #[(.int .i64 0),(.int .i64 0),(.slice none 0 0)] [(0,1),(1,1),(2,1)] [1,2])
 |6=>(.mkf (.func 116) 0)
 |7=>(.mkf (.func 307) 0)
 |8=>(.part false 1 1)
 |9=>(.ext 3)
 |10=>(.build #[(.int .i64 0),(.int .i64 0),(.slice none 0 0)] [(0,1),(1,1),(2,1)] [2])
 |11=>(.part false 2 1)
 |12=>(.mkf (.func 142) 0)
 |13=>(.eqNil false (.slice 5) (.slice none 0 0))
 |14=>(.mkf (.func 59) 0)
 |15=>(.mkf (.func 208) 0)
 |_=> .same
def pG9:Nat->PO
 |0=>(.mkf (.func 209) 0)
 |1=>(.mkf (.func 60) 0)
 |2=>(.fld 259)
 |3=>(.mkf (.func 61) 0)
 |4=>(.idxP 64 1)
 |5=>(.mkf (.func 63) 0)
 |6=>(.mkf (.func 64) 0)
 |7=>(.build (rl [(2,(.int .i64 0)),(258,(.map none))]) [(0,1),(1,1),(2,1),(3,256),(259,1)] [0,2,4])
 |8=>(.build #[(.int .i64 0),(.int .u64 0)] [(0,1),(1,1)] [0,1])
 |9=>(.eqNil true (.pointer 220) (.pointer none))
 |10=>(.mkf (.func 65) 0)
 |11=>(.build #[(.int .i64 0),(.int .i64 0),(.int .i64 0),(.int .i64 0)] [(0,2),(2,1),(3,1)] [0])
 |12=>(.eqNil false (.pointer 220) (.pointer none))
 |_=> .same
def pH:Nat->Nat->PO
 |0,k=>pG0 k
 |1,k=>pG1 k
 |2,k=>pG2 k
 |3,k=>pG3 k
 |4,k=>pG4 k
 |5,k=>pG5 k
 |6,k=>pG6 k
 |7,k=>pG7 k
 |8,k=>pG8 k
 |9,k=>pG9 k
 |_,_=> .same
def pG (k:Nat):PO:=pH (k /16) (k %16)
def eG0:Nat->EO
 |0=>(.ld false 1)
 |1=>(.st 1)
 |2=>(.ld true 5)
 |3=>(.ld true 11)
 |4=>(.st 3)
 |5=>(.st 11)
 |6=>(.st 5)
 |7=>(.box 33)
 |8=>(.box 30)
 |9=>(.new 30 (.agg #[(.int .i64 0),(.int .i64 0),(.int .u64 0),(.int .u64 0),(.slice none 0 0)]))
 |10=>(.new 33 (.agg #[(.int .i64 0),(.int .i64 0),(.int .i64 0),(.int .i64 0),(.int .i64 0),(.int .i64 0),(.int .u64 0),(.int .u64 0),(.int .u64 0),(.int .i64 0),(.slice none 0 0)]))
 |11=>(.st 4)
 |12=> .callv
 |13=>(.app 50 50 5 1 1 (.int .u8 0))
 |14=>(.app 31 31 30 5 56 (.agg #[(.int .i64 0),(.int .i64 0),(.int .u64 0),(.int .u64 0),(.slice none 0 0)]))
 |15=>(.bsl 30 1 5 #[(.int .i64 0),(.int .i64 0),(.int .u64 0),(.int .u64 0),(.slice none 0 0)] [0])
 |_=> .an
def eG1:Nat->EO
 |0=>(.bsl 3 1 1 #[(.int .i64 0)] [0])
 |1=>(.app 28 28 3 1 8 (.int .i64 0))
 |2=>(.ld true 4)
 |3=>(.bsl 73 1 3 #[(.int .i64 0),(.int .i64 0),(.int .u64 0)] [0])
 |4=>(.lW 133)
 |5=>(.call 89)
 |6=>(.app 42 42 73 3 24 (.agg #[(.int .i64 0),(.int .i64 0),(.int .u64 0)]))
 |7=>(.st 24)
 |8=>(.call 50)
 |9=>(.new 126 (.agg #[(.int .i64 0),(.int .i64 0),(.int .i64 0),(.int .i64 0)]))
 |10=>(.new 44 (.agg #[(.int .i64 0),(.int .i64 0),(.slice none 0 0)]))
 |11=>(.call 39)
 |12=>(.st 2)
 |13=>(.call 49)
 |14=>(.call 219)
 |15=>(.call 100)
 |_=> .an
def eG2:Nat->EO
 |0=>(.mks 28 3 1 8 (.int .i64 0))
 |1=>(.bsl 50 1 1 #[(.slice none 0 0)] [0])
 |2=>(.box 48)
 |3=>(.ld true 24)
 |4=>(.box 3)
 |5=>(.bsl 5 1 1 #[(.int .u8 0)] [0])
 |6=>(.call 57)
 |7=>(.app 115 115 50 1 24 (.slice none 0 0))
 |8=>(.call 54)
 |9=>(.call 119)
 |10=>(.box 111)
 |11=>(.st 18)
 |12=>(.ld true 2)
 |13=>(.new 48 (.agg #[(.int .i64 0),(.string ⟨#[]⟩),(.int .i64 0),(.int .i64 0),(.int .u64 0),(.int .i64 0),(.int .i64 0),(.int .i64 0),(.int .i64 0),(.int .u64 0),(.int .u64 0),(.slice none 0 0),(.int .i64 0),(.int .i64 0),(.int .i64 0),(.int .i64 0),(.int .i64 0),(.int .i64 0),(.int .u64 0),(.int .u64 0),(.int .u64 0),(.int .i64 0),(.slice none 0 0),(.int .i64 0)]))
 |14=>(.call 105)
 |15=>(.new 119 (.agg #[(.string ⟨#[]⟩),(.int .u64 0)]))
 |_=> .an
def eG3:Nat->EO
 |0=>(.call 115)
 |1=>(.look 92 true)
 |2=>(.ld true 18)
 |3=>(.call 107)
 |4=>(.call 151)
 |5=>(.new 352 (.agg #[(.slice none 0 0),(.slice none 0 0),(.slice none 0 0),(.slice none 0 0),(.int .i64 0)]))
 |6=>(.call 189)
 |7=>(.call 104)
 |8=>(.call 9)
 |9=>(.call 285)
 |10=>(.call 286)
 |11=>(.new 297 (.agg #[(.slice none 0 0),(.slice none 0 0),(.int .u64 0),(.int .u64 0)]))
 |12=>(.look 293 true)
 |13=>(.new 56 (.agg #[(.int .i64 0),(.int .i64 0),(.int .i64 0),(.int .u64 0),(.slice none 0 0),(.string ⟨#[]⟩),(.int .u32 0),(.int .i64 0),(.int .i64 0),(.int .i64 0),(.int .i64 0),(.int .i64 0),(.int .i64 0),(.int .u64 0),(.int .u64 0),(.int .u64 0),(.int .i64 0),(.slice none 0 0)]))
 |14=>(.bsl 27 1 1 #[(.int .u64 0)] [0])
 |15=>(.app 232 232 27 1 8 (.int .u64 0))
 |_=> .an
def eG4:Nat->EO
 |0=>(.call 215)
 |1=>(.call 211)
 |2=>(.box 178)
 |3=>(.box 352)
 |4=>(.bsl 3 2 1 #[(.int .i64 0)] [0,1])
 |5=>(.call 112)
 |6=>(.call 114)
 |7=>(.call 133)
 |8=>(.call 108)
 |9=>(.lW 92)
 |10=>(.call 118)
 |11=>(.call 207)
 |12=>(.call 76)
 |13=>(.call 339)
 |14=>(.call 98)
 |15=>(.lW 229)
 |_=> .an
def eG5:Nat->EO
 |0=>(.box 89)
 |1=>(.mks 31 30 5 56 (.agg #[(.int .i64 0),(.int .i64 0),(.int .u64 0),(.int .u64 0),(.slice none 0 0)]))
 |2=>(.call 167)
 |3=>(.call 113)
 |4=>(.look 229 false)
 |5=>(.bi .max #[27,27] 27 #[false,false])
 |6=>(.call 95)
 |7=>(.call 91)
 |8=>(.lW 293)
 |9=>(.box 168)
 |10=>(.app 166 166 178 4 32 (.agg #[(.int .i64 0),(.int .i64 0),(.int .i64 0),(.int .i64 0)]))
 |11=>(.mks 299 4 1 1 (.bool false))
 |12=>(.call 218)
 |13=>(.new 178 (.agg #[(.int .i64 0),(.int .i64 0),(.int .i64 0),(.int .i64 0)]))
 |14=>(.call 187)
 |15=>(.box 25)
 |_=> .an
def eG6:Nat->EO
 |0=>(.ld true 12)
 |1=>(.mkm 92 false)
 |2=>(.call 131)
 |3=>(.box 35)
 |4=>(.bsl 28 1 1 #[(.slice none 0 0)] [0])
 |5=>(.app 77 77 28 1 24 (.slice none 0 0))
 |6=>(.call 26)
 |7=>(.call 75)
 |8=>(.box 56)
 |9=>(.call 338)
 |10=>(.call 13)
 |11=>(.new 185 (.agg #[.nilFunc,.nilFunc,.nilFunc]))
 |12=>(.rngS 9)
 |13=>(.nxt true 0)
 |14=>(.app 278 278 21 1 4 (.int .i32 0))
 |15=>(.bsl 5 3 1 #[(.int .u8 0)] [0,1,2])
 |_=> .an
def eG7:Nat->EO
 |0=>(.call 334)
 |1=>(.call 150)
 |2=>(.app 116 116 119 2 24 (.agg #[(.string ⟨#[]⟩),(.int .u64 0)]))
 |3=>(.bsl 119 1 2 #[(.string ⟨#[]⟩),(.int .u64 0)] [0])
 |4=>(.call 121)
 |5=>(.bsl 3 0 1 #[] [])
 |6=>(.call 317)
 |7=>(.bi .max #[3,3] 3 #[false,true])
 |8=>(.call 216)
 |9=>(.call 90)
 |10=>(.call 122)
 |11=>(.call 212)
 |12=>(.call 217)
 |13=>(.call 220)
 |14=>(.call 111)
 |15=>(.nxt false 0)
 |_=> .an
def eG8:Nat->EO
 |0=> .an
 |1=>(.mkm 213 false)
 |2=>(.call 205)
 |3=>(.call 206)
 |4=>(.bi .delete #[213,3] 0 #[false,false])
 |5=>(.call 274)
 |6=>(.look 213 false)
 |7=>(.box 164)
 |8=>(.call 201)
 |9=>(.call 169)
 |10=>(.bsl 234 1 2 #[(.int .i64 0),(.int .u64 0)] [0])
 |11=>(.mkm 293 false)
 |12=>(.call 69)
 |13=>(.call 70)
 |14=>(.call 71)
 |15=>(.call 72)
 |_=> .an
def eG9:Nat->EO
 |0=>(.call 73)
 |1=>(.call 74)
 |2=>(.app 228 228 234 2 16 (.agg #[(.int .i64 0),(.int .u64 0)]))
 |3=>(.call 254)
 |4=>(.call 222)
 |5=>(.call 143)
 |6=>(.call 233)
 |7=>(.call 8)
 |8=>(.call 223)
 |9=>(.new 35 (.agg #[(.int .i64 0),(.int .i64 0),(.string ⟨#[]⟩),(.int .i64 0),(.int .u64 0),(.int .i64 0),(.int .i64 0),(.int .i64 0),(.int .i64 0),(.int .i64 0),(.int .u64 0),(.int .u64 0),(.slice none 0 0),(.int .i64 0),(.int .i64 0),(.int .i64 0),(.int .i64 0),(.int .i64 0),(.int .i64 0),(.int .u64 0),(.int .u64 0),(.int .u64 0),(.int .i64 0),(.slice none 0 0)]))
 |10=>(.call 236)
 |11=>(.bsl 178 1 4 #[(.int .i64 0),(.int .i64 0),(.int .i64 0),(.int .i64 0)] [0])
 |12=>(.call 14)
 |13=>(.call 15)
 |14=>(.call 27)
 |15=>(.mkm 229 false)
 |_=> .an
def b9a:Nat->EO
 |0=>(.call 24)
 |1=>(.call 66)
 |2=>(.call 281)
 |3=>(.box 231)
 |4=>(.mks 278 21 1 4 (.int .i32 0))
 |5=>(.bsl 21 2 1 #[(.int .i32 0)] [0,1])
 |6=>(.mkm 293 true)
 |7=>(.bsl 21 1 1 #[(.int .i32 0)] [0])
 |8=>(.bsl 5 2 1 #[(.int .u8 0)] [0,1])
 |9=>(.call 337)
 |10=>(.box 348)
 |11=>(.bsl 5 4 1 #[(.int .u8 0)] [0,1,2,3])
 |12=>(.new 234 (.agg #[(.int .i64 0),(.int .u64 0)]))
 |13=>(.call 331)
 |14=>(.call 316)
 |15=>(.call 277)
 |_=> .an
def caa:Nat->EO
 |0=>(.b2s 50 9)
 |1=>(.call 204)
 |2=>(.call 203)
 |3=>(.bsl 126 1 4 #[(.int .i64 0),(.int .i64 0),(.int .i64 0),(.int .i64 0)] [0])
 |4=>(.look 171 true)
 |5=>(.lW 171)
 |6=>(.cext 306)
 |7=>(.tas 20 171 false)
 |8=>(.bsl 119 0 2 #[] [])
 |9=>(.app 123 123 126 4 32 (.agg #[(.int .i64 0),(.int .i64 0),(.int .i64 0),(.int .i64 0)]))
 |10=>(.call 97)
 |11=>(.bi .delete #[229,3] 0 #[false,false])
 |12=>(.call 232)
 |13=>(.call 99)
 |14=>(.call 318)
 |15=>(.bi .max #[38,38] 38 #[false,false])
 |_=> .an
def cba:Nat->EO
 |0=>(.box 232)
 |1=>(.bsl 178 0 4 #[] [])
 |2=>(.call 120)
 |3=>(.new 175 (.agg #[(.map none),(.int .i64 0),(.slice none 0 0),(.int .u64 0),(.int .u64 0)]))
 |4=>(.call 251)
 |5=>(.call 94)
 |6=>(.box 369)
 |7=>(.call 332)
 |8=>(.call 252)
 |9=>(.call 213)
 |10=>(.call 171)
 |11=>(.call 145)
 |12=>(.box 287)
 |13=>(.bsl 3 6 1 #[(.int .i64 0)] [0,1,2,3,4,5])
 |14=>(.call 123)
 |15=>(.call 146)
 |_=> .an
def cca:Nat->EO
 |0=>(.call 96)
 |1=>(.bsl 30 0 5 #[] [])
 |2=>(.call 153)
 |3=>(.call 152)
 |4=>(.call 32)
 |5=>(.call 33)
 |6=>(.call 34)
 |7=>(.call 101)
 |8=>(.call 284)
 |9=>(.bi .min #[27,27] 27 #[false,false])
 |10=>(.call 106)
 |11=>(.call 287)
 |12=>(.call 170)
 |13=>(.bi .delete #[92,3] 0 #[false,false])
 |14=>(.call 288)
 |15=>(.call 35)
 |_=> .an
def cda:Nat->EO
 |0=>(.call 117)
 |1=>(.call 234)
 |2=>(.call 225)
 |3=>(.new 42 (.slice none 0 0))
 |4=>(.call 109)
 |5=>(.call 110)
 |6=>(.bi .len #[92] 3 #[false])
 |7=>(.box 94)
 |8=>(.box 300)
 |9=>(.call 36)
 |10=>(.call 37)
 |11=>(.call 38)
 |12=>(.call 40)
 |13=>(.call 41)
 |14=>(.call 42)
 |15=>(.call 43)
 |_=> .an
def cea:Nat->EO
 |0=>(.call 44)
 |1=>(.call 45)
 |2=>(.call 46)
 |3=>(.call 47)
 |4=>(.ld true 3)
 |5=>(.new 94 (.agg #[(.int .i64 0),(.int .i64 0),(.int .i64 0),(.int .i64 0),(.int .i64 0),(.int .i64 0),(.int .i64 0),(.int .i64 0),(.int .i64 0),(.int .i64 0),(.int .i64 0),(.int .i64 0),(.int .i64 0),(.pointer none),(.pointer none),(.pointer none),(.int .i64 0),(.map none)]))
 |6=>(.call 192)
 |7=>(.call 193)
 |8=>(.call 194)
 |9=>(.rng 92)
 |10=>(.box 229)
 |11=>(.call 135)
 |12=>(.box 92)
 |13=>(.call 92)
 |14=>(.call 51)
 |15=>(.call 52)
 |_=> .an
def cfa:Nat->EO
 |0=>(.call 53)
 |1=>(.call 55)
 |2=>(.bsl 3 3 1 #[(.int .i64 0)] [0,1,2])
 |3=>(.call 23)
 |4=>(.look 92 false)
 |5=>(.call 56)
 |6=>(.call 132)
 |7=>(.bsl 1 1 1 #[.nilFunc] [0])
 |8=>(.call 186)
 |9=>(.call 134)
 |10=>(.call 139)
 |11=>(.call 10)
 |12=>(.mks 50 5 1 1 (.int .u8 0))
 |13=>(.call 174)
 |14=>(.call 173)
 |15=>(.bsl 5 0 1 #[] [])
 |_=> .an
def cga:Nat->EO
 |0=>(.call 172)
 |1=>(.app 300 300 1 1 8 .nilFunc)
 |2=>(.cnv 9 50)
 |3=>(.box 37)
 |4=>(.call 124)
 |5=>(.call 253)
 |6=>(.new 283 (.pointer none))
 |7=>(.call 154)
 |8=>(.cext 275)
 |9=>(.call 156)
 |10=>(.call 282)
 |11=>(.mkm 133 false)
 |12=>(.box 217)
 |13=>(.call 283)
 |14=>(.bi .len #[213] 3 #[false])
 |15=>(.box 220)
 |_=> .an
def cha:Nat->EO
 |0=>(.lW 213)
 |1=>(.call 136)
 |2=>(.call 138)
 |3=>(.look 133 false)
 |4=>(.call 81)
 |5=>(.call 199)
 |6=>(.rng 213)
 |7=>(.bsl 164 1 2 #[(.int .i64 0),(.int .i64 0)] [0])
 |8=>(.app 161 161 164 2 16 (.agg #[(.int .i64 0),(.int .i64 0)]))
 |_=> .an
def eH:Nat->Nat->EO
 |0,k=>eG0 k
 |1,k=>eG1 k
 |2,k=>eG2 k
 |3,k=>eG3 k
 |4,k=>eG4 k
 |5,k=>eG5 k
 |6,k=>eG6 k
 |7,k=>eG7 k
 |8,k=>eG8 k
 |9,k=>eG9 k
 |10,k=>b9a k
 |11,k=>caa k
 |12,k=>cba k
 |13,k=>cca k
 |14,k=>cda k
 |15,k=>cea k
 |16,k=>cfa k
 |17,k=>cga k
 |18,k=>cha k
 |_,_=> .an
def eG (k:Nat):EO:=eH (k /16) (k %16)
def vG0:Nat->Value
 |0=>(.int .i64 0)
 |1=>(.bool false)
 |2=>(.bool true)
 |3=>(.int .i64 1)
 |4=>(.tuple #[])
 |5=>(.slice none 0 0)
 |6=>(.int .u64 0)
 |7=>(.int .i64 2)
 |8=>(.pointer none)
 |9=>(.int .i64 3)
 |10=>(.int .i64 4)
 |11=>(.int .u8 63)
 |12=>(.int .i64 5)
 |13=>(.int .i64 200)
 |14=>(.int .u64 6)
 |15=>(.int .u8 128)
 |_=>undef
def vG1:Nat->Value
 |0=>(.int .u64 4611686018427387904)
 |1=>(.int .i64 16)
 |2=>(.int .i64 7)
 |3=>(.int .i64 6)
 |4=>(.int .i64 10)
 |5=>(.int .i64 142)
 |6=>(.int .u64 12)
 |7=>(.int .i64 1099511627776)
 |8=>(.int .i64 64)
 |9=>(.int .i64 9)
 |10=>(.int .i32 2097152)
 |11=>(.int .i64 (-1))
 |12=>(.string ⟨#[]⟩)
 |13=>(.int .i64 8)
 |14=>(.int .i64 234)
 |15=>(.int .i64 512)
 |_=>undef
def vG2:Nat->Value
 |0=>(.int .u64 24)
 |1=>(.map none)
 |2=>(.int .i32 90)
 |3=>(.int .i32 192)
 |4=>(.int .i32 215)
 |5=>(.int .i32 913)
 |6=>(.int .i32 937)
 |7=>(.int .i32 930)
 |8=>(.int .i32 1040)
 |9=>(.int .i32 1025)
 |10=>(.int .u64 5)
 |11=>(.int .i32 32)
 |12=>(.int .i64 232)
 |13=>(.int .i64 236)
 |14=>(.int .u64 18)
 |15=>(.int .u32 65535)
 |_=>undef
def vG3:Nat->Value
 |0=>(.int .i64 11)
 |1=>(.int .i64 231)
 |2=>(.int .i64 14)
 |3=>(.int .i32 65)
 |4=>(.int .i64 240)
 |5=>(.int .i64 (-77))
 |6=>(.int .i32 1105)
 |7=>(.string ⟨#[239,191,189]⟩)
 |8=>(.int .u64 2)
 |9=>(.int .i64 143)
 |10=>(.int .i64 151)
 |11=> .nilFunc
 |12=>(.int .i32 222)
 |13=>(.int .i32 247)
 |14=>(.int .i32 122)
 |15=>(.int .i64 12)
 |_=>undef
def vG4:Nat->Value
 |0=>(.int .i32 945)
 |1=>(.int .i32 969)
 |2=>(.int .i32 1103)
 |3=>(.string ⟨#[110,111,98,111,100,121]⟩)
 |4=>(.int .i32 0)
 |5=>(.int .i32 1071)
 |6=>(.int .i32 962)
 |7=>(.int .i32 65533)
 |8=>(.int .i64 210)
 |9=>(.int .i32 45)
 |10=>(.int .i64 24)
 |11=>(.int .i32 223)
 |12=>(.int .i32 115)
 |13=>(.int .u32 2047)
 |14=>(.int .i32 95)
 |15=>(.int .u8 192)
 |_=>undef
def vG5:Nat->Value
 |0=>(.int .i32 48)
 |1=>(.int .i32 57)
 |2=>(.int .u32 55296)
 |3=>(.int .u32 57343)
 |4=>(.int .i64 170)
 |5=>(.int .u8 224)
 |6=>(.int .u32 1114111)
 |7=>(.int .i32 97)
 |8=>(.int .u8 240)
 |9=>(.int .u32 127)
 |10=>(.func (.func 166) #[] #[])
 |11=>(.string ⟨#[98,97,110,107]⟩)
 |12=>(.func (.func 154) #[] #[])
 |13=>(.func (.func 155) #[] #[])
 |14=>(.func (.func 156) #[] #[])
 |15=>(.func (.func 157) #[] #[])
 |_=>undef
def vG6:Nat->Value
 |0=>(.func (.func 158) #[] #[])
 |1=>(.func (.func 159) #[] #[])
 |2=>(.func (.func 160) #[] #[])
 |3=>(.func (.func 161) #[] #[])
 |4=>(.func (.func 162) #[] #[])
 |5=>(.func (.func 163) #[] #[])
 |6=>(.func (.func 164) #[] #[])
 |7=>(.func (.func 165) #[] #[])
 |8=>(.int .i64 9223372036854775807)
 |9=>(.int .i64 2147483648)
 |10=>(.int .u64 1)
 |11=>(.int .i64 239)
 |12=>(.int .i32 255)
 |13=>(.int .i64 233)
 |14=>(.int .i64 1073741824)
 |15=>(.int .i64 255)
 |_=>undef
def vG7:Nat->Value
 |0=>(.int .u64 127)
 |1=>(.int .u64 7)
 |2=>(.int .i64 90)
 |3=>(.int .i64 1048576)
 |4=>(.int .i64 65536)
 |5=>(.int .i64 152)
 |6=>(.int .i64 41)
 |7=>(.int .i64 140)
 |8=>(.int .i64 141)
 |9=>(.int .i64 144)
 |10=>(.int .i64 220)
 |11=>(.int .i64 42)
 |12=>(.int .i64 40)
 |13=>(.int .i64 235)
 |14=>(.int .i64 20)
 |15=>(.int .i32 963)
 |_=>undef
def vG8:Nat->Value
 |0=>(.int .i64 150)
 |1=>(.int .i64 237)
 |2=>(.int .i64 238)
 |3=>(.int .i64 (-78))
 |4=>(.func (.func 144) #[] #[])
 |5=>(.func (.func 319) #[] #[])
 |6=>(.int .i64 21)
 |7=>(.int .u8 239)
 |8=>(.func (.func 210) #[] #[])
 |9=>(.func (.func 318) #[] #[])
 |10=>(.int .u8 191)
 |11=>(.int .i64 92)
 |12=>(.int .u8 189)
 |13=>(.int .i64 91)
 |14=>(.int .i64 93)
 |_=>undef
def vH:Nat->Nat->Value
 |0,k=>vG0 k
 |1,k=>vG1 k
 |2,k=>vG2 k
 |3,k=>vG3 k
 |4,k=>vG4 k
 |5,k=>vG5 k
 |6,k=>vG6 k
 |7,k=>vG7 k
 |8,k=>vG8 k
 |_,_=>undef
def vG (k:Nat):Value:=vH (k /16) (k %16)
def tG:xj:=⟨pG,eG,vG⟩
theorem H2 {x:Int} (h1:0<=x) (h2:x<=4294967295):IntKind.u32.wrap x=x:=IntWalk.u32_in x ⟨h1,h2⟩
section
variable {P:Program} {K:Value->World->Prop} {w w0:World} {F:ak}
theorem cells_one {x:Value} (h1:x.oneCell'=true):x.cells= #[x]:=by cases x<;>first|rfl|(simp [Value.oneCell'] at h1)
theorem RE (n:Nat) (z:Value):((Array.range n).map λi=>(#[z])[i %(#[z]).size]!)=(List.replicate n z).toArray:=by
 apply Array.ext
 ·simp
 ·intro i h1 h2
  simp [Nat.mod_one]
theorem uD {e:Nat} {z x y:Value} (s:St w0 F w) (h1:x.oneCell'=true) (h2:y.oneCell'=true)
  (hk:∀b w',St w0 (F*pt b (.cells #[x,y] e (0,0))) w'->K (.slice (some ⟨b,0,none⟩) 2 2) w'):aA P (.bsl e 2 1 #[z] [0,1]) [x,y] K w:=by
 refine lA (cells:= #[x,y]) s ?_ hk;rw [RE];simp [Instr.fill,cells_one h1,cells_one h2]
theorem Cc {e:Nat} {z x y u:Value} (s:St w0 F w) (h1:x.oneCell'=true) (h2:y.oneCell'=true) (h3:u.oneCell'=true)
  (hk:∀b w',St w0 (F*pt b (.cells #[x,y,u] e (0,0))) w'->K (.slice (some ⟨b,0,none⟩) 3 3) w'):aA P (.bsl e 3 1 #[z] [0,1,2]) [x,y,u] K w:=by
 refine lA (cells:= #[x,y,u]) s ?_ hk;rw [RE];simp [Instr.fill,cells_one h1,cells_one h2,cells_one h3]
theorem KN {e:Nat} {z x y u v:Value} (s:St w0 F w) (h1:x.oneCell'=true) (h2:y.oneCell'=true) (h3:u.oneCell'=true) (h4:v.oneCell'=true)
  (hk:∀b w',St w0 (F*pt b (.cells #[x,y,u,v] e (0,0))) w'->K (.slice (some ⟨b,0,none⟩) 4 4) w'):aA P (.bsl e 4 1 #[z] [0,1,2,3]) [x,y,u,v] K w:=by
 refine lA (cells:= #[x,y,u,v]) s ?_ hk;rw [RE];simp [Instr.fill,cells_one h1,cells_one h2,cells_one h3,cells_one h4]
theorem sv {t e size bytes l c:Nat} {k k':IntKind} {z:Value} (s:St w0 F w) (hlc:l<=c) (hm:c<=maxLen) (hb:bytes*c<=281474976710656) (hz:z.cells.size=size)
  (hk:∀v w',St w0 (F*HL.own e size v l (((Array.range (c*size)).map (z.cells[· %z.cells.size]!)).toList.take (l*size))) w'->K v w'):aA P (.mks t e size bytes z) [.int k l,.int k' c] K w:=by
 rintro ⟨ht,i,hi,hiz,rfl,rfl⟩;have hc2:(c:Int)<=9223372036854775807:=by simp only [maxLen] at hm;omega
 have wc:IntKind.i64.wrap (c:Int)=c:=wrap64 (by omega) hc2;have wl:IntKind.i64.wrap (l:Int)=l:=wrap64 (by omega) (by omega);refine aK (w':=w.alloc (.cells ((Array.range (c*i.size)).map (z.cells[· %z.cells.size]!)) e)) (v:= .slice (some ⟨w.heap.size,0,none⟩) l c) ?_ (hk _ _ ?_)
 ·have hb':¬(281474976710656<(i.bytes:Int)*(c:Int)):=by rw [<-Int.natCast_mul];omega
  have hlt:¬((c:Int)<(l:Int)):=by omega
  have hc0:¬((c:Int)<0):=by omega
  have hl0:¬((l:Int)<0):=by omega
  have hr0:Array.range 0= #[]:=rfl;have hnew:∀cs,(newRow e cs).run P w= .ok ⟨w.heap.size,0,none⟩ (w.alloc (.cells cs e)):=λcs=>by simp [newRow]
  have hzv:(zeroValue e).run P w= .ok z w:=by simp [zeroValue,typeInfo,hi,hiz,Sem.run_bind]
  by_cases h0:c*i.size=0
  ·have e1:c=0\/i.size=0:=Nat.mul_eq_zero.1 h0
   simp [Instr.makeSlice,run_underlying ht,typeInfo,hi,sizeOf,wc,wl,asInt,asIntOf,hb',hlt,hc0,hl0,h0,e1,hnew,hr0]
  ·simp [Instr.makeSlice,run_underlying ht,typeInfo,hi,sizeOf,wc,wl,asInt,asIntOf,hb',hlt,hc0,hl0,h0,hnew,hzv]
 ·refine St.vS (s.alloc (by rfl)) hlc hm (by simp) rfl
@[simp] theorem bva {F:PF P} {env:List Value} {Kr} (a b:RT) (bvs:List Value):qt F (.bool false) true a b env Kr bvs w=b.wp F env Kr bvs w:=rfl
@[simp] theorem bwa {F:PF P} {env:List Value} {Kr} (a b:RT) (bvs:List Value):qt F (.bool true) false a b env Kr bvs w=b.wp F env Kr bvs w:=rfl
def cj (l:List UInt8):List Value:=l.map λb=> .int .u8 b.toNat
theorem Dp:∀(l:List UInt8) (s:ByteArray),l.foldl (λb a=>b.push a) s=⟨s.data++l.toArray⟩
 | [],s=>by simp
 |b::l,s=>by rw [List.foldl_cons,Dp l];simp [ByteArray.push]
theorem Dv (P:Program) (w:World):∀(l:List UInt8) (s:ByteArray),(forIn (cj l) s (λc s=>(match c with
    | .int .u8 n=>pure (ForInStep.yield (s.push (UInt8.ofNat n.toNat)))
    |x=>do
     stuck (α:=Unit) "bytesToString: byte expected"
     pure (ForInStep.yield s):Sem (ForInStep ByteArray)))).run P w= .ok ⟨s.data++l.toArray⟩ w
 | [],s=>by simp [cj]
 |b::l,s=>by have ih:=Dv P w l (s.push b);simp only [cj] at ih;simp only [cj,List.map_cons,List.forIn_cons,Sem.run_bind];simp;rw [Dp];apply congrArg;simp
theorem NR {t d e n:Nat} {v:Value} {bs:List UInt8} (s:St w0 (F*HL.own e 1 v n (cj bs)) w) (hk:K (.string (mk bs)) w):aA P (.b2s t d) [v] K w:=by
 intro _;rcases s.iI with ⟨hx,rfl⟩|⟨g,cap,rfl,hn,hc⟩
 ·have:bs= []:=by simpa [cj] using hx
  subst this;exact aK (w':=w) (v:= .string (mk [])) (by simp [Conv.bytesToString];rfl) hk
 ·refine aK (w':=w) (v:= .string (mk bs)) ?_ hk
  have hl:(cj bs).length=n:=by simpa using s.own.1
  have:=run_loadCells_list (P:=P) w ⟨g,0,none⟩ (cj bs) (by intro j u hj;rw [eZ,Nat.zero_add];exact hc j u hj)
  rw [hl] at this;have hp:=Dv P w bs .empty;simp only [Conv.bytesToString,Sem.run_bind,this,Result.andThen_ok];rw [List.forIn_toArray];refine (congrArg (λr=>Result.andThen r _) hp).trans ?_;simp
end
section
variable {P:Program} {F:PF P} {env bvs:List Value} {w:World} {Q:EX->List Value->World->Prop} {C:World->Prop}
def Eb (P:Program) (C:World->Prop) (eo:EO) (vs:List Value) (K:Value->Prop):Prop:=∃v,(∀w,C w->Ed P C eo vs v w)/\K v
def RQ (F:PF P) (C:World->Prop) (env:List Value) (K:List Value->Option Value->Prop) (k:RT) (bvs:List Value) (v:Value):Prop:=k.np F C env K (bvs++ [v])
def wR (F:PF P) (C:World->Prop) (c:Value) (v:Bool) (a b:RT) (env:List Value) (K:List Value->Option Value->Prop) (bvs:List Value):Prop:=if ov c v=true then a.np F C env K bvs else b.np F C env K bvs
def Mh (C:World->Prop) (Q:EX->List Value->World->Prop) (env:List Value) (_:Option Value):Prop:=∀w,C w->Q .nrm env w
def SA (F:PF P) (C:World->Prop) (x y:HC) (Q:EX->List Value->World->Prop) (env:List Value) (c:Option Value):Prop:=∀w,C w->gG F (c.getD undef) x y Q env w
@[simp] theorem a0a {K} (sets:List (Nat×SE)) (c:Option SE):(RT.done sets c).np F C env K bvs=K (cV F env bvs sets env) (c.map (SE.val F env bvs)):=rfl
@[simp] theorem bTa {K} (g:Option (SE×Bool)) (p:PO) (xs:dt) (k:RT):(RT.chk g p xs k).np F C env K bvs=((bI F env bvs g->p.ok F (dt.dF F env bvs xs))/\k.np F C env K bvs):=rfl
@[simp] theorem bVa {K} (g:Option (SE×Bool)) (c:SE) (k:RT):(RT.isb g c k).np F C env K bvs=((bI F env bvs g->∃b,SE.val F env bvs c= .bool b)/\k.np F C env K bvs):=rfl
@[simp] theorem bUa {K} (eo:EO) (xs:dt) (k:RT):(RT.eff eo xs k).np F C env K bvs=Eb P C eo (dt.dF F env bvs xs) (RQ F C env K k bvs):=rfl
@[simp] theorem bSa {K} (e:SE) (k:RT):(RT.jQ e k).np F C env K bvs=k.np F C env K (bvs++ [SE.val F env bvs e]):=rfl
@[simp] theorem bWa {K} (c:SE) (v:Bool) (a b:RT):(RT.ite c v a b).np F C env K bvs=wR F C (SE.val F env bvs c) v a b env K bvs:=rfl
@[simp] theorem Xp {K} (k:RT) (v:Value):RQ F C env K k bvs v=k.np F C env K (bvs++ [v]):=rfl
@[simp] theorem bua {K} (a b:RT):wR F C (.bool true) true a b env K bvs=a.np F C env K bvs:=rfl
@[simp] theorem bsa {K} (a b:RT):wR F C (.bool false) true a b env K bvs=b.np F C env K bvs:=rfl
@[simp] theorem YD (c:Option Value):Mh C Q env c=∀w,C w->Q .nrm env w:=rfl
@[simp] theorem Y3 (x y:HC) (c:Option Value):SA F C x y Q env c=∀w,C w->gG F (c.getD undef) x y Q env w:=rfl
theorem SC {w0:World} {A:ak} {m:MO} {t:RT} {x y:HC} (s:St w0 A w) (h:t.np F (St w0 A) env (SA F (St w0 A) x y Q) []):(HC.brq m t x y).wp F Q env w:= .inl ⟨St w0 A,s.drew,h⟩
theorem Mi {w0:World} {A:ak} {m:MO} {t:RT} (s:St w0 A w) (h:t.np F (St w0 A) env (Mh (St w0 A) Q) []):(HC.regq m t).wp F Q env w:= .inl ⟨St w0 A,s.drew,h⟩
theorem aV {a:Addr} {n:Nat} {v:Value} {K:Value->Prop} (hc:∀w,C w->w.cell? a=some v) (hk:K v):Eb P C (.ld false n) [.pointer (some a)] K:=by
 refine ⟨v,λw hw _=> ?_,hk⟩;have:=hc w hw;have hr:(tK false n (.pointer (some a))).run P w= .ok v w:=by simp [tK,Instr.sureAddr,this]
 simp only [EO.mg,dB,Sem.run_bind,hr,Result.andThen_ok,Sem.run_pure];exact ⟨rfl,rfl⟩
theorem kM {f:FuncId} {vs:List Value} {v:Value} {K:Value->Prop} (hc:∀w,C w->aj P f vs (λr w'=>r=v/\C w') w) (hk:K v):Eb P C (.call f) vs K:=by refine ⟨v,λw hw hb=> ?_,hk⟩;simp only [EO.mg,dw hb];exact ⟨rfl,Calls.mono (hc w hw) λe w' ⟨r,he,hr,h⟩=>⟨hr▸he,h⟩⟩
end
section
variable {P:Program} {K:Value->World->Prop} {w w0:World} {F:ak}
theorem aB {b off m:Nat} {vs:List Value} (hc:∀j u,vs[j]? =some u->w.cell? ⟨b,off+j,none⟩=some u) (hl:vs.length=m) (hk:K (.agg vs.toArray) w):
  aA P (.ld true m) [.pointer (some ⟨b,off,none⟩)] K w:=by
 intro _;refine aK (w':=w) ?_ hk;have:=run_loadCells_list (P:=P) w ⟨b,off,none⟩ vs (by intro j v hj;rw [eZ];exact hc j v hj)
 rw [hl] at this;simp [tK,Instr.sureAddr,this]
def Row (w0:World) (A:ak) (v:Value) (n size:Nat) (xs:List Value):Prop:=
 xs.length=n*size/\∃a cap,v= .slice a n cap/\n<=cap/\
  (n=0\/∃g o,a=some ⟨g,o,none⟩/\∀w,St w0 A w->∀j u,xs[j]? =some u->w.cell? ⟨g,o+j,none⟩=some u)
theorem Row.mono {A B:ak} {v:Value} {n size:Nat} {xs:List Value} (h:Row w0 A v n size xs) (hs:∀w,St w0 B w->St w0 A w):Row w0 B v n size xs:=by
 obtain ⟨hl,a,cap,rfl,hn,h⟩:=h;refine ⟨hl,a,cap,rfl,hn,?_⟩;rcases h with h|⟨g,o,rfl,hc⟩
 ·exact .inl h
 ·exact .inr ⟨g,o,rfl,λw s=>hc w (hs w s)⟩
theorem Row.val {A:ak} {v:Value} {n size:Nat} {xs:List Value} (h:Row w0 A v n size xs):∃a cap,v= .slice a n cap:=by obtain ⟨_,a,cap,rfl,_⟩:=h;exact ⟨_,_,rfl⟩
theorem Row.at {A:ak} {v:Value} {n size:Nat} {xs:List Value} (h:Row w0 A v n size xs) (hn:0<n):
  ∃g o cap,v= .slice (some ⟨g,o,none⟩) n cap/\∀w,St w0 A w->∀j u,xs[j]? =some u->w.cell? ⟨g,o+j,none⟩=some u:=by
 obtain ⟨_,a,cap,rfl,_,h|⟨g,o,rfl,hc⟩⟩:=h
 ·omega
 ·exact ⟨g,o,cap,rfl,hc⟩
theorem nR {A:ak} {e size n:Nat} {v:Value} {xs:List Value} (s:St w0 (A*own e size v n xs) w):Row w0 (A*own e size v n xs) v n size xs:=by
 refine ⟨s.own.1,?_⟩;rcases s.iI with ⟨_,rfl⟩|⟨g,cap,rfl,hn,_⟩
 ·obtain ⟨a,cap,h,hn,_⟩:=s.ax
  cases h;exact ⟨none,0,rfl,Nat.le_refl _,.inl rfl⟩
 ·refine ⟨some ⟨g,0,none⟩,cap,rfl,hn,.inr ⟨g,0,rfl,λw' s' j u hu=> ?_⟩⟩
  rcases s'.iI with ⟨_,h⟩|⟨g',cap',h,_,hc⟩
  ·cases h
  ·cases h
   rw [Nat.zero_add];exact hc j u hu
theorem cR {e size n g cap j:Nat} {u:Value} {xs:List Value} (s:St w0 (F*HL.own e size (.slice (some ⟨g,0,none⟩) n cap) n xs) w) (hj:j<xs.length) (h1:u.oneCell'=true)
  (hk:∀w',St w0 (F*HL.own e size (.slice (some ⟨g,0,none⟩) n cap) n (xs.set j u)) w'->K undef w'):aA P (.st 1) [.pointer (some ⟨g,j,none⟩),u] K w:=by
 rcases s.own.2 with ⟨h,_⟩|⟨g',cap',cur,h,hn,hm,hc,ht,s'⟩
 ·cases h
 ·cases h
  have hl:xs.length=n*size:=s.own.1;have:n*size<=cap*size:=Nat.mul_le_mul_right _ hn;refine cH s' h1 (by omega) λw' s2=>hk w' (s2.nP hn hm (by simpa using hc) ?_);rw [Array.toList_setIfInBounds,List.take_set,ht]
end
section
variable {α:Type}
theorem cY (f:α->List Value) (c:Nat) (hf:∀a,(f a).length=c):∀l:List α,(l.flatMap f).length=l.length*c
 | []=>by simp
 |a::l=>by rw [List.flatMap_cons,List.length_append,hf,cY f c hf l,List.length_cons,Nat.add_mul];omega
theorem xK (f:α->List Value) (c:Nat) (hf:∀a,(f a).length=c):∀(l:List α) (i:Nat),(l.flatMap f).drop (i*c)=(l.drop i).flatMap f
 |l,0=>by simp
 | [],i+1=>by simp
 |a::l,i+1=>by rw [List.flatMap_cons,List.drop_succ_cons,<-xK f c hf l i,Nat.add_mul,Nat.one_mul,Nat.add_comm,<-List.drop_drop,<-hf a,List.drop_left]
theorem K5 (f:α->List Value) (c:Nat) (hf:∀a,(f a).length=c) (l:List α) (i:Nat) (h:i<l.length):((l.flatMap f).drop (i*c)).take c=f l[i]:=by rw [xK f c hf,List.drop_eq_getElem_cons h,List.flatMap_cons,<-hf l[i],List.take_left]
theorem dJ (f:α->List Value) (c:Nat) (hf:∀a,(f a).length=c) (l:List α) (i k:Nat) (h:i<l.length) (hk:k<c):(l.flatMap f)[i*c+k]? =(f l[i])[k]?:=by rw [<-K5 f c hf l i h,List.getElem?_take,if_pos hk,List.getElem?_drop]
theorem uT (f:α->List Value) (c:Nat) (hf:∀a,(f a).length=c) (x:α):∀(l:List α) (i:Nat) (h:i<l.length),(l.flatMap f).take (i*c)++f x++(l.flatMap f).drop (i*c+c)=(l.set i x).flatMap f
 |a::l,0,_=>by rw [Nat.zero_mul,Nat.zero_add,List.take_zero,List.nil_append,List.set_cons_zero,List.flatMap_cons,List.flatMap_cons,<-hf a,List.drop_left]
 |a::l,i+1,h=>by
  have ih:=uT f c hf x l i (by simpa using h);have e1:(i+1)*c=c+i*c:=by rw [Nat.add_mul];omega
  have e2:(i+1)*c+c=c+(i*c+c):=by omega
  rw [List.set_cons_succ,List.flatMap_cons,List.flatMap_cons,<-ih,e2,e1,<-hf a,List.take_length_add_append,<-List.drop_drop,List.drop_left,List.append_assoc,List.append_assoc,hf a,List.append_assoc]
end
theorem qJ:∀(vs:List Value) (o:Nat) (c:List Value),o+vs.length<=c.length->
  ((vs.zipIdx o).foldl (λ(cs:Array Value) x=>cs.setIfInBounds x.2 x.1) c.toArray)=(c.take o++vs++c.drop (o+vs.length)).toArray
 | [],o,c,_=>by simp
 |v::vs,o,c,h=>by
  simp only [List.length_cons] at h;rw [List.zipIdx_cons,List.foldl_cons];have e:c.toArray.setIfInBounds o v=(c.set o v).toArray:=by simp
  simp only [e];rw [qJ vs (o+1) (c.set o v) (by rw [List.length_set];omega)]
  congr 1
  have hlt:o<c.length:=by omega
  rw [List.set_eq_take_append_cons_drop,if_pos hlt];have hl:(c.take o).length=o:=by simp;omega
  have t1:(c.take o++v::c.drop (o+1)).take (o+1)=c.take o++ [v]:=by rw [List.take_append,hl,List.take_take,Nat.min_eq_right (by omega),show o+1 -o=1 by omega];rfl
  have t2:(c.take o++v::c.drop (o+1)).drop (o+1+vs.length)=c.drop (o+(vs.length+1)):=by
   rw [List.drop_append,hl,List.drop_of_length_le (by rw [hl];omega),show o+1+vs.length -o=vs.length+1 by omega,List.drop_succ_cons,List.drop_drop,List.nil_append]
   congr 1;omega
  rw [t1,t2];simp
theorem Zy (z:Array Value) (size:Nat) (v:Value) (hv:v.cells.size=size):Instr.fill (λi=>some (i*size,size)) ((Array.range (1*size)).map λi=>z[i %z.size]!) [(0,v)]=some v.cells:=by
 have hf:=qJ v.cells.toList 0 ((Array.range (1*size)).map λi=>z[i %z.size]!).toList (by simp [hv]);simp only [Instr.fill,Nat.zero_mul,Nat.zero_add,hv];rw [if_neg (by simp)]
 congr 1
 have e:v.cells.zipIdx=(v.cells.toList.zipIdx 0).toArray:=by apply Array.ext';simp
 rw [e,List.size_toArray,List.foldl_toArray']
 ·rw [Array.toArray_toList] at hf
  refine hf.trans ?_;have hd:List.drop (0+v.cells.toList.length) ((Array.range (1*size)).map λi=>z[i %z.size]!).toList= []:=List.drop_of_length_le (by simp [hv]);rw [hd];simp
 ·rfl
theorem bC {P:Program} {K:Value->World->Prop} {w w0:World} {F:ak} {e size:Nat} {z:Array Value} {v:Value} (s:St w0 F w) (hv:v.cells.size=size)
  (hk:∀b w',St w0 (F*pt b (.cells v.cells e (0,0))) w'->K (.slice (some ⟨b,0,none⟩) 1 1) w'):aA P (.bsl e 1 size z [0]) [v] K w:=
 lA s (Zy z size v hv) hk
theorem mB {P:Program} {K:Value->World->Prop} {w w0:World} {F:ak} {e size:Nat} {z:Array Value} (s:St w0 F w)
  (hk:∀v w',St w0 (F*own e size v 0 []) w'->K v w'):aA P (.bsl e 0 size z []) [] K w:=
 lA (cells:= #[]) s (by simp [Instr.fill]) λb w' s'=>hk _ w' (s'.vS (Nat.le_refl 0) (Nat.zero_le _) (by simp) (by simp))
@[simp] theorem qy (c:Array Value):(Value.agg c).cells=c:=rfl
theorem ar {P:Program} {env:List Value} {i n b off:Nat} {vs:List Value} {r:List RV} {K:List Value->World->Prop} {w:World} (he:env.getD i undef= .pointer (some ⟨b,off,none⟩))
  (hc:∀j u,vs[j]? =some u->w.cell? ⟨b,off+j,none⟩=some u) (hl:vs.length=n) (hk:yx P env r (λus w=>K (.agg vs.toArray::us) w) w):yx P env (.cell i true n::r) K w:=by
 have:=run_loadCells_list (P:=P) w ⟨b,off,none⟩ vs (by intro j v hj;rw [eZ];exact hc j v hj)
 rw [hl] at this;show fV P (dB (tK true n (env.getD i undef))) _ w;rw [he];refine aK (w':=w) (v:= .agg vs.toArray) ?_ ⟨rfl,hk⟩;simp [tK,Instr.sureAddr,this]
theorem St.ad {w0 w:World} {F:ak} {b:Nat} {vs:List Value} {t:TypeId} {f:Nat×Nat} (s:St w0 (F*pt b (.cells vs.toArray t f)) w):∀j u,vs[j]? =some u->w.cell? ⟨b,0+j,none⟩=some u:=by
 intro j u hu;rw [cell_of s.look,Nat.zero_add]
 simpa using hu
instance:Std.Associative (α:=ak) (·*·):=⟨au⟩
instance:Std.Commutative (α:=ak) (·*·):=⟨gy⟩
theorem St.to {w0 w:World} {A B:ak} (s:St w0 A w) (h:A=B):St w0 B w:=h▸s
theorem St.cut {w0 w:World} {A B:ak} (C:ak) (s:St w0 A w) (h:A=B*C):St w0 B w:=(s.to h).drop
end Go.HL
