/- Part 12. -/
import Derived.Test.YtflblkahfegaoaaGreatSTMk
import Derived.MapKept
set_option linter.unusedSimpArgs false
set_option linter.unusedVariables false
set_option maxRecDepth 4000
namespace Go.HL
def Ia {α:Type} (F:α→al):al:=fun h=>∃a,F a h
theorem mu {α:Type} {w0 w:World} {A:al} {F:α→al} (s:St w0 (A*Ia F) w):∃a,St w0 (A*F a) w:=by
 obtain ⟨g,h1,h2,h3,d,e,a,m,b⟩:=s.holds;exact ⟨m,s.of ⟨g,h1,h2,h3,d,e,a,b⟩⟩
theorem tT {α:Type} {w0 w:World} {A:al} {F:α→al} (x:α) (s:St w0 (A*F x) w):St w0 (A*Ia F) w:=by
 obtain ⟨g,h1,h2,h3,d,e,a,b⟩:=s.holds;exact s.of ⟨g,h1,h2,h3,d,e,a,x,b⟩
section
variable {P:Program} {F0:PF P} {F:al} {K:Value→World→Prop} {w w0:World}
structure En where
 k:Int
 v:Value
 b:Nat
def bc (es:List En):Array MapEntry:=(es.map fun e=>(⟨.int .i64 e.k,e.v,e.b⟩:MapEntry)).toArray
def cO:List En→Int→Option Value
 | [],_=>none
 |e::r,k=>if k=e.k then some e.v else cO r k
def nO:List En→Int→Value→List En
 | [],_,_=> []
 |e::r,k,v=>if k=e.k then ⟨e.k,v,e.b⟩::r else e::nO r k v
def oX:List En→Int→List En
 | [],_=> []
 |e::r,k=>if k=e.k then r else e::oX r k
def kP:List En→Int→Nat→Option Nat
 | [],_,_=>none
 |e::r,k,i=>if k=e.k then some i else kP r k (i+1)
theorem B8 (k:Int):∀(es:List En) (i:Nat),Instr.findNow (.int .i64) (.int .i64 k) (bc es).toList i=some ((kP es k i).bind fun j=>(cO es k).map fun v=>(j,v))
 | [],_=>rfl
 |e::r,i=>by
  have h:=B8 k r (i+1);simp only [bc,List.toList_toArray] at h;simp only [bc,List.toList_toArray,List.map_cons,Instr.findNow,Instr.sameNow,if_true,kP,cO]
  by_cases hk:k=e.k
  ·subst hk;simp
  ·simp only [beq_eq_false_iff_ne.2 hk,hk,if_false]
   exact h
theorem nE (k:Int):∀(es:List En) (i:Nat),(kP es k i).isSome=(cO es k).isSome
 | [],_=>rfl
 |e::r,i=>by
  simp only [kP,cO];split
  ·rfl
  ·exact nE k r (i+1)
theorem An (k:Int):∀(es:List En) (i j:Nat),kP es k i=some j→i≤j
 | [],_,_,h=>by cases h
 |e::r,i,j,h=>by
  simp only [kP] at h;split at h
  ·cases h;exact Nat.le_refl _
  ·have:=An k r _ _ h;omega
theorem LL (k:Int) (v:Value):∀(es:List En) (i j:Nat),kP es k i=some j→(bc es).modify (j -i) (fun e=>{e with key:= .int .i64 k,val:=v})=bc (nO es k v)
 | [],_,_,h=>by cases h
 |e::r,i,j,h=>by
  simp only [kP] at h;apply Array.ext'
  by_cases hk:k=e.k
  ·rw [if_pos hk] at h
   cases h;subst hk;simp [bc,nO,Array.toList_modify,List.modify]
  ·rw [if_neg hk] at h
   have hge:=An k r _ _ h;have ih:=congrArg Array.toList (LL k v r _ _ h);obtain ⟨d,rfl⟩:∃d,j=i+1+d:=⟨j -(i+1),by omega⟩;have e1:i+1+d -i=d+1:=by omega
   have e2:i+1+d -(i+1)=d:=by omega
   rw [e2] at ih;rw [e1];simp only [bc,Array.toList_modify,List.toList_toArray,List.map_cons,nO,hk,if_false,List.modify_succ_cons,List.cons.injEq,true_and] at ih⊢;exact ih
theorem J7 (k:Int):∀(es:List En) (i j:Nat),kP es k i=some j→(bc es).eraseIdxIfInBounds (j -i)=bc (oX es k)
 | [],_,_,h=>by cases h
 |e::r,i,j,h=>by
  simp only [kP] at h;apply Array.ext'
  by_cases hk:k=e.k
  ·rw [if_pos hk] at h
   cases h;subst hk;simp [bc,oX,Array.eraseIdxIfInBounds]
  ·rw [if_neg hk] at h
   have hge:=An k r _ _ h;have ih:=congrArg Array.toList (J7 k r _ _ h);obtain ⟨d,rfl⟩:∃d,j=i+1+d:=⟨j -(i+1),by omega⟩;have e1:i+1+d -i=d+1:=by omega
   have e2:i+1+d -(i+1)=d:=by omega
   have key:∀(l:List MapEntry) (n:Nat),(l.toArray.eraseIdxIfInBounds n).toList=l.eraseIdx n:=by
    intro l n;unfold Array.eraseIdxIfInBounds;split
    ·simp
    ·rename_i hh
     rw [List.eraseIdx_of_length_le (by simpa using hh)]
   simp only [e2,bc,key] at ih;simp only [e1,bc,key,List.map_cons,oX,hk,if_false,List.eraseIdx_cons_succ,List.toList_toArray,List.cons.injEq,true_and]
   simpa using ih
structure pY (P:Program) (t kt ke:TypeId) (z:Value):Prop where
 ty:P.underlying t=some (.map kt ke)
 key:P.underlying kt=some (.int .i64)
 zero:(P.info? ke).bind (·.zero)=some z
abbrev ay (m:Nat) (es:List En) (c:Nat):al:=pt m (.map (bc es) c)
variable {t kt ke:TypeId} {z:Value}
theorem MW (T:pY P t kt ke z) (e:Bool) (k:Int):(Instr.checkKey e 10000 kt (.int .i64 k)).run P w= .ok () w:=MapKept.run_checkKey (P:=P) (w:=w) T.key (show MapKept.IsKey (.int .i64) (.int .i64 k) from rfl) e 9999
theorem Nd (T:pY P t kt ke z) (k:Int) (es:List En):(Instr.findKey kt (.int .i64 k) (bc es).toList).run P w= .ok ((kP es k 0).bind fun j=>(cO es k).map fun v=>(j,v)) w:=MapKept.run_findKey (P:=P) (w:=w) T.key (B8 k es 0)
theorem zrI (T:pY P t kt ke z):(zeroValue ke).run P w= .ok z w:=by
 obtain ⟨i,hi,hz⟩:=Option.bind_eq_some_iff.1 T.zero;simp [zeroValue,typeInfo,hi,hz]
theorem Nf {es:List En} {k:Int}:((kP es k 0).bind fun j=>(cO es k).map fun v=>(j,v)).map (·.2)=cO es k:=by
 have:=nE k es 0;cases hp:kP es k 0 with
 |none=>rw [hp] at this;cases hg:cO es k with
  |none=>rfl
  |some v=>rw [hg] at this;cases this
 |some j=>cases hg:cO es k<;>rfl
theorem qv (T:pY P t kt ke z) {m:Nat} {es:List En} {c:Nat} (hb:w.heap[m]?=some (.map (bc es) c)) (k:Int) (ok:Bool):
  (Instr.lookup t (.map (some m)) (.int .i64 k) ok).run P w= .ok (if ok then .tuple #[(cO es k).getD z,.bool (cO es k).isSome] else (cO es k).getD z) w:=by
 have hg:=Nf (es:=es) (k:=k);simp only [Instr.lookup,Sem.run_bind,run_underlying T.ty,MapKept.run_getObj_map hb,Result.andThen_ok,Sem.run_pure,MW T,Nd T];cases hf:((kP es k 0).bind fun j=>(cO es k).map fun v=>(j,v)) with
 |none=>rw [hf] at hg;rw [←hg];simp [zrI T]
 |some q=>rw [hf] at hg;rw [←hg];simp
theorem wM (T:pY P t kt ke z) {m:Nat} {es:List En} {c:Nat} (hb:w.heap[m]?=some (.map (bc es) c)) {k:Int} (hk:K ((cO es k).getD z) w):aG P (.look t false) [.map (some m),.int .i64 k] K w:=by
 intro _;exact aN (qv T hb k false) hk
theorem fN (T:pY P t kt ke z) {m:Nat} {es:List En} {c:Nat} (hb:w.heap[m]?=some (.map (bc es) c)) {k:Int} (hk:K (.tuple #[(cO es k).getD z,.bool (cO es k).isSome]) w):aG P (.look t true) [.map (some m),.int .i64 k] K w:=by
 intro _;exact aN (qv T hb k true) hk
theorem od {C:List Value→World→Prop} {q:Nat→List Value→Value} {n:Nat} {vs:List Value} (T:pY P t kt ke z) {m:Nat} {es:List En} {c:Nat} {k:Int} {K:Value→List Value→Prop}
  (hb:∀vs' w,era n vs'=era n vs→C vs' w→w.heap[m]?=some (.map (bc es) c)) (hk:K ((cO es k).getD z) vs):sU F0 C q n (.look t false) [.map (some m),.int .i64 k] vs K:=
 pe (s:=Instr.lookup t (.map (some m)) (.int .i64 k) false) rfl (fun vs' w he hw=>qv T (hb vs' w he hw) k false) hk
theorem pd (s:St w0 F w) (hk:∀b w',St w0 (F*ay b [] 0) w'→K (.map (some b)) w'):aG P (.mkm t false) [] K w:=by
 intro _;refine aN (s:=Instr.makeMap t none) (v:= .map (some w.heap.size)) (w':=w.alloc (.map (bc []) 0)) ?_ (hk _ _ (s.alloc trivial));simp [Instr.makeMap,newObj,Sem.run,bc,Sem.bind]
theorem Mc {m:Nat} {o:Obj} {es':List En} {c':Nat} (s:St w0 (F*pt m o) w):St w0 (F*ay m es' c') {w with heap:=w.heap.setIfInBounds m (.map (bc es') c')}:=by
 have hs:=MapKept.heap_set (o':= .map (bc es') c') s.look;exact s.vo (o':= .map (bc es') c') hs.1 hs.2 (by simp) rfl rfl (fun _ _ _ h=>by cases h)
theorem kD (T:pY P t kt ke z) {m:Nat} {es:List En} {c:Nat} {k:Int} {v:Value} (s:St w0 (F*ay m es c) w) (hn:cO es k=none)
  (hk:∀w',St w0 (F*ay m (es++ [⟨k,v,c⟩]) (c+1)) w'→K undef w'):aG P (.lh t) [.map (some m),.int .i64 k,v] K w:=by
 intro _;refine kX (s:=Instr.mapUpdate t (.map (some m)) (.int .i64 k) v) ?_ (hk _ (Mc s));have hb:=s.look;have hp:kP es k 0=none:=by
  have:=nE k es 0;rw [hn] at this
  simpa using this
 have he:(bc es).push ⟨.int .i64 k,v,c⟩=bc (es++ [⟨k,v,c⟩]):=by apply Array.ext';simp [bc]
 simp only [Instr.mapUpdate,Sem.run_bind,run_underlying T.ty,MapKept.run_getObj_map hb,Result.andThen_ok,MW T,Nd T,hp,Option.bind_none,he];rw [MapKept.run_setObj_map _ hb]
theorem wN (T:pY P t kt ke z) {m:Nat} {es:List En} {c:Nat} {k:Int} {v u:Value} (s:St w0 (F*ay m es c) w) (hn:cO es k=some u)
  (hk:∀w',St w0 (F*ay m (nO es k v) c) w'→K undef w'):aG P (.lh t) [.map (some m),.int .i64 k,v] K w:=by
 intro _;refine kX (s:=Instr.mapUpdate t (.map (some m)) (.int .i64 k) v) ?_ (hk _ (Mc s));have hb:=s.look;obtain ⟨j,hp⟩:∃j,kP es k 0=some j:=by
  have:=nE k es 0;rw [hn] at this;exact Option.isSome_iff_exists.1 this
 have hs:=LL k v es 0 j hp;rw [Nat.sub_zero] at hs;have hkey:((bc es)[j]?.map (·.key)).getD (.int .i64 k)= .int .i64 k:=by
  have key:∀(es:List En) (i j:Nat),kP es k i=some j→∀e,es[j -i]?=some e→e.k=k:=by
   intro es
   induction es with
   |nil=>intro i j h;cases h
   |cons x r ih=>
    intro i j h e he;simp only [kP] at h;split at h
    ·rename_i hx
     cases h;simp only [Nat.sub_self,List.getElem?_cons_zero,Option.some.injEq] at he;rw [←he,hx]
    ·have hge:=An k r _ _ h
     refine ih (i+1) j h e ?_;have:j -i=(j -(i+1))+1:=by omega
     rw [this,List.getElem?_cons_succ] at he;exact he
  cases hj:es[j]? with
  |none=>simp [bc,hj]
  |some e=>
   have:=key es 0 j hp e (by simpa using hj);simp [bc,hj,this]
 simp only [Instr.mapUpdate,Sem.run_bind,run_underlying T.ty,MapKept.run_getObj_map hb,Result.andThen_ok,MW T,Nd T,hp,hn,Option.bind_some,Option.map_some,hkey];rw [MapKept.run_keyThatStays (show MapKept.IsKey (.int .i64) (.int .i64 k) from rfl)];simp only [Result.andThen_ok,hs];rw [MapKept.run_setObj_map _ hb]
theorem jt:∀(es:List En) (k:Int),cO es k=none→oX es k=es
 | [],_,_=>rfl
 |e::r,k,h=>by
  simp only [cO] at h;split at h
  ·cases h
  ·rename_i hk;simp only [oX,hk,if_false,jt r k h]
theorem BO {kt' ty:TypeId} {cs:Array Bool} (T:pY P t kt ke z) {m:Nat} {es:List En} {c:Nat} {k:Int} (s:St w0 (F*ay m es c) w)
  (hk:∀w',St w0 (F*ay m (oX es k) c) w'→K (.tuple #[]) w'):aG P (.bi .delete #[t,kt'] ty cs) [.map (some m),.int .i64 k] K w:=by
 intro _;refine aN (s:=Builtin.delete_ #[t,kt'] ty #[.map (some m),.int .i64 k]) ?_ (hk _ (Mc s));have hb:=s.look;simp only [Builtin.delete_,List.getElem?_toArray,List.getElem?_cons_zero,List.getElem?_cons_succ,Sem.run_bind,run_underlying T.ty,MapKept.run_getObj_map hb,Result.andThen_ok,MW T,Nd T];cases hp:kP es k 0 with
 |none=>
  have hn:cO es k=none:=by
   have:=nE k es 0;rw [hp] at this
   simpa using this.symm
  simp only [Option.bind_none,jt es k hn,Sem.run_bind];rw [MapKept.run_setObj_map _ hb];simp
 |some j=>
  obtain ⟨v,hv⟩:∃v,cO es k=some v:=by
   have:=nE k es 0;rw [hp] at this;exact Option.isSome_iff_exists.1 this.symm
  have hs:=J7 k es 0 j hp;rw [Nat.sub_zero] at hs;simp only [hv,Option.bind_some,Option.map_some,hs,Sem.run_bind];rw [MapKept.run_setObj_map _ hb];simp
theorem Kd (hu:P.underlying t=some (.map kt ke)) {m:Nat} {es:List En} {c:Nat} (s:St w0 F w) (hb:w.heap[m]?=some (.map (bc es) c))
  (hk:∀b w',St w0 (F*pt b (.mapIter (some m) c #[] c)) w'→K (.pointer (some ⟨b,0,none⟩)) w'):aG P (.rng t) [.map (some m)] K w:=by
 intro _;refine aN (s:=Instr.range t (.map (some m))) ?_ (hk _ _ (s.alloc trivial));simp [Instr.range,run_underlying hu,MapKept.run_getObj_map hb,Result.andThen]
theorem mP {r:Nat} {m:Option Nat} {a c:Nat} {seen:Array Nat} (hb:w.heap[r]?=some (.mapIter m a seen c)):(getObj r).run P w= .ok (.mapIter m a seen c) w:=by
 simp [getObj,Sem.run,hb]
theorem C7 {r:Nat} {m:Option Nat} {a c:Nat} {seen:Array Nat} (o:Obj) (hb:w.heap[r]?=some (.mapIter m a seen c)):(setObj r o).run P w= .ok () {w with heap:=w.heap.setIfInBounds r o}:=by
 simp [setObj,Sem.run,hb]
theorem choose_lt (n:Nat) (hn:0<n):∃i w',i<n∧(choose (.mapNext n)).run P w= .ok i w'∧(w'=w∨w'=w.drew):=by
 rw [run_choose_drew]
 by_cases h:n≤1
 ·exact ⟨0,w,hn,by simp [Question.forced,h],.inl rfl⟩
 ·exact ⟨_,w.drew,Nat.mod_lt (w.tape w.drawn (.mapNext n)) hn,by simp [Question.forced,h,Question.cut],.inr rfl⟩
def j5 (es:List En) (seen:Array Nat):List En:=es.filter fun e=> !seen.contains e.b
theorem xm (es:List En) (seen:Array Nat):((bc es).filter fun e=> !seen.contains e.born)=bc (j5 es seen):=by
 apply Array.ext';simp only [bc,j5,Array.toList_filter,List.toList_toArray,List.filter_map];rfl
theorem GJ {es:List En} {c:Nat} (h:∀e∈es,e.b<c):((bc es).filter fun e=>decide (e.born<c))=bc es:=by
 apply Array.ext';simp only [bc,Array.toList_filter,List.toList_toArray];refine List.filter_eq_self.2 fun x hx=> ?_;obtain ⟨e,he,rfl⟩:=List.mem_map.1 hx;exact decide_eq_true (h e he)
theorem CE {es:List En} {c:Nat} (h:∀e∈es,e.b<c):((bc es).filter fun e=>decide (e.born≥c))= #[]:=by
 apply Array.ext';simp only [bc,Array.toList_filter,List.toList_toArray];refine List.filter_eq_nil_iff.2 fun x hx=> ?_;obtain ⟨e,he,rfl⟩:=List.mem_map.1 hx;have:=h e he;simp;omega
theorem Kc {ty:TypeId} {b m:Nat} {es:List En} {c:Nat} {seen:Array Nat} (s:St w0 (F*ay m es c*pt b (.mapIter (some m) c seen c)) w) (hc:∀e∈es,e.b<c)
  (hk1:∀e∈es,e.b∉seen→∀w',St w0 (F*ay m es c*pt b (.mapIter (some m) c (seen.push e.b) c)) w'→K (.tuple #[.bool true,.int .i64 e.k,e.v]) w')
  (hk2:(∀e∈es,e.b∈seen)→∀w',St w0 (F*ay m es c*pt b (.mapIter (some m) c seen c)) w'→K (.tuple #[.bool false]) w'):aG P (.nxt false ty) [.pointer (some ⟨b,0,none⟩)] K w:=by
 intro _;have hi:=s.look;have hm:=s.swap.look;have hlt:∀e∈j5 es seen,e.b<c:=fun e he=>hc e (List.mem_filter.1 he).1;have hall:(!seen.isEmpty&& !(bc es).isEmpty&&(bc es).all fun x=>decide (x.born≥c))=false:=by
  cases es with
  |nil=>simp [bc]
  |cons e r=>
   have:=hc e (.head _);have hf:((bc (e::r)).all fun x=>decide (x.born≥c))=false:=by
    have:¬c≤e.b:=by omega
    simp [bc,this]
   rw [hf,Bool.and_false]
 by_cases hl:j5 es seen= []
 ·have hno:∀e∈es,e.b∈seen:=fun e he=>by
   have:=List.filter_eq_nil_iff.1 hl e he
   simpa using this
  refine aN (s:=Instr.next (.pointer (some ⟨b,0,none⟩)) false ty) (w':=w) ?_ (hk2 hno w s);have hch:(choose (.mapNext 1)).run P w= .ok 0 w:=by rw [run_choose_drew];simp [Question.forced]
  simp only [Instr.next,Sem.run_bind,mP hi,Result.andThen_ok,MapKept.run_getObj_map hm,hall,Sem.run_ite,xm,GJ hlt,CE hlt,hl];simp [bc,hch,Question.forced]
 ·have hpos:0<(j5 es seen).length:=List.length_pos_iff.2 hl
  obtain ⟨i,w1,hil,hch,hw1⟩:=choose_lt (P:=P) (w:=w) (j5 es seen).length hpos;have hmem:=List.getElem_mem hil;obtain ⟨hme,hns⟩:=List.mem_filter.1 hmem;have hns:(j5 es seen)[i].b∉seen:=by simpa using hns
  have s1:St w0 (F*ay m es c*pt b (.mapIter (some m) c seen c)) w1:=by rcases hw1 with rfl|rfl;exact s;exact s.drew
  have hi1:=s1.look;have hs:=MapKept.heap_set (o':= .mapIter (some m) c (seen.push (j5 es seen)[i].b) c) hi1;refine aN (s:=Instr.next (.pointer (some ⟨b,0,none⟩)) false ty) (w':={w1 with heap:=w1.heap.setIfInBounds b (.mapIter (some m) c (seen.push (j5 es seen)[i].b) c)}) ?_ (hk1 _ hme hns _ (s1.vo (o':= .mapIter (some m) c (seen.push (j5 es seen)[i].b) c) hs.1 hs.2 (by simp) rfl rfl (fun _ _ _ h=>by cases h)));have hne:(bc (j5 es seen)).isEmpty=false:=by
   cases hq:j5 es seen with
   |nil=>exact absurd hq hl
   |cons _ _=>simp [bc]
  have hsz:(bc (j5 es seen)).size=(j5 es seen).length:=by simp [bc]
  simp only [Instr.next,Sem.run_bind,mP hi,Result.andThen_ok,MapKept.run_getObj_map hm,hall,Sem.run_ite,xm,GJ hlt,CE hlt,hne];simp only [Array.size_append,Array.size_map,hsz,Array.size_empty,Nat.zero_add,if_false,Array.append_empty,Array.empty_append,Bool.false_eq_true,Sem.run_bind,hch,Result.andThen_ok];simp [hsz,hch,bc,hil,C7 _ hi1]
theorem M4 {b m:Nat} {es:List En} {a c:Nat} {seen:Array Nat} {e:En} (s:St w0 (F*ay m es c*pt b (.mapIter (some m) a (seen.push e.b) c)) w) (he:e∈es) (hn:(es.map (·.b)).Nodup)
  (hk:K (.tuple #[.int .i64 e.k,e.v]) w):aG P .an [.pointer (some ⟨b,0,none⟩)] K w:=by
 intro _;have hi:=s.look;have hm:=s.swap.look;have hf:(bc es).find? (fun x=>x.born==e.b)=some ⟨.int .i64 e.k,e.v,e.b⟩:=by
  have key:∀(es:List En),e∈es→(es.map (·.b)).Nodup→(es.map fun e=>(⟨.int .i64 e.k,e.v,e.b⟩:MapEntry)).find? (fun x=>x.born==e.b)=some ⟨.int .i64 e.k,e.v,e.b⟩:=by
   intro es
   induction es with
   |nil=>intro h;cases h
   |cons x r ih=>
    intro h hn;rw [List.map_cons,List.nodup_cons] at hn
    by_cases hx:x.b=e.b
    ·rcases List.mem_cons.1 h with rfl|h
     ·simp
     ·exact absurd (List.mem_map.2 ⟨e,h,hx.symm⟩) hn.1
    ·rcases List.mem_cons.1 h with rfl|h
     ·exact absurd rfl hx
     ·rw [List.map_cons,List.find?_cons_of_neg (by simpa using hx)]
      exact ih h hn.2
  simpa [bc] using key es he hn
 refine aN (s:=Instr.entry (.pointer (some ⟨b,0,none⟩))) (w':=w) ?_ hk;simp only [Instr.entry,Sem.run_bind,mP hi,Result.andThen_ok,Array.back?_push,MapKept.run_getObj_map hm,hf];simp
end
structure okE (es:List En) (c:Nat):Prop where
 lt:∀e∈es,e.b<c
 bn:(es.map (·.b)).Nodup
 kn:(es.map (·.k)).Nodup
end Go.HL
namespace Go.HL.Es
open Go.HL
abbrev Rw:=Int×Int
def bX:List Rw→Int→Int
 | [],_=>0
 |r::t,k=>if k=r.1 then r.2 else bX t k
def del (k:Int) (l:List Rw):List Rw:=l.filter fun r=>decide (r.1≠k)
def ins (k v:Int):List Rw→List Rw
 | []=> [(k,v)]
 |r::t=>if k<r.1 then (k,v)::r::t else r::ins k v t
def fw (k v:Int) (l:List Rw):List Rw:=if v=0 then del k l else ins k v (del k l)
def fo (l:List Rw):Prop:=l.Pairwise (fun a b=>a.1<b.1)∧∀r∈l,1≤r.1∧r.1<9223372036854775808∧0<r.2
theorem px (k v:Int):∀l:List Rw,(ins k v l).Perm ((k,v)::l)
 | []=> .refl _
 |r::t=>by
  simp only [ins];split
  ·exact .refl _
  ·exact ((px k v t).cons r).trans (.swap _ _ _)
theorem pw {k v:Int} {l:List Rw} {x:Rw}:x∈ins k v l↔x=(k,v)∨x∈l:=by rw [(px k v l).mem_iff];simp
theorem ja {k:Int} {l:List Rw} {x:Rw}:x∈del k l↔x∈l∧x.1≠k:=by simp [del]
theorem uu {k v:Int}:∀{l:List Rw},l.Pairwise (fun a b=>a.1<b.1)→(∀r∈l,r.1≠k)→(ins k v l).Pairwise (fun a b=>a.1<b.1)
 | [],_,_=>by simp [ins]
 |r::t,h,hk=>by
  simp only [List.pairwise_cons] at h;simp only [ins];split
  ·rename_i hlt
   simp only [List.pairwise_cons,List.mem_cons];refine ⟨?_,h.1,h.2⟩;rintro x (rfl|hx)
   ·exact hlt
   ·have:=h.1 x hx;omega
  ·rename_i hlt
   have hr:=hk r (.head _);simp only [List.pairwise_cons];refine ⟨fun x hx=> ?_,uu h.2 fun y hy=>hk y (.tail _ hy)⟩;rcases pw.1 hx with rfl|hx
   ·simp only;omega
   ·exact h.1 x hx
theorem nF {k v:Int} {l:List Rw} (h:fo l) (hk:1≤k∧k<9223372036854775808) (hv:0≤v):fo (fw k v l):=by
 have hd:(del k l).Pairwise (fun a b=>a.1<b.1):=h.1.filter _;unfold fw;split
 ·exact ⟨hd,fun r hr=>h.2 r (ja.1 hr).1⟩
 ·refine ⟨uu hd fun r hr=>(ja.1 hr).2,fun r hr=> ?_⟩
  rcases pw.1 hr with rfl|hr
  ·exact ⟨hk.1,hk.2,by simp only;omega⟩
  ·exact h.2 r (ja.1 hr).1
theorem jX {l:List Rw} (h:l.Pairwise (fun a b=>a.1≠b.1)) {k v:Int} (hm:(k,v)∈l):bX l k=v:=by
 induction l with
 |nil=>cases hm
 |cons r t ih=>
  simp only [List.pairwise_cons] at h;simp only [bX];rcases List.mem_cons.1 hm with rfl|hm
  ·simp
  ·have:=h.1 _ hm
   rw [if_neg (fun e=>this e.symm)];exact ih h.2 hm
theorem kz {l:List Rw} {k:Int} (h:∀r∈l,r.1≠k):bX l k=0:=by
 induction l with
 |nil=>rfl
 |cons r t ih=>
  simp only [bX];rw [if_neg (fun e=>h r (.head _) e.symm)];exact ih fun x hx=>h x (.tail _ hx)
theorem fo.ne {l:List Rw} (h:fo l):l.Pairwise (fun a b=>a.1≠b.1):=h.1.imp fun h=>by omega
theorem p9 {l:List Rw} (k:Int):(∃v,(k,v)∈l)∨∀r∈l,r.1≠k:=by
 by_cases h:∃v,(k,v)∈l
 ·exact .inl h
 ·refine .inr fun r hr e=>h ⟨r.2,?_⟩
  subst e;exact hr
theorem kA {k v:Int} {l:List Rw} (h:fo l) (hk:1≤k∧k<9223372036854775808) (hv:0≤v) (j:Int):bX (fw k v l) j=if j=k then v else bX l j:=by
 have ok:=nF h hk hv
 by_cases e:j=k
 ·subst e
  rw [if_pos rfl]
  by_cases hz:v=0
  ·rw [hz]
   refine kz fun r hr=> ?_;simp only [fw,if_true] at hr;exact (ja.1 hr).2
  ·refine jX ok.ne ?_
   simp only [fw,hz,if_false];exact pw.2 (.inl rfl)
 ·rw [if_neg e]
  rcases p9 (l:=l) j with ⟨u,hu⟩|hn
  ·rw [jX h.ne hu]
   refine jX ok.ne ?_;have hd:(j,u)∈del k l:=ja.2 ⟨hu,e⟩;unfold fw;split
   ·exact hd
   ·exact pw.2 (.inr hd)
  ·rw [kz hn]
   refine kz fun r hr=> ?_;unfold fw at hr;split at hr
   ·exact hn r (ja.1 hr).1
   ·rcases pw.1 hr with rfl|hr
    ·exact fun h=>e h.symm
    ·exact hn r (ja.1 hr).1
theorem tv {l:List Rw} (h:fo l) (k:Int):0≤bX l k:=by
 rcases p9 (l:=l) k with ⟨u,hu⟩|hn
 ·rw [jX h.ne hu];have:=(h.2 _ hu).2.2;simp only at this;omega
 ·rw [kz hn];exact Int.le_refl _
theorem fo.tail {r:Rw} {t:List Rw} (h:fo (r::t)):fo t:=⟨(List.pairwise_cons.1 h.1).2,fun x hx=>h.2 x (.tail _ hx)⟩
theorem jo {r:Rw} {t:List Rw}:bX (r::t) r.1=r.2:=by simp [bX]
theorem nk {l:List Rw} {k:Int} (h:∀r∈l,k<r.1):bX l k=0:=kz fun r hr e=>by have:=h r hr;omega
theorem LD:∀{l l':List Rw},fo l→fo l'→(∀k,bX l k=bX l' k)→l=l'
 | [],[],_,_,_=>rfl
 | [],r::t,_,h',he=>by
  have h1:=he r.1;rw [jo] at h1;have h2:=(h'.2 r (.head _)).2.2;simp only [bX] at h1;omega
 |r::t,[],h,_,he=>by
  have h1:=he r.1;rw [jo] at h1;have h2:=(h.2 r (.head _)).2.2;simp only [bX] at h1;omega
 |r::t,r'::t',h,h',he=>by
  have s1:=(List.pairwise_cons.1 h.1).1;have s2:=(List.pairwise_cons.1 h'.1).1;have p1:=(h.2 r (.head _)).2.2;have p2:=(h'.2 r' (.head _)).2.2;have e1:r.1=r'.1:=by
   rcases Int.lt_trichotomy r.1 r'.1 with hlt|he'|hlt
   ·have h1:=he r.1
    rw [jo,nk (fun x hx=>by
     rcases List.mem_cons.1 hx with rfl|hx
     ·exact hlt
     ·have:=s2 x hx;omega)] at h1
    omega
   ·exact he'
   ·have h1:=he r'.1
    rw [jo,nk (fun x hx=>by
     rcases List.mem_cons.1 hx with rfl|hx
     ·exact hlt
     ·have:=s1 x hx;omega)] at h1
    omega
  have e2:r.2=r'.2:=by
   have h1:=he r.1;rw [jo,e1,jo] at h1;exact h1
  have er:r=r':=Prod.ext e1 e2;subst er
  congr 1
  refine LD h.tail h'.tail fun k=> ?_;have h1:=he k;simp only [bX] at h1
  by_cases hk:k=r.1
  ·subst hk
   rw [nk s1,nk s2]
  ·rw [if_neg hk,if_neg hk] at h1
   exact h1
theorem I7 {k v:Int} {l:List Rw} (h:fo l) (hk:1≤k∧k<9223372036854775808) (hv:0≤v):fw k (bX l k) (fw k v l)=l:=by
 have h1:=nF h hk hv;have h0:=tv h k;refine LD (nF h1 hk h0) h fun j=> ?_;rw [kA h1 hk h0,kA h hk hv]
 by_cases e:j=k
 ·rw [if_pos e,e]
 ·rw [if_neg e,if_neg e]
def qC (e:En):Int×Value:=(e.k,e.v)
def Lp (r:Rw):Int×Value:=(r.1,.int .u64 r.2)
structure EH (es:List En) (c:Nat) (l:List Rw):Prop where
 perm:(es.map qC).Perm (l.map Lp)
 keys:(es.map (·.k)).Nodup
 borns:(es.map (·.b)).Nodup
 clock:∀e∈es,e.b<c
theorem get_mem {es:List En} (h:(es.map (·.k)).Nodup) {k:Int} {v:Value} (hm:(k,v)∈es.map qC):cO es k=some v:=by
 induction es with
 |nil=>simp at hm
 |cons e t ih=>
  simp only [List.map_cons,List.nodup_cons] at h;simp only [cO];simp only [List.map_cons,List.mem_cons] at hm;rcases hm with hm|hm
  ·simp only [qC,Prod.mk.injEq] at hm
   rw [if_pos hm.1,hm.2]
  ·have:k≠e.k:=by
    rintro rfl;apply h.1;obtain ⟨x,hx,hx2⟩:=List.mem_map.1 hm;simp only [qC,Prod.mk.injEq] at hx2;exact List.mem_map.2 ⟨x,hx,hx2.1⟩
   rw [if_neg this];exact ih h.2 hm
theorem get_none {es:List En} {k:Int} (h:∀e∈es,e.k≠k):cO es k=none:=by
 induction es with
 |nil=>rfl
 |cons e t ih=>
  simp only [cO];rw [if_neg (fun x=>h e (.head _) x.symm)];exact ih fun x hx=>h x (.tail _ hx)
theorem EH.get {es:List En} {c:Nat} {l:List Rw} (h:EH es c l) (ok:fo l) (k:Int):(cO es k).getD (.int .u64 0)= .int .u64 (bX l k)∧(cO es k=none↔∀r∈l,r.1≠k):=by
 rcases p9 (l:=l) k with ⟨u,hu⟩|hn
 ·have hm:(k,Value.int .u64 u)∈es.map qC:=h.perm.mem_iff.2 (List.mem_map.2 ⟨_,hu,rfl⟩)
  rw [get_mem h.keys hm,jX ok.ne hu];exact ⟨rfl,⟨fun h=>(by cases h),fun h=>absurd rfl (h _ hu)⟩⟩
 ·have:cO es k=none:=get_none fun e he hk=>by
   have:qC e∈l.map Lp:=h.perm.mem_iff.1 (List.mem_map.2 ⟨e,he,rfl⟩);obtain ⟨r,hr,hr2⟩:=List.mem_map.1 this;simp only [qC,Lp,Prod.mk.injEq] at hr2;exact hn r hr (hr2.1.trans hk)
  rw [this,kz hn];exact ⟨rfl,by simpa using hn⟩
theorem js:∀(es:List En) (k:Int),(oX es k).Sublist es
 | [],_=> .slnil
 |e::r,k=>by
  simp only [oX];split
  ·exact .cons _ (.refl _)
  ·exact (js r k).cons_cons _
theorem yG:∀{es:List En} {k:Int},(es.map (·.k)).Nodup→(oX es k).map qC=(es.map qC).filter fun x=>decide (x.1≠k)
 | [],_,_=>rfl
 |e::r,k,h=>by
  simp only [List.map_cons,List.nodup_cons] at h;simp only [oX,List.map_cons]
  by_cases hk:k=e.k
  ·subst hk
   rw [if_pos rfl];rw [List.filter_cons_of_neg (by simp [qC])];refine (List.filter_eq_self.2 fun x hx=> ?_).symm;obtain ⟨y,hy,rfl⟩:=List.mem_map.1 hx;exact decide_eq_true fun e=>h.1 (List.mem_map.2 ⟨y,hy,e⟩)
  ·rw [if_neg hk,List.filter_cons_of_pos (by simp [qC,Ne.symm hk]),List.map_cons,yG h.2]
theorem AR:∀{es:List En} {k:Int} {v u:Value},(es.map (·.k)).Nodup→cO es k=some u→((nO es k v).map qC).Perm ((k,v)::(es.map qC).filter fun x=>decide (x.1≠k))
 | [],_,_,_,_,h=>by cases h
 |e::r,k,v,u,hn,h=>by
  simp only [List.map_cons,List.nodup_cons] at hn;simp only [cO] at h;simp only [nO,List.map_cons]
  by_cases hk:k=e.k
  ·subst hk
   rw [if_pos rfl,List.filter_cons_of_neg (by simp [qC]),List.map_cons];rw [List.filter_eq_self.2 fun x hx=>by
    obtain ⟨y,hy,rfl⟩:=List.mem_map.1 hx;exact decide_eq_true fun e=>hn.1 (List.mem_map.2 ⟨y,hy,e⟩)]
   exact .refl _
  ·rw [if_neg hk] at h⊢
   rw [List.filter_cons_of_pos (by simp [qC,Ne.symm hk]),List.map_cons];exact ((AR hn.2 h).cons _).trans (.swap _ _ _)
theorem qI:∀(es:List En) (k:Int) (v:Value),(nO es k v).map (·.k)=es.map (·.k)
 | [],_,_=>rfl
 |e::r,k,v=>by
  simp only [nO];split
  ·rfl
  ·simp only [List.map_cons,qI r k v]
theorem jI:∀(es:List En) (k:Int) (v:Value),(nO es k v).map (·.b)=es.map (·.b)
 | [],_,_=>rfl
 |e::r,k,v=>by
  simp only [nO];split
  ·rfl
  ·simp only [List.map_cons,jI r k v]
theorem wQ (k:Int) (l:List Rw):(l.map Lp).filter (fun x=>decide (x.1≠k))=(del k l).map Lp:=by
 simp only [del,List.filter_map];rfl
theorem EH.del {es:List En} {c:Nat} {l:List Rw} (h:EH es c l) (k:Int):EH (oX es k) c (Es.del k l) where
 perm:=by
  rw [yG h.keys,←wQ];exact h.perm.filter _
 keys:=h.keys.sublist ((js es k).map _)
 borns:=h.borns.sublist ((js es k).map _)
 clock:=fun e he=>h.clock e ((js es k).subset he)
theorem EH.put {es:List En} {c:Nat} {l:List Rw} (h:EH es c l) {k v:Int} (hn:cO es k=none) (hl:∀r∈l,r.1≠k):EH (es++ [⟨k,.int .u64 v,c⟩]) (c+1) (ins k v (Es.del k l)) where
 perm:=by
  have hd:Es.del k l=l:=List.filter_eq_self.2 fun r hr=>by simpa using hl r hr
  rw [hd,List.map_append];refine (List.perm_append_comm).trans ?_;refine .trans ?_ ((px k v l).map Lp).symm;exact h.perm.cons _
 keys:=by
  rw [List.map_append,List.nodup_append];refine ⟨h.keys,by simp,?_⟩;intro a ha b hb;simp only [List.map_cons,List.map_nil,List.mem_singleton] at hb;subst hb;rintro rfl;obtain ⟨e,he,he2⟩:=List.mem_map.1 ha;have:qC e∈l.map Lp:=h.perm.mem_iff.1 (List.mem_map.2 ⟨e,he,rfl⟩);obtain ⟨r,hr,hr2⟩:=List.mem_map.1 this;simp only [qC,Lp,Prod.mk.injEq] at hr2;exact hl r hr (hr2.1.trans he2)
 borns:=by
  rw [List.map_append,List.nodup_append];refine ⟨h.borns,by simp,?_⟩;intro a ha b hb;simp only [List.map_cons,List.map_nil,List.mem_singleton] at hb;subst hb;rintro rfl;obtain ⟨e,he,he2⟩:=List.mem_map.1 ha;have:=h.clock e he;omega
 clock:=by
  intro e he;rcases List.mem_append.1 he with he|he
  ·have:=h.clock e he;omega
  ·simp only [List.mem_singleton] at he;subst he;simp
theorem EH.lh {es:List En} {c:Nat} {l:List Rw} (h:EH es c l) {k v:Int} {u:Value} (hn:cO es k=some u):EH (nO es k (.int .u64 v)) c (ins k v (Es.del k l)) where
 perm:=by
  refine (AR h.keys hn).trans ?_;refine .trans ?_ ((px k v (Es.del k l)).map Lp).symm;rw [List.map_cons,←wQ];exact (h.perm.filter _).cons _
 keys:=by rw [qI];exact h.keys
 borns:=by rw [jI];exact h.borns
 clock:=by
  intro e he;have:e.b∈es.map (·.b):=by rw [←jI es k (.int .u64 v)];exact List.mem_map.2 ⟨e,he,rfl⟩
  obtain ⟨e',he',h2⟩:=List.mem_map.1 this;have:=h.clock e' he';omega
def S5 (m:Nat) (l:List Rw):al:=fun h=>∃es c,EH es c l∧ay m es c h
theorem Iq {w0 w:World} {A:al} {m:Nat} {l:List Rw} (s:St w0 (A*S5 m l) w):∃es c,EH es c l∧St w0 (A*ay m es c) w:=by
 obtain ⟨g,h1,h2,h3,d,e,a,es,c,hE,b⟩:=s.holds;exact ⟨es,c,hE,s.of ⟨g,h1,h2,h3,d,e,a,b⟩⟩
theorem EV {w0 w:World} {A:al} {m:Nat} {l:List Rw} {es:List En} {c:Nat} (hE:EH es c l) (s:St w0 (A*ay m es c) w):St w0 (A*S5 m l) w:=by
 obtain ⟨g,h1,h2,h3,d,e,a,b⟩:=s.holds;exact s.of ⟨g,h1,h2,h3,d,e,a,es,c,hE,b⟩
end Go.HL.Es
namespace Go.HL.Nm
open Go.HL Go.Proofs
@[simp] theorem Wa (args:List Value):F4.val 348 args=KD.val args:=rfl
@[simp] theorem Yi (args:List Value):F4.ok 348 args=KD.ok args:=rfl
@[simp] theorem fUa (u lo hi:Int) (k k' k'':IntKind):KD.val [.int k u,.int k' lo,.int k'' hi]= .bool (dV u lo hi):=rfl
@[simp] theorem h1a (u lo hi:Int) (k k' k'':IntKind):KD.ok [.int k u,.int k' lo,.int k'' hi]=(k= .i64∧k'= .i64∧k''= .i64):=rfl
def qS (u:Int):List Int:=if u=223 then [115,115] else [pj u]
def ff (us:List (Int×Nat)):List Int:=us.flatMap fun u=>qS u.1
def eE (l:List UInt8):List Int:=ff (dP l)
theorem Ih (u:Int):(qS u).length≤2∧1≤(qS u).length:=by unfold qS;split<;>simp
theorem mw:∀us:List (Int×Nat),(ff us).length≤2*us.length
 | []=>by simp [ff]
 |u::us=>by
  have:=mw us;have h1:=(Ih u.1).1;simp only [ff,List.flatMap_cons,List.length_append,List.length_cons] at this⊢;omega
theorem ph (us:List (Int×Nat)) (u:Int×Nat):ff (us++ [u])=ff us++qS u.1:=by simp [ff]
def lE (l:List Int):List Value:=l.map (Value.int .i32)
def bta:Nat→PO
 |0=>(.bin .eql)
 |1=>(.cal 348)
 |2=>(.bin .add)
 |3=>(.ext 0)
 |4=>(.ext 1)
 |5=> .lenL
 |6=>(.bin .lss)
 |7=>(.idxL 1)
 |8=> .lenS
 |9=>(.ext 2)
 |10=>(.cal 200)
 |11=>(.cal 353)
 |_=> .same
def Zl:Nat→EO
 |0=>(.bsl 3 2 1 #[(.int .i64 0)] [0,1])
 |1=>(.bsl 3 1 1 #[(.int .i64 0)] [0])
 |2=>(.call 346)
 |3=>(.ld false 1)
 |4=>(.call 347)
 |5=>(.app 32 32 3 1 8 (.int .i64 0))
 |6=>(.mks 332 21 1 4 (.int .i32 0))
 |7=>(.rngS 9)
 |8=>(.nxt true 0)
 |9=>(.bsl 21 2 1 #[(.int .i32 0)] [0,1])
 |10=>(.app 332 332 21 1 4 (.int .i32 0))
 |11=>(.bsl 21 1 1 #[(.int .i32 0)] [0])
 |_=> .an
def dGa:Nat→Value
 |0=>(.slice none 0 0)
 |1=>(.int .i64 223)
 |2=>(.int .i64 115)
 |3=>(.int .i64 1025)
 |4=>(.int .i64 1105)
 |5=>(.int .i64 962)
 |6=>(.int .i64 963)
 |7=>(.int .i64 215)
 |8=>(.int .i64 930)
 |9=>(.bool true)
 |10=>(.int .i64 65)
 |11=>(.int .i64 90)
 |12=>(.int .i64 192)
 |13=>(.int .i64 222)
 |14=>(.int .i64 913)
 |15=>(.int .i64 937)
 |16=>(.int .i64 1040)
 |17=>(.int .i64 1071)
 |18=>(.int .i64 32)
 |19=>(.int .i64 0)
 |20=>(.int .i64 1)
 |21=>(.int .i32 223)
 |22=>(.int .i32 115)
 |_=>undef
def cOa:cX:=⟨bta,Zl,dGa⟩
def Uj:ai:=⟨[0,2,3,4,5,6,11,12],31,[.slot 1],aP cOa [] 0x2ce79bffdd0081b6eb2db399fb8b7e02cb3402281d3114b04b07114b068bc0b2f0e78a2df80b2cd008a07538248e0be71b575342405018d4d0901409dcdd553d1100d000a04553d1100d000afdc71a6765711fe115c47103c47fb11c4068bc2bc089c6d59b30f6cc79b30f11ba0278b7cc6f079fbdf30b257ce922c21bcea7dd2001⟩
theorem OP:aj F4 279 400=some Uj:=by kernel_rfl
def KK (w:World) (b:Nat):Nat:=match w.heap[b]? with
 |some (.stringIter _ p)=>p
 |_=>0
theorem py {w0 w:World} {F:al} {b p:Nat} {x:ByteArray} (s:St w0 (F*pt b (.stringIter x p)) w):KK w b=p:=by unfold KK;rw [s.look]
theorem B9 (l:List UInt8) (w0 w:World) (A:al) (hl:l.length≤1048576) (s:St w0 A w):
  ak Tryz.prog 279 [.string (mk l)] (fun r w'=>St w0 (A*own 21 1 r (eE l).length (lE (eE l))) w') w:=by
 have hul:=yd l;refine aB OP (by simp [Uj]) ?_;simp [Uj];refine np (l:=0) (c:=l.length) s (by omega) (by unfold maxLen;omega) (by omega) rfl ?_;intro v w1 s1;simp;refine BT s1 ?_;intro b w2 s2;simp;refine dg (fun env w'=>∃(i:Nat) (done:List (Int×Nat)) (v x y z t:Value),env= [.string (mk l),.slice none 0 0,v,x,y,z,.pointer (some ⟨b,0,none⟩),t]∧
   i≤l.length∧dP l=done++dP (l.drop i)∧St w0 (A*own 21 1 v (ff done).length (lE (ff done))*pt b (.stringIter (mk l) i)) w')
  (fun _ w=>l.length -KK w b) ⟨0,[],_,_,_,_,_,rfl,by omega,by simp,by simpa [ff,lE] using s2⟩ ?_
 rintro LQ env w' ⟨i,done,v,x,y,z,t,rfl,hi,hu,s'⟩ hN hE hR;simp;refine BQ s' (fun h w2 s2=> ?_) (fun h=> ?_)
 ·simp at h
  have hle:=GK (l:=l) (i:=i) h;have hob:=gY (l:=l.drop i) (by simp;omega);rw [j2,nn _ (by simp;omega)] at s2;have hstep:=vt hu h;rw [j2,nn _ (by simp;omega)];simp;refine ⟨⟨hl,h⟩,?_⟩;have hdl:done.length+1≤l.length:=by rw [hstep] at hul;simp at hul;omega
  have hfl:=mw done;refine aM (fun h1=> ?_) (fun h1=> ?_)
  ·simp at h1
   simp;refine BM s2.swap rfl rfl ?_;intro b2 w3 s3;simp;refine bu (n:=(ff done).length) (m:=2) (news:= [.int .i32 115,.int .i32 115]) s3.swap rfl s3.aH (by simp [Value.oneCell']) (by decide) rfl (by unfold maxLen;omega) (by omega) ?_;intro v' w4 s4;simp;refine hN _ _ ⟨i+(bK (l.drop i)).2,done++ [bK (l.drop i)],v',_,_,_,_,by simp;exact ⟨rfl,rfl,rfl,rfl⟩,hle.1,hstep,?_⟩ ?_
   ·rw [ph,qS,if_pos h1]
    simpa [lE] using s4.swap.drop.swap
   ·rw [py s',py s4.swap.drop.swap];omega
  ·simp at h1
   simp;refine ⟨by omega,?_⟩;refine ch s2.swap rfl ?_;intro b2 w3 s3;simp;refine bu (n:=(ff done).length) (m:=1) (news:= [.int .i32 (pj (bK (l.drop i)).1)]) s3.swap rfl s3.aH (by simp [Value.oneCell']) (by decide) rfl (by unfold maxLen;omega) (by omega) ?_;intro v' w4 s4;simp;refine hN _ _ ⟨i+(bK (l.drop i)).2,done++ [bK (l.drop i)],v',_,_,_,_,by simp;exact ⟨rfl,rfl,rfl,rfl⟩,hle.1,hstep,?_⟩ ?_
   ·rw [ph,qS,if_neg h1]
    simpa [lE] using s4.swap.drop.swap
   ·rw [py s',py s4.swap.drop.swap];omega
 ·simp at h
  simp;refine hE _ _ _ ?_;simp;have:i=l.length:=by omega
  subst this;rw [List.drop_length,nH,List.append_nil] at hu;rw [eE,hu];exact s'.drop
def xx (u:Int):Prop:=(0≤u∧u<55296)∨(57344≤u∧u≤1114111)∨(2097152≤u∧u<2097408)
def kF (n:Nat):List Nat:=
 if 2097152≤n then [n -2097152]
 else if n<128 then [n]
 else if n<2048 then [192+n /64,128+n %64]
 else if n<65536 then [224+n /4096,128+n /64 %64,128+n %64]
 else [240+n /262144,128+n /4096 %64,128+n /64 %64,128+n %64]
def l0 (u:Int):List UInt8:=(kF u.toNat).map UInt8.ofNat
def gJ (us:List Int):List UInt8:=us.flatMap l0
theorem Ke (n:Nat):(kF n).length≤4:=by unfold kF;(repeat' split)<;>simp
theorem Kf (u:Int):(l0 u).length≤4:=by simp only [l0,List.length_map];exact Ke _
theorem tJ:∀us:List Int,(gJ us).length≤4*us.length
 | []=>by simp [gJ]
 |u::us=>by
  have:=tJ us;have h1:=Kf u;simp only [gJ,List.flatMap_cons,List.length_append,List.length_cons] at this⊢;omega
theorem BU (us:List Int) (u:Int):gJ (us++ [u])=gJ us++l0 u:=by simp [gJ]
theorem fM (a b:List UInt8):aJ (a++b)=aJ a++aJ b:=by simp [aJ]
theorem Ef (l:List Nat) (h:∀n∈l,n<256):aJ (l.map UInt8.ofNat)=l.map fun n=> .int .u8 (n:Int):=by
 simp only [aJ,List.map_map];refine List.map_congr_left fun n hn=> ?_;have:=h n hn;simp;omega
theorem Na (n:Nat) (h:xx n):∀b∈kF n,b<256:=by
 have hn:n≤1114111∨(2097152≤n∧n<2097408):=by unfold xx at h;omega
 unfold kF
 repeat' split
 all_goals (intro b hb;simp at hb;omega)
theorem R0 (n:Nat) (h:xx n):aJ (l0 n)=(kF n).map fun b=> .int .u8 (b:Int):=by
 have:=Ef (kF n) (Na n h)
 simpa [l0] using this
def bua:Nat→PO
 |0=>(.bin .geq)
 |1=>(.bin .sub)
 |2=>(.convI .u8)
 |3=>(.bin .lss)
 |4=>(.bin .quo)
 |5=>(.bin .add)
 |6=>(.bin .rem)
 |7=> .lenL
 |8=>(.idxL 1)
 |_=> .same
def Zm:Nat→EO
 |0=>(.bsl 5 1 1 #[(.int .u8 0)] [0])
 |1=>(.bsl 5 2 1 #[(.int .u8 0)] [0,1])
 |2=>(.bsl 5 3 1 #[(.int .u8 0)] [0,1,2])
 |3=>(.bsl 5 4 1 #[(.int .u8 0)] [0,1,2,3])
 |4=>(.ld false 1)
 |5=>(.call 349)
 |6=>(.app 52 52 5 1 1 (.int .u8 0))
 |7=>(.b2s 52 9)
 |_=> .an
def dHa:Nat→Value
 |0=>(.slice none 0 0)
 |1=>(.int .i64 2097152)
 |2=>(.int .i64 128)
 |3=>(.int .i64 2048)
 |4=>(.int .i64 64)
 |5=>(.int .i64 192)
 |6=>(.int .i64 65536)
 |7=>(.int .i64 4096)
 |8=>(.int .i64 224)
 |9=>(.int .i64 262144)
 |10=>(.int .i64 240)
 |11=>(.string ⟨#[]⟩)
 |12=>(.int .i64 0)
 |13=>(.int .i64 1)
 |_=>undef
def iua:cX:=⟨bua,Zm,dHa⟩
theorem fd (n:Nat) (k:Nat) (h:k≤32):(n:Int).fdiv (2^min k IntKind.i32.bits)=(n:Int) /2^k:=by
 have:min k IntKind.i32.bits=k:=Nat.min_eq_left h;rw [this,Int.fdiv_eq_ediv_of_nonneg];exact Int.le_of_lt (Int.pow_pos (by decide))
theorem fd6 (n:Nat):(n:Int).fdiv (2^min 6 IntKind.i32.bits)=(n:Int) /64:=fd n 6 (by decide)
theorem R5 (n:Nat):(n:Int).fdiv (2^min 12 IntKind.i32.bits)=(n:Int) /4096:=fd n 12 (by decide)
theorem fIa (n:Nat):(n:Int).fdiv (2^min 18 IntKind.i32.bits)=(n:Int) /262144:=fd n 18 (by decide)
theorem VB:∀m:Fin 32,IntKind.u8.wrap ((192 %2^IntKind.u8.bits|||(((m.val:Nat):Int) %2^IntKind.u8.bits).toNat:Nat):Int)=192+((m.val:Nat):Int):=by decide+kernel
theorem VC:∀m:Fin 16,IntKind.u8.wrap ((224 %2^IntKind.u8.bits|||(((m.val:Nat):Int) %2^IntKind.u8.bits).toNat:Nat):Int)=224+((m.val:Nat):Int):=by decide+kernel
theorem VD:∀m:Fin 8,IntKind.u8.wrap ((240 %2^IntKind.u8.bits|||(((m.val:Nat):Int) %2^IntKind.u8.bits).toNat:Nat):Int)=240+((m.val:Nat):Int):=by decide+kernel
theorem VA:∀m:Fin 64,IntKind.u8.wrap ((128 %2^IntKind.u8.bits|||(((m.val:Nat):Int) %2^IntKind.u8.bits).toNat:Nat):Int)=128+((m.val:Nat):Int):=by decide+kernel
theorem aVa {x:Int} (h:0≤x) (h2:x<32):IntKind.u8.wrap ((192 %2^IntKind.u8.bits|||(x %2^IntKind.u8.bits).toNat:Nat):Int)=192+x:=by
 obtain ⟨m,rfl⟩:=Int.eq_ofNat_of_zero_le h;exact VB ⟨m,by omega⟩
theorem Q8 {x:Int} (h:0≤x) (h2:x<16):IntKind.u8.wrap ((224 %2^IntKind.u8.bits|||(x %2^IntKind.u8.bits).toNat:Nat):Int)=224+x:=by
 obtain ⟨m,rfl⟩:=Int.eq_ofNat_of_zero_le h;exact VC ⟨m,by omega⟩
theorem aWa {x:Int} (h:0≤x) (h2:x<8):IntKind.u8.wrap ((240 %2^IntKind.u8.bits|||(x %2^IntKind.u8.bits).toNat:Nat):Int)=240+x:=by
 obtain ⟨m,rfl⟩:=Int.eq_ofNat_of_zero_le h;exact VD ⟨m,by omega⟩
theorem GO {x:Int} (h:0≤x) (h2:x<64):IntKind.u8.wrap ((128 %2^IntKind.u8.bits|||(x %2^IntKind.u8.bits).toNat:Nat):Int)=128+x:=by
 obtain ⟨m,rfl⟩:=Int.eq_ofNat_of_zero_le h;exact VA ⟨m,by omega⟩
theorem FQ {x:Int} (h:0≤x):IntKind.u8.wrap (((IntKind.u8.wrap x %2^IntKind.u8.bits).toNat&&&63 %2^IntKind.u8.bits:Nat):Int)=x %64:=by
 have e:(63 %2^IntKind.u8.bits:Nat)=2^6 -1:=rfl;rw [e,Nat.and_two_pow_sub_one_eq_mod,IntKind.wrap_u8,IntKind.wrap_u8];have e2:(2^IntKind.u8.bits:Int)=256:=rfl;rw [e2];omega
def bva:Nat→PO
 |0=>(.convI .u32)
 |1=>(.bin .leq)
 |2=>(.bin .shr)
 |3=>(.convI .u8)
 |4=>(.bin .or)
 |5=>(.bin .and)
 |6=>(.bin .lss)
 |7=>(.bin .gtr)
 |8=>(.bin .geq)
 |9=>(.bin .sub)
 |10=> .lenL
 |11=>(.idxL 1)
 |12=>(.bin .add)
 |_=> .same
def Zn:Nat→EO
 |0=>(.bsl 5 2 1 #[(.int .u8 0)] [0,1])
 |1=>(.app 52 52 5 1 1 (.int .u8 0))
 |2=>(.bsl 5 3 1 #[(.int .u8 0)] [0,1,2])
 |3=>(.bsl 5 4 1 #[(.int .u8 0)] [0,1,2,3])
 |4=>(.bsl 5 1 1 #[(.int .u8 0)] [0])
 |5=>(.call 429)
 |6=>(.call 405)
 |7=>(.ld false 1)
 |8=>(.call 352)
 |9=>(.b2s 52 9)
 |_=> .an
def dIa:Nat→Value
 |0=>(.slice none 0 0)
 |1=>(.int .u32 2047)
 |2=>(.int .u64 6)
 |3=>(.int .u8 192)
 |4=>(.int .u8 63)
 |5=>(.int .u8 128)
 |6=>(.int .u32 55296)
 |7=>(.int .u32 57343)
 |8=>(.int .u32 65535)
 |9=>(.bool false)
 |10=>(.int .u64 12)
 |11=>(.int .u8 224)
 |12=>(.int .u32 1114111)
 |13=>(.int .u64 18)
 |14=>(.int .u8 240)
 |15=>(.int .u8 239)
 |16=>(.int .u8 191)
 |17=>(.int .u8 189)
 |18=>(.int .u32 127)
 |19=>(.int .i32 2097152)
 |20=>(.string ⟨#[]⟩)
 |21=>(.int .i64 0)
 |22=>(.int .i64 1)
 |_=>undef
def Hq:cX:=⟨bva,Zn,dIa⟩
def UL:ai:=⟨[0,1,4,5,25],78,[.slot 2],aP Hq [] 0xe6da39ae8b2ffe28b7e02cb3400054d4909220248f042b2ffdc71c71c71c71c71c71cee2df80b2cd0001514c95c95d44571043152144572575115d350900420c5485115c95d44574d4a0500420c5485115c95d3534140108348e0440f2575115c410c5485135115c410c5c410f2575115d350900420c5485135115d350900420c5d350900420f5090042c95d44574d4a0500420c5485135115d35281401083174d4a0500420f52814010b2574d4d0500420d2381134d4d0500420f534140109c8de7db5d2f95d4c0500c1cd8cf5301403073575e900c7d7a4031ecbff71c71c71c71c73b8b7e02cb3400054c95c95d44571043152144572575115d350900420c5485115c95d3528140108348b0440b2575115c410c5485135115c410c5c410f2575115d350900420c5485135115d350900420c5d350900420f5090042c95d3528140108348b044d35281401083d4a05004212b9dc8de7f75d2f95d7a403073133d7a40307357d0d21c6f434871af0049dcdd5d46403184d464031acbff71c71c73b8b7e02cb3400072572575115c410c5485115c95d350900420d20c4032575115c410c5485135115c410c5c410f2574d42401083483134d42401083d4240109c6d5d41403058d414030409dcdd5c41003c41027dd2002⟩
theorem P1:aj F4 429 400=some UL:=by kernel_rfl
def UJ:ai:=⟨[0,1,4],16,[.slot 2],aP Hq [] 0xb39bff8b7cc2f41400168bc0b2fffb8b7e02cb3400074c410c4c410dc71b575282571040058d4a095c41001c41027dd2002⟩
theorem PU:aj F4 405 400=some UJ:=by kernel_rfl
def Uz:ai:=⟨[0,1,4],16,[.slot 2],aP Hq [] 0x2ce6ffe2df30bd050006a2f02cbff73b8b7e02cb3400074d352c2401f83134d4b09007e0f52c2401f9c6d5d4b09007a6352c2401ea7dd2002⟩
theorem Pq:aj F4 352 400=some Uz:=by kernel_rfl
def Ui:ai:=⟨[0,2,3,5,6,7,8],18,[.slot 1],aP Hq [] 0x2ce79bff8b7cc1c42fadbb99dcdd5d4e09018c046d4e09018c06db278b7cc2f43402ea7ef7cc3d3d19010b047f464042c1068bc2bc071b57d15018663d15018602771a659d92342195f0a04540013c2bfdd20029f748c081⟩
theorem OO:aj F4 278 400=some Ui:=by kernel_rfl
theorem vS (n:Nat) (bs:List UInt8) (v:Value) (w0 w:World) (A:al) (hl:bs.length≤16777216) (hu:xx n) (h128:128≤n) (hbad:n<2097152) (s:St w0 (A*own 5 1 v bs.length (aJ bs)) w):
  ak Tryz.prog 429 [v,.int .i32 n] (fun r w'=>St w0 (A*own 5 1 r (bs.length+(l0 n).length) (aJ (bs++l0 n))) w') w:=by
 have hn:n≤1114111∧¬(55296≤n∧n<57344):=by unfold xx at hu;omega
 have hlen:(l0 n).length=(kF n).length:=by simp [l0]
 rw [fM,R0 n hu,hlen];refine aB P1 (by simp [UL]) ?_;simp [UL]
 try simp (disch:=omega) only [HA]
 refine aM (fun h1=> ?_) (fun h1=> ?_)
 ·simp at h1
  have e:kF n= [192+n /64,128+n %64]:=by unfold kF;rw [if_neg (by omega),if_neg (by omega),if_pos (by omega)]
  rw [e];simp
  try simp (disch:=omega) only [fd6,FQ,qL,aVa,GO]
  refine BM s rfl rfl ?_;intro b w1 s1;simp;refine bu (n:=bs.length) (m:=2) (news:= [.int .u8 (192+n /64),.int .u8 (128+n %64)]) s1.swap rfl s1.aH (by simp [Value.oneCell']) (by decide) rfl (by unfold maxLen;omega) (by omega) ?_;intro v' w2 s2;simp;exact s2.swap.drop
 simp at h1;simp;refine aM (fun h2=> ?_) (fun h2=> ?_)
 ·simp at h2
  simp [h2];have e:kF n= [224+n /4096,128+n /64 %64,128+n %64]:=by unfold kF;rw [if_neg (by omega),if_neg (by omega),if_neg (by omega),if_pos (by omega)]
  rw [e];simp
  try simp (disch:=omega) only [R5,fd6,FQ,qL,Q8,GO]
  refine BN s rfl rfl rfl ?_;intro b w1 s1;simp;refine bu (n:=bs.length) (m:=3) (news:= [.int .u8 (224+n /4096),.int .u8 (128+n /64 %64),.int .u8 (128+n %64)]) s1.swap rfl s1.aH (by simp [Value.oneCell']) (by decide) rfl (by unfold maxLen;omega) (by omega) ?_;intro v' w2 s2;simp;exact s2.swap.drop
 simp at h2;have h2':¬(n:Int)<55296:=by omega
 have h57:(57343:Int)<n:=by omega
 simp [h57];refine aM (fun h3=> ?_) (fun h3=> ?_)
 ·simp at h3
  have e:kF n= [224+n /4096,128+n /64 %64,128+n %64]:=by unfold kF;rw [if_neg (by omega),if_neg (by omega),if_neg (by omega),if_pos (by omega)]
  rw [e];simp
  try simp (disch:=omega) only [R5,fd6,FQ,qL,Q8,GO]
  refine BN s rfl rfl rfl ?_;intro b w1 s1;simp;refine bu (n:=bs.length) (m:=3) (news:= [.int .u8 (224+n /4096),.int .u8 (128+n /64 %64),.int .u8 (128+n %64)]) s1.swap rfl s1.aH (by simp [Value.oneCell']) (by decide) rfl (by unfold maxLen;omega) (by omega) ?_;intro v' w2 s2;simp;exact s2.swap.drop
 simp at h3;have h4:(65535:Int)<n:=by omega
 have h5:(n:Int)≤1114111:=by omega
 have e:kF n= [240+n /262144,128+n /4096 %64,128+n /64 %64,128+n %64]:=by unfold kF;rw [if_neg (by omega),if_neg (by omega),if_neg (by omega),if_neg (by omega)]
 rw [e];simp [h4,h5]
 try simp (disch:=omega) only [fIa,R5,fd6,FQ,qL,aWa,GO]
 refine Ka s rfl rfl rfl rfl ?_;intro b w1 s1;simp;refine bu (n:=bs.length) (m:=4) (news:= [.int .u8 (240+n /262144),.int .u8 (128+n /4096 %64),.int .u8 (128+n /64 %64),.int .u8 (128+n %64)]) s1.swap rfl s1.aH (by simp [Value.oneCell']) (by decide) rfl (by unfold maxLen;omega) (by omega) ?_;intro v' w2 s2;simp;exact s2.swap.drop
theorem yj (n:Nat) (bs:List UInt8) (v:Value) (w0 w:World) (A:al) (hl:bs.length≤16777216) (hu:xx n) (hbad:n<2097152) (s:St w0 (A*own 5 1 v bs.length (aJ bs)) w):
  ak Tryz.prog 405 [v,.int .i32 n] (fun r w'=>St w0 (A*own 5 1 r (bs.length+(l0 n).length) (aJ (bs++l0 n))) w') w:=by
 refine aB PU (by simp [UJ]) ?_;simp [UJ]
 try simp (disch:=omega) only [HA]
 refine aM (fun h1=> ?_) (fun h1=> ?_)
 ·simp at h1
  have e:kF n= [n]:=by unfold kF;rw [if_neg (by omega),if_pos (by omega)]
  have hlen:(l0 n).length=1:=by simp [l0,e]
  rw [fM,R0 n hu,hlen,e];simp
  try simp (disch:=omega) only [qL]
  refine ch s rfl ?_;intro b w1 s1;simp;refine bu (n:=bs.length) (m:=1) (news:= [.int .u8 n]) s1.swap rfl s1.aH (by simp [Value.oneCell']) (by decide) rfl (by unfold maxLen;omega) (by omega) ?_;intro v' w2 s2;simp;exact s2.swap.drop
 simp at h1;simp;refine ad ((vS n bs v w0 w A hl hu (by omega) hbad s).mono ?_);intro r w2 s2;simp;exact s2
theorem eX (n:Nat) (bs:List UInt8) (v:Value) (w0 w:World) (A:al) (hl:bs.length≤16777216) (hu:xx n) (s:St w0 (A*own 5 1 v bs.length (aJ bs)) w):
  ak Tryz.prog 352 [v,.int .i32 n] (fun r w'=>St w0 (A*own 5 1 r (bs.length+(l0 n).length) (aJ (bs++l0 n))) w') w:=by
 refine aB Pq (by simp [Uz]) ?_;simp [Uz];refine aM (fun h1=> ?_) (fun h1=> ?_)
 ·simp at h1
  have hn:n<2097408:=by unfold xx at hu;omega
  have e:kF n= [n -2097152]:=by unfold kF;rw [if_pos (by omega)]
  have hlen:(l0 n).length=1:=by simp [l0,e]
  have hsub:((n -2097152:Nat):Int)=(n:Int) -2097152:=by omega
  rw [fM,R0 n hu,hlen,e];simp
  try simp (disch:=omega) only [qL,wrap32]
  refine ch s rfl ?_;intro b w1 s1;simp;refine bu (n:=bs.length) (m:=1) (news:= [.int .u8 (n -2097152)]) s1.swap rfl s1.aH (by simp [Value.oneCell']) (by decide) rfl (by unfold maxLen;omega) (by omega) ?_;intro v' w2 s2;simp;rw [hsub];exact s2.swap.drop
 simp at h1;simp;refine ad ((yj n bs v w0 w A hl hu (by omega) s).mono ?_);intro r w2 s2;simp;exact s2
theorem Je (us:List Int) (v:Value) (w0 w:World) (A:al) (hl:us.length≤4194304) (hok:∀u∈us,xx u) (s:St w0 (A*own 21 1 v us.length (lE us)) w):
  ak Tryz.prog 278 [v] (fun r w'=>r= .string (mk (gJ us))∧St w0 (A*own 21 1 v us.length (lE us)) w') w:=by
 obtain ⟨a1,c1,rfl,hc1,hn1⟩:=s.aw;refine aB OO (by simp [Ui]) ?_;simp [Ui];refine dg (fun env w'=>∃(i:Nat) (v x:Value),env= [.slice a1 us.length c1,.string (mk []),v,x,.slice a1 us.length c1,.int .i64 us.length,.int .i64 i]∧i≤us.length∧
   St w0 (A*own 21 1 (.slice a1 us.length c1) us.length (lE us)*own 5 1 v (gJ (us.take i)).length (aJ (gJ (us.take i)))) w')
  (fun env _=>us.length -ax env 6) ⟨0,_,_,rfl,by omega,by simpa [gJ,aJ] using s.aE 5 1⟩ ?_
 rintro LQ env w' ⟨i,v,x,rfl,hi,s'⟩ hN hE hR;simp;refine aM (fun h=> ?_) (fun h=> ?_)
 ·simp at h
  obtain ⟨g1,c1',e1,_,hcell⟩:=s'.swap.aO (by omega);cases e1;have hui:=hcell i (.int .i32 us[i]) (by simp [lE,h]);simp;refine ⟨h,ae hui ?_⟩;simp;have hub:=hok us[i] (List.getElem_mem h);obtain ⟨m,hm⟩:=Int.eq_ofNat_of_zero_le (show 0≤us[i] by unfold xx at hub;omega);rw [hm] at hub;rw [hm];have hfl:=tJ (us.take i);rw [List.length_take] at hfl;refine ad ((eX m _ v w0 _ _ (by omega) hub s').mono ?_);intro r w2 s2;simp
  try simp (disch:=omega) only [wrap64]
  refine hN _ _ ⟨i+1,r,_,by simp;rfl,h,?_⟩ (by simp [ax];omega);rw [List.take_succ_eq_append_getElem h,BU,hm,List.length_append];exact s2
 ·simp at h
  simp;refine hE _ _ _ ?_;simp;have:i=us.length:=by omega
  subst this;rw [List.take_length] at s';refine M3 s' ?_;simp;exact s'.drop
def h7a:List UInt8:= [48,206,191,208,190,49,206,177,208,176,209,129,208,181,209,145,206,185,206,186,208,186,207,129,209,128,207,132,209,130,207,133,206,189,207,135,209,133,206,179,209,131,32,95]
def iba:List UInt8:= [111,111,111,108,97,97,99,101,101,105,107,107,112,112,116,116,117,118,120,120,121,121,45,45]
def j0a:List UInt8:= [97,97,97,97,97,97,230,99,101,101,101,101,105,105,105,105,240,110,111,111,111,111,111,247,111,117,117,117,117,121,254,121]
def h8a:List (Int×Nat):= [(48,1),(959,2),(1086,2),(49,1),(945,2),(1072,2),(1089,2),(1077,2),(1105,2),(953,2),(954,2),(1082,2),(961,2),(1088,2),(964,2),(1090,2),(965,2),(957,2),(967,2),(1093,2),(947,2),(1091,2),(32,1),(95,1)]
def bwa:Nat→PO
 |0=>(.ext 0)
 |1=>(.ext 2)
 |2=>(.bin .eql)
 |3=> .chS
 |4=>(.convI .i32)
 |5=>(.bin .add)
 |6=>(.bin .geq)
 |7=>(.bin .leq)
 |8=>(.bin .sub)
 |_=> .same
def Zo:Nat→EO
 |0=>(.rngS 9)
 |1=>(.nxt true 0)
 |_=> .an
def dJa:Nat→Value
 |0=>(.int .i32 0)
 |1=>(.int .i64 0)
 |2=>(.string ⟨#[48,206,191,208,190,49,206,177,208,176,209,129,208,181,209,145,206,185,206,186,208,186,207,129,209,128,207,132,209,130,207,133,206,189,207,135,209,133,206,179,209,131,32,95]⟩)
 |3=>(.string ⟨#[111,111,111,108,97,97,99,101,101,105,107,107,112,112,116,116,117,118,120,120,121,121,45,45]⟩)
 |4=>(.int .i64 1)
 |5=>(.int .i32 224)
 |6=>(.int .i32 255)
 |7=>(.bool false)
 |8=>(.string ⟨#[97,97,97,97,97,97,230,99,101,101,101,101,105,105,105,105,240,110,111,111,111,111,111,247,111,117,117,117,117,121,254,121]⟩)
 |_=>undef
def iva:cX:=⟨bwa,Zo,dJa⟩
theorem yD (b:Int) (r:List UInt8) (v:Int) (n:Nat) (least:Int) (hb:0≤b∧b<256) (hv:0≤v):xx (iK b r v n least).1:=by
 unfold iK xx;split
 ·rename_i u hu
  have:=Ds n r v u hv hu;split
  ·simp only;omega
  ·simp only;omega
 ·simp only;omega
theorem Ld {l:List UInt8} (h:l≠ []):xx (bK l).1:=by
 cases l with
 |nil=>exact absurd rfl h
 |cons c r=>
  have hc:=c.toNat_lt;rw [kL];split
  ·unfold xx;simp only;omega
  split
  ·exact yD c.toNat r (c.toNat -192) 1 128 (by omega) (by omega)
  split
  ·exact yD c.toNat r (c.toNat -224) 2 2048 (by omega) (by omega)
  split
  ·exact yD c.toNat r (c.toNat -240) 3 65536 (by omega) (by omega)
  ·unfold xx;simp only;omega
theorem IU {u:Int} (h:xx u):xx (pj u):=by
 unfold xx at h⊢;unfold pj;repeat' split
 all_goals omega
def GQ:List Int→List Int
 |114::110::r=>109::GQ r
 |118::118::r=>119::GQ r
 |u::r=>u::GQ r
 | []=> []
def aOa (l:List UInt8):List Int:=GQ ((eE l).map uB)
theorem DE:∀(n:Nat) (l:List UInt8),l.length≤n→∀u∈dP l,xx u.1
 |0,l,h=>by
  have:l= []:=List.eq_nil_of_length_eq_zero (by omega);subst this;simp [nH]
 |n+1,l,h=>by
  by_cases he:l= []
  ·subst he;simp [nH]
  ·have hb:=gY he
   rw [vq he];intro u hu;rcases List.mem_cons.1 hu with rfl|hu
   ·exact Ld he
   ·exact DE n _ (by simp;omega) u hu
theorem Ij (l:List UInt8):∀u∈eE l,xx u:=by
 intro u hu;simp only [eE,ff,List.mem_flatMap] at hu;obtain ⟨x,hx,hu⟩:=hu;have hk:=DE _ l (Nat.le_refl _) x hx;unfold qS at hu;split at hu
 ·have:u=115:=by simpa using hu
  subst this;exact .inl (by omega)
 ·have:u=pj x.1:=by simpa using hu
  subst this;exact IU hk
theorem EM (l:List UInt8):(eE l).length≤2*l.length:=by
 have h1:=mw (dP l);have h2:=yd l;unfold eE;omega
def bxa:Nat→PO
 |0=> .lenL
 |1=>(.bin .lss)
 |2=>(.idxL 1)
 |3=>(.cal 267)
 |4=>(.bin .add)
 |5=>(.bin .eql)
 |6=>(.slL 1 false true false)
 |_=> .same
def Zp:Nat→EO
 |0=>(.call 266)
 |1=>(.call 268)
 |2=>(.call 279)
 |3=>(.call 278)
 |4=>(.ld false 1)
 |5=>(.st 1)
 |6=>(.bsl 3 1 1 #[(.int .i64 0)] [0])
 |7=>(.app 32 32 3 1 8 (.int .i64 0))
 |8=>(.call 325)
 |9=>(.bsl 21 1 1 #[(.int .i32 0)] [0])
 |10=>(.app 332 332 21 1 4 (.int .i32 0))
 |_=> .an
def dKa:Nat→Value
 |0=>(.string ⟨#[]⟩)
 |1=>(.int .i64 0)
 |2=>(.int .i64 1)
 |3=>(.slice none 0 0)
 |4=>(.tuple #[])
 |5=>(.int .i64 114)
 |6=>(.int .i64 110)
 |7=>(.bool false)
 |8=>(.int .i64 109)
 |9=>(.int .i64 118)
 |10=>(.int .i64 119)
 |11=>(.int .i32 114)
 |12=>(.int .i32 110)
 |13=>(.int .i32 109)
 |14=>(.int .i32 118)
 |15=>(.int .i32 119)
 |_=>undef
def cPa:cX:=⟨bxa,Zp,dKa⟩
def TV:ai:=⟨[0,2],6,[.slot 1],aP cPa [] 0xe6ffe28b7e019b30fc0a7dd2001⟩
theorem Of:aj F4 203 400=some TV:=by kernel_rfl
theorem vW (l:List UInt8) (w0 w:World) (A:al) (hl:l.length≤1048576) (s:St w0 A w):
  ak Tryz.prog 203 [.string (mk l)] (fun r w'=>r= .string (mk (gJ (eE l)))∧St w0 A w') w:=by
 have hfl:=EM l;refine aB Of (by simp [TV]) ?_;simp [TV];refine ad ((B9 l w0 w A hl s).mono ?_);intro v w1 s1;simp;refine ad ((Je _ v w0 w1 A (by omega) (Ij l) s1).mono ?_);rintro r w2 ⟨rfl,s2⟩;simp;exact s2.drop
def half (f:Int→Int):Nat→List Int→List Int
 |_,[]=> []
 |0,a::l=>a::l
 |i+1,a::l=>f a::half f i l
def View (w0:World) (A:al) (k:IntKind) (v:Value) (xs:List Int):Prop:=
 ∃a cap,v= .slice a xs.length cap∧xs.length≤cap∧(0<xs.length→∃g o,a=some ⟨g,o,none⟩∧∀w,St w0 A w→∀j u,xs[j]?=some u→w.cell? ⟨g,o+j,none⟩=some (.int k u))
end Go.HL.Nm
namespace Go.HL
section
variable {P:Program} {F0:PF P} {F:al} {K:Value→World→Prop} {w w0:World}
def tN:List (List UInt8)→Nat→List MapEntry
 | [],_=> []
 |x::r,i=>⟨.string (mk x),.int .i64 (i:Int),i⟩::tN r (i+1)
def fi (ks:List (List UInt8)):Array MapEntry:=(tN ks 0).toArray
def mH (k:List UInt8):List (List UInt8)→Nat→Option Nat
 | [],_=>none
 |x::r,i=>if k=x then some i else mH k r (i+1)
theorem wP (k:List UInt8):∀(ks:List (List UInt8)) (i:Nat),tN (ks++ [k]) i=tN ks i++ [⟨.string (mk k),.int .i64 ((i+ks.length:Nat):Int),i+ks.length⟩]
 | [],i=>by simp [tN]
 |x::r,i=>by
  simp only [List.cons_append,tN,wP k r (i+1),List.length_cons];have:i+1+r.length=i+(r.length+1):=by omega
  rw [this]
theorem IK (k:List UInt8) (ks:List (List UInt8)):(fi ks).push ⟨.string (mk k),.int .i64 (ks.length:Int),ks.length⟩=fi (ks++ [k]):=by
 apply Array.ext';simp [fi,wP]
theorem mk_inj {a b:List UInt8} (h:mk a=mk b):a=b:=by
 have h2:(mk a).data.toList=(mk b).data.toList:=by rw [h]
 exact h2
theorem IP (a b:List UInt8):(mk a==mk b)=decide (a=b):=by
 rw [Bool.eq_iff_iff,MapKept.bytes_beq];exact ⟨fun h=>decide_eq_true (mk_inj h),fun h=>by rw [of_decide_eq_true h]⟩
theorem qh (k:List UInt8):∀(ks:List (List UInt8)) (i j:Nat),Instr.findNow .string (.string (mk k)) (tN ks j) i=some ((mH k ks j).map fun n=>(i+(n -j),.int .i64 (n:Int)))
 | [],_,_=>rfl
 |x::r,i,j=>by
  simp only [tN,Instr.findNow,Instr.sameNow,IP,mH]
  by_cases h:k=x
  ·simp [h]
  ·simp only [h,decide_false,if_false]
   rw [qh k r (i+1) (j+1)];cases hl:mH k r (j+1) with
   |none=>rfl
   |some n=>
    have:j+1≤n:=by
     have key:∀(l:List (List UInt8)) (j n:Nat),mH k l j=some n→j≤n:=by
      intro l
      induction l with
      |nil=>intro j n h;cases h
      |cons y t ih=>
       intro j n h;simp only [mH] at h;split at h
       ·cases h;exact Nat.le_refl _
       ·have:=ih _ _ h;omega
     exact key r _ _ hl
    simp only [Option.map_some,Option.some.injEq,Prod.mk.injEq,and_true];omega
theorem M6 {t:TypeId} (s:St w0 F w) (hk:∀b w',St w0 (F*pt b (.map (fi []) 0)) w'→K (.map (some b)) w'):aG P (.mkm t false) [] K w:=by
 intro _;refine aN (s:=Instr.makeMap t none) (v:= .map (some w.heap.size)) (w':=w.alloc (.map (fi []) 0)) ?_ (hk _ _ (s.alloc trivial));simp [Instr.makeMap,newObj,Sem.run,fi,tN,Sem.bind]
def MC (k:List UInt8) (ks:List (List UInt8)):Int:=((mH k ks 0).getD 0:Nat)
def yk (k:List UInt8) (ks:List (List UInt8)):Bool:=(mH k ks 0).isSome
abbrev RI (k:List UInt8) (ks:List (List UInt8)):Value:= .tuple #[.int .i64 (MC k ks),.bool (yk k ks)]
structure Mu (P:Program) (t kt ke:TypeId):Prop where
 ty:P.underlying t=some (.map kt ke)
 key:P.underlying kt=some .string
 zero:(P.info? ke).bind (·.zero)=some (.int .i64 0)
theorem KU {t kt ke:TypeId} (T:Mu P t kt ke) {m:Nat} {ks:List (List UInt8)} {c:Nat} (hb:w.heap[m]?=some (.map (fi ks) c)) (k:List UInt8):
  (Instr.lookup t (.map (some m)) (.string (mk k)) true).run P w= .ok (RI k ks) w:=by
 obtain ⟨i,hi,hz⟩:=Option.bind_eq_some_iff.1 T.zero;have hf:=qh k ks 0 0;have he:(fi ks).toList=tN ks 0:=by simp [fi]
 have hck:=fun e=>MapKept.run_checkKey (P:=P) (w:=w) T.key (show MapKept.IsKey .string (.string (mk k)) from trivial) e 9999;have hfk:=MapKept.run_findKey (P:=P) (w:=w) T.key hf;rw [←he] at hfk;simp only [Instr.lookup,Sem.run_bind,run_underlying T.ty,MapKept.run_getObj_map hb,Result.andThen_ok,Sem.run_pure,hck,hfk];unfold RI MC yk;cases hl:mH k ks 0 with
 |none=>simp [zeroValue,typeInfo,hi,hz]
 |some n=>simp
theorem H3 {C:List Value→World→Prop} {q:Nat→List Value→Value} {n:Nat} {vs:List Value} {t kt ke:TypeId} (T:Mu P t kt ke) {m:Nat} {ks:List (List UInt8)} {c:Nat} {k:List UInt8} {K:Value→List Value→Prop}
  (hb:∀vs' w,era n vs'=era n vs→C vs' w→w.heap[m]?=some (.map (fi ks) c)) (hk:K (RI k ks) vs):sU F0 C q n (.look t true) [.map (some m),.string (mk k)] vs K:=
 pe (s:=Instr.lookup t (.map (some m)) (.string (mk k)) true) rfl (fun vs' w he hw=>KU T (hb vs' w he hw) k) hk
theorem M9 {t kt ke:TypeId} (T:Mu P t kt ke) {m:Nat} {ks:List (List UInt8)} {k:List UInt8} (s:St w0 (F*pt m (.map (fi ks) ks.length)) w) (hn:mH k ks 0=none)
  (hk:∀w',St w0 (F*pt m (.map (fi (ks++ [k])) (ks++ [k]).length)) w'→K undef w'):aG P (.lh t) [.map (some m),.string (mk k),.int .i64 (ks.length:Int)] K w:=by
 have hb:=s.look;have hf:=qh k ks 0 0;rw [hn] at hf;have he:(fi ks).toList=tN ks 0:=by simp [fi]
 have hck:=fun e=>MapKept.run_checkKey (P:=P) (w:=w) T.key (show MapKept.IsKey .string (.string (mk k)) from trivial) e 9999;have hfk:=MapKept.run_findKey (P:=P) (w:=w) T.key hf;rw [←he] at hfk;have hs:=MapKept.heap_set (o':= .map (fi (ks++ [k])) (ks++ [k]).length) hb;intro _;refine kX (s:=Instr.mapUpdate t (.map (some m)) (.string (mk k)) (.int .i64 (ks.length:Int))) (w':={w with heap:=w.heap.setIfInBounds m (.map (fi (ks++ [k])) (ks++ [k]).length)}) ?_ (hk _ (s.vo (o':= .map (fi (ks++ [k])) (ks++ [k]).length) hs.1 hs.2 (by simp) rfl rfl (fun _ _ _ h=>by cases h)));simp only [Instr.mapUpdate,Sem.run_bind,run_underlying T.ty,MapKept.run_getObj_map hb,Result.andThen_ok,hck,hfk,Option.map_none,IK];rw [MapKept.run_setObj_map _ hb];simp
theorem M8 {xt t:TypeId} {v:Value} {d:TypeDesc} (hu:P.underlying t=some d) (hd:∀ms,d≠ .interface ms) (hk:K v w):aG P (.tas xt t false) [.iface t v] K w:=by
 intro _;refine aN (s:=Instr.typeAssert (.iface t v) xt t false) (v:=v) (w':=w) ?_ hk;simp only [Instr.typeAssert,Sem.run_bind,run_underlying hu,Result.andThen_ok];cases d<;>simp_all
end
section
variable {P:Program}
inductive PV where
 |int (k:IntKind) (a:Int)
 |str (b:List UInt8)
 |bool (b:Bool)
deriving DecidableEq
inductive PK where
 |int (k:IntKind)
 |str
 |bool
deriving DecidableEq
def PV.val:PV→Value
 | .int k a=> .int k a
 | .str b=> .string (mk b)
 | .bool b=> .bool b
def PV.kind:PV→PK
 | .int k _=> .int k
 | .str _=> .str
 | .bool _=> .bool
def PK.of:PK→TypeDesc→Bool
 | .int _,.int _=>true
 | .str,.string=>true
 | .bool,.bool=>true
 |_,_=>false
def uP (P:Program):List Field→List PK→Nat→Bool
 | [],[],_=>true
 |f::fs,k::ks,o=>(f.name != "_")&&(f.offset==o)&&(match P.underlying f.type with|some d=>k.of d|none=>false)&&uP P fs ks (o+1)
 |_,_,_=>false
def fTa (xs:Array Value) (o:Nat) (as_:List PV):Prop:=∀j u,as_[j]?=some u→xs[o+j]?=some u.val
structure RB (P:Program) (t:TypeId) (ks:List PK):Prop where
 und:P.underlying t=some (.struct (P.fieldsOf t))
 stood:P.stoodInHeld t=false
 guard:P.eqGuardType P.depth t=false
 prims:uP P (P.fieldsOf t).toList ks 0=true
variable {K:Value→World→Prop} {w w0:World} {A:al} {C:World→Prop}
end
end Go.HL
namespace Go.HL.Pu
open Go.HL Go.HL.Nm Go.Proofs
structure Ac where
 name:List UInt8
 ab:Int
deriving DecidableEq
def Ac.cs (x:Ac):List Value:= [.string (HL.mk x.name),.int .u64 x.ab]
def flat (l:List Ac):List Value:=l.flatMap Ac.cs
theorem lu (x:Ac):x.cs.length=2:=rfl
theorem iy (l:List Ac):(flat l).length=l.length*2:=fX Ac.cs 2 lu l
theorem cr (x:Ac):∀u∈x.cs,u.oneCell'=true:=by
 intro u hu;simp only [Ac.cs,List.mem_cons,List.not_mem_nil,or_false] at hu;rcases hu with rfl|rfl<;>rfl
theorem tW (l:List Ac):∀u∈flat l,u.oneCell'=true:=by
 intro u hu;obtain ⟨x,_,hx⟩:=List.mem_flatMap.1 hu;exact cr x u hx
theorem gn {af:List Ac} {i:Nat} (h:i<af.length):∀j u,(af[i].cs)[j]?=some u→(flat af)[i*2+j]?=some u:=by
 intro j u hu;have hj:j<2:=(List.getElem?_eq_some_iff.1 hu).1;rw [←hu];exact fB Ac.cs 2 lu af i j h hj
theorem Ic {af:List Ac} {i:Nat} (h:i<af.length):(flat af)[i*2]?=some (.string (mk af[i].name)):=gn h 0 _ rfl
theorem jx {af:List Ac} {i:Nat} (h:i<af.length):(flat af)[i*2+1]?=some (.int .u64 af[i].ab):=gn h 1 _ rfl
theorem Ie {af:List Ac} {i:Nat} (h:i<af.length) (c:Int):(flat af).set (i*2+1) (.int .u64 c)=flat (af.set i ⟨af[i].name,c⟩):=by
 have e:=tX Ac.cs 2 lu (⟨af[i].name,c⟩:Ac) af i h;show _=List.flatMap Ac.cs _;rw [←e];have hl:=iy af;have hf:flat af=af.flatMap Ac.cs:=rfl;apply List.ext_getElem?;intro k;have hlen:i*2+2≤(af.flatMap Ac.cs).length:=by rw [←hf];omega
 have tl:((af.flatMap Ac.cs).take (i*2)).length=i*2:=by rw [List.length_take];omega
 rw [hf];have c4:(⟨af[i].name,c⟩:Ac).cs.length=2:=rfl
 by_cases k1:k<i*2
 ·rw [List.getElem?_set_ne (by omega),List.append_assoc,List.getElem?_append_left (by omega),List.getElem?_take,if_pos k1]
 by_cases k2:k<i*2+2
 ·rw [List.append_assoc,List.getElem?_append_right (by omega),tl,List.getElem?_append_left (by rw [c4];omega)]
  obtain ⟨j,rfl⟩:∃j,k=i*2+j:=⟨k -i*2,by omega⟩;have hj:j<2:=by omega
  rw [Nat.add_sub_cancel_left];have:j=0∨j=1:=by omega
  rcases this with rfl|rfl
  ·rw [List.getElem?_set_ne (by omega),fB Ac.cs 2 lu af i 0 h (by omega)];rfl
  ·rw [List.getElem?_set_self (by omega)];rfl
 ·rw [List.getElem?_set_ne (by omega),List.append_assoc,List.getElem?_append_right (by omega),tl,List.getElem?_append_right (by rw [c4];omega),List.getElem?_drop,c4]
  congr 1
  omega
def iP (l:List UInt8):List UInt8:=gJ (eE l)
def Rc (l:List UInt8):List UInt8:=gJ (aOa l)
def keys (l:List Ac):List (List UInt8):=l.map fun x=>iP x.name
structure Ps where
 lim:Int
 rows:List Ac
 sup:Int
 held:Int
deriving DecidableEq
abbrev ki (p:Nat) (P:Ps) (m:Nat) (v:Value):al:=pt p (.cells #[.map (some m),.int .i64 P.lim,v,.int .u64 P.sup,.int .u64 P.held] 195 (0,0))
abbrev lJ (m:Nat) (l:List Ac):al:=pt m (.map (fi (keys l)) (keys l).length)
def bE (p:Nat) (P:Ps):al:=fun h=>∃m v,(ki p P m v*lJ m P.rows*own 139 2 v P.rows.length (flat P.rows)) h
theorem kO {w0 w:World} {A:al} {p:Nat} {P:Ps} (s:St w0 (A*bE p P) w):
  ∃m v,St w0 (A*ki p P m v*lJ m P.rows*own 139 2 v P.rows.length (flat P.rows)) w:=by
 obtain ⟨g,h1,h2,h3,d,e,a,m,v,b⟩:=s.holds;refine ⟨m,v,?_⟩;rw [au,au,←au (ki p P m v)];exact s.of ⟨g,h1,h2,h3,d,e,a,b⟩
theorem fQ {w0 w:World} {A:al} {p:Nat} {P:Ps} {m:Nat} {v:Value}
  (s:St w0 (A*ki p P m v*lJ m P.rows*own 139 2 v P.rows.length (flat P.rows)) w):St w0 (A*bE p P) w:=by
 rw [au,au,←au (ki p P m v)] at s;obtain ⟨g,h1,h2,h3,d,e,a,b⟩:=s.holds;exact s.of ⟨g,h1,h2,h3,d,e,a,m,v,b⟩
theorem VM:Mu Tryz.prog 191 9 3:=⟨by kernel_rfl,by kernel_rfl,by kernel_rfl⟩
noncomputable abbrev U0:PF Tryz.prog:=PF.none _
def bya:Nat→PO
 |0=> .chkp
 |1=>(.fld 0)
 |2=>(.ext 0)
 |3=>(.ext 1)
 |4=>(.eqNil false (.map 9 3) (.map none))
 |5=>(.ifc 191)
 |6=> .lenL
 |7=>(.slL 1 false true true)
 |8=>(.slL 2 false true true)
 |9=>(.eqNil false (.slice 139) (.slice none 0 0))
 |10=>(.bin .gtr)
 |11=>(.bin .sub)
 |_=> .same
def Zq:Nat→EO
 |0=>(.ld false 1)
 |1=>(.call 203)
 |2=>(.look 191 true)
 |3=>(.lh 191)
 |4=>(.cext 232)
 |5=>(.tas 20 191 false)
 |6=>(.bsl 139 0 2 #[] [])
 |7=>(.app 136 136 139 2 24 (.agg #[(.string ⟨#[]⟩),(.int .u64 0)]))
 |_=> .an
def dLa:Nat→Value
 |0=>(.int .i64 0)
 |1=>(.bool false)
 |2=>(.map none)
 |3=>(.slice none 0 0)
 |4=>(.int .u64 0)
 |5=>(.int .i64 11)
 |_=>undef
def vk:cX:=⟨bya,Zq,dLa⟩
def Ti:ai:=⟨[0,1,4,5,6,7],20,[.slot 2,.slot 3],aP vk [] 0x2ce6ffda6764050d0102a5cee289c71a6765664420c5566442084991083991082cb8cc2c41074d3c001034f0007c0059da6764810d2002⟩
theorem Nz:aj U0 123 400=some Ti:=by kernel_rfl
def Tj:ai:=⟨[0,1,2],13,[],aP vk [] 0x2973b8a269853d0b8cc3c41074d3c001034f0007c005⟩
theorem NA:aj U0 124 400=some Tj:=by kernel_rfl
def TF:ai:=⟨[0,2],9,[.slot 1],aP vk [] 0x2ce6fffb8b7e019b3174f0513c168bc0b2fff748205c6d5f0463c127dd2081⟩
theorem N5:aj U0 156 400=some TF:=by kernel_rfl
def l74:ai:=⟨[0,2],9,[.slot 1],aP vk [] 0xe6ffdc71cdd553257c195f064001c153257c195f064001fc1bc1a7dd20c1⟩
theorem Ve:aj U0 74 400=some l74:=by kernel_rfl
def Tz:ai:=⟨[0,2],9,[.slot 1],aP vk [] 0xe6ffdc71cdd553257c195f06400e8153257c195f06400ebc1bc1a7dd20c1⟩
theorem NX:aj U0 148 400=some Tz:=by kernel_rfl
def TA:ai:=⟨[0,2],8,[.slot 1],aP vk [] 0xb39bff8a2df8054f331d31a8bc0b2fff748305c6d5f3e63cfa7dd20c1⟩
theorem NY:aj U0 149 400=some TA:=by kernel_rfl
def Tp:ai:=⟨[0,1,4,5],12,[.slot 2,.slot 3],aP vk [] 0x2ce6ffdc699d9200357d05000b042f414002c1a2f02cbff699d9214348409c6d553c401281614f1004afda6764800d2102⟩
theorem NF:aj U0 128 400=some Tp:=by kernel_rfl
theorem E6 (p:Nat) (c:Array Value) (t:TypeId) (m:Nat) (ks:List (List UInt8)) (n:Nat) (x:List UInt8) (w0 w:World) (A:al) (hc:c[0]?=some (.map (some m))) (hx:x.length≤1048576)
  (s:St w0 (A*pt p (.cells c t (0,0))*pt m (.map (fi ks) n)) w):
  ak Tryz.prog 123 [.pointer (some ⟨p,0,none⟩),.string (mk x)] (fun r w'=>r= .tuple #[.int .i64 (MC (iP x) ks),.bool (yk (iP x) ks)]∧St w0 (A*pt p (.cells c t (0,0))*pt m (.map (fi ks) n)) w') w:=by
 refine aB Nz (by simp [Ti]) ?_;simp [Ti];refine jF (fun vs w=>match vs with
  | []=>St w0 (A*pt p (.cells c t (0,0))*pt m (.map (fi ks) n)) w
  |r::_=>r= .string (mk (iP x))∧St w0 (A*pt p (.cells c t (0,0))*pt m (.map (fi ks) n)) w) s.drew ?_
 have base:∀{vs':List Value} {w:World},(match vs' with
  | []=>St w0 (A*pt p (.cells c t (0,0))*pt m (.map (fi ks) n)) w
  |r::_=>r= .string (mk (iP x))∧St w0 (A*pt p (.cells c t (0,0))*pt m (.map (fi ks) n)) w)→St w0 (A*pt p (.cells c t (0,0))*pt m (.map (fi ks) n)) w:=by
  intro vs' w h;cases vs' with
  |nil=>exact h
  |cons r l=>exact h.2
 simp;refine aq (v:= .map (some m)) (fun vs' w _ hw=>by rw [cell_of (base hw).drop.look];exact hc) ?_;simp;refine bw rfl (fun w hw=>ad ((vW x w0 w _ hx hw).mono fun r w' h=>h)) (fun r hr=> ?_);obtain ⟨_,rfl,_⟩:=hr;simp;refine H3 VM (fun vs' w _ hw=>(base hw).look) ?_;simp
theorem ED (p:Nat) (c:Array Value) (t:TypeId) (m:Nat) (ks:List (List UInt8)) (x:List UInt8) (w0 w:World) (A:al) (hc:c[0]?=some (.map (some m))) (hx:x.length≤1048576) (hn:mH (iP x) ks 0=none)
  (s:St w0 (A*pt p (.cells c t (0,0))*pt m (.map (fi ks) ks.length)) w):
  ak Tryz.prog 124 [.pointer (some ⟨p,0,none⟩),.string (mk x),.int .i64 (ks.length:Int)] (fun r w'=>St w0 (A*pt p (.cells c t (0,0))*pt m (.map (fi (ks++ [iP x])) (ks++ [iP x]).length)) w') w:=by
 refine aB NA (by simp [Tj]) ?_;simp [Tj];refine jF (fun vs w=>match vs with
  | []=>St w0 (A*pt p (.cells c t (0,0))*pt m (.map (fi ks) ks.length)) w
  | [r]=>r= .string (mk (iP x))∧St w0 (A*pt p (.cells c t (0,0))*pt m (.map (fi ks) ks.length)) w
  |_=>St w0 (A*pt p (.cells c t (0,0))*pt m (.map (fi (ks++ [iP x])) (ks++ [iP x]).length)) w) s.drew ?_
 simp;refine aq (v:= .map (some m)) (fun vs' w he hw=> ?_) ?_
 ·match vs',hw with
  | [],hw=>rw [cell_of (St.drop hw).look];exact hc
  | [_],hw=>rw [cell_of (St.drop hw.2).look];exact hc
  |_::_::_,hw=>simp [era] at he
 simp;refine bw rfl (fun w hw=>ad ((vW x w0 w _ hx hw).mono fun r w' h=>h)) (fun r hr=> ?_);obtain ⟨_,rfl,_⟩:=hr;simp;refine bw rfl (fun w hw=>M9 VM hw.2 hn fun w' h=>by simpa using h) (fun r hr=> ?_);simp
theorem kV (a b:Int) (w:World) (ha:0≤a∧a<18446744073709551616) (hb:0≤b∧b<18446744073709551616):ak Tryz.prog 128 [.int .u64 a,.int .u64 b] (fun r w'=>r= .tuple #[.int .u64 (if a<b then 0 else a -b),.int .i64 (if a<b then 11 else 0)]∧w'=w) w:=by
 refine aB NF (by simp [Tp]) ?_;simp [Tp];refine aM (fun h=> ?_) (fun h=> ?_)
 ·simp at h
  simp [h]
 ·simp at h
  simp
  try simp (disch:=omega) only [bx]
  exact ⟨by rw [if_neg (by omega)],by omega⟩
def J2:Value→Value
 | .slice a n _=> .slice a n n
 |v=>v
theorem iu {w0 w:World} {A:al} {e size n:Nat} {v:Value} {xs:List Value} (s:St w0 (A*own e size v n xs) w):St w0 (A*own e size (J2 v) n xs) w:=by
 rcases s.own with ⟨hl,⟨rfl,rfl,rfl,s'⟩|⟨g,cap,cur,rfl,h1,h2,h3,h4,s'⟩⟩
 ·exact s
 ·exact s'.pI (Nat.le_refl n) (Nat.le_trans h1 h2) (Nat.le_trans (Nat.mul_le_mul_right _ h1) h3) h4
theorem add_zero:(fun x:Addr=>x.add 0)=id:=by funext x;cases x;rfl
theorem tr (v:Value) (n:Nat) (xs:List Value) (e:Nat) (w0 w:World) (A:al) (hn:n≤1048576) (s:St w0 (A*own e 1 v n xs) w):
  ak Tryz.prog 74 [v] (fun r w'=>St w0 (A*own e 1 r n xs) w') w:=by
 obtain ⟨a,cap,rfl,hc,_⟩:=s.aw;refine aB Ve (by simp [l74]) ?_;simp [l74,add_zero];exact ⟨hc,iu s⟩
theorem Ep (v:Value) (n:Nat) (xs:List Value) (e:Nat) (w0 w:World) (A:al) (hn:n≤1048576) (s:St w0 (A*own e 2 v n xs) w):
  ak Tryz.prog 148 [v] (fun r w'=>St w0 (A*own e 2 r n xs) w') w:=by
 obtain ⟨a,cap,rfl,hc,_⟩:=s.aw;refine aB NX (by simp [Tz]) ?_;simp [Tz,add_zero];exact ⟨hc,iu s⟩
theorem tt (v:Value) (rows:List Ac) (w0 w:World) (A:al) (hl:rows.length≤1048576) (s:St w0 (A*own 139 2 v rows.length (flat rows)) w):
  ak Tryz.prog 149 [v] (fun r w'=>St w0 (A*own 139 2 v rows.length (flat rows)*own 139 2 r rows.length (flat rows)) w') w:=by
 obtain ⟨a,cap,rfl,hcap,_⟩:=s.aw;refine aB NY (by simp [TA]) ?_;simp [TA];cases a with
 |none=>
  simp;rcases s.own.2 with ⟨h,h0,_⟩|⟨_,_,_,h,_⟩
  ·have hi:rows= []:=List.eq_nil_of_length_eq_zero h0
   subst hi;exact s.aE _ _
  ·cases h
 |some a=>
  simp;refine mr s ?_;intro v0 w1 s1;simp;have hr:Row w0 (A*own 139 2 (.slice (some a) rows.length cap) rows.length (flat rows)*own 139 2 v0 0 []) (.slice (some a) rows.length cap) rows.length 2 (flat rows):=(bF s).mono fun w s=>s.drop;refine fA s1 hr (tW _) (by decide) rfl (by unfold maxLen;omega) (by omega) ?_;intro v' w2 s2;simp
  simpa using s2
theorem Ez {m:Nat} {es:Array MapEntry} {n:Nat} {t:TypeId} {w0 w:World} {A:al} {K:Value→World→Prop} (s:St w0 (A*pt m (.map es n)) w) (hk:∀m' w',St w0 (A*pt m (.map es n)*pt m' (.map es n)) w'→K (.iface t (.map (some m'))) w'):
  aG Tryz.prog (.cext 232) [.iface t (.map (some m))] K w:=by
 intro _;unfold fS;have h:=run_callFunc_extern (P:=Tryz.prog) (f:=232) (fn:=Tryz.f232) (e:=Extern.MapsClone.clone) Tryz.func232 (by kernel_rfl) (by kernel_rfl) (by kernel_rfl) (by kernel_rfl) #[.iface t (.map (some m))] w;have hb:=s.look;have hr:(Extern.MapsClone.clone #[.iface t (.map (some m))]).run Tryz.prog w= .ok (.iface t (.map (some w.heap.size))) (w.alloc (.map es n)):=by
  have e:Extern.MapsClone.clone #[.iface t (.map (some m))]=(getObj m>>=fun o=>match o with
   | .map entries clock=>(newObj (.map entries clock)>>=fun n=>pure (.iface t (.map (some n))))
   |_=>stuck "maps.clone: a map expected"):=rfl
  rw [e];simp [MapKept.run_getObj_map hb,Result.andThen,newObj];rfl
 rw [hr] at h;simp only [EO.ma];rw [h];simp only [Result.andThen];exact hk _ _ (s.alloc trivial)
theorem CC (m:Nat) (ks:List (List UInt8)) (n:Nat) (w0 w:World) (A:al) (s:St w0 (A*pt m (.map (fi ks) n)) w):
  ak Tryz.prog 156 [.map (some m)] (fun r w'=>∃m',r= .map (some m')∧St w0 (A*pt m (.map (fi ks) n)*pt m' (.map (fi ks) n)) w') w:=by
 refine aB N5 (by simp [TF]) ?_;simp [TF];refine Ez s ?_;intro m' w1 s1;simp;refine M8 VM.ty (by intro ms h;cases h) ?_;simp;exact s1
structure Bd (P:Ps):Prop where
 ab:∀i,i<P.rows.length→0≤(P.rows.getD i ⟨[],0⟩).ab∧(P.rows.getD i ⟨[],0⟩).ab≤4611686018427387904
 held:0≤P.held∧P.held≤4611686018427387904
 sup:0≤P.sup∧P.sup≤4611686018427387904
 len:P.rows.length≤64
def bP (l:List Ac) (i:Nat):Int:=(l.getD i ⟨[],0⟩).ab
def bN (l:List Ac) (i:Nat) (c:Int):List Ac:=l.set i ⟨(l.getD i ⟨[],0⟩).name,c⟩
theorem db {l:List Ac} {i:Nat} (h:i<l.length):bP l i=l[i].ab:=by simp [bP,h]
theorem AQ {l:List Ac} {i:Nat} (h:i<l.length) (c:Int):(flat l).set (i*2+1) (.int .u64 c)=flat (bN l i c):=by
 rw [Ie h];simp [bN,h]
theorem aC (l:List Ac) (i:Nat) (c:Int):(bN l i c).length=l.length:=by simp [bN]
theorem kJ (l:List Ac) (i:Nat) (c:Int):keys (bN l i c)=keys l:=by
 unfold keys bN;rw [List.map_set]
 by_cases h:i<l.length
 ·have e:iP (l.getD i ⟨[],0⟩).name=(l.map fun x=>iP x.name)[i]'(by simpa using h):=by simp [h]
  show (l.map fun x=>iP x.name).set i (iP (l.getD i ⟨[],0⟩).name)=_;rw [e];exact List.set_getElem_self _
 ·rw [List.set_eq_of_length_le (by simp;omega)]
def de (l:List Ac) (n:Int):Int:=if 0≤n∧n<l.length then 0 else 142
def bza:Nat→PO
 |0=>(.eqNil false (.pointer 195) (.pointer none))
 |1=>(.bin .lss)
 |2=> .chkp
 |3=>(.fld 2)
 |4=> .lenL
 |5=>(.bin .geq)
 |6=>(.ext 0)
 |7=>(.ext 1)
 |8=>(.bin .neq)
 |9=>(.fld 0)
 |10=>(.fld 1)
 |11=>(.bin .eql)
 |12=>(.build #[(.string ⟨#[]⟩),(.int .u64 0)] [(0,1),(1,1)] [0])
 |13=>(.fld 3)
 |14=>(.bin .sub)
 |15=>(.bin .gtr)
 |16=>(.bin .add)
 |17=>(.idxL 2)
 |18=>(.fld 4)
 |19=>(.build #[(.string ⟨#[]⟩),(.int .u64 0)] [(0,1),(1,1)] [])
 |_=> .same
def Zr:Nat→EO
 |0=>(.ld false 1)
 |1=>(.call 122)
 |2=>(.call 123)
 |3=>(.bsl 139 1 2 #[(.string ⟨#[]⟩),(.int .u64 0)] [0])
 |4=>(.app 136 136 139 2 24 (.agg #[(.string ⟨#[]⟩),(.int .u64 0)]))
 |5=>(.st 1)
 |6=>(.call 124)
 |7=>(.call 125)
 |8=>(.bi .max #[47,47] 47 #[false,false])
 |9=>(.call 128)
 |10=>(.new 139 (.agg #[(.string ⟨#[]⟩),(.int .u64 0)]))
 |11=>(.st 2)
 |12=>(.ld true 2)
 |_=> .an
def dMa:Nat→Value
 |0=>(.int .i64 0)
 |1=>(.int .i64 1)
 |2=>(.tuple #[])
 |3=>(.bool true)
 |4=>(.int .i64 142)
 |5=>(.int .i64 140)
 |6=>(.int .i64 141)
 |7=>(.int .u64 0)
 |8=>(.int .i64 2)
 |9=>(.int .u64 4611686018427387904)
 |10=>(.int .i64 144)
 |11=>(.int .i64 234)
 |12=>(.int .i64 143)
 |_=>undef
def vm:cX:=⟨bza,Zr,dMa⟩
def Tk:ai:=⟨[0,1,4],18,[.slot 2],aP vm [] 0xe79bffdd2002a2f02cbffdd210272375d91f6d20d8ce271c7db572566e04592090073158cf2566e04592090073166e04996482574f020f3033d3c083cfc0b3575010041d40401068bc0b2fff748109c6d5f0063c027dd2002⟩
theorem NB:aj U0 125 400=some Tk:=by kernel_rfl
def l60:ai:=⟨[0,1,4,5,7,9,10],59,[.slot 2,.slot 3],aP vm [] 0xb39e79e79bff699d920034060a773b69853d190055d3c0be1b4f02fbc0a773bee273b698c91095d3c083174f020fc0b2e33134c413010f104c074d3c083034f020fc0a8bc0b2ffda6764860d200273b71b572cd018b058cb34062c1d34f02281034f02281f029dcedcdd59b31069b3134d3c083034f020fc0a8bc0b2ffda6764850d20026d01589dcedc737566cc7166cc79b31bd055d3c0be0b4f02fbc0a8bc0b2ffda6764040d200271b57501013a63501013a9e271cdd59b31c49b31e6cc6c41068bc0b2ffda6764810d200271b57c018f009da6764800d2002⟩
theorem UY:aj U0 60 400=some l60:=by kernel_rfl
def l61:ai:=⟨[0,1,2,6,7],43,[.slot 3],aP vm [] 0x39e79e6fff74800e773b73b71ceda63257d0b8202574f41cc908a045d3d073242281f41cc90bd0b8202d34f41cc908a040d3d073242281f41cc90b4d3c083034f020fc0a773b71ceda63257d0b3202574f02341174f02341f02f42cc80b4d3c08d040d3c08d07c0a8bc0b2fff748a04373b71c6d5c95cb34be3814023c1632572cd2f8e05008f072cd2f8e074d3c08d040d3c08d07c0a8bc0b2fff74ba0dc6d5d474022c16351d008b068bc0b2fff74040dc6d5d40404e98d40404ea78b7cc4f414001e7dd2003⟩
theorem UZ:aj U0 61 400=some l61:=by kernel_rfl
def l64:ai:=⟨[0,1,2,3,8,9,10,11],62,[.slot 4],aP vm [] 0xe79e79e6fff748012773b73b71ceda63257d0f8202574f42cc908a045d3d0b3242281f42cc90bd0f8202d34f42cc908a040d3d0b3242281f42cc90b4d3c083034f020fc0a773b73b698f46574f41cc908a045d3d073242281f41cc90b4d3c083034f020fc0a8bc0b2fff748c04471b5750101fa6350101fa9dcedcee271c699d959910871d59910861a64421e64421bd0f8fb4d3d073242281034f41cc908a07d073242d34f020c0d3c083f02a2f02cbffdd2e8471b5751d00cb058d474032c1a2f02cbffdd22c111c6d5f424012c163d09004b068bc0b2fff740511c6d5d40405e98d40405ea78a28b7442172e33ebd090007f414001e7dd2004⟩
theorem U4:aj U0 64 400=some l64:=by kernel_rfl
def Uq:ai:=⟨[0,1,2,6,7,8,9],47,[.slot 3],aP vm [] 0xe79e79bffdd20039dcedc73b698c95f42cc8095d3c08a085d3c08a0bc0bd0b3202d34f02282034f02282f029dcedceda63d155d3d073242281174f41cc908a07d073242d34f020c0d3c083f02a2f02cbffdd23010dc6d5d40406e98d40406ea773b73b89c71a6765664421c6566442185991087991086f42e3ed34f41cc908a040d3d073242281f41cc90b4d3c083034f020fc0a8bc0b2fff74040dc6d5d40404e98d40404ea78b7cc4f414001e7dd2003⟩
theorem Ph:aj U0 307 400=some Uq:=by kernel_rfl
def UD:ai:=⟨[0,1,2,6,7,8,9],43,[.slot 3],aP vm [] 0xe79e79bffdd20039dcedcedc73b698c95f42e08095d3d073242281174f41cc908a07d073242f42e080b4d3d073242281034f41cc908a07d073242d34f020c0d3c083f029dceda63d155d3c08a085d3c08a0bc0a8bc0b2fff748c04371b5750101ba6350101ba9dcee271c699d959b81c6566e06166e079b81bd0b3fb4d3c08a080d3c08a0bc0a8bc0b2fff74040dc6d5d40404e98d40404ea78b7cc4f414001e7dd2003⟩
theorem PJ:aj U0 368 400=some UD:=by kernel_rfl
def TL:ai:=⟨[0,1,4,5,6],21,[.cell 2 true 2,.slot 3],aP vm [] 0x39e6ffdcefb8b74800f2e1008b074f41cc908c07d073242d34f020c0d3c083f02a2f02cbffef74040f25532c24022c14cb09c6d5d40404e98d40404ea78b7cc4f414001e789a6764800f3093281⟩
theorem Oa:aj U0 169 400=some TL:=by kernel_rfl
theorem aZ (p:Nat) (P:Ps) (n:Int) (w0 w:World) (A:al) (s:St w0 (A*bE p P) w):
  ak Tryz.prog 125 [.pointer (some ⟨p,0,none⟩),.int .i64 n] (fun r w'=>r= .int .i64 (de P.rows n)∧St w0 (A*bE p P) w') w:=by
 refine aB NB (by simp [Tk]) ?_;simp [Tk];obtain ⟨m,v,s1⟩:=kO s;obtain ⟨a,cap,rfl,_⟩:=s1.aw
 by_cases h:n<0
 ·simp [h]
  rw [de,if_neg (by omega)];exact ⟨rfl,s⟩
 ·simp [h]
  refine ae (v:= .slice a P.rows.length cap) (by rw [cell_of s1.drop.drop.look];rfl) ?_;simp;refine aM (fun h2=> ?_) (fun h2=> ?_)
  ·simp at h2
   simp;rw [de,if_neg (by omega)];exact ⟨rfl,s⟩
  ·simp at h2
   simp;rw [de,if_pos (by omega)];exact ⟨rfl,s⟩
theorem Nt (p:Nat) (P:Ps) (m:Nat) (v:Value) (x:List UInt8) (w0 w:World) (A:al) (hx:x.length≤1048576) (s:St w0 (A*ki p P m v*lJ m P.rows) w):
  ak Tryz.prog 123 [.pointer (some ⟨p,0,none⟩),.string (mk x)] (fun r w'=>r= .tuple #[.int .i64 (MC (iP x) (keys P.rows)),.bool (yk (iP x) (keys P.rows))]∧St w0 (A*ki p P m v*lJ m P.rows) w') w:=
 E6 p _ _ m (keys P.rows) _ x w0 w A rfl hx s
theorem Nc (p:Nat) (P:Ps) (m:Nat) (v:Value) (x:List UInt8) (l:List Ac) (w0 w:World) (A:al) (hx:x.length≤1048576) (hn:yk (iP x) (keys l)=false) (s:St w0 (A*ki p P m v*lJ m l) w):
  ak Tryz.prog 124 [.pointer (some ⟨p,0,none⟩),.string (mk x),.int .i64 (l.length:Int)] (fun r w'=>St w0 (A*ki p P m v*lJ m (l++ [⟨x,0⟩])) w') w:=by
 have e1:((keys l).length:Int)=l.length:=by simp [keys]
 have e2:keys (l++ [⟨x,0⟩])=keys l++ [iP x]:=by simp [keys]
 rw [←e1];show ak _ _ _ (fun r w'=>St w0 (A*ki p P m v*pt m (.map (fi (keys (l++ [⟨x,0⟩]))) (keys (l++ [⟨x,0⟩])).length)) w') _;rw [e2];exact ED p _ _ m (keys l) x w0 w A rfl hx (by simpa [yk] using hn) s
def ck (P:Ps) (x:List UInt8):Int×Int×Ps:=
 if (jn x).2=0 then
  if yk (iP x) (keys P.rows)=true then (0,140,P)
  else if (P.rows.length:Int)=P.lim then (0,141,P)
  else ((P.rows.length:Int),0,{P with rows:=P.rows++ [⟨x,0⟩]})
 else (0,(jn x).2,P)
theorem we (p:Nat) (P:Ps) (x:List UInt8) (w0 w:World) (A:al) (hx:x.length≤1048576) (hl:P.rows.length≤1048576) (s:St w0 (A*bE p P) w):
  ak Tryz.prog 60 [.pointer (some ⟨p,0,none⟩),.string (mk x)] (fun r w'=>r= .tuple #[.int .i64 (ck P x).1,.int .i64 (ck P x).2.1]∧St w0 (A*bE p (ck P x).2.2) w') w:=by
 refine aB UY (by simp [l60]) ?_;simp [l60];refine ad ((Em x w0 w _ hx s).mono ?_);rintro r w1 ⟨rfl,s⟩;simp;refine aM (fun h=> ?_) (fun h=> ?_)
 ·simp at h
  simp [ck,h];exact s
 simp at h;simp;obtain ⟨m,v,s1⟩:=kO s;refine ad ((Nt p P m v x w0 w1 (A*own 139 2 v P.rows.length (flat P.rows)) hx (s1.to (by ac_rfl))).mono ?_);rintro r w2 ⟨rfl,s2⟩;simp;have s3:=s2.to (B:=A*ki p P m v*lJ m P.rows*own 139 2 v P.rows.length (flat P.rows)) (by ac_rfl);clear s s1 s2;refine aM (fun h2=> ?_) (fun h2=> ?_)
 ·simp [ck,h,h2]
  exact fQ s3
 simp;obtain ⟨a,cap,rfl,_⟩:=s3.aw;refine ae (v:= .slice a P.rows.length cap) (by rw [cell_of s3.drop.drop.look];rfl) ?_;simp;refine ae (v:= .int .i64 P.lim) (by rw [cell_of s3.drop.drop.look];rfl) ?_;simp;refine aM (fun h3=> ?_) (fun h3=> ?_)
 ·simp at h3
  simp [ck,h,h2,h3];exact fQ s3
 simp at h3;simp;refine ae (v:= .slice a P.rows.length cap) (by rw [cell_of s3.drop.drop.look];rfl) ?_;simp [Instr.fill,Value.cells];refine bV s3 rfl ?_;intro c w3 s4;simp;refine bu (m:=1) (news:=Ac.cs ⟨x,0⟩) (s4.to (B:=A*ki p P m (.slice a P.rows.length cap)*lJ m P.rows*pt c (.cells (Ac.cs ⟨x,0⟩).toArray 139 (0,0))*own 139 2 (.slice a P.rows.length cap) P.rows.length (flat P.rows)) (by ac_rfl)) rfl s4.aH (cr _) (by decide) rfl (by unfold maxLen;omega) (by omega) ?_;intro v2 w4 s5;simp;have hv2:=s5.aw;obtain ⟨a2,cap2,rfl,_⟩:=hv2;refine aU (s5.to (B:=A*lJ m P.rows*pt c (.cells (Ac.cs ⟨x,0⟩).toArray 139 (0,0))*own 139 2 (.slice a2 (P.rows.length+1) cap2) (P.rows.length+1) (flat P.rows++Ac.cs ⟨x,0⟩)*ki p P m (.slice a P.rows.length cap)) (by ac_rfl)) rfl (by simp) ?_;intro w5 s6;simp at s6;simp
 have s6:St w0 (A*lJ m P.rows*pt c (.cells (Ac.cs ⟨x,0⟩).toArray 139 (0,0))*own 139 2 (.slice a2 (P.rows.length+1) cap2) (P.rows.length+1) (flat P.rows++Ac.cs ⟨x,0⟩)*ki p P m (.slice a2 (P.rows.length+1) cap2)) w5:=s6;refine ad ((Nc p P m (.slice a2 (P.rows.length+1) cap2) x P.rows w0 w5 (A*own 139 2 (.slice a2 (P.rows.length+1) cap2) (P.rows.length+1) (flat P.rows++Ac.cs ⟨x,0⟩)) hx h2 (St.cut (pt c (.cells (Ac.cs ⟨x,0⟩).toArray 139 (0,0))) s6 (by ac_rfl))).mono ?_);intro r w6 s7;simp [ck,h,h2,h3];refine fQ (m:=m) (v:= .slice a2 (P.rows.length+1) cap2) ?_;have e:flat (P.rows++ [⟨x,0⟩])=flat P.rows++Ac.cs ⟨x,0⟩:=by simp [flat]
 show St w0 (A*ki p P m (.slice a2 (P.rows.length+1) cap2)*lJ m (P.rows++ [(⟨x,0⟩:Ac)])*own 139 2 (.slice a2 (P.rows.length+1) cap2) (P.rows++ [(⟨x,0⟩:Ac)]).length (flat (P.rows++ [⟨x,0⟩]))) w6;rw [e,List.length_append];exact s7.to (by ac_rfl)
theorem iJ {l:List Ac} {n:Int} (h:de l n=0):∃i:Nat,n=i∧i<l.length:=by
 unfold de at h;split at h
 ·exact ⟨n.toNat,by omega,by omega⟩
 ·cases h
theorem mZ (l:List Ac) (n:Int):de l n=0∨de l n=142:=by unfold de;split<;>simp
def dH (P:Ps) (n c:Int):Int×Ps:=
 if de P.rows n=0 then
  if c=0 then (2,P) else if 4611686018427387904 -P.sup<c then (144,P)
  else (0,{P with sup:=P.sup+c,rows:=bN P.rows n.toNat (bP P.rows n.toNat+c)})
 else (142,P)
theorem HJ (p:Nat) (P:Ps) (n c:Int) (w0 w:World) (A:al) (hP:Bd P) (hc:0≤c∧c<18446744073709551616) (s:St w0 (A*bE p P) w):
  ak Tryz.prog 61 [.pointer (some ⟨p,0,none⟩),.int .i64 n,.int .u64 c] (fun r w'=>r= .int .i64 (dH P n c).1∧St w0 (A*bE p (dH P n c).2) w') w:=by
 refine aB UZ (by simp [l61]) ?_;simp [l61];have hs:=hP.sup;have hlen:=hP.len;refine ad ((aZ p P n w0 w A s).mono ?_);rintro r w1 ⟨rfl,s⟩;simp;refine aM (fun h=> ?_) (fun h=> ?_)
 ·simp at h
  have h142:=(mZ P.rows n).resolve_left h;simp [dH,h142];exact s
 simp at h;obtain ⟨i,rfl,hi⟩:=iJ h;simp;refine aM (fun h1=> ?_) (fun h1=> ?_)
 ·simp at h1
  simp [dH,h,h1];exact s
 simp at h1;simp;obtain ⟨m,v,s1⟩:=kO s;refine ae (v:= .int .u64 P.sup) (by rw [cell_of s1.drop.drop.look];rfl) ?_;simp
 try simp (disch:=omega) only [bx]
 refine aM (fun h2=> ?_) (fun h2=> ?_)
 ·simp at h2
  simp [dH,h,h1,h2];exact s
 simp at h2;simp;refine ae (v:= .int .u64 P.sup) (by rw [cell_of s1.drop.drop.look];rfl) ?_;simp
 try simp (disch:=omega) only [bx]
 refine aU (s1.to (B:=A*lJ m P.rows*own 139 2 v P.rows.length (flat P.rows)*ki p P m v) (by ac_rfl)) rfl (by simp) ?_;intro w2 s2;simp at s2;simp;obtain ⟨g,cap,hv,hcap,_⟩:=s1.aO (by omega);subst hv;have hco:=hP.ab i hi;have hci:(P.rows.getD i ⟨[],0⟩).ab=bP P.rows i:=rfl;rw [hci] at hco;refine ae (v:= .slice (some ⟨g,0,none⟩) P.rows.length cap) (by rw [cell_of s2.look];rfl) ?_;simp [hi];have s3:=s2.to (B:=A*lJ m P.rows*ki p {P with sup:=P.sup+c} m (.slice (some ⟨g,0,none⟩) P.rows.length cap)*own 139 2 (.slice (some ⟨g,0,none⟩) P.rows.length cap) P.rows.length (flat P.rows)) (by ac_rfl);obtain ⟨g',cap',hv,_,hcell⟩:=s3.aO (by omega);cases hv;refine ae (v:= .int .u64 (bP P.rows i)) (by rw [hcell _ _ (jx hi),db hi]) ?_;simp [hi]
 try simp (disch:=omega) only [bx]
 have hfl:=iy P.rows;refine cw (u:= .int .u64 (bP P.rows i+c)) s3 (by omega) rfl ?_;intro w3 s4;rw [AQ hi] at s4;simp [dH,h,h1];rw [if_neg (by omega)];refine ⟨rfl,fQ (m:=m) (v:= .slice (some ⟨g,0,none⟩) P.rows.length cap) ?_⟩;rw [lJ,kJ,aC];exact s4.to (by ac_rfl)
theorem pb {P:Program} {K:Value→World→Prop} {w:World} {ats:Array TypeId} {ty:TypeId} {cs:Array Bool} {k:IntKind} {a b:Int} (hk:K (.int k (if b>a then b else a)) w):aG P (.bi .max ats ty cs) [.int k a,.int k b] K w:=by
 intro _;show fS P (dC (Builtin.max_ ats ty #[.int k a,.int k b])) K w;refine aN (v:= .int k (if b>a then b else a)) (w':=w) ?_ hk;simp [Builtin.max_,Builtin.max2]
theorem dS {P:Ps} (hP:Bd P) {i:Nat} (h:i<P.rows.length):0≤bP P.rows i∧bP P.rows i≤4611686018427387904:=hP.ab i h
theorem oV {l:List Ac} {i j:Nat} (h:i<l.length) (c:Int):bP (bN l i c) j=if j=i then c else bP l j:=by
 unfold bP bN
 by_cases e:j=i
 ·subst e;simp [h]
 ·rw [if_neg e]
  simp [List.getElem?_set_ne (Ne.symm e)]
theorem sQ {w0 w:World} {A:al} {p m g cap i:Nat} {P:Ps} {c:Int} {l:List Ac} (hi:i<l.length)
  (s:St w0 (A*own 139 2 (.slice (some ⟨g,0,none⟩) l.length cap) l.length (flat l)) w) {K:Value→World→Prop}
  (hk:∀w',St w0 (A*own 139 2 (.slice (some ⟨g,0,none⟩) (bN l i c).length cap) (bN l i c).length (flat (bN l i c))) w'→K undef w'):
  aG Tryz.prog (.st 1) [.pointer (some ⟨g,i*2+1,none⟩),.int .u64 c] K w:=by
 have hfl:=iy l;refine cw (u:= .int .u64 c) s (by omega) rfl ?_;intro w3 s4;rw [AQ hi] at s4;refine hk w3 ?_;rw [aC];exact s4
def fZ (P:Ps) (a b c:Int):Int×Ps:=
 if de P.rows a=0∧de P.rows b=0 then
  if a=b then (234,P) else if c=0 then (2,P) else if bP P.rows a.toNat<c then (143,P)
  else (0,{P with rows:=bN (bN P.rows a.toNat (bP P.rows a.toNat -c)) b.toNat (bP P.rows b.toNat+c)})
 else (142,P)
theorem JE (p:Nat) (P:Ps) (a b c:Int) (w0 w:World) (A:al) (hP:Bd P) (hc:0≤c∧c<18446744073709551616) (s:St w0 (A*bE p P) w):
  ak Tryz.prog 64 [.pointer (some ⟨p,0,none⟩),.int .i64 a,.int .i64 b,.int .u64 c] (fun r w'=>r= .int .i64 (fZ P a b c).1∧St w0 (A*bE p (fZ P a b c).2) w') w:=by
 refine aB U4 (by simp [l64]) ?_;simp [l64];have hlen:=hP.len;refine ad ((aZ p P a w0 w A s).mono ?_);rintro r w1 ⟨rfl,s⟩;simp;refine ad ((aZ p P b w0 w1 A s).mono ?_);rintro r w2 ⟨rfl,s⟩;simp;refine pb ?_;simp;have hor1:=mZ P.rows a;have hor2:=mZ P.rows b
 by_cases hab:de P.rows a=0∧de P.rows b=0
 ·obtain ⟨ha,hb⟩:=hab
  obtain ⟨i,rfl,hi⟩:=iJ ha;obtain ⟨j,rfl,hj⟩:=iJ hb;simp [ha,hb];refine aM (fun h=> ?_) (fun h=> ?_)
  ·simp at h
   simp [fZ,ha,hb,h];exact s
  simp at h;simp;refine aM (fun h1=> ?_) (fun h1=> ?_)
  ·simp at h1
   simp [fZ,ha,hb,h,h1];exact s
  simp at h1;simp;obtain ⟨m,v,s1⟩:=kO s;clear s;obtain ⟨g,gcap,hv,hcap,hcell⟩:=s1.aO (by omega);subst hv;refine ae (v:= .slice (some ⟨g,0,none⟩) P.rows.length gcap) (by rw [cell_of s1.drop.drop.look];rfl) ?_;simp [hi];have hci:=dS hP hi;have hcj:=dS hP hj;refine ae (v:= .int .u64 (bP P.rows i)) (by rw [hcell _ _ (jx hi),db hi]) ?_;simp;refine ad ((kV (bP P.rows i) c w2 (by omega) hc).mono ?_);rintro r w3 ⟨rfl,rfl⟩;simp;refine aM (fun h2=> ?_) (fun h2=> ?_)
  ·simp at h2
   simp [fZ,ha,hb,h,h1,h2];exact fQ s1
  simp at h2;simp [h2];refine ae (v:= .slice (some ⟨g,0,none⟩) P.rows.length gcap) (by rw [cell_of s1.drop.drop.look];rfl) ?_;simp [hi];rw [if_neg (by omega)];refine sQ (p:=p) (m:=m) (P:=P) hi s1 ?_;intro w4 s2;simp;refine ae (v:= .slice (some ⟨g,0,none⟩) P.rows.length gcap) (by rw [cell_of s2.drop.drop.look];rfl) ?_;simp [hj];obtain ⟨g',gcap',hv,_,hcell2⟩:=s2.aO (by rw [aC];omega);cases hv;have hj2:j<(bN P.rows i (bP P.rows i -c)).length:=by rw [aC];exact hj
  refine ae (v:= .int .u64 (bP P.rows j)) (by rw [hcell2 _ _ (jx hj2),←db hj2,oV hi,if_neg (by omega)]) ?_;simp [hj]
  try simp (disch:=omega) only [bx]
  refine sQ (p:=p) (m:=m) (P:=P) hj2 s2 ?_;intro w5 s3;simp [fZ,ha,hb,h,h1];rw [if_neg (by omega)];refine ⟨rfl,fQ (m:=m) (v:= .slice (some ⟨g,0,none⟩) P.rows.length gcap) ?_⟩;rw [lJ,kJ,kJ,aC,aC];rw [aC,aC] at s3;exact s3
 ·have hmax:(if de P.rows b>de P.rows a then de P.rows b else de P.rows a)=142:=by
   rcases hor1 with h1|h1<;>rcases hor2 with h2|h2<;>simp [h1,h2] at hab⊢
  simp only [gt_iff_lt] at hmax;simp [hmax];simp [fZ,hab];exact s
def bJ (P:Ps) (n c:Int):Int×Ps:=
 if de P.rows n=0 then
  if bP P.rows n.toNat<c then (143,P)
  else (0,{P with held:=P.held+c,rows:=bN P.rows n.toNat (bP P.rows n.toNat -c)})
 else (142,P)
theorem wg (p:Nat) (P:Ps) (n c:Int) (w0 w:World) (A:al) (hP:Bd P) (hc:0≤c∧c<18446744073709551616) (s:St w0 (A*bE p P) w):
  ak Tryz.prog 307 [.pointer (some ⟨p,0,none⟩),.int .i64 n,.int .u64 c] (fun r w'=>r= .int .i64 (bJ P n c).1∧St w0 (A*bE p (bJ P n c).2) w') w:=by
 refine aB Ph (by simp [Uq]) ?_;simp [Uq];have hlen:=hP.len;have hh:=hP.held;refine ad ((aZ p P n w0 w A s).mono ?_);rintro r w1 ⟨rfl,s⟩;simp;refine aM (fun h=> ?_) (fun h=> ?_)
 ·simp at h
  have h142:=(mZ P.rows n).resolve_left h;simp [bJ,h142];exact s
 simp at h;obtain ⟨i,rfl,hi⟩:=iJ h;simp;obtain ⟨m,v,s1⟩:=kO s;clear s;obtain ⟨g,gcap,hv,hcap,hcell⟩:=s1.aO (by omega);subst hv;refine ae (v:= .slice (some ⟨g,0,none⟩) P.rows.length gcap) (by rw [cell_of s1.drop.drop.look];rfl) ?_;simp [hi];have hci:=dS hP hi;refine ae (v:= .int .u64 (bP P.rows i)) (by rw [hcell _ _ (jx hi),db hi]) ?_;simp;refine ad ((kV (bP P.rows i) c w1 (by omega) hc).mono ?_);rintro r w3 ⟨rfl,rfl⟩;simp;refine aM (fun h2=> ?_) (fun h2=> ?_)
 ·simp at h2
  simp [bJ,h,h2];exact fQ s1
 simp at h2;simp [h2];refine ae (v:= .slice (some ⟨g,0,none⟩) P.rows.length gcap) (by rw [cell_of s1.drop.drop.look];rfl) ?_;simp [hi];rw [if_neg (by omega)];refine sQ (p:=p) (m:=m) (P:=P) hi s1 ?_;intro w4 s2;simp;refine ae (v:= .int .u64 P.held) (by rw [cell_of s2.drop.drop.look];rfl) ?_;simp
 try simp (disch:=omega) only [bx]
 refine aU (s2.to (B:=A*lJ m P.rows*own 139 2 (.slice (some ⟨g,0,none⟩) (bN P.rows i (bP P.rows i -c)).length gcap) (bN P.rows i (bP P.rows i -c)).length (flat (bN P.rows i (bP P.rows i -c)))*ki p P m (.slice (some ⟨g,0,none⟩) P.rows.length gcap)) (by ac_rfl)) rfl (by simp) ?_;intro w5 s3;simp at s3;simp [bJ,h];rw [if_neg (by omega)];refine ⟨rfl,fQ (m:=m) (v:= .slice (some ⟨g,0,none⟩) P.rows.length gcap) ?_⟩;rw [lJ,kJ];rw [aC] at s3⊢;exact s3.to (by ac_rfl)
def bo (P:Ps) (n c:Int):Int×Ps:=
 if de P.rows n=0 then
  if P.held<c then (143,P)
  else (0,{P with held:=P.held -c,rows:=bN P.rows n.toNat (bP P.rows n.toNat+c)})
 else (142,P)
theorem oK (p:Nat) (P:Ps) (n c:Int) (w0 w:World) (A:al) (hP:Bd P) (hc:0≤c∧c<18446744073709551616) (s:St w0 (A*bE p P) w):
  ak Tryz.prog 368 [.pointer (some ⟨p,0,none⟩),.int .i64 n,.int .u64 c] (fun r w'=>r= .int .i64 (bo P n c).1∧St w0 (A*bE p (bo P n c).2) w') w:=by
 refine aB PJ (by simp [UD]) ?_;simp [UD];have hlen:=hP.len;have hh:=hP.held;refine ad ((aZ p P n w0 w A s).mono ?_);rintro r w1 ⟨rfl,s⟩;simp;refine aM (fun h=> ?_) (fun h=> ?_)
 ·simp at h
  have h142:=(mZ P.rows n).resolve_left h;simp [bo,h142];exact s
 simp at h;obtain ⟨i,rfl,hi⟩:=iJ h;simp;obtain ⟨m,v,s1⟩:=kO s;clear s;have hci:=dS hP hi;refine ae (v:= .int .u64 P.held) (by rw [cell_of s1.drop.drop.look];rfl) ?_;simp;refine ad ((kV P.held c w1 (by omega) hc).mono ?_);rintro r w3 ⟨rfl,rfl⟩;simp;refine aM (fun h2=> ?_) (fun h2=> ?_)
 ·simp at h2
  simp [bo,h,h2];exact fQ s1
 simp at h2;simp [h2];rw [if_neg (by omega)];refine aU (s1.to (B:=A*lJ m P.rows*own 139 2 v P.rows.length (flat P.rows)*ki p P m v) (by ac_rfl)) rfl (by simp) ?_;intro w4 s2;simp at s2;simp;obtain ⟨g,gcap,hv,hcap,hcell⟩:=s1.aO (by omega);subst hv;refine ae (v:= .slice (some ⟨g,0,none⟩) P.rows.length gcap) (by rw [cell_of s2.look];rfl) ?_;simp [hi];have s3:=s2.to (B:=A*lJ m P.rows*ki p {P with held:=P.held -c} m (.slice (some ⟨g,0,none⟩) P.rows.length gcap)*own 139 2 (.slice (some ⟨g,0,none⟩) P.rows.length gcap) P.rows.length (flat P.rows)) (by ac_rfl);obtain ⟨g',cap',hv,_,hcell⟩:=s3.aO (by omega);cases hv;refine ae (v:= .int .u64 (bP P.rows i)) (by rw [hcell _ _ (jx hi),db hi]) ?_;simp [hi]
 try simp (disch:=omega) only [bx]
 refine sQ (p:=p) (m:=m) (P:=P) hi s3 ?_;intro w5 s4;simp [bo,h,h2];rw [if_neg (by omega)];refine ⟨rfl,fQ (m:=m) (v:= .slice (some ⟨g,0,none⟩) P.rows.length gcap) ?_⟩;rw [lJ,kJ];rw [aC] at s4⊢;exact s4.to (by ac_rfl)
def aD (P:Ps) (n:Int):Ac×Int:=if de P.rows n=0 then (P.rows.getD n.toNat ⟨[],0⟩,0) else (⟨[],0⟩,142)
theorem fy (p:Nat) (P:Ps) (n:Int) (w0 w:World) (A:al) (hP:P.rows.length≤64) (s:St w0 (A*bE p P) w):
  ak Tryz.prog 169 [.pointer (some ⟨p,0,none⟩),.int .i64 n] (fun r w'=>r= .tuple #[.agg (aD P n).1.cs.toArray,.int .i64 (aD P n).2]∧St w0 (A*bE p P) w') w:=by
 refine aB Oa (by simp [TL]) ?_;simp [TL];refine bO s ?_;intro b w1 s1;simp;refine ad ((aZ p P n w0 w1 (A*pt b (.cells (Ac.cs ⟨[],0⟩).toArray 139 (0,0))) (s1.to (by ac_rfl))).mono ?_);rintro r w2 ⟨rfl,s2⟩;simp;have s2':=s2.swap;refine aM (fun h=> ?_) (fun h=> ?_)
 ·simp at h
  simp [aD,h,Instr.fill,Value.cells];refine cJ (vs:=Ac.cs ⟨[],0⟩) s2' rfl rfl (cr _) (by simp [Ac.cs]) ?_;intro w3 s3;simp;have s4:St w0 (A*bE p P*pt b (.cells (Ac.cs ⟨[],0⟩).toArray 139 (0,0))) w3:=by simpa [Ac.cs] using s3
  refine ar (vs:=Ac.cs ⟨[],0⟩) rfl s4.ah rfl ?_;simp;refine ⟨?_,s4.drop⟩;exact (mZ P.rows n).resolve_left h
 simp at h;simp;obtain ⟨i,rfl,hi⟩:=iJ h;obtain ⟨m,v,s3⟩:=kO s2;obtain ⟨g,gcap,hv,hcap,hcell⟩:=s3.aO (by omega);subst hv;refine ae (v:= .slice (some ⟨g,0,none⟩) P.rows.length gcap) (by rw [cell_of s3.drop.drop.look];rfl) ?_;simp [hi];refine az (vs:=P.rows[i].cs) (fun j u hu=>hcell _ _ (gn hi j u hu)) rfl ?_;simp;have hg:aD P (i:Int)=(P.rows[i],0):=by simp [aD,h,hi]
 refine cJ (vs:=P.rows[i].cs) s2' rfl rfl (cr _) (by simp [Ac.cs]) ?_;intro w3 s3;simp [hg];have s4:St w0 (A*bE p P*pt b (.cells P.rows[i].cs.toArray 139 (0,0))) w3:=by simpa [Ac.cs] using s3
 refine ar (vs:=P.rows[i].cs) rfl s4.ah rfl ?_;simp;exact s4.drop
def bAa:Nat→PO
 |0=>(.eqNil false (.pointer 195) (.pointer none))
 |1=> .chkp
 |2=>(.fld 0)
 |3=>(.ext 0)
 |4=>(.ext 1)
 |5=>(.fld 2)
 |6=> .lenL
 |7=>(.bin .lss)
 |8=>(.idxL 2)
 |9=>(.bin .eql)
 |10=>(.bin .add)
 |11=>(.fld 3)
 |12=>(.fld 4)
 |_=> .same
def Zs:Nat→EO
 |0=>(.call 123)
 |1=>(.call 241)
 |2=>(.ld false 1)
 |3=>(.ld true 2)
 |4=>(.new 139 (.agg #[(.string ⟨#[]⟩),(.int .u64 0)]))
 |5=>(.st 2)
 |6=>(.bsl 3 1 1 #[(.int .i64 0)] [0])
 |7=>(.app 32 32 3 1 8 (.int .i64 0))
 |8=>(.call 74)
 |9=>(.call 149)
 |10=>(.call 148)
 |11=>(.ld true 5)
 |12=>(.new 195 (.agg #[(.map none),(.int .i64 0),(.slice none 0 0),(.int .u64 0),(.int .u64 0)]))
 |13=>(.st 5)
 |14=>(.st 1)
 |15=>(.call 156)
 |_=> .an
def dNa:Nat→Value
 |0=>(.int .i64 0)
 |1=>(.bool false)
 |2=>(.slice none 0 0)
 |3=>(.int .i64 1)
 |4=>(.int .u64 0)
 |5=>(.pointer none)
 |_=>undef
def Dq:cX:=⟨bAa,Zs,dNa⟩
def l55:ai:=⟨[0,2],9,[.slot 1],aP Dq [] 0xb39bff73bdf3074d3c04b042d3c04b07c068bc0b2fff748405c6d5f0063c027dd2101⟩
theorem US:aj U0 55 400=some l55:=by kernel_rfl
def Tw:ai:=⟨[0,2],9,[.slot 1],aP Dq [] 0xb39bff73bdf3074d3c04c042d3c04c07c068bc0b2fff748405c6d5f0063c027dd2101⟩
theorem NU:aj U0 142 400=some Tw:=by kernel_rfl
def l58:ai:=⟨[0,2],10,[.slot 1],aP Dq [] 0x2ce6ffdcedcdd59b31819b31b4d3c0450b4f0117c068bc0b2fff748005c6d5f0063c027dd2001⟩
theorem UW:aj U0 58 400=some l58:=by kernel_rfl
def l79:ai:=⟨[0,2],11,[.slot 1],aP Dq [] 0xb39bff73b8a2dd10819b82819b3fb4d3c0450b4f0117c068bc0b2fff748205c6d5f0063c027dd2081⟩
theorem Vi:aj U0 79 400=some l79:=by kernel_rfl
def l87:ai:=⟨[0,2,3],23,[.slot 1],aP Dq [] 0x39e79bffdd00bf71cee273b698cb8574c42082381d310820b10829b33c1d34d3c042082d34f01082d3c042f3f73b8bb698cb8571085381c42166cfed34f01142d3c045f3fee28b7e02cb3e0d053301d3c04b07c068bc0b2fff748505c6d5f0063c027dd2141⟩
theorem Vq:aj U0 87 400=some l87:=by kernel_rfl
theorem qN (p:Nat) (P:Ps) (w0 w:World) (A:al) (s:St w0 (A*bE p P) w):
  ak Tryz.prog 55 [.pointer (some ⟨p,0,none⟩)] (fun r w'=>r= .int .u64 P.sup∧St w0 (A*bE p P) w') w:=by
 refine aB US (by simp [l55]) ?_;simp [l55];obtain ⟨m,v,s1⟩:=kO s;refine ae (v:= .int .u64 P.sup) (by rw [cell_of s1.drop.drop.look];rfl) ?_;simp;exact s
theorem vZ (p:Nat) (P:Ps) (w0 w:World) (A:al) (s:St w0 (A*bE p P) w):
  ak Tryz.prog 142 [.pointer (some ⟨p,0,none⟩)] (fun r w'=>r= .int .u64 P.held∧St w0 (A*bE p P) w') w:=by
 refine aB NU (by simp [Tw]) ?_;simp [Tw];obtain ⟨m,v,s1⟩:=kO s;refine ae (v:= .int .u64 P.held) (by rw [cell_of s1.drop.drop.look];rfl) ?_;simp;exact s
theorem oH (p:Nat) (P:Ps) (w0 w:World) (A:al) (s:St w0 (A*bE p P) w):
  ak Tryz.prog 58 [.pointer (some ⟨p,0,none⟩)] (fun r w'=>r= .int .i64 P.rows.length∧St w0 (A*bE p P) w') w:=by
 refine aB UW (by simp [l58]) ?_;simp [l58];obtain ⟨m,v,s1⟩:=kO s;obtain ⟨a,cap,rfl,_⟩:=s1.aw;refine ae (v:= .slice a P.rows.length cap) (by rw [cell_of s1.drop.drop.look];rfl) ?_;simp;exact s
theorem ko (p:Nat) (P:Ps) (w0 w:World) (A:al) (hl:P.rows.length≤1048576) (s:St w0 (A*bE p P) w):
  ak Tryz.prog 79 [.pointer (some ⟨p,0,none⟩)] (fun r w'=>St w0 (A*bE p P*own 139 2 r P.rows.length (flat P.rows)) w') w:=by
 refine aB Vi (by simp [l79]) ?_;simp [l79];obtain ⟨m,v,s1⟩:=kO s;refine ae (v:=v) (by rw [cell_of s1.drop.drop.look];rfl) ?_;simp;refine ad ((tt v P.rows w0 w _ hl s1).mono ?_);intro r w2 s2;simp;refine ad ((Ep r P.rows.length _ _ w0 w2 _ hl s2).mono ?_);intro r2 w3 s3;simp;have s4:=s3.to (B:=A*own 139 2 r2 P.rows.length (flat P.rows)*ki p P m v*lJ m P.rows*own 139 2 v P.rows.length (flat P.rows)) (by ac_rfl);exact (fQ s4).to (by ac_rfl)
theorem pV (p:Nat) (P:Ps) (w0 w:World) (A:al) (hl:P.rows.length≤1048576) (s:St w0 (A*bE p P) w):
  ak Tryz.prog 87 [.pointer (some ⟨p,0,none⟩)] (fun r w'=>∃q,r= .pointer (some ⟨q,0,none⟩)∧St w0 (A*bE p P*bE q P) w') w:=by
 refine aB Vq (by simp [l87]) ?_;simp [l87];obtain ⟨m,v,s1⟩:=kO s;obtain ⟨a,cap,hv,_⟩:=s1.aw;refine az (vs:= [.map (some m),.int .i64 P.lim,v,.int .u64 P.sup,.int .u64 P.held]) (fun j u hu=>St.ah s1.drop.drop j u hu) rfl ?_;simp;refine bO s1 ?_;intro q w2 s2;simp;refine cJ (vs:= [.map (some m),.int .i64 P.lim,v,.int .u64 P.sup,.int .u64 P.held]) s2 rfl rfl (by rw [hv];simp [Value.oneCell']) (by simp) ?_;intro w3 s3;simp at s3;simp;have s4:St w0 (A*ki p P m v*lJ m P.rows*own 139 2 v P.rows.length (flat P.rows)*ki q P m v) w3:=s3;clear s3 s2 s1 s;refine ae (v:=v) (by rw [cell_of s4.drop.drop.drop.look];rfl) ?_;simp;refine ad ((tt v P.rows w0 w3 (A*ki p P m v*lJ m P.rows*ki q P m v) hl (s4.to (by ac_rfl))).mono ?_);intro r w4 s5;simp;obtain ⟨ra,rc,hr,_⟩:=s5.aw
 refine aU (s5.to (B:=A*ki p P m v*lJ m P.rows*own 139 2 v P.rows.length (flat P.rows)*own 139 2 r P.rows.length (flat P.rows)*ki q P m v) (by ac_rfl)) (by rw [hr];rfl) (by simp) ?_;intro w5 s6;simp at s6;simp;have s7:St w0 (A*ki p P m v*lJ m P.rows*own 139 2 v P.rows.length (flat P.rows)*own 139 2 r P.rows.length (flat P.rows)*ki q P m r) w5:=s6;clear s6 s5 s4;refine ae (v:= .map (some m)) (by rw [cell_of s7.drop.drop.drop.drop.look];rfl) ?_;simp;refine ad ((CC m (keys P.rows) (keys P.rows).length w0 w5 (A*ki p P m v*own 139 2 v P.rows.length (flat P.rows)*own 139 2 r P.rows.length (flat P.rows)*ki q P m r) (s7.to (by ac_rfl))).mono ?_);rintro r2 w6 ⟨m2,rfl,s8⟩;simp;refine aU (s8.to (B:=A*ki p P m v*own 139 2 v P.rows.length (flat P.rows)*own 139 2 r P.rows.length (flat P.rows)*lJ m P.rows*lJ m2 P.rows*ki q P m r) (by ac_rfl)) rfl (by simp) ?_;intro w7 s9;simp at s9;simp
 have s10:St w0 (A*ki p P m v*own 139 2 v P.rows.length (flat P.rows)*own 139 2 r P.rows.length (flat P.rows)*lJ m P.rows*lJ m2 P.rows*ki q P m2 r) w7:=s9;have s11:=fQ (m:=m) (v:=v) (P:=P) (s10.to (B:=A*own 139 2 r P.rows.length (flat P.rows)*lJ m2 P.rows*ki q P m2 r*ki p P m v*lJ m P.rows*own 139 2 v P.rows.length (flat P.rows)) (by ac_rfl));exact fQ (m:=m2) (v:=r) (P:=P) (s11.to (by ac_rfl))
def Q5:List Ac→List UInt8→Nat→List Int
 | [],_,_=> []
 |a::l,x,i=>if Rc a.name=Rc x then (i:Int)::Q5 l x (i+1) else Q5 l x (i+1)
def bBa:Nat→PO
 |0=>(.build #[(.string ⟨#[]⟩),(.int .u64 0)] [(0,1),(1,1)] [0])
 |1=>(.ext 0)
 |2=>(.ext 1)
 |_=> .same
def Zt:Nat→EO
 |0=>(.bsl 139 1 2 #[(.string ⟨#[]⟩),(.int .u64 0)] [0])
 |1=>(.call 172)
 |_=> .an
def dOa:Nat→Value
 |0=>(.pointer none)
 |1=>(.int .i64 0)
 |2=>(.string ⟨#[98,97,110,107]⟩)
 |3=>(.int .u64 0)
 |_=>undef
def cQa:cX:=⟨bBa,Zt,dOa⟩
def Tb:ai:=⟨[0,2,3],10,[.slot 1,.slot 2],aP cQa [] 0x39bffee271c699d959b8082566e01066e029b8054d43cd0001d264820009920809da676481092001⟩
theorem Nu:aj U0 105 400=some Tb:=by kernel_rfl
def yP:HC:=(.seq (.reg (.done [(3,(.inp 5)),(4,(.cst (.int .i64 0)))] none)) .ret)
@[simp] theorem Wv:type_of%(@aF yP _ yP.eq_1):=aF yP.eq_1
def yQ:HC:=(.reg (.chk none (.bin .add) (.cons (.inp 12) (.cons (.cst (.int .i64 1)) .nil)) (.done [(12,(.op (.bin .add) (.cons (.inp 12) (.cons (.cst (.int .i64 1)) .nil))))] none)))
@[simp] theorem Ww:type_of%(@aF yQ _ yQ.eq_1):=aF yQ.eq_1
def yR:HC:=(.regq (.some 1) (.chk none .chkp (.cons (.inp 5) .nil) (.chk none (.fld 2) (.cons (.op .chkp (.cons (.inp 5) .nil)) .nil) (.eff (.ld false 1) (.cons (.op (.fld 2) (.cons (.op .chkp (.cons (.inp 5) .nil)) .nil)) .nil) (.chk none .chkp (.cons (.inp 5) .nil) (.chk none (.fld 2) (.cons (.op .chkp (.cons (.inp 5) .nil)) .nil) (.eff (.ld false 1) (.cons (.op (.fld 2) (.cons (.op .chkp (.cons (.inp 5) .nil)) .nil)) .nil) (.chk none .lenL (.cons (.bv 1) .nil) (.chk none (.bin .sub) (.cons (.op .lenL (.cons (.bv 1) .nil)) (.cons (.cst (.int .i64 1)) .nil)) (.chk none (.fld 1) (.cons (.inp 6) .nil) (.eff (.ld false 1) (.cons (.op (.fld 1) (.cons (.inp 6) .nil)) .nil) (.chk none (.idxL 2) (.cons (.bv 0) (.cons (.op (.bin .sub) (.cons (.op .lenL (.cons (.bv 1) .nil)) (.cons (.cst (.int .i64 1)) .nil))) .nil)) (.chk none (.fld 1) (.cons (.op (.idxL 2) (.cons (.bv 0) (.cons (.op (.bin .sub) (.cons (.op .lenL (.cons (.bv 1) .nil)) (.cons (.cst (.int .i64 1)) .nil))) .nil))) .nil) (.eff (.st 1) (.cons (.op (.fld 1) (.cons (.op (.idxL 2) (.cons (.bv 0) (.cons (.op (.bin .sub) (.cons (.op .lenL (.cons (.bv 1) .nil)) (.cons (.cst (.int .i64 1)) .nil))) .nil))) .nil)) (.cons (.bv 2) .nil)) (.done [] none)))))))))))))))
@[simp] theorem Wx:type_of%(@aF yR _ yR.eq_1):=aF yR.eq_1
def yS:HC:=(.seq (.reg (.chk none .chkp (.cons (.inp 5) .nil) (.chk none (.fld 4) (.cons (.op .chkp (.cons (.inp 5) .nil)) .nil) (.eff (.st 1) (.cons (.op (.fld 4) (.cons (.op .chkp (.cons (.inp 5) .nil)) .nil)) (.cons (.inp 8) .nil)) (.done [] none))))) yR)
@[simp] theorem Wy:type_of%(@aF yS _ yS.eq_1):=aF yS.eq_1
def yT:HC:=(.seq (.reg (.done [(3,(.cst (.pointer none))),(4,(.cst (.int .i64 144)))] none)) .ret)
@[simp] theorem Wz:type_of%(@aF yT _ yT.eq_1):=aF yT.eq_1
def yU:HC:=(.seq (.br (.chk none (.bin .neq) (.cons (.inp 9) (.cons (.cst (.int .i64 0)) .nil)) (.done [] (some (.op (.bin .neq) (.cons (.inp 9) (.cons (.cst (.int .i64 0)) .nil)))))) yT .skip) yS)
@[simp] theorem WC:type_of%(@aF yU _ yU.eq_1):=aF yU.eq_1
def yV:HC:=(.seq (.regq (.some 1) (.chk none .chkp (.cons (.inp 5) .nil) (.chk none (.fld 4) (.cons (.op .chkp (.cons (.inp 5) .nil)) .nil) (.eff (.ld false 1) (.cons (.op (.fld 4) (.cons (.op .chkp (.cons (.inp 5) .nil)) .nil)) .nil) (.chk none (.fld 1) (.cons (.inp 6) .nil) (.eff (.ld false 1) (.cons (.op (.fld 1) (.cons (.inp 6) .nil)) .nil) (.eff (.call 128) (.cons (.bv 0) (.cons (.bv 1) .nil)) (.chk none (.ext 0) (.cons (.bv 2) .nil) (.chk none (.ext 1) (.cons (.bv 2) .nil) (.done [(8,(.op (.ext 0) (.cons (.bv 2) .nil))),(9,(.op (.ext 1) (.cons (.bv 2) .nil)))] none)))))))))) yU)
@[simp] theorem WD:type_of%(@aF yV _ yV.eq_1):=aF yV.eq_1
def yW:HC:=(.seq (.reg (.done [(3,(.cst (.pointer none))),(4,(.inp 7))] none)) .ret)
@[simp] theorem WE:type_of%(@aF yW _ yW.eq_1):=aF yW.eq_1
def yX:HC:=(.seq (.br (.chk none (.bin .neq) (.cons (.inp 7) (.cons (.cst (.int .i64 0)) .nil)) (.done [] (some (.op (.bin .neq) (.cons (.inp 7) (.cons (.cst (.int .i64 0)) .nil)))))) yW .skip) yV)
@[simp] theorem WG:type_of%(@aF yX _ yX.eq_1):=aF yX.eq_1
def yY:HC:=(.seq (.reg (.chk none (.fld 0) (.cons (.inp 6) .nil) (.eff (.ld false 1) (.cons (.op (.fld 0) (.cons (.inp 6) .nil)) .nil) (.eff (.call 60) (.cons (.inp 5) (.cons (.bv 0) .nil)) (.chk none (.ext 0) (.cons (.bv 1) .nil) (.chk none (.ext 1) (.cons (.bv 1) .nil) (.done [(7,(.op (.ext 1) (.cons (.bv 1) .nil)))] none))))))) yX)
@[simp] theorem WH:type_of%(@aF yY _ yY.eq_1):=aF yY.eq_1
def rO:HC:=(.seq (.reg (.chk none (.idxL 2) (.cons (.inp 10) (.cons (.inp 12) .nil)) (.eff (.ld true 2) (.cons (.op (.idxL 2) (.cons (.inp 10) (.cons (.inp 12) .nil))) .nil) (.eff (.new 139 (.agg #[(.string ⟨#[]⟩),(.int .u64 0)])) .nil (.eff (.st 2) (.cons (.bv 1) (.cons (.bv 0) .nil)) (.done [(6,(.bv 1))] none)))))) yY)
@[simp] theorem Se:type_of%(@aF rO _ rO.eq_1):=aF rO.eq_1
def rP:HC:=(.seq (.block 2 rO) yQ)
@[simp] theorem Sf:type_of%(@aF rP _ rP.eq_1):=aF rP.eq_1
def rQ:HC:=(.seq (.br (.chk none (.bin .lss) (.cons (.inp 12) (.cons (.inp 11) .nil)) (.done [] (some (.op (.bin .lss) (.cons (.inp 12) (.cons (.inp 11) .nil)))))) .skip (.exit 1)) rP)
@[simp] theorem Sg:type_of%(@aF rQ _ rQ.eq_1):=aF rQ.eq_1
def rR:HC:=(.loop rQ)
@[simp] theorem Sh:type_of%(@aF rR _ rR.eq_1):=aF rR.eq_1
def rS:HC:=(.seq (.block 1 rR) yP)
@[simp] theorem Si:type_of%(@aF rS _ rS.eq_1):=aF rS.eq_1
def rT:HC:=(.seq (.reg (.chk none .lenL (.cons (.inp 1) .nil) (.done [(10,(.inp 1)),(11,(.op .lenL (.cons (.inp 1) .nil))),(12,(.cst (.int .i64 0)))] none))) rS)
@[simp] theorem Sj:type_of%(@aF rT _ rT.eq_1):=aF rT.eq_1
def pn:HC:=(.seq (.reg (.eff (.mkm 191 false) .nil (.chk none (.build #[(.map none)] [(0,1)] [0]) (.cons (.bv 0) .nil) (.chk none (.build #[(.map none),(.int .i64 0),(.slice none 0 0),(.int .u64 0),(.int .u64 0)] [(0,1),(1,1),(2,1),(3,1),(4,1)] [0,1,3,4]) (.cons (.op (.build #[(.map none)] [(0,1)] [0]) (.cons (.bv 0) .nil)) (.cons (.inp 0) (.cons (.inp 2) (.cons (.inp 2) .nil)))) (.eff (.box 195) (.cons (.op (.build #[(.map none),(.int .i64 0),(.slice none 0 0),(.int .u64 0),(.int .u64 0)] [(0,1),(1,1),(2,1),(3,1),(4,1)] [0,1,3,4]) (.cons (.op (.build #[(.map none)] [(0,1)] [0]) (.cons (.bv 0) .nil)) (.cons (.inp 0) (.cons (.inp 2) (.cons (.inp 2) .nil))))) .nil) (.done [(5,(.bv 1))] none)))))) rT)
@[simp] theorem Sk:type_of%(@aF pn _ pn.eq_1):=aF pn.eq_1
def rU:HC:=(.seq (.reg (.done [(3,(.cst (.pointer none))),(4,(.cst (.int .i64 2)))] none)) .ret)
@[simp] theorem Sl:type_of%(@aF rU _ rU.eq_1):=aF rU.eq_1
def rV:HC:=(.seq (.reg (.done [(3,(.cst (.pointer none))),(4,(.cst (.int .i64 144)))] none)) .ret)
@[simp] theorem Sm:type_of%(@aF rV _ rV.eq_1):=aF rV.eq_1
def rX:HC:=(.seq (.reg (.done [(3,(.cst (.pointer none))),(4,(.cst (.int .i64 141)))] none)) .ret)
@[simp] theorem Sn:type_of%(@aF rX _ rX.eq_1):=aF rX.eq_1
def rY:HC:=(.seq (.reg (.done [(3,(.cst (.pointer none))),(4,(.cst (.int .i64 142)))] none)) .ret)
@[simp] theorem Sq:type_of%(@aF rY _ rY.eq_1):=aF rY.eq_1
def rZ:HC:=(.br (.chk none .lenL (.cons (.inp 1) .nil) (.chk none (.bin .eql) (.cons (.op .lenL (.cons (.inp 1) .nil)) (.cons (.cst (.int .i64 0)) .nil)) (.fL (.op (.bin .eql) (.cons (.op .lenL (.cons (.inp 1) .nil)) (.cons (.cst (.int .i64 0)) .nil))) (.chk (some ((.bv 0),false)) (.idxL 2) (.cons (.inp 1) (.cons (.cst (.int .i64 0)) .nil)) (.chk (some ((.bv 0),false)) (.fld 0) (.cons (.op (.idxL 2) (.cons (.inp 1) (.cons (.cst (.int .i64 0)) .nil))) .nil) (.ite (.bv 0) false (.eff (.ld false 1) (.cons (.ite (.bv 0) false (.op (.fld 0) (.cons (.op (.idxL 2) (.cons (.inp 1) (.cons (.cst (.int .i64 0)) .nil))) .nil)) (.cst (.tuple #[]))) .nil) (.chk none (.bin .neq) (.cons (.bv 1) (.cons (.cst (.string ⟨#[98,97,110,107]⟩)) .nil)) (.isb none (.bv 0) (.done [] (some (.op (.bin .neq) (.cons (.bv 1) (.cons (.cst (.string ⟨#[98,97,110,107]⟩)) .nil)))))))) (.isb none (.bv 0) (.done [] (some (.cst (.bool true))))))))))) rY .skip)
@[simp] theorem Ss:type_of%(@aF rZ _ rZ.eq_1):=aF rZ.eq_1
def r5:HC:=(.br (.chk none .lenL (.cons (.inp 1) .nil) (.chk none (.bin .gtr) (.cons (.op .lenL (.cons (.inp 1) .nil)) (.cons (.inp 0) .nil)) (.done [] (some (.op (.bin .gtr) (.cons (.op .lenL (.cons (.inp 1) .nil)) (.cons (.inp 0) .nil))))))) rX rZ)
@[simp] theorem Su:type_of%(@aF r5 _ r5.eq_1):=aF r5.eq_1
def r9:HC:=(.br (.chk none (.bin .gtr) (.cons (.inp 2) (.cons (.cst (.int .u64 4611686018427387904)) .nil)) (.done [] (some (.op (.bin .gtr) (.cons (.inp 2) (.cons (.cst (.int .u64 4611686018427387904)) .nil)))))) rV r5)
@[simp] theorem Sv:type_of%(@aF r9 _ r9.eq_1):=aF r9.eq_1
def sa:HC:=(.br (.chk none (.bin .lss) (.cons (.inp 0) (.cons (.cst (.int .i64 1)) .nil)) (.fL (.op (.bin .lss) (.cons (.inp 0) (.cons (.cst (.int .i64 1)) .nil))) (.chk (some ((.bv 0),false)) (.bin .gtr) (.cons (.inp 0) (.cons (.cst (.int .i64 64)) .nil)) (.isb none (.bv 0) (.done [] (some (.ite (.bv 0) true (.cst (.bool true)) (.op (.bin .gtr) (.cons (.inp 0) (.cons (.cst (.int .i64 64)) .nil)))))))))) rU r9)
@[simp] theorem Sw:type_of%(@aF sa _ sa.eq_1):=aF sa.eq_1
def sb:HC:=(.seq (.block 0 sa) pn)
@[simp] theorem Sx:type_of%(@aF sb _ sb.eq_1):=aF sb.eq_1
def TN:ai:=⟨[0,1,2,6,7,8,10,12,13,14,48,49,50],96,[.slot 3,.slot 4],(.seq (.reg (.done [(3,(.cst (.pointer none))),(4,(.cst (.int .i64 0)))] none)) sb)⟩
theorem Ob:aj U0 172 400=some TN:=by kernel_rfl
def cK:List UInt8:= [98,97,110,107]
def lZ (P:Ps) (a:Ac):Int:=if (ck P a.name).2.1=0 then (if P.held<a.ab then 144 else 0) else (ck P a.name).2.1
def iG (P:Ps) (a:Ac):Ps:={P with held:=P.held -a.ab,rows:=P.rows++ [a]}
def jA (P:Ps):List Ac→Int×Ps
 | []=>(0,P)
 |a::l=>if lZ P a=0 then jA (iG P a) l else (lZ P a,P)
def gp (lim:Int) (rows:List Ac) (sup:Int):Int×Ps:=
 if 1≤lim∧lim≤64 then
  if 4611686018427387904<sup then (144,⟨0,[],0,0⟩)
  else if lim<rows.length then (141,⟨0,[],0,0⟩)
  else if (rows.getD 0 ⟨[],0⟩).name=cK then jA ⟨lim,[],sup,sup⟩ rows
  else (142,⟨0,[],0,0⟩)
 else (2,⟨0,[],0,0⟩)
theorem GM {P:Ps} {x:List UInt8} (h:(ck P x).2.1=0):(ck P x).2.2={P with rows:=P.rows++ [⟨x,0⟩]}∧yk (iP x) (keys P.rows)=false∧(P.rows.length:Int)≠P.lim∧(jn x).2=0:=by
 unfold ck at h⊢
 split at h
 ·rename_i h1
  rw [if_pos h1];split at h
  ·cases h
  ·rename_i h2
   rw [if_neg h2];split at h
   ·cases h
   ·rename_i h3
    rw [if_neg h3];exact ⟨rfl,by simpa using h2,h3,h1⟩
 ·rename_i h1
  exact absurd h h1
theorem CJ {P:Ps} {x:List UInt8} (h:(ck P x).2.1≠0):(ck P x).2.2=P:=by
 unfold ck at h⊢
 split
 ·split
  ·rfl
  ·split
   ·rfl
   ·rename_i h1 h2 h3
    rw [if_pos h1,if_neg h2,if_neg h3] at h;exact absurd rfl h
 ·rfl
def rm (X Y:World→Prop):List Value→World→Prop
 | [],w=>X w
 |_::_,w=>Y w
@[simp] theorem ku (X Y:World→Prop) (w:World):rm X Y [] w=X w:=rfl
@[simp] theorem Wn (X Y:World→Prop) (v:Value) (l:List Value) (w:World):rm X Y (v::l) w=Y w:=rfl
theorem bU {X Y:World→Prop} {R:Prop} {vs:List Value} {w:World} (h1:X w→R) (h2:Y w→R) (h:rm X Y vs w):R:=by
 cases vs with
 |nil=>exact h1 h
 |cons _ _=>exact h2 h
theorem I6 (l:List Ac) (x:List UInt8) (c:Int):bN (l++ [⟨x,0⟩]) l.length c=l++ [⟨x,c⟩]:=by
 simp [bN]
theorem IJ (lim:Int) (rows:List Ac) (sup:Int) (ra:Option Addr) (rcap:Nat) (w0 w:World) (A:al) (hl:rows.length≤64) (hsup:0≤sup∧sup≤4611686018427387904) (hn:∀x∈rows,x.name.length≤1048576) (hc:∀x∈rows,0≤x.ab∧x.ab<18446744073709551616)
  (hrow:Row w0 A (.slice ra rows.length rcap) rows.length 2 (flat rows)) (s:St w0 A w):
  HC.wp U0 pn (tL Tryz.prog [RV.slot 3,RV.slot 4] fun r w'=>if (jA ⟨lim,[],sup,sup⟩ rows).1=0 then∃q,r= .tuple #[.pointer (some ⟨q,0,none⟩),.int .i64 0]∧St w0 (A*bE q (jA ⟨lim,[],sup,sup⟩ rows).2) w' else r= .tuple #[.pointer none,.int .i64 (jA ⟨lim,[],sup,sup⟩ rows).1]∧St w0 A w')
   [.int .i64 lim,.slice ra rows.length rcap,.int .u64 sup,.pointer none,.int .i64 0,undef,undef,undef,undef,undef,undef,undef,undef] w:=by
 simp;refine M6 s ?_;intro m w1 s1;simp [Instr.fill,Value.cells];refine bj s1 ?_;intro p w2 s2;simp;have s3:St w0 (A*bE p ⟨lim,[],sup,sup⟩) w2:=fQ (m:=m) (v:= .slice none 0 0) (P:=⟨lim,[],sup,sup⟩) (St.aE (s2.to (by ac_rfl)) _ _);clear s s1 s2;generalize hP0:(⟨lim,[],sup,sup⟩:Ps)=P0 at*;refine dg (fun env w'=>∃(i:Nat) (P:Ps) (o6 o7 o8 o9:Value),env= [.int .i64 lim,.slice ra rows.length rcap,.int .u64 sup,.pointer none,.int .i64 0,.pointer (some ⟨p,0,none⟩),o6,o7,o8,o9,.slice ra rows.length rcap,.int .i64 rows.length,.int .i64 i]∧i≤rows.length∧
   jA P0 rows=jA P (rows.drop i)∧P.rows=rows.take i∧P.lim=lim∧P.sup=sup∧0≤P.held∧P.held≤sup∧St w0 (A*bE p P) w')
  (fun env _=>rows.length -ax env 12) ⟨0,P0,_,_,_,_,rfl,by omega,rfl,by rw [←hP0];rfl,by rw [←hP0],by rw [←hP0],by rw [←hP0];exact hsup.1,by rw [←hP0];exact Int.le_refl _,s3⟩ ?_
 clear s3;rintro LQ env w' ⟨i,P,o6,o7,o8,o9,rfl,hi,hL,hPr,hPl,hPs,hh0,hh1,s⟩ hN hE hR;simp;refine aM (fun h=> ?_) (fun h=> ?_)
 ·simp at h
  have h:i<rows.length:=by omega
  obtain ⟨g,o,gcap,hv,hcell⟩:=hrow.at (by omega);cases hv;have hPlen:P.rows.length=i:=by rw [hPr,List.length_take];omega
  have hmem:rows[i]∈rows:=List.getElem_mem h;have hdrop:rows.drop i=rows[i]::rows.drop (i+1):=List.drop_eq_getElem_cons h;have htk:rows.take (i+1)=rows.take i++ [rows[i]]:=List.take_succ_eq_append_getElem h;rw [hdrop] at hL;have hna:=hn _ hmem;have hca:=hc _ hmem;obtain ⟨a,ha⟩:∃a,rows[i]=a:=⟨_,rfl⟩;rw [ha] at hmem hdrop htk hna hca hL;simp [h];refine az (vs:=a.cs) (fun j u hu=>by rw [Nat.add_assoc];exact hcell _ s.drop _ _ (gn h j u (by rw [ha];exact hu))) rfl ?_;simp;refine bO s ?_;intro b w3 s1;simp;refine cJ (vs:=a.cs) s1 rfl rfl (cr _) (by simp) ?_;intro w4 s2;have s2:St w0 (A*bE p P*pt b (.cells a.cs.toArray 139 (0,0))) w4:=by simpa using s2
  simp;refine ae (v:= .string (mk a.name)) (by rw [cell_of s2.look];rfl) ?_;simp;refine ad ((we p P a.name w0 w4 (A*pt b (.cells a.cs.toArray 139 (0,0))) hna (by omega) (s2.to (by ac_rfl))).mono ?_);rintro r w5 ⟨rfl,s3⟩;simp;refine aM (fun h1=> ?_) (fun h1=> ?_)
  ·simp at h1
   have hse:lZ P a=(ck P a.name).2.1:=by unfold lZ;rw [if_neg h1]
   have hLL:jA P0 rows=(lZ P a,P):=by rw [hL,jA,if_neg (by rw [hse];exact h1)]
   simp;refine hR _ _ ?_;simp;rw [hLL,hse];simp [h1];rw [CJ h1] at s3;exact s3.drop.drop
  simp at h1;obtain ⟨ho,hask,hlen,hchk⟩:=GM h1;rw [ho] at s3;simp;obtain ⟨m2,v2,s4⟩:=kO s3;clear s3;generalize hB:(A*pt b (.cells a.cs.toArray 139 (0,0))*ki p {P with rows:=P.rows++ [⟨a.name,0⟩]} m2 v2*lJ m2 (P.rows++ [(⟨a.name,0⟩:Ac)])*own 139 2 v2 (P.rows++ [(⟨a.name,0⟩:Ac)]).length (flat (P.rows++ [(⟨a.name,0⟩:Ac)])))=B;have sB:St w0 B w5:=hB▸s4;have hpc:∀{w},St w0 B w→w.cell? ⟨p,4,none⟩=some (.int .u64 P.held):=fun h=>by rw [←hB] at h;rw [cell_of h.drop.drop.look];rfl
  have hbc:∀{w},St w0 B w→w.cell? ⟨b,1,none⟩=some (.int .u64 a.ab):=fun h=>by rw [←hB] at h;rw [cell_of h.drop.drop.drop.look];rfl
  refine jF (fun vs w=>match vs with
   | []=>St w0 B w
   |r::_=>r= .tuple #[.int .u64 (if P.held<a.ab then 0 else P.held -a.ab),.int .i64 (if P.held<a.ab then 11 else 0)]∧St w0 B w) sB.drew ?_
  simp;refine aq (v:= .int .u64 P.held) (fun vs' w he hw=> ?_) ?_
  ·match vs',hw with
   | [],hw=>exact hpc hw
   |_::_,hw=>exact hpc hw.2
  simp;refine aq (v:= .int .u64 a.ab) (fun vs' w he hw=> ?_) ?_
  ·match vs',hw with
   | [],hw=>exact hbc hw
   |_::_,hw=>exact hbc hw.2
  simp;refine bw rfl (fun w hw=>ad ((kV P.held a.ab w (by omega) (by omega)).mono fun r w' h=> ?_)) (fun r hr=> ?_)
  ·obtain ⟨rfl,rfl⟩:=h;exact ⟨rfl,hw⟩
  obtain ⟨_,rfl,_⟩:=hr;simp;intro w6 s6;refine aM (fun h2=> ?_) (fun h2=> ?_)
  ·simp at h2
   have hse:lZ P a=144:=by unfold lZ;rw [if_pos h1,if_pos h2]
   have hLL:jA P0 rows=(lZ P a,P):=by rw [hL,jA,if_neg (by rw [hse];decide)]
   simp;refine hR _ _ ?_;simp;rw [hLL,hse];simp;rw [←hB] at s6;exact s6.drop.drop.drop.drop
  simp at h2;simp;rw [if_neg (by omega)];rw [←hB] at s6;refine aU (s6.to (B:=A*pt b (.cells a.cs.toArray 139 (0,0))*lJ m2 (P.rows++ [(⟨a.name,0⟩:Ac)])*own 139 2 v2 (P.rows++ [(⟨a.name,0⟩:Ac)]).length (flat (P.rows++ [(⟨a.name,0⟩:Ac)]))*ki p {P with rows:=P.rows++ [⟨a.name,0⟩]} m2 v2) (by ac_rfl)) rfl (by simp) ?_;intro w7 s7;simp only [List.setIfInBounds_toArray,List.set_cons_succ,List.set_cons_zero] at s7;simp;obtain ⟨g2,cap2,hv,_,_⟩:=s4.aO (by simp);subst hv;have hPl1:(P.rows++ [(⟨a.name,0⟩:Ac)]).length=i+1:=by simp [hPlen]
  have s8:St w0 (A*pt b (.cells a.cs.toArray 139 (0,0))*lJ m2 (P.rows++ [(⟨a.name,0⟩:Ac)])*ki p {P with held:=P.held -a.ab} m2 (.slice (some ⟨g2,0,none⟩) (P.rows++ [(⟨a.name,0⟩:Ac)]).length cap2)*own 139 2 (.slice (some ⟨g2,0,none⟩) (P.rows++ [(⟨a.name,0⟩:Ac)]).length cap2) (P.rows++ [(⟨a.name,0⟩:Ac)]).length (flat (P.rows++ [(⟨a.name,0⟩:Ac)]))) w7:=s7.swap;clear s7 s6;have hii:i<(P.rows++ [(⟨a.name,0⟩:Ac)]).length:=by omega
  have hst:bN (P.rows++ [(⟨a.name,0⟩:Ac)]) i a.ab=P.rows++ [a]:=by rw [←hPlen];exact I6 _ _ _
  have hfl:=iy (P.rows++ [(⟨a.name,0⟩:Ac)]);generalize hC0:(A*pt b (.cells a.cs.toArray 139 (0,0))*lJ m2 (P.rows++ [(⟨a.name,0⟩:Ac)])*ki p {P with held:=P.held -a.ab} m2 (.slice (some ⟨g2,0,none⟩) (P.rows++ [(⟨a.name,0⟩:Ac)]).length cap2))=C0 at s8;have hpc:∀{w},St w0 C0 w→w.cell? ⟨p,2,none⟩=some (.slice (some ⟨g2,0,none⟩) (i+1) cap2):=fun h=>by rw [←hC0] at h;rw [cell_of h.look,←hPl1];rfl
  have hbc:∀{w},St w0 C0 w→w.cell? ⟨b,1,none⟩=some (.int .u64 a.ab):=fun h=>by rw [←hC0] at h;rw [cell_of h.drop.drop.look];rfl
  refine jF (rm (St w0 (C0*own 139 2 (.slice (some ⟨g2,0,none⟩) (P.rows++ [(⟨a.name,0⟩:Ac)]).length cap2) (P.rows++ [(⟨a.name,0⟩:Ac)]).length (flat (P.rows++ [(⟨a.name,0⟩:Ac)]))))
   (St w0 (C0*own 139 2 (.slice (some ⟨g2,0,none⟩) (P.rows++ [(⟨a.name,0⟩:Ac)]).length cap2) (P.rows++ [(⟨a.name,0⟩:Ac)]).length (flat (P.rows++ [a]))))) s8.drew ?_
  simp;refine aq (v:= .slice (some ⟨g2,0,none⟩) (i+1) cap2) (fun vs' w he hw=>bU (fun h=>hpc h.drop) (fun h=>hpc h.drop) hw) ?_;simp;refine aq (v:= .slice (some ⟨g2,0,none⟩) (i+1) cap2) (fun vs' w he hw=>bU (fun h=>hpc h.drop) (fun h=>hpc h.drop) hw) ?_;simp
  try simp (disch:=omega) only [wrap64]
  refine aq (v:= .int .u64 a.ab) (fun vs' w he hw=>bU (fun h=>hbc h.drop) (fun h=>hbc h.drop) hw) ?_;have hwi:IntKind.i64.wrap (i:Int)=i:=wrap64 (by omega) (by omega);simp [hwi];refine ⟨by omega,?_⟩;refine bw (by rfl) (fun w hw=> ?_) (fun r hr=> ?_)
  ·rw [ku] at hw
   refine cw (u:= .int .u64 a.ab) hw (by rw [hfl,hPl1];omega) rfl fun w' h=> ?_;rw [AQ hii,hst] at h;exact h
  simp;intro w8 s9
  try simp (disch:=omega) only [wrap64]
  have hse:lZ P a=0:=by unfold lZ;rw [if_pos h1,if_neg (by omega)]
  refine hN _ _ ⟨i+1,iG P a,_,_,_,_,by simp;exact ⟨rfl,rfl,rfl,rfl⟩,by omega,?_,?_,hPl,hPs,?_,?_,?_⟩ (by simp [ax];omega)
  ·rw [hL,jA,if_pos hse]
  ·rw [htk,←hPr];rfl
  ·show 0≤P.held -a.ab;omega
  ·show P.held -a.ab≤sup;omega
  ·have e1:(P.rows++ [(⟨a.name,0⟩:Ac)]).length=(iG P a).rows.length:=by simp [iG]
   have e2:keys (P.rows++ [(⟨a.name,0⟩:Ac)])=keys (iG P a).rows:=by simp [iG,keys]
   have e3:P.rows.length+1=(iG P a).rows.length:=by simp [iG]
   rw [←hC0,lJ,e2,e1,e3] at s9;have s10:St w0 (A*pt b (.cells a.cs.toArray 139 (0,0))*lJ m2 (iG P a).rows*ki p {P with held:=P.held -a.ab} m2 (.slice (some ⟨g2,0,none⟩) (iG P a).rows.length cap2)*own 139 2 (.slice (some ⟨g2,0,none⟩) (iG P a).rows.length cap2) (iG P a).rows.length (flat (P.rows++ [a]))) w8:=s9;refine fQ (m:=m2) (v:= .slice (some ⟨g2,0,none⟩) (iG P a).rows.length cap2) ?_;exact St.cut (pt b (.cells a.cs.toArray 139 (0,0))) s10 (by show _=A*ki p {P with held:=P.held -a.ab} m2 (.slice (some ⟨g2,0,none⟩) (iG P a).rows.length cap2)*lJ m2 (iG P a).rows*own 139 2 (.slice (some ⟨g2,0,none⟩) (iG P a).rows.length cap2) (iG P a).rows.length (flat (P.rows++ [a]))*_;ac_rfl)
 simp at h;simp;refine hE _ _ _ ?_;simp;have hie:i=rows.length:=by omega
 rw [hie,List.drop_length] at hL;have hLL:jA P0 rows=(0,P):=hL;rw [hLL];simp;exact s
theorem mY (lim:Int) (rows:List Ac) (sup:Int) (v:Value) (w0 w:World) (A:al) (hl:rows.length≤1048576) (hsup:0≤sup∧sup<18446744073709551616) (hn:∀x∈rows,x.name.length≤1048576) (hc:∀x∈rows,0≤x.ab∧x.ab<18446744073709551616)
  (hrow:Row w0 A v rows.length 2 (flat rows)) (s:St w0 A w):
  ak Tryz.prog 172 [.int .i64 lim,v,.int .u64 sup] (fun r w'=>if (gp lim rows sup).1=0 then∃q,r= .tuple #[.pointer (some ⟨q,0,none⟩),.int .i64 0]∧St w0 (A*bE q (gp lim rows sup).2) w' else r= .tuple #[.pointer none,.int .i64 (gp lim rows sup).1]∧St w0 A w') w:=by
 obtain ⟨ra,rcap,rfl⟩:=hrow.val;refine dx Ob (by simp [TN]) ?_;simp [TN];refine aM (fun h=> ?_) (fun h=> ?_)
 ·simp at h
  have e:(gp lim rows sup).1=2:=by unfold gp;rw [if_neg (by omega)]
  simp [e];exact s
 simp at h;simp;refine aM (fun h1=> ?_) (fun h1=> ?_)
 ·simp at h1
  have e:(gp lim rows sup).1=144:=by unfold gp;rw [if_pos (by omega),if_pos h1]
  simp [e];exact s
 simp at h1;simp;refine aM (fun h2=> ?_) (fun h2=> ?_)
 ·simp at h2
  have e:(gp lim rows sup).1=141:=by unfold gp;rw [if_pos (by omega),if_neg (by omega),if_pos h2]
  simp [e];exact s
 simp at h2
 by_cases hnil:rows= []
 ·subst hnil
  simp;have e:(gp lim [] sup).1=142:=by unfold gp;rw [if_pos (by omega),if_neg (by omega),if_neg (by simpa using h2),if_neg (by decide)]
  simp [e];exact s
 have hpos:0<rows.length:=List.length_pos_iff.2 hnil;obtain ⟨g,o,gcap,hv,hcell⟩:=hrow.at hpos;cases hv;simp [hnil,hpos];refine ae (v:= .string (mk rows[0].name)) (hcell w s 0 _ (Ic hpos)) ?_;simp;refine aM (fun h3=> ?_) (fun h3=> ?_)
 ·simp at h3
  have hnb:(rows.getD 0 ⟨[],0⟩).name≠cK:=by
   simpa [hpos,cK] using h3
  have e:(gp lim rows sup).1=142:=by unfold gp;rw [if_pos (by omega),if_neg (by omega),if_neg (by omega),if_neg hnb]
  rw [e];simp;exact s
 have hb:(rows.getD 0 ⟨[],0⟩).name=cK:=by
  simpa [hpos,cK] using h3
 have e:gp lim rows sup=jA ⟨lim,[],sup,sup⟩ rows:=by unfold gp;rw [if_pos (by omega),if_neg (by omega),if_neg (by omega),if_pos hb]
 rw [e];simp
 simpa using IJ lim rows sup _ rcap w0 w A (by omega) (by omega) hn hc hrow s
theorem MH:(jn cK).2=0:=by decide+kernel
theorem eV {lim:Int} (h:1≤lim∧lim≤64):gp lim [⟨cK,0⟩] 0=(0,⟨lim,[⟨cK,0⟩],0,0⟩):=by
 unfold gp;rw [if_pos h,if_neg (by decide),if_neg (by simp;omega),if_pos (by rfl)];have ho:(ck ⟨lim,[],0,0⟩ cK).2.1=0:=by
  unfold ck;rw [if_pos MH];have:yk (iP cK) (keys [])=false:=rfl;simp [this];rw [if_neg (by omega)]
 have hs:lZ ⟨lim,[],0,0⟩ ⟨cK,0⟩=0:=by
  unfold lZ;rw [if_pos ho];rfl
 rw [jA,if_pos hs];rfl
theorem Qh {lim:Int} (h:¬(1≤lim∧lim≤64)):(gp lim [⟨cK,0⟩] 0).1=2:=by
 unfold gp;rw [if_neg h]
theorem im (lim:Int) (w0 w:World) (A:al) (s:St w0 A w):
  ak Tryz.prog 105 [.int .i64 lim] (fun r w'=>if 1≤lim∧lim≤64 then∃q,r= .tuple #[.pointer (some ⟨q,0,none⟩),.int .i64 0]∧St w0 (A*bE q ⟨lim,[⟨cK,0⟩],0,0⟩) w' else r= .tuple #[.pointer none,.int .i64 2]∧St w0 A w') w:=by
 refine aB Nu (by simp [Tb]) ?_;simp [Tb,Instr.fill,Value.cells];refine bV s rfl ?_;intro c w1 s1;simp;have hrow:Row w0 (A*pt c (.cells (Ac.cs ⟨cK,0⟩).toArray 139 (0,0))) (.slice (some ⟨c,0,none⟩) 1 1) 1 2 (flat [⟨cK,0⟩]):=
  ⟨rfl,_,_,rfl,Nat.le_refl _,.inr ⟨c,0,rfl,fun w s j u hu=>s.ah j u hu⟩⟩
 refine ad ((mY lim [⟨cK,0⟩] 0 (.slice (some ⟨c,0,none⟩) 1 1) w0 w1 _ (by decide) (by decide) (by simp [cK]) (by simp) hrow s1).mono ?_);intro r w2 h2
 by_cases h:1≤lim∧lim≤64
 ·rw [eV h] at h2
  simp only [if_true] at h2;obtain ⟨q,rfl,s2⟩:=h2;simp [h];exact St.cut (pt c (.cells (Ac.cs ⟨cK,0⟩).toArray 139 (0,0))) s2 (by ac_rfl)
 ·have e:=Qh h
  rw [e] at h2;simp only [if_neg (show¬(2:Int)=0 by decide)] at h2;obtain ⟨rfl,s2⟩:=h2;simp [h];exact s2.drop
end Go.HL.Pu
namespace Go.HL.Gd
open Go.HL Go.Proofs
structure It where
 num:Int
 kind:Int
 acc:Int
 bA:Int
deriving DecidableEq
def It.cs (x:It):List Value:= [.int .i64 x.num,.int .i64 x.kind,.int .i64 x.acc,.int .i64 x.bA]
def flat (l:List It):List Value:=l.flatMap It.cs
theorem lu (x:It):x.cs.length=4:=rfl
theorem iy (l:List It):(flat l).length=l.length*4:=fX It.cs 4 lu l
theorem cr (x:It):∀u∈x.cs,u.oneCell'=true:=by
 intro u hu;simp only [It.cs,List.mem_cons,List.not_mem_nil,or_false] at hu;rcases hu with rfl|rfl|rfl|rfl<;>rfl
theorem gn {af:List It} {i:Nat} (h:i<af.length):∀j u,(af[i].cs)[j]?=some u→(flat af)[i*4+j]?=some u:=by
 intro j u hu;have hj:j<4:=(List.getElem?_eq_some_iff.1 hu).1;rw [←hu];exact fB It.cs 4 lu af i j h hj
theorem Ig {af:List It} {i:Nat} (h:i<af.length) (a c:Int):((flat af).set (i*4+2) (.int .i64 a)).set (i*4+3) (.int .i64 c)=flat (af.set i ⟨af[i].num,af[i].kind,a,c⟩):=by
 have e:=tX It.cs 4 lu (⟨af[i].num,af[i].kind,a,c⟩:It) af i h;show _=List.flatMap It.cs _;rw [←e];have hl:=iy af;apply List.ext_getElem?;intro k;have hlen:i*4+4≤(af.flatMap It.cs).length:=by
  have:(af.flatMap It.cs).length=af.length*4:=iy af;omega
 have tl:((af.flatMap It.cs).take (i*4)).length=i*4:=by rw [List.length_take];omega
 have hf:flat af=af.flatMap It.cs:=rfl;rw [hf];have c4:(⟨af[i].num,af[i].kind,a,c⟩:It).cs.length=4:=rfl
 by_cases k1:k<i*4
 ·rw [List.getElem?_set_ne (by omega),List.getElem?_set_ne (by omega),List.append_assoc,List.getElem?_append_left (by omega),List.getElem?_take,if_pos k1]
 by_cases k2:k<i*4+4
 ·have g0:∀j,j<4→(af.flatMap It.cs)[i*4+j]?=(af[i].cs)[j]?:=fun j hj=>fB It.cs 4 lu af i j h hj
  rw [List.append_assoc,List.getElem?_append_right (by omega),tl,List.getElem?_append_left (by rw [c4];omega)];obtain ⟨j,rfl⟩:∃j,k=i*4+j:=⟨k -i*4,by omega⟩;have hj:j<4:=by omega
  rw [Nat.add_sub_cancel_left];have:j=0∨j=1∨j=2∨j=3:=by omega
  rcases this with rfl|rfl|rfl|rfl
  ·rw [List.getElem?_set_ne (by omega),List.getElem?_set_ne (by omega),g0 0 (by omega)];rfl
  ·rw [List.getElem?_set_ne (by omega),List.getElem?_set_ne (by omega),g0 1 (by omega)];rfl
  ·rw [List.getElem?_set_ne (by omega),List.getElem?_set_self (by omega)];rfl
  ·rw [List.getElem?_set_self (by rw [List.length_set];omega)];rfl
 ·rw [List.getElem?_set_ne (by omega),List.getElem?_set_ne (by omega),List.append_assoc,List.getElem?_append_right (by omega),tl,List.getElem?_append_right (by rw [c4];omega),List.getElem?_drop,c4]
  congr 1
  omega
def bD (p:Nat) (lim:Int) (af:List It):al:=fun h=>∃v,(pt p (.cells #[.int .i64 lim,v] 198 (0,0))*own 201 4 v af.length (flat af)) h
theorem ui {w0 w:World} {A:al} {p:Nat} {lim:Int} {af:List It} (s:St w0 (A*bD p lim af) w):
  ∃v,St w0 (A*pt p (.cells #[.int .i64 lim,v] 198 (0,0))*own 201 4 v af.length (flat af)) w:=by
 obtain ⟨g,h1,h2,h3,d,e,a,v,b⟩:=s.holds;refine ⟨v,?_⟩;rw [au];exact s.of ⟨g,h1,h2,h3,d,e,a,b⟩
theorem lB {w0 w:World} {A:al} {p:Nat} {lim:Int} {af:List It} {v:Value}
  (s:St w0 (A*pt p (.cells #[.int .i64 lim,v] 198 (0,0))*own 201 4 v af.length (flat af)) w):St w0 (A*bD p lim af) w:=by
 rw [au] at s;obtain ⟨g,h1,h2,h3,d,e,a,b⟩:=s.holds;exact s.of ⟨g,h1,h2,h3,d,e,a,v,b⟩
noncomputable abbrev G0:PF Tryz.prog:=PF.none _
def bia:Nat→PO
 |0=>(.bin .geq)
 |1=>(.bin .lss)
 |_=> .same
def Za:Nat→EO
 |_=> .an
def dva:Nat→Value
 |0=>(.bool false)
 |1=>(.int .i64 0)
 |2=>(.int .i64 64)
 |3=>(.int .i64 16)
 |_=>undef
def Rm:cX:=⟨bia,Za,dva⟩
def Tm:ai:=⟨[0,2],9,[.slot 1],aP Rm [] 0xe6ffdc8de7f75d2015d42400073073d42400073575050000d41400027dd2001⟩
theorem NC:aj G0 126 400=some Tm:=by kernel_rfl
def Tn:ai:=⟨[0,2],9,[.slot 1],aP Rm [] 0xe6ffdc8de7f75d2015d43400073073d43400073575050000d41400027dd2001⟩
theorem ND:aj G0 127 400=some Tn:=by kernel_rfl
def nW (a:Int):Bool:=decide (0≤a)&&decide (a<64)
def qX (a:Int):Bool:=decide (0≤a)&&decide (a<16)
theorem aZ (u:Int) (w:World):ak Tryz.prog 126 [.int .i64 u] (fun r w'=>r= .bool (nW u)∧w'=w) w:=by
 refine aB NC (by simp [Tm]) ?_;simp [Tm,nW,fU]
theorem IB (u:Int) (w:World):ak Tryz.prog 127 [.int .i64 u] (fun r w'=>r= .bool (qX u)∧w'=w) w:=by
 refine aB ND (by simp [Tn]) ?_;simp [Tn,qX,fU]
def PS.ii {P:Program} (f:Nat) (k k':IntKind) (g:Int→Int) (h:∀u w,ak P f [.int k u] (fun r w'=>r= .int k' (g u)∧w'=w) w):PS P where
 f:=f
 val args:=match args with
  | [.int _ u]=> .int k' (g u)
  |_=>undef
 ok args:=match args with
  | [.int k' _]=>k'=k
  |_=>False
 sound args w hok:=by
  split at hok
  ·subst hok;exact h _ w
  ·exact hok.elim
def hEa (a n:Int):Int:=if a.tmod n<0 then a.tmod n+n else a.tmod n
noncomputable def JJ:PS Tryz.prog:=PS.ib 126 .i64 nW aZ
noncomputable def Cu:PS Tryz.prog:=PS.ib 127 .i64 qX IB
noncomputable abbrev G1:PF Tryz.prog:=PF.of [JJ,Cu]
@[simp] theorem Yp (args:List Value):G1.val 126 args=JJ.val args:=rfl
@[simp] theorem eLa (args:List Value):G1.ok 126 args=JJ.ok args:=rfl
@[simp] theorem Yq (args:List Value):G1.val 127 args=Cu.val args:=rfl
@[simp] theorem eMa (args:List Value):G1.ok 127 args=Cu.ok args:=rfl
@[simp] theorem eOa (u:Int):JJ.val [.int .i64 u]= .bool (nW u):=rfl
@[simp] theorem fya (u:Int):JJ.ok [.int .i64 u]=(IntKind.i64= .i64):=rfl
@[simp] theorem aLa (u:Int):Cu.val [.int .i64 u]= .bool (qX u):=rfl
@[simp] theorem e8a (u:Int):Cu.ok [.int .i64 u]=(IntKind.i64= .i64):=rfl
def bja:Nat→PO
 |0=>(.fld 0)
 |1=>(.fld 3)
 |2=>(.bin .gtr)
 |3=>(.bin .lss)
 |4=>(.build #[(.int .i64 0),(.slice none 0 0)] [(0,1),(1,1)] [0])
 |5=>(.eqNil false (.pointer 198) (.pointer none))
 |6=> .chkp
 |7=>(.fld 1)
 |8=> .lenL
 |9=>(.cal 126)
 |10=>(.un .not)
 |11=>(.cal 127)
 |12=>(.bin .geq)
 |13=>(.bin .add)
 |14=>(.build #[(.int .i64 0),(.int .i64 0),(.int .i64 0),(.int .i64 0)] [(0,1),(1,1),(2,1),(3,1)] [0,1,2])
 |15=>(.build #[(.int .i64 0),(.int .i64 0),(.int .i64 0),(.int .i64 0)] [(0,4)] [0])
 |16=>(.bin .sub)
 |17=>(.idxL 4)
 |18=>(.eqB true)
 |19=>(.fld 2)
 |_=> .same
def Zb:Nat→EO
 |0=>(.box 201)
 |1=>(.ld false 1)
 |2=>(.box 198)
 |3=>(.bsl 201 1 4 #[(.int .i64 0),(.int .i64 0),(.int .i64 0),(.int .i64 0)] [0])
 |4=>(.app 196 196 201 4 32 (.agg #[(.int .i64 0),(.int .i64 0),(.int .i64 0),(.int .i64 0)]))
 |5=>(.st 1)
 |6=>(.ld true 4)
 |7=>(.call 225)
 |8=>(.call 204)
 |_=> .an
def dwa:Nat→Value
 |0=>(.bool false)
 |1=>(.int .i64 0)
 |2=>(.pointer none)
 |3=>(.int .i64 512)
 |4=>(.bool true)
 |5=>(.int .i64 2)
 |6=>(.int .i64 1)
 |7=>(.int .i64 152)
 |8=>(.int .i64 150)
 |9=>(.tuple #[])
 |10=>(.int .i64 151)
 |11=>(.int .i64 (-1))
 |_=>undef
def ri:cX:=⟨bja,Zb,dwa⟩
def T9:ai:=⟨[0,1,2],7,[.slot 2],aP ri [] 0xe6ffdcedcdd5d41cc20b50730b4d31040041d310400710409e2699d92002cc1f00⟩
theorem OG:aj G1 225 400=some T9:=by kernel_rfl
def Tc:ai:=⟨[0,2,3],13,[.slot 1,.slot 2],aP ri [] 0xb39bffeda6764810b3074f040bc128bc0b2ffda67648509208172375f6d75750d0002484cd8cf50d0002cd5d414000f50500039da676481092081⟩
theorem Nv:aj G1 106 400=some Tc:=by kernel_rfl
def l57:ai:=⟨[0,2],10,[.slot 1],aP ri [] 0x2ce6ffdcedcdd59b3e819b3eb4d3c187074f061fc1a8bc0b2fff748105c6d5f0563c167dd2041⟩
theorem UU:aj G1 57 400=some l57:=by kernel_rfl
def l63:ai:=⟨[0,1,2,6,7,8],52,[.slot 3,.slot 4],aP ri [] 0x2ce79bff699d920444050e773b73b89ceda632442574f061c5d3c187f06cb8cc4d3453d09005014e04f043d14f424014053813c153d09005014e074d3c187074f061fc1a773b71cdd5d46566cfa3411751959b3e8d066cfad34f061c1d3c187f06b68a28aaf02cbff699d92e844810dcedc73b71b572e159b3e8c058cb8566cfa301d34f06001d3c180f069b3eb4d3c187074f061fc181b2ffda67648711204371c6d5d3104b04a058d3104b04a07104b06cbff699d921444810dc71b574c42f8a058d310be281c42facbff699d921844810dc6d5f0563c1409da676481112043⟩
theorem U3:aj G1 63 400=some l63:=by kernel_rfl
def TW:ai:=⟨[0,1,2,3,4,10,11],53,[.slot 5],aP ri [] 0xb39e6fff748116771cedc73b698f44574d31186001174d31186001d31186031186f43574d3118600b085d34c461802c2d311860311869dcedc7375725751900480b32421b25751900480b3242d46401202d34f061c1d3c187f06a2f02cbffdd228115c8dd7647df6d2118484ce271c7e375d91f6d211844289cee271f6d5f424452826110bd09114a0a64441f4c95d464012024432421b25751900480910c90b51900480a6592f95d3c1874420510b4f061d10bc191095c959b8e964be401cc2cf2566e3a592f900730a6e3a9964be574f061f3073d3c187cfc1b3575190043d464010e7dd2045⟩
theorem Og:aj G1 204 400=some TW:=by kernel_rfl
def Tr:ai:=⟨[0,1,2,6],18,[.slot 3],aP ri [] 0x2ce6ffe2df30d4514d41402480401400eada28bc0b2fff74850dc71b574c42f8a058d310be281c42facbffdd218371b57c158f05027dd2043⟩
theorem NH:aj G1 130 400=some Tr:=by kernel_rfl
def Ur:ai:=⟨[0,1,2,6],17,[.slot 3],aP ri [] 0xb39bff8b7cc351453d0922c1480401400eada28bc0b2fff74850dc6d5d464020d8d464020ecbffdd218371b57c158f05027dd2043⟩
theorem Pj:aj G1 308 400=some Ur:=by kernel_rfl
def UB:ai:=⟨[0,1,2,6],18,[.slot 3],aP ri [] 0x2ce6ffe2df30d4514d41402484401400eada28bc0b2fff74850dc71b574c42f8a058d310be281c42facbffdd218371b57c158f05027dd2043⟩
theorem PG:aj G1 366 400=some UB:=by kernel_rfl
theorem kG (x:It) (w0 w:World) (A:al) (s:St w0 A w):
  ak Tryz.prog 225 [.agg x.cs.toArray] (fun r w'=>r= .bool (decide (0<x.bA))∧St w0 A w') w:=by
 refine aB OG (by simp [T9]) ?_;simp [T9];refine bj s ?_;intro b w1 s1;simp;refine ae (v:= .int .i64 x.bA) ?_ ?_
 ·rw [cell_of s1.look];rfl
 simp;exact s1.drop
theorem im (lim:Int) (w0 w:World) (A:al) (s:St w0 A w):
  ak Tryz.prog 106 [.int .i64 lim] (fun r w'=>if 0≤lim∧lim≤512 then∃p,r= .tuple #[.pointer (some ⟨p,0,none⟩),.int .i64 0]∧St w0 (A*bD p lim []) w' else r= .tuple #[.pointer none,.int .i64 2]∧St w0 A w') w:=by
 refine aB Nv (by simp [Tc]) ?_;simp [Tc];refine aM (fun h=> ?_) (fun h=> ?_)
 ·simp at h
  have:¬(0≤lim∧lim≤512):=by omega
  simp [this];exact s
 ·simp at h
  simp [h,Instr.fill,Value.cells];refine bj s ?_;intro b w1 s1;simp;refine lB (v:= .slice none 0 0) ?_;exact s1.aE _ _
theorem oH (p:Nat) (lim:Int) (af:List It) (w0 w:World) (A:al) (s:St w0 (A*bD p lim af) w):
  ak Tryz.prog 57 [.pointer (some ⟨p,0,none⟩)] (fun r w'=>r= .int .i64 af.length∧St w0 (A*bD p lim af) w') w:=by
 refine aB UU (by simp [l57]) ?_;simp [l57];obtain ⟨v,s1⟩:=ui s;obtain ⟨a,cap,rfl,_⟩:=s1.aw;refine ae (v:= .slice a af.length cap) (by rw [cell_of s1.swap.look];rfl) ?_;simp;exact s
def fY (lim:Int) (af:List It) (k a:Int):Int×Int×List It:=
 if nW a=false then (0,2,af) else if qX k=false then (0,152,af) else if lim≤af.length then (0,150,af) else (af.length+1,0,af++ [⟨af.length+1,k,a,0⟩])
theorem HI (p:Nat) (lim:Int) (af:List It) (k a:Int) (w0 w:World) (A:al) (hl:lim≤512) (s:St w0 (A*bD p lim af) w):
  ak Tryz.prog 63 [.pointer (some ⟨p,0,none⟩),.int .i64 k,.int .i64 a]
   (fun r w'=>r= .tuple #[.int .i64 (fY lim af k a).1,.int .i64 (fY lim af k a).2.1]∧St w0 (A*bD p lim (fY lim af k a).2.2) w') w:=by
 refine aB U3 (by simp [l63]) ?_;simp [l63];refine aM (fun h1=> ?_) (fun h1=> ?_)
 ·simp at h1
  simp [fY,h1];exact s
 simp at h1;simp;refine aM (fun h2=> ?_) (fun h2=> ?_)
 ·simp at h2
  simp [fY,h1,h2];exact s
 simp at h2
 try simp
 obtain ⟨v,s1⟩:=ui s;obtain ⟨b,cap,rfl,_⟩:=s1.aw;refine RN s1 ?_;simp;refine aV (v:= .slice b af.length cap) (fun w' s'=>by rw [cell_of s'.swap.look];rfl) ?_;simp;refine aV (v:= .int .i64 lim) (fun w' s'=>by rw [cell_of s'.swap.look];rfl) ?_;simp;intro w2 s2;refine aM (fun h3=> ?_) (fun h3=> ?_)
 ·simp at h3
  simp [fY,h1,h2,h3];exact lB s2
 simp at h3;have h3':¬lim≤af.length:=by omega
 simp;refine ae (v:= .slice b af.length cap) (by rw [cell_of s2.swap.look];rfl) ?_;have hw:IntKind.i64.wrap (af.length+1)=af.length+1:=wrap64 (by omega) (by omega);simp [hw];refine ae (v:= .slice b af.length cap) (by rw [cell_of s2.swap.look];rfl) ?_;simp [Instr.fill,Value.cells];refine bV s2 rfl ?_;intro c w3 s3;simp;refine bu (m:=1) (news:=It.cs ⟨af.length+1,k,a,0⟩) s3.swap rfl s3.aH (cr _) (by decide) rfl (by unfold maxLen;omega) (by omega) ?_;intro v' w4 s4;simp;refine aU s4.p3 ?_ (by simp) ?_
 ·rcases s4.aw with ⟨_,_,rfl,_⟩;rfl
 intro w5 s5;simp [fY,h1,h2,h3'];refine lB (v:=v') ?_;have e:flat af++It.cs ⟨af.length+1,k,a,0⟩=flat (af++ [⟨af.length+1,k,a,0⟩]):=by simp [flat]
 rw [e] at s5
 simpa using s5.p3.drop.swap
def bo (af:List It) (item:Int) (held:Bool) (acc bA:Int):Int×List It:=
 if 1≤item∧item≤af.length then
  if decide (0<(af.getD (item.toNat -1) ⟨0,0,0,0⟩).bA)=held then
   (0,af.set (item.toNat -1) ⟨(af.getD (item.toNat -1) ⟨0,0,0,0⟩).num,(af.getD (item.toNat -1) ⟨0,0,0,0⟩).kind,acc,bA⟩)
  else (151,af)
 else (151,af)
theorem eX (p:Nat) (lim:Int) (af:List It) (item:Int) (held:Bool) (acc bA:Int) (w0 w:World) (A:al) (hl:af.length≤1048576) (s:St w0 (A*bD p lim af) w):
  ak Tryz.prog 204 [.pointer (some ⟨p,0,none⟩),.int .i64 item,.bool held,.int .i64 acc,.int .i64 bA]
   (fun r w'=>r= .int .i64 (bo af item held acc bA).1∧St w0 (A*bD p lim (bo af item held acc bA).2) w') w:=by
 refine aB Og (by simp [TW]) ?_;simp [TW]
 by_cases h1:item<1
 ·have:¬(1≤item∧item≤af.length):=by omega
  simp [h1,bo,this];exact s
 obtain ⟨v,s1⟩:=ui s;obtain ⟨b,cap,rfl,_⟩:=s1.aw;simp [h1];refine ae (v:= .slice b af.length cap) (by rw [cell_of s1.swap.look];rfl) ?_
 by_cases h2:af.length<item
 ·have:¬(1≤item∧item≤af.length):=by omega
  simp [h2,bo,this];exact s
 simp [h2];obtain ⟨i,rfl⟩:∃i:Nat,item=i+1:=⟨item.toNat -1,by omega⟩;have hi:i<af.length:=by omega
 obtain ⟨g,cap',hv,_,hc⟩:=s1.aO (by omega);cases hv;refine ae (v:= .slice (some ⟨g,0,none⟩) af.length cap) (by rw [cell_of s1.swap.look];rfl) ?_;have hw:IntKind.i64.wrap (i:Int)=i:=wrap64 (by omega) (by omega);simp [hw,hi];refine az (vs:=af[i].cs) (fun j u hu=>hc _ _ (gn hi j u hu)) rfl ?_;simp;refine ad ((kG af[i] w0 w _ s1).mono ?_);rintro r w2 ⟨rfl,s2⟩;simp;have hp:bo af (i+1) held acc bA=if decide (0<af[i].bA)=held then (0,af.set i ⟨af[i].num,af[i].kind,acc,bA⟩) else (151,af):=by
  unfold bo;rw [if_pos (by omega)];have:((i:Int)+1).toNat -1=i:=by omega
  simp [this,hi]
 refine aM (fun h3=> ?_) (fun h3=> ?_)
 ·have e3:¬decide (0<af[i].bA)=held:=by simpa using h3
  rw [hp,if_neg e3];simp;exact lB s2
 have e3:decide (0<af[i].bA)=held:=by simpa using h3
 rw [hp,if_pos e3];simp;refine ae (v:= .slice (some ⟨g,0,none⟩) af.length cap) (by rw [cell_of s2.swap.look];rfl) ?_;simp [hw,hi];have hfl:=iy af;refine cw s2 (by omega) rfl ?_;intro w3 s3;simp;refine cw s3 (by rw [List.length_set];omega) rfl ?_;intro w4 s4;simp;rw [Ig hi] at s4;refine lB (v:= .slice (some ⟨g,0,none⟩) af.length cap) ?_
 simpa using s4
def gq (af:List It) (item a:Int):Int×List It:=if nW a=true then bo af item false a 0 else (2,af)
def fC (af:List It) (item c:Int):Int×List It:=if c<1 then (2,af) else bo af item false (-1) c
def fk (af:List It) (item a:Int):Int×List It:=if nW a=true then bo af item true a 0 else (2,af)
theorem HM (p:Nat) (lim:Int) (af:List It) (item a:Int) (w0 w:World) (A:al) (hl:af.length≤1048576) (s:St w0 (A*bD p lim af) w):
  ak Tryz.prog 130 [.pointer (some ⟨p,0,none⟩),.int .i64 item,.int .i64 a]
   (fun r w'=>r= .int .i64 (gq af item a).1∧St w0 (A*bD p lim (gq af item a).2) w') w:=by
 refine aB NH (by simp [Tr]) ?_;simp [Tr];refine aM (fun h1=> ?_) (fun h1=> ?_)
 ·simp at h1
  simp [gq,h1];exact s
 simp at h1;simp;refine ad ((eX p lim af item false a 0 w0 w A hl s).mono ?_);rintro r w1 ⟨rfl,s1⟩;simp [gq,h1];exact s1
theorem wb (p:Nat) (lim:Int) (af:List It) (item c:Int) (w0 w:World) (A:al) (hl:af.length≤1048576) (s:St w0 (A*bD p lim af) w):
  ak Tryz.prog 308 [.pointer (some ⟨p,0,none⟩),.int .i64 item,.int .i64 c]
   (fun r w'=>r= .int .i64 (fC af item c).1∧St w0 (A*bD p lim (fC af item c).2) w') w:=by
 refine aB Pj (by simp [Ur]) ?_;simp [Ur];refine aM (fun h1=> ?_) (fun h1=> ?_)
 ·simp at h1
  simp [fC,h1];exact s
 simp at h1;simp;refine ad ((eX p lim af item false (-1) c w0 w A hl s).mono ?_);rintro r w1 ⟨rfl,s1⟩;have:¬c<1:=by omega
 simp [fC,this];exact s1
theorem HG (p:Nat) (lim:Int) (af:List It) (item a:Int) (w0 w:World) (A:al) (hl:af.length≤1048576) (s:St w0 (A*bD p lim af) w):
  ak Tryz.prog 366 [.pointer (some ⟨p,0,none⟩),.int .i64 item,.int .i64 a]
   (fun r w'=>r= .int .i64 (fk af item a).1∧St w0 (A*bD p lim (fk af item a).2) w') w:=by
 refine aB PG (by simp [UB]) ?_;simp [UB];refine aM (fun h1=> ?_) (fun h1=> ?_)
 ·simp at h1
  simp [fk,h1];exact s
 simp at h1;simp;refine ad ((eX p lim af item true a 0 w0 w A hl s).mono ?_);rintro r w1 ⟨rfl,s1⟩;simp [fk,h1];exact s1
def bka:Nat→PO
 |0=>(.eqNil false (.pointer 198) (.pointer none))
 |1=>(.build #[(.int .i64 0),(.int .i64 0),(.int .i64 0),(.int .i64 0)] [(0,1),(1,1),(2,1),(3,1)] [])
 |2=>(.bin .lss)
 |3=> .chkp
 |4=>(.fld 1)
 |5=> .lenL
 |6=>(.bin .gtr)
 |7=>(.bin .sub)
 |8=>(.idxL 4)
 |9=>(.fld 0)
 |10=>(.bin .add)
 |11=>(.un .not)
 |12=>(.fld 2)
 |13=>(.bin .eql)
 |14=>(.fld 3)
 |15=>(.mkf (.func 224) 0)
 |16=>(.mkf (.func 370) 0)
 |_=> .same
def Zc:Nat→EO
 |0=>(.new 123 (.agg #[(.int .i64 0),(.int .i64 0),(.int .i64 0),(.int .i64 0)]))
 |1=>(.st 4)
 |2=>(.ld false 1)
 |3=>(.ld true 4)
 |4=>(.new 201 (.agg #[(.int .i64 0),(.int .i64 0),(.int .i64 0),(.int .i64 0)]))
 |5=>(.bsl 123 1 4 #[(.int .i64 0),(.int .i64 0),(.int .i64 0),(.int .i64 0)] [0])
 |6=>(.app 143 143 123 4 32 (.agg #[(.int .i64 0),(.int .i64 0),(.int .i64 0),(.int .i64 0)]))
 |7=> .callv
 |8=>(.bsl 3 1 1 #[(.int .i64 0)] [0])
 |9=>(.app 32 32 3 1 8 (.int .i64 0))
 |10=>(.box 201)
 |11=>(.call 225)
 |12=>(.box 3)
 |13=>(.call 223)
 |_=> .an
def dxa:Nat→Value
 |0=>(.int .i64 0)
 |1=>(.int .i64 1)
 |2=>(.tuple #[])
 |3=>(.bool true)
 |4=>(.int .i64 151)
 |5=>(.slice none 0 0)
 |6=>(.bool false)
 |_=>undef
def vh:cX:=⟨bka,Zc,dxa⟩
def Tq:ai:=⟨[0,1,4,5],32,[.cell 2 true 4,.slot 3],aP vh [] 0xb39bff73b71cee2dd2003cb8402074d32575050047cfaf83d32575050047cfafb2575050047cfad414011f4d3c0c40b4f0313c0eda28bc0b2fffbdd2103c954c140205305c8dd7647db48363389c71f6d5c959b8156482401cc6633c959b8156482401cc69b8166592095d3c0c4cc2cf4f03133f03cd5d414010b5050042b2fffbdd2043c954c140205305c6d5f0063c0009e2699d92003cc24c0⟩
theorem NG:aj G1 129 400=some Tq:=by kernel_rfl
def l82:ai:=⟨[0,2,3,5,11,12,13],24,[.slot 1],aP vh [] 0xe79e6fff740206dbb99dcdd5d414062811b505018a06db27ee28b74420b2e100869b3174c43f83c43fa7ee28b7e03cb3e014c4d3d19013a0fd19013a068bc2bc071b57d15018263d15018202773b71a659d92006566cc5173126cc5d34f03102d3c0c4f039f74850a8bc0b2fff748505c6d5f0063c027dd2141⟩
theorem Vl:aj G1 82 400=some l82:=by kernel_rfl
def T7:ai:=⟨[0,1,4,5,7,13,14,15],30,[.slot 2],aP vh [] 0xe79e6fff74030adbb99dcdd5d414072811f50501ca06db28bc09dcee28b74420f2e100fe9b3eb4d3113ef82d3113efb113e8a26f8632cd0047c440e7ee28b7e04cb3e014c4d3d1d017a0fd1d017a068bc2bc071b57d1901c263d1901c202773b71a659d92007566cc51b3166cc5d34f03102d3c0c4f039f74850e8bc0b2fff748509c6d5f0063c027dd2142⟩
theorem OE:aj G1 223 400=some T7:=by kernel_rfl
def T8:ai:=⟨[0,1,2,3],14,[.slot 3],aP vh [] 0x39bff8a272379e95fdd21834428a271fdd5c911110cd043442c911110cd071042997482574c42f8c051082442d310be301442c42f910959b82c19b82c19b32c1c420e789a6764860f30bc281⟩
theorem OF:aj G1 224 400=some T8:=by kernel_rfl
def UF:ai:=⟨[0,1,2,3],13,[.slot 3],aP vh [] 0xe6ffe289e7a57f74860f88a271fdd5c910d108d043e32443442341c410a65d2095d310be381e02e34c42f8e078c42fb89b32c1c420e789a6764860f30bc281⟩
theorem PM:aj G1 370 400=some UF:=by kernel_rfl
def Tv:ai:=⟨[0,1,3,4],8,[.slot 3],aP vh [] 0xe6fffbdf30f257108f05000d07108ffe2699d92143cc2c41301⟩
theorem NT:aj G1 141 400=some Tv:=by kernel_rfl
def Uv:ai:=⟨[0,1,3,4],8,[.slot 3],aP vh [] 0x39bffef7cc3c95c42202400341c422029e2699d92143cc2c41301⟩
theorem Pn:aj G1 311 400=some Uv:=by kernel_rfl
def aD (af:List It) (n:Int):It×Int:=if 1≤n∧n≤af.length then (af.getD (n.toNat -1) ⟨0,0,0,0⟩,0) else (⟨0,0,0,0⟩,151)
theorem fy (p:Nat) (lim:Int) (af:List It) (n:Int) (w0 w:World) (A:al) (hl:af.length≤1048576) (s:St w0 (A*bD p lim af) w):
  ak Tryz.prog 129 [.pointer (some ⟨p,0,none⟩),.int .i64 n]
   (fun r w'=>r= .tuple #[.agg (aD af n).1.cs.toArray,.int .i64 (aD af n).2]∧St w0 (A*bD p lim af) w') w:=by
 refine aB NG (by simp [Tq]) ?_;simp [Tq];refine bO s ?_;intro b w1 s1;simp;obtain ⟨v,s2⟩:=ui s1.swap;obtain ⟨a,cap,rfl,_⟩:=s2.aw
 by_cases h1:n<1
 ·have hg:aD af n=(⟨0,0,0,0⟩,151):=by unfold aD;rw [if_neg (by omega)]
  simp [h1,hg,Instr.fill,Value.cells];refine cJ (vs:=It.cs ⟨0,0,0,0⟩) s1 rfl rfl (cr _) (by simp) ?_;intro w2 s3;simp;have s4:St w0 (A*bD p lim af*pt b (.cells (It.cs ⟨0,0,0,0⟩).toArray 123 (0,0))) w2:=by simpa using s3
  refine ar (vs:=It.cs ⟨0,0,0,0⟩) rfl s4.ah rfl ?_;simp;exact s4.drop
 simp [h1];refine ae (v:= .slice a af.length cap) (by rw [cell_of s2.swap.look];rfl) ?_
 by_cases h2:af.length<n
 ·have hg:aD af n=(⟨0,0,0,0⟩,151):=by unfold aD;rw [if_neg (by omega)]
  simp [h2,hg,Instr.fill,Value.cells];refine cJ (vs:=It.cs ⟨0,0,0,0⟩) s1 rfl rfl (cr _) (by simp) ?_;intro w2 s3;simp;have s4:St w0 (A*bD p lim af*pt b (.cells (It.cs ⟨0,0,0,0⟩).toArray 123 (0,0))) w2:=by simpa using s3
  refine ar (vs:=It.cs ⟨0,0,0,0⟩) rfl s4.ah rfl ?_;simp;exact s4.drop
 simp [h2];obtain ⟨i,rfl⟩:∃i:Nat,n=i+1:=⟨n.toNat -1,by omega⟩;have hi:i<af.length:=by omega
 obtain ⟨g,cap',hv,_,hc⟩:=s2.aO (by omega);cases hv;refine ae (v:= .slice (some ⟨g,0,none⟩) af.length cap) (by rw [cell_of s2.swap.look];rfl) ?_;have hw:IntKind.i64.wrap (i:Int)=i:=wrap64 (by omega) (by omega);simp [hw,hi];refine az (vs:=af[i].cs) (fun j u hu=>hc _ _ (gn hi j u hu)) rfl ?_;simp;have hg:aD af (i+1)=(af[i],0):=by
  unfold aD;rw [if_pos (by omega)];have:((i:Int)+1).toNat -1=i:=by omega
  simp [this,hi]
 refine cJ (vs:=af[i].cs) s1 rfl rfl (cr _) (by simp) ?_;intro w3 s3;simp [hg];have s4:St w0 (A*bD p lim af*pt b (.cells af[i].cs.toArray 123 (0,0))) w3:=by simpa using s3
 refine ar (vs:=af[i].cs) rfl s4.ah rfl ?_;simp;exact s4.drop
theorem ko (p:Nat) (lim:Int) (af:List It) (w0 w:World) (A:al) (hl:af.length≤1048576) (s:St w0 (A*bD p lim af) w):
  ak Tryz.prog 82 [.pointer (some ⟨p,0,none⟩)]
   (fun r w'=>St w0 (A*bD p lim af*own 123 4 r af.length (flat af)) w') w:=by
 refine aB Vl (by simp [l82]) ?_;simp [l82];obtain ⟨v,s2⟩:=ui s;obtain ⟨a,cap,rfl,_⟩:=s2.aw;refine ae (v:= .slice a af.length cap) (by rw [cell_of s2.swap.look];rfl) ?_;simp;refine dg (fun env w'=>∃(i:Nat) (v o:Value),env= [.pointer (some ⟨p,0,none⟩),.slice none 0 0,v,o,.slice a af.length cap,.int .i64 af.length,.int .i64 i]∧i≤af.length∧
   St w0 (A*pt p (.cells #[.int .i64 lim,.slice a af.length cap] 198 (0,0))*own 201 4 (.slice a af.length cap) af.length (flat af)*own 123 4 v i (flat (af.take i))) w')
  (fun env _=>af.length -ax env 6) ⟨0,_,_,rfl,by omega,s2.aE _ _⟩ ?_
 rintro LQ env w' ⟨i,v,o,rfl,hi,s'⟩ hN hE hR;simp;refine aM (fun h=> ?_) (fun h=> ?_)
 ·simp at h
  obtain ⟨g,cap',hv,_,hc⟩:=s'.swap.aO (by omega);cases hv;simp [h];refine az (vs:=af[i].cs) (fun j u hu=>hc _ _ (gn h j u hu)) rfl ?_;simp;refine bO s' ?_;intro b w1 s1;simp;refine cJ (vs:=af[i].cs) s1 rfl rfl (cr _) (by simp) ?_;intro w2 s2;simp;have s3:St w0 (A*pt p (.cells #[.int .i64 lim,.slice (some ⟨g,0,none⟩) af.length cap] 198 (0,0))*own 201 4 (.slice (some ⟨g,0,none⟩) af.length cap) af.length (flat af)*own 123 4 v i (flat (af.take i))*pt b (.cells af[i].cs.toArray 201 (0,0))) w2:=by simpa using s2
  refine az (vs:=af[i].cs) s3.ah rfl ?_;simp;refine bV s3 rfl ?_;intro c w4 s4;simp;refine bu (m:=1) (news:=af[i].cs) s4.p3 rfl s4.aH (cr _) (by decide) rfl (by unfold maxLen;omega) (by omega) ?_;intro v' w5 s5;simp
  try simp (disch:=omega) only [wrap64]
  refine hN _ _ ⟨i+1,v',_,by simp;exact rfl,by omega,?_⟩ (by simp [ax];omega);have e:flat (af.take i)++af[i].cs=flat (af.take (i+1)):=by rw [List.take_succ_eq_append_getElem h];simp only [flat,List.flatMap_append,List.flatMap_cons,List.flatMap_nil,List.append_nil]
  rw [e] at s5;exact s5.swap.drop.swap.drop
 ·simp at h
  simp;refine hE _ _ _ ?_;simp;have:i=af.length:=by omega
  subst this;rw [List.take_length] at s';exact (lB s'.p3.p3).swap
theorem JD (x:It) (q:Nat) (a:Int) (w0 w:World) (A:al) (s:St w0 (A*pt q (.cells #[.int .i64 a] 3 (0,0))) w):
  ak Tryz.prog 224 [.agg x.cs.toArray,.pointer (some ⟨q,0,none⟩)] (fun r w'=>r= .bool (!decide (0<x.bA)&&decide (x.acc=a))∧St w0 (A*pt q (.cells #[.int .i64 a] 3 (0,0))) w') w:=by
 refine aB OF (by simp [T8]) ?_;simp [T8];refine bj s ?_;intro b w1 s1;simp;have hc:∀j u,x.cs[j]?=some u→w1.cell? ⟨b,0+j,none⟩=some u:=fun j u hu=>by rw [cell_of s1.look];simpa using hu
 refine az (vs:=x.cs) hc rfl ?_;simp;refine ad ((kG x w0 w1 _ s1).mono ?_);rintro r w2 ⟨rfl,s2⟩;have hc2:w2.cell? ⟨b,2,none⟩=some (.int .i64 x.acc):=by rw [cell_of s2.look];rfl
 have hc3:w2.cell? ⟨q,0,none⟩=some (.int .i64 a):=by rw [cell_of s2.swap.look];rfl
 by_cases h:0<x.bA
 ·simp [h]
  exact s2.drop
 ·simp [h]
  refine ae hc2 ?_;simp;refine ae hc3 ?_;simp;exact s2.drop
theorem Jz (x:It) (q:Nat) (a:Int) (w0 w:World) (A:al) (s:St w0 (A*pt q (.cells #[.int .i64 a] 3 (0,0))) w):
  ak Tryz.prog 370 [.agg x.cs.toArray,.pointer (some ⟨q,0,none⟩)] (fun r w'=>r= .bool (decide (0<x.bA)&&decide (x.bA=a))∧St w0 (A*pt q (.cells #[.int .i64 a] 3 (0,0))) w') w:=by
 refine aB PM (by simp [UF]) ?_;simp [UF];refine bj s ?_;intro b w1 s1;simp;have hc:∀j u,x.cs[j]?=some u→w1.cell? ⟨b,0+j,none⟩=some u:=fun j u hu=>by rw [cell_of s1.look];simpa using hu
 refine az (vs:=x.cs) hc rfl ?_;simp;refine ad ((kG x w0 w1 _ s1).mono ?_);rintro r w2 ⟨rfl,s2⟩;have hc2:w2.cell? ⟨b,3,none⟩=some (.int .i64 x.bA):=by rw [cell_of s2.look];rfl
 have hc3:w2.cell? ⟨q,0,none⟩=some (.int .i64 a):=by rw [cell_of s2.swap.look];rfl
 by_cases h:0<x.bA
 ·simp [h]
  refine ae hc2 ?_;simp;refine ae hc3 ?_;simp;exact s2.drop
 ·simp [h]
  exact s2.drop
def La (af:List It) (a:Int):List Int:=(af.filter fun x=> !decide (0<x.bA)&&decide (x.acc=a)).map It.num
def dV (af:List It) (c:Int):List Int:=(af.filter fun x=>decide (0<x.bA)&&decide (x.bA=c)).map It.num
def ints (l:List Int):List Value:=l.map (Value.int .i64)
theorem vw (p:Nat) (lim:Int) (af:List It) (f:FuncId) (q:Nat) (a:Int) (pred:It→Bool) (hb:bW Tryz.prog f=true)
  (hf:∀(x:It) (w0 w:World) (A:al),St w0 (A*pt q (.cells #[.int .i64 a] 3 (0,0))) w→ak Tryz.prog f [.agg x.cs.toArray,.pointer (some ⟨q,0,none⟩)] (fun r w'=>r= .bool (pred x)∧St w0 (A*pt q (.cells #[.int .i64 a] 3 (0,0))) w') w)
  (w0 w:World) (A:al) (hl:af.length≤1048576) (s:St w0 (A*bD p lim af*pt q (.cells #[.int .i64 a] 3 (0,0))) w):
  ak Tryz.prog 223 [.pointer (some ⟨p,0,none⟩),.func (.func f) #[] #[.pointer (some ⟨q,0,none⟩)]]
   (fun r w'=>St w0 (A*bD p lim af*own 3 1 r ((af.filter pred).map It.num).length (ints ((af.filter pred).map It.num))) w') w:=by
 refine aB OE (by simp [T7]) ?_;simp [T7];obtain ⟨v,s2⟩:=ui s.swap;obtain ⟨c,cap,rfl,_⟩:=s2.aw;refine ae (v:= .slice c af.length cap) (by rw [cell_of s2.swap.look];rfl) ?_;simp;refine dg (fun env w'=>∃(i:Nat) (v o:Value),env= [.pointer (some ⟨p,0,none⟩),.func (.func f) #[] #[.pointer (some ⟨q,0,none⟩)],.slice none 0 0,v,o,.slice c af.length cap,.int .i64 af.length,.int .i64 i]∧i≤af.length∧
   St w0 (A*pt p (.cells #[.int .i64 lim,.slice c af.length cap] 198 (0,0))*own 201 4 (.slice c af.length cap) af.length (flat af)*own 3 1 v (((af.take i).filter pred).map It.num).length (ints (((af.take i).filter pred).map It.num))*pt q (.cells #[.int .i64 a] 3 (0,0))) w')
  (fun env _=>af.length -ax env 7) ⟨0,_,_,rfl,by omega,?_⟩ ?_
 ·exact (s2.aE _ _).to (by simp [ints];ac_rfl)
 rintro LQ env w' ⟨i,v,o,rfl,hi,s'⟩ hN hE hR;simp;refine aM (fun h=> ?_) (fun h=> ?_)
 ·simp at h
  obtain ⟨g,cap',hv,_,hc⟩:=s'.swap.drop.swap.aO (by omega);cases hv;simp [h];refine az (vs:=af[i].cs) (fun j u hu=>hc _ _ (gn h j u hu)) rfl ?_;simp;refine bO s' ?_;intro b w1 s1;simp;refine cJ (vs:=af[i].cs) s1 rfl rfl (cr _) (by simp) ?_;intro w2 s2;simp;have s3:St w0 (A*pt p (.cells #[.int .i64 lim,.slice (some ⟨g,0,none⟩) af.length cap] 198 (0,0))*own 201 4 (.slice (some ⟨g,0,none⟩) af.length cap) af.length (flat af)*own 3 1 v (((af.take i).filter pred).map It.num).length (ints (((af.take i).filter pred).map It.num))*pt b (.cells af[i].cs.toArray 201 (0,0))*pt q (.cells #[.int .i64 a] 3 (0,0))) w2:=by simpa using s2.swap
  refine az (vs:=af[i].cs) s3.swap.ah rfl ?_;simp;refine bM hb ((hf af[i] w0 w2 _ s3).mono ?_);rintro r w3 ⟨rfl,s4⟩;have htake:af.take (i+1)=af.take i++ [af[i]]:=List.take_succ_eq_append_getElem h;simp;refine aM (fun hp=> ?_) (fun hp=> ?_)
  ·have hp0:=hp
   simp;refine ae (v:= .int .i64 af[i].num) (by rw [cell_of s4.swap.look];rfl) ?_;simp;refine ch s4 rfl ?_;intro c1 w4 s5;simp;refine bu (m:=1) (news:= [.int .i64 af[i].num]) (F:=A*pt p (.cells #[.int .i64 lim,.slice (some ⟨g,0,none⟩) af.length cap] 198 (0,0))*own 201 4 (.slice (some ⟨g,0,none⟩) af.length cap) af.length (flat af)*pt b (.cells af[i].cs.toArray 201 (0,0))*pt q (.cells #[.int .i64 a] 3 (0,0))*pt c1 (.cells #[.int .i64 af[i].num] 3 (0,0))) (s5.to (by ac_rfl)) rfl s5.aH (by simp [Value.oneCell']) (by decide) rfl ?_ ?_ ?_
   ·have:=List.length_filter_le pred (af.take i)
    simp only [List.length_map,List.length_take] at this⊢;unfold maxLen;omega
   ·have:=List.length_filter_le pred (af.take i)
    simp only [List.length_map,List.length_take] at this⊢;omega
   intro v' w5 s6;simp
   try simp (disch:=omega) only [wrap64]
   refine hN _ _ ⟨i+1,v',_,by simp;exact rfl,by omega,?_⟩ (by simp [ax];omega);refine St.cut (pt b (.cells af[i].cs.toArray 201 (0,0))*pt c1 (.cells #[.int .i64 af[i].num] 3 (0,0))) s6 ?_;rw [htake];simp only [List.filter_append,List.map_append,hp0,List.filter_cons_of_pos,List.filter_nil,List.map_cons,List.map_nil,ints,List.length_append,List.length_map,List.length_cons,List.length_nil];ac_rfl
  ·have hp0:=hp
   simp
   try simp (disch:=omega) only [wrap64]
   refine hN _ _ ⟨i+1,v,_,by simp;exact rfl,by omega,?_⟩ (by simp [ax];omega);refine St.cut (pt b (.cells af[i].cs.toArray 201 (0,0))) s4 ?_;rw [htake,List.filter_append,List.filter_cons_of_neg (by simp [hp0]),List.filter_nil,List.append_nil];ac_rfl
 ·simp at h
  simp;refine hE _ _ _ ?_;simp;have:i=af.length:=by omega
  subst this;rw [List.take_length] at s';exact ((lB (A:=A*own 3 1 v ((af.filter pred).map It.num).length (ints ((af.filter pred).map It.num))) (s'.drop.to (by ac_rfl))).swap).to (by simp)
theorem Mv (p:Nat) (lim:Int) (af:List It) (a:Int) (w0 w:World) (A:al) (hl:af.length≤1048576) (s:St w0 (A*bD p lim af) w):
  ak Tryz.prog 141 [.pointer (some ⟨p,0,none⟩),.int .i64 a]
   (fun r w'=>St w0 (A*bD p lim af*own 3 1 r (La af a).length (ints (La af a))) w') w:=by
 refine aB NT (by simp [Tv]) ?_;simp [Tv];refine bj s ?_;intro q w1 s1;simp;refine ad ((vw p lim af 224 q a _ (by kernel_rfl) (fun x w0 w A s=>JD x q a w0 w A s) w0 w1 A hl s1).mono ?_);intro r w2 s2;simp;exact s2
theorem Mt (p:Nat) (lim:Int) (af:List It) (a:Int) (w0 w:World) (A:al) (hl:af.length≤1048576) (s:St w0 (A*bD p lim af) w):
  ak Tryz.prog 311 [.pointer (some ⟨p,0,none⟩),.int .i64 a]
   (fun r w'=>St w0 (A*bD p lim af*own 3 1 r (dV af a).length (ints (dV af a))) w') w:=by
 refine aB Pn (by simp [Uv]) ?_;simp [Uv];refine bj s ?_;intro q w1 s1;simp;refine ad ((vw p lim af 370 q a _ (by kernel_rfl) (fun x w0 w A s=>Jz x q a w0 w A s) w0 w1 A hl s1).mono ?_);intro r w2 s2;simp;exact s2
structure WF (af:List It):Prop where
 num:∀(i:Nat) (h:i<af.length),af[i].num=i+1
 kind:∀x∈af,0≤x.kind∧x.kind<16
def ofP (a:Int) (x:It):Bool:= !decide (0<x.bA)&&decide (x.acc=a)
def iMa (l:List It):List Int:=(List.range 16).map fun (k:Nat)=>((l.filter fun x=>decide (x.kind=(k:Int))).length:Int)
theorem tW (l:List It):∀u∈flat l,u.oneCell'=true:=by
 intro u hu;obtain ⟨x,_,hx⟩:=List.mem_flatMap.1 hu;exact cr x u hx
structure Ac where
 kind:Int
 a:Int
 b:Int
def Ac.cs (x:Ac):List Value:= [.int .i64 x.kind,.int .i64 x.a,.int .i64 x.b]
def HP (lim:Int) (af:List It) (x:Ac):Int×List It:=
 if x.kind=1 then (fY lim af x.a x.b).2 else if x.kind=2 then gq af x.a x.b else if x.kind=3 then fC af x.a x.b else if x.kind=4 then fk af x.a x.b else (0,af)
def eCa (was:List It) (x:Ac):Option (List It):=
 if x.kind=1 then some (was++ [⟨was.length+1,x.a,x.b,0⟩])
 else if x.kind=2∨x.kind=3∨x.kind=4 then
  if 1≤x.a∧x.a≤was.length then
   if decide ((was.getD (x.a.toNat -1) ⟨0,0,0,0⟩).bA≠0)=decide (x.kind=4) then
    some (was.set (x.a.toNat -1) ⟨(was.getD (x.a.toNat -1) ⟨0,0,0,0⟩).num,(was.getD (x.a.toNat -1) ⟨0,0,0,0⟩).kind,if x.kind=3 then -1 else x.b,if x.kind=3 then x.b else 0⟩)
   else none
  else none
 else some was
def gr (was now:List It) (x:Ac):Bool:=match eCa was x with
 |some l=>now==l
 |none=>false
structure GI (lim:Int) (af:List It):Prop extends WF af where
 len:(af.length:Int)≤lim
 lim:lim≤512
 place:∀x∈af,(x.bA=0∧0≤x.acc∧x.acc<64)∨(0<x.bA∧x.acc= -1)
def ira (af:List It) (n:Int):Nat:=(af.filter fun x=> !decide (0<x.bA)&&(decide (0≤x.acc)&&decide (x.acc<n))).length
def h0a (af:List It):Nat:=(af.filter fun x=>decide (x.bA≠0)).length
theorem Sc {lim:Int} (h:0≤lim) (h2:lim≤512):GI lim [] where
 num i h:=by simp at h
 kind x h:=by cases h
 len:=by simpa using h
 lim:=h2
 place x h:=by cases h
theorem Nh {lim:Int} {af:List It} (hg:GI lim af) {k a:Int} (ha:nW a=true) (hk:qX k=true) (hl:¬lim≤af.length):GI lim (af++ [⟨af.length+1,k,a,0⟩]) where
 num i h:=by
  by_cases e:i<af.length
  ·rw [List.getElem_append_left e];exact hg.num i e
  ·have:i=af.length:=by simp at h;omega
   subst this;simp
 kind x h:=by
  rcases List.mem_append.1 h with h|h
  ·exact hg.kind x h
  ·have:x=⟨af.length+1,k,a,0⟩:=by simpa using h
   subst this
   simpa [qX] using hk
 len:=by simp;omega
 lim:=hg.lim
 place x h:=by
  rcases List.mem_append.1 h with h|h
  ·exact hg.place x h
  ·have:x=⟨af.length+1,k,a,0⟩:=by simpa using h
   subst this;left
   simpa [nW] using ha
theorem ud {lim:Int} {af:List It} (hg:GI lim af) {item:Int} {held:Bool} {a c:Int} (hp:(c=0∧0≤a∧a<64)∨(0<c∧a= -1)):GI lim (bo af item held a c).2:=by
 unfold bo;split
 ·rename_i hi
  split
  ·have hlt:item.toNat -1<af.length:=by omega
   have hgd:af.getD (item.toNat -1) ⟨0,0,0,0⟩=af[item.toNat -1]:=by simp [hlt]
   rw [hgd];refine ⟨⟨fun i h=> ?_,fun x hx=> ?_⟩,by rw [List.length_set];exact hg.len,hg.lim,fun x hx=> ?_⟩
   ·rw [List.length_set] at h
    rw [List.getElem_set];split
    ·rename_i e;subst e;exact hg.num _ h
    ·exact hg.num i h
   ·rcases List.mem_or_eq_of_mem_set hx with h|rfl
    ·exact hg.kind x h
    ·exact hg.kind af[item.toNat -1] (List.getElem_mem hlt)
   ·rcases List.mem_or_eq_of_mem_set hx with h|rfl
    ·exact hg.place x h
    ·exact hp
  ·exact hg
 ·exact hg
theorem nd (a:Int):nW a=true↔0≤a∧a<64:=by simp [nW]
theorem Kz {lim:Int} {af:List It} (hg:GI lim af) (x:Ac):GI lim (HP lim af x).2:=by
 unfold HP;split
 ·unfold fY
  split
  ·exact hg
  split
  ·exact hg
  split
  ·exact hg
  ·rename_i h1 h2 h3
   exact Nh hg (by simpa using h1) (by simpa using h2) h3
 split
 ·unfold gq
  split
  ·rename_i h;exact ud hg (.inl ⟨rfl,(nd _).1 h⟩)
  ·exact hg
 split
 ·unfold fC
  split
  ·exact hg
  ·rename_i h;exact ud hg (.inr ⟨by omega,rfl⟩)
 split
 ·unfold fk
  split
  ·rename_i h;exact ud hg (.inl ⟨rfl,(nd _).1 h⟩)
  ·exact hg
 ·exact hg
def acs (l:List Ac):List Value:=l.flatMap Ac.cs
def bla:Nat→PO
 |0=>(.eqNil false (.slice 201) (.slice none 0 0))
 |1=>(.eqNil false (.pointer 198) (.pointer none))
 |2=> .chkp
 |3=>(.fld 0)
 |4=>(.fld 1)
 |5=>(.build #[(.int .i64 0),(.slice none 0 0)] [(0,1),(1,1)] [0,1])
 |_=> .same
def Zd:Nat→EO
 |0=>(.bsl 201 0 4 #[] [])
 |1=>(.app 196 196 201 4 32 (.agg #[(.int .i64 0),(.int .i64 0),(.int .i64 0),(.int .i64 0)]))
 |2=>(.ld false 1)
 |3=>(.call 157)
 |4=>(.box 198)
 |_=> .an
def dya:Nat→Value
 |0=>(.slice none 0 0)
 |1=>(.pointer none)
 |_=>undef
def Rn:cX:=⟨bla,Zd,dya⟩
def TG:ai:=⟨[0,2],8,[.slot 1],aP Rn [] 0xb39bff8a2df8054f33053028bc0b2fff748005c6d5f0063c027dd2001⟩
theorem N6:aj G1 157 400=some TG:=by kernel_rfl
def l88:ai:=⟨[0,2],16,[.slot 1],aP Rn [] 0x2ce6f06973b73b8bbdd10c1d32442cc5132442cc59b80f4d3c0840b4f0213c0b4d3c0830b4f020fc085a2f02cbffdd204171b57c058f3fdd2041⟩
theorem Vr:aj G1 88 400=some l88:=by kernel_rfl
theorem nV (v:Value) (af:List It) (w0 w:World) (A:al) (hl:af.length≤1048576) (s:St w0 (A*own 201 4 v af.length (flat af)) w):
  ak Tryz.prog 157 [v] (fun r w'=>St w0 (A*own 201 4 v af.length (flat af)*own 201 4 r af.length (flat af)) w') w:=by
 obtain ⟨a,cap,rfl,hcap,_⟩:=s.aw;refine aB N6 (by simp [TG]) ?_;simp [TG];cases a with
 |none=>
  simp;rcases s.own.2 with ⟨h,h0,_⟩|⟨_,_,_,h,_⟩
  ·have hi:af= []:=List.eq_nil_of_length_eq_zero h0
   subst hi;exact s.aE _ _
  ·cases h
 |some a=>
  simp;refine mr s ?_;intro v0 w1 s1;simp;have hr:Row w0 (A*own 201 4 (.slice (some a) af.length cap) af.length (flat af)*own 201 4 v0 0 []) (.slice (some a) af.length cap) af.length 4 (flat af):=(bF s).mono fun w s=>s.drop;refine fA s1 hr (tW _) (by decide) rfl (by unfold maxLen;omega) (by omega) ?_;intro v' w2 s2;simp
  simpa using s2
theorem pV (p:Nat) (lim:Int) (af:List It) (w0 w:World) (A:al) (hl:af.length≤1048576) (s:St w0 (A*bD p lim af) w):
  ak Tryz.prog 88 [.pointer (some ⟨p,0,none⟩)] (fun r w'=>∃q,r= .pointer (some ⟨q,0,none⟩)∧St w0 (A*bD p lim af*bD q lim af) w') w:=by
 refine aB Vr (by simp [l88]) ?_;simp [l88];obtain ⟨v,s1⟩:=ui s;obtain ⟨a,cap,rfl,_⟩:=s1.aw;have L:∀{B:al} {w:World},St w0 (A*pt p (.cells #[.int .i64 lim,.slice a af.length cap] 198 (0,0))*B) w→w.cell? ⟨p,0,none⟩=some (.int .i64 lim)∧w.cell? ⟨p,1,none⟩=some (.slice a af.length cap):=
  fun s=>⟨by rw [cell_of s.swap.look];rfl,by rw [cell_of s.swap.look];rfl⟩
 refine jF (fun vs w=>match vs with
  | []=>St w0 (A*pt p (.cells #[.int .i64 lim,.slice a af.length cap] 198 (0,0))*own 201 4 (.slice a af.length cap) af.length (flat af)) w
  | [r]=>St w0 (A*pt p (.cells #[.int .i64 lim,.slice a af.length cap] 198 (0,0))*own 201 4 (.slice a af.length cap) af.length (flat af)*own 201 4 r af.length (flat af)) w
  | [r,q]=>∃qb,q= .pointer (some ⟨qb,0,none⟩)∧St w0 (A*pt p (.cells #[.int .i64 lim,.slice a af.length cap] 198 (0,0))*own 201 4 (.slice a af.length cap) af.length (flat af)*own 201 4 r af.length (flat af)*pt qb (.cells #[.int .i64 lim,r] 198 (0,0))) w
  |_=>False) s1.drew ?_
 simp;refine aq (v:= .int .i64 lim) (fun vs' w he hw=> ?_) ?_
 ·match vs',hw with
  | [],hw=>exact (L hw).1
  | [_],hw=>exact (L hw.drop).1
  | [_,_],hw=>simp [era] at he
 simp;refine aq (v:= .slice a af.length cap) (fun vs' w he hw=> ?_) ?_
 ·match vs',hw with
  | [],hw=>exact (L hw).2
  | [_],hw=>exact (L hw.drop).2
  | [_,_],hw=>simp [era] at he
 simp;refine bw rfl (fun w hw=>ad (nV _ af w0 w _ hl hw)) (fun r hr=> ?_);simp;obtain ⟨w5,hr⟩:=hr;obtain ⟨ra,rcap,rfl,_⟩:=St.aw hr;simp [Instr.fill,Value.cells];refine bw rfl (fun w hw=>bj hw fun qb w' h=>⟨qb,rfl,h⟩) (fun q hq=> ?_);simp;rintro w6 x rfl h7;refine ⟨x,rfl,?_⟩;have t1:=lB (A:=A*own 201 4 (.slice ra af.length rcap) af.length (flat af)*pt x (.cells #[.int .i64 lim,.slice ra af.length rcap] 198 (0,0))) (lim:=lim) (p:=p) (af:=af) (v:= .slice a af.length cap) (h7.to (by ac_rfl));exact lB (A:=A*bD p lim af) (lim:=lim) (p:=x) (af:=af) (v:= .slice ra af.length rcap) (t1.to (by ac_rfl))
def Q2 (i:Nat) (x:It):Int:=if x.num≠(i:Int)+1 then 151 else if qX x.kind=false then 152 else if x.bA<0∨(0<x.bA∧x.acc≠ -1)∨(¬0<x.bA∧nW x.acc=false) then 2 else 0
def Rb:Nat→List It→Int
 |_,[]=>0
 |i,x::l=>if Q2 i x=0 then Rb (i+1) l else Q2 i x
def iaa (lim:Int) (rows:List It):Int:=if 0≤lim∧lim≤512 then (if lim<rows.length then 150 else Rb 0 rows) else 2
end Go.HL.Gd
