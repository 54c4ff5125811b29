/- Part 5. -/
import Derived.Test.YtpldhemgcoimaaaGreatMEMd
import Derived.MapKept
set_option linter.unusedSimpArgs false
set_option linter.unusedVariables false
set_option maxRecDepth 4000
namespace Go.HL
def E4 {α:Type} (F:α->ak):ak:=λh=>∃a,F a h
theorem jy {α:Type} {w0 w:World} {A:ak} {F:α->ak} (s:St w0 (A*E4 F) w):∃a,St w0 (A*F a) w:=by obtain ⟨g,h1,h2,h3,d,e,a,m,b⟩:=s.holds;exact ⟨m,s.of ⟨g,h1,h2,h3,d,e,a,b⟩⟩
theorem oK {α:Type} {w0 w:World} {A:ak} {F:α->ak} (x:α) (s:St w0 (A*F x) w):St w0 (A*E4 F) w:=by obtain ⟨g,h1,h2,h3,d,e,a,b⟩:=s.holds;exact s.of ⟨g,h1,h2,h3,d,e,a,x,b⟩
section
variable {P:Program} {F0:PF P} {F:ak} {K:Value->World->Prop} {w w0:World}
structure En where
 k:Int
 v:Value
 b:Nat
def aY (es:List En):Array MapEntry:=(es.map λe=>(⟨.int .i64 e.k,e.v,e.b⟩:MapEntry)).toArray
def aZ:List En->Int->Option Value
 | [],_=>none
 |e::r,k=>if k=e.k then some e.v else aZ r k
def ng:List En->Int->Value->List En
 | [],_,_=> []
 |e::r,k,v=>if k=e.k then ⟨e.k,v,e.b⟩::r else e::ng r k v
def eB:List En->Int->List En
 | [],_=> []
 |e::r,k=>if k=e.k then r else e::eB r k
def kY:List En->Int->Nat->Option Nat
 | [],_,_=>none
 |e::r,k,i=>if k=e.k then some i else kY r k (i+1)
theorem Co (k:Int):∀(es:List En) (i:Nat),Instr.findNow (.int .i64) (.int .i64 k) (aY es).toList i=some ((kY es k i).bind λj=>(aZ es k).map λv=>(j,v))
 | [],_=>rfl
 |e::r,i=>by
  have h:=Co k r (i+1);simp only [aY,List.toList_toArray] at h;simp only [aY,List.toList_toArray,List.map_cons,Instr.findNow,Instr.sameNow,if_true,kY,aZ]
  by_cases hk:k=e.k
  ·subst hk;simp
  ·simp only [beq_eq_false_iff_ne.2 hk,hk,if_false]
   exact h
theorem nQ (k:Int):∀(es:List En) (i:Nat),(kY es k i).isSome=(aZ es k).isSome
 | [],_=>rfl
 |e::r,i=>by
  simp only [kY,aZ];split
  ·rfl
  ·exact nQ k r (i+1)
theorem AR (k:Int):∀(es:List En) (i j:Nat),kY es k i=some j->i<=j
 | [],_,_,h=>by cases h
 |e::r,i,j,h=>by
  simp only [kY] at h;split at h
  ·cases h;exact Nat.le_refl _
  ·have:=AR k r _ _ h;omega
theorem Mw (k:Int) (v:Value):∀(es:List En) (i j:Nat),kY es k i=some j->(aY es).modify (j -i) (λe=>{e with key:= .int .i64 k,val:=v})=aY (ng es k v)
 | [],_,_,h=>by cases h
 |e::r,i,j,h=>by
  simp only [kY] at h;apply Array.ext'
  by_cases hk:k=e.k
  ·rw [if_pos hk] at h
   cases h;subst hk;simp [aY,ng,Array.toList_modify,List.modify]
  ·rw [if_neg hk] at h
   have hge:=AR k r _ _ h;have ih:=congrArg Array.toList (Mw k v r _ _ h);obtain ⟨d,rfl⟩:∃d,j=i+1+d:=⟨j -(i+1),by omega⟩;have e1:i+1+d -i=d+1:=by omega
   have e2:i+1+d -(i+1)=d:=by omega
   rw [e2] at ih;rw [e1];simp only [aY,Array.toList_modify,List.toList_toArray,List.map_cons,ng,hk,if_false,List.modify_succ_cons,List.cons.injEq,true_and] at ih⊢;exact ih
theorem KF (k:Int):∀(es:List En) (i j:Nat),kY es k i=some j->(aY es).eraseIdxIfInBounds (j -i)=aY (eB es k)
 | [],_,_,h=>by cases h
 |e::r,i,j,h=>by
  simp only [kY] at h;apply Array.ext'
  by_cases hk:k=e.k
  ·rw [if_pos hk] at h
   cases h;subst hk;simp [aY,eB,Array.eraseIdxIfInBounds]
  ·rw [if_neg hk] at h
   have hge:=AR k r _ _ h;have ih:=congrArg Array.toList (KF k r _ _ h);obtain ⟨d,rfl⟩:∃d,j=i+1+d:=⟨j -(i+1),by omega⟩;have e1:i+1+d -i=d+1:=by omega
   have e2:i+1+d -(i+1)=d:=by omega
   have key:∀(l:List MapEntry) (n:Nat),(l.toArray.eraseIdxIfInBounds n).toList=l.eraseIdx n:=by
    intro l n;unfold Array.eraseIdxIfInBounds;split
    ·simp
    ·rename_i hh
     rw [List.eraseIdx_of_length_le (by simpa using hh)]
   simp only [e2,aY,key] at ih;simp only [e1,aY,key,List.map_cons,eB,hk,if_false,List.eraseIdx_cons_succ,List.toList_toArray,List.cons.injEq,true_and]
   simpa using ih
structure oe (P:Program) (t kt ke:TypeId) (z:Value):Prop where
 ty:P.underlying t=some (.map kt ke)
 key:P.underlying kt=some (.int .i64)
 zero:(P.info? ke).bind (·.zero)=some z
abbrev ao (m:Nat) (es:List En) (c:Nat):ak:=pt m (.map (aY es) c)
variable {t kt ke:TypeId} {z:Value}
theorem NF (T:oe P t kt ke z) (e:Bool) (k:Int):(Instr.checkKey e 10000 kt (.int .i64 k)).run P w= .ok () w:=MapKept.run_checkKey (P:=P) (w:=w) T.key (show MapKept.IsKey (.int .i64) (.int .i64 k) from rfl) e 9999
theorem N3 (T:oe P t kt ke z) (k:Int) (es:List En):(Instr.findKey kt (.int .i64 k) (aY es).toList).run P w= .ok ((kY es k 0).bind λj=>(aZ es k).map λv=>(j,v)) w:=MapKept.run_findKey (P:=P) (w:=w) T.key (Co k es 0)
theorem zrI (T:oe P t kt ke z):(zeroValue ke).run P w= .ok z w:=by obtain ⟨i,hi,hz⟩:=Option.bind_eq_some_iff.1 T.zero;simp [zeroValue,typeInfo,hi,hz]
theorem N5 {es:List En} {k:Int}:((kY es k 0).bind λj=>(aZ es k).map λv=>(j,v)).map (·.2)=aZ es k:=by
 have:=nQ k es 0;cases hp:kY es k 0 with
 |none=>rw [hp] at this;cases hg:aZ es k with
  |none=>rfl
  |some v=>rw [hg] at this;cases this
 |some j=>cases hg:aZ es k<;>rfl
theorem qT (T:oe P t kt ke z) {m:Nat} {es:List En} {c:Nat} (hb:w.heap[m]? =some (.map (aY es) c)) (k:Int) (ok:Bool):
  (Instr.lookup t (.map (some m)) (.int .i64 k) ok).run P w= .ok (if ok then .tuple #[(aZ es k).getD z,.bool (aZ es k).isSome] else (aZ es k).getD z) w:=by
 have hg:=N5 (es:=es) (k:=k);simp only [Instr.lookup,Sem.run_bind,run_underlying T.ty,MapKept.run_getObj_map hb,Result.andThen_ok,Sem.run_pure,NF T,N3 T];cases hf:((kY es k 0).bind λj=>(aZ es k).map λv=>(j,v)) with
 |none=>rw [hf] at hg;rw [<-hg];simp [zrI T]
 |some q=>rw [hf] at hg;rw [<-hg];simp
theorem nC (T:oe P t kt ke z) {m:Nat} {es:List En} {c:Nat} (hb:w.heap[m]? =some (.map (aY es) c)) {k:Int} (hk:K ((aZ es k).getD z) w):aA P (.look t false) [.map (some m),.int .i64 k] K w:=by intro _;exact aK (qT T hb k false) hk
theorem fO (T:oe P t kt ke z) {m:Nat} {es:List En} {c:Nat} (hb:w.heap[m]? =some (.map (aY es) c)) {k:Int} (hk:K (.tuple #[(aZ es k).getD z,.bool (aZ es k).isSome]) w):aA P (.look t true) [.map (some m),.int .i64 k] K w:=by intro _;exact aK (qT T hb k true) hk
theorem oI {C:List Value->World->Prop} {q:Nat->List Value->Value} {n:Nat} {vs:List Value} (T:oe P t kt ke z) {m:Nat} {es:List En} {c:Nat} {k:Int} {K:Value->List Value->Prop}
  (hb:∀vs' w,era n vs'=era n vs->C vs' w->w.heap[m]? =some (.map (aY es) c)) (hk:K ((aZ es k).getD z) vs):tV F0 C q n (.look t false) [.map (some m),.int .i64 k] vs K:=
 pC (s:=Instr.lookup t (.map (some m)) (.int .i64 k) false) rfl (λvs' w he hw=>qT T (hb vs' w he hw) k false) hk
theorem iC (s:St w0 F w) (hk:∀b w',St w0 (F*ao b [] 0) w'->K (.map (some b)) w'):aA P (.mkm t false) [] K w:=by intro _;refine aK (s:=Instr.makeMap t none) (v:= .map (some w.heap.size)) (w':=w.alloc (.map (aY []) 0)) ?_ (hk _ _ (s.alloc trivial));simp [Instr.makeMap,newObj,Sem.run,aY,Sem.bind]
theorem MP {m:Nat} {o:Obj} {es':List En} {c':Nat} (s:St w0 (F*pt m o) w):St w0 (F*ao m es' c') {w with heap:=w.heap.setIfInBounds m (.map (aY es') c')}:=by have hs:=MapKept.heap_set (o':= .map (aY es') c') s.look;exact s.om (o':= .map (aY es') c') hs.1 hs.2 (by simp) rfl rfl (λ_ _ _ h=>by cases h)
theorem cu (T:oe P t kt ke z) {m:Nat} {es:List En} {c:Nat} {k:Int} {v:Value} (s:St w0 (F*ao m es c) w) (hn:aZ es k=none)
  (hk:∀w',St w0 (F*ao m (es++ [⟨k,v,c⟩]) (c+1)) w'->K undef w'):aA P (.lW t) [.map (some m),.int .i64 k,v] K w:=by
 intro _;refine lk (s:=Instr.mapUpdate t (.map (some m)) (.int .i64 k) v) ?_ (hk _ (MP s));have hb:=s.look;have hp:kY es k 0=none:=by
  have:=nQ k es 0;rw [hn] at this
  simpa using this
 have he:(aY es).push ⟨.int .i64 k,v,c⟩=aY (es++ [⟨k,v,c⟩]):=by apply Array.ext';simp [aY]
 simp only [Instr.mapUpdate,Sem.run_bind,run_underlying T.ty,MapKept.run_getObj_map hb,Result.andThen_ok,NF T,N3 T,hp,Option.bind_none,he];rw [MapKept.run_setObj_map _ hb]
theorem xF (T:oe P t kt ke z) {m:Nat} {es:List En} {c:Nat} {k:Int} {v u:Value} (s:St w0 (F*ao m es c) w) (hn:aZ es k=some u)
  (hk:∀w',St w0 (F*ao m (ng es k v) c) w'->K undef w'):aA P (.lW t) [.map (some m),.int .i64 k,v] K w:=by
 intro _;refine lk (s:=Instr.mapUpdate t (.map (some m)) (.int .i64 k) v) ?_ (hk _ (MP s));have hb:=s.look;obtain ⟨j,hp⟩:∃j,kY es k 0=some j:=by have:=nQ k es 0;rw [hn] at this;exact Option.isSome_iff_exists.1 this
 have hs:=Mw k v es 0 j hp;rw [Nat.sub_zero] at hs;have hkey:((aY es)[j]?.map (·.key)).getD (.int .i64 k)= .int .i64 k:=by
  have key:∀(es:List En) (i j:Nat),kY es k i=some j->∀e,es[j -i]? =some e->e.k=k:=by
   intro es
   induction es with
   |nil=>intro i j h;cases h
   |cons x r ih=>
    intro i j h e he;simp only [kY] at h;split at h
    ·rename_i hx
     cases h;simp only [Nat.sub_self,List.getElem?_cons_zero,Option.some.injEq] at he;rw [<-he,hx]
    ·have hge:=AR k r _ _ h
     refine ih (i+1) j h e ?_;have:j -i=(j -(i+1))+1:=by omega
     rw [this,List.getElem?_cons_succ] at he;exact he
  cases hj:es[j]? with
  |none=>simp [aY,hj]
  |some e=>
   have:=key es 0 j hp e (by simpa using hj);simp [aY,hj,this]
 simp only [Instr.mapUpdate,Sem.run_bind,run_underlying T.ty,MapKept.run_getObj_map hb,Result.andThen_ok,NF T,N3 T,hp,hn,Option.bind_some,Option.map_some,hkey];rw [MapKept.run_keyThatStays (show MapKept.IsKey (.int .i64) (.int .i64 k) from rfl)];simp only [Result.andThen_ok,hs];rw [MapKept.run_setObj_map _ hb]
theorem ju:∀(es:List En) (k:Int),aZ es k=none->eB es k=es
 | [],_,_=>rfl
 |e::r,k,h=>by
  simp only [aZ] at h;split at h
  ·cases h
  ·rename_i hk;simp only [eB,hk,if_false,ju r k h]
theorem mC {kt' ty:TypeId} {cs:Array Bool} (T:oe P t kt ke z) {m:Nat} {es:List En} {c:Nat} {k:Int} (s:St w0 (F*ao m es c) w)
  (hk:∀w',St w0 (F*ao m (eB es k) c) w'->K (.tuple #[]) w'):aA P (.bi .delete #[t,kt'] ty cs) [.map (some m),.int .i64 k] K w:=by
 intro _;refine aK (s:=Builtin.delete_ #[t,kt'] ty #[.map (some m),.int .i64 k]) ?_ (hk _ (MP s));have hb:=s.look;simp only [Builtin.delete_,List.getElem?_toArray,List.getElem?_cons_zero,List.getElem?_cons_succ,Sem.run_bind,run_underlying T.ty,MapKept.run_getObj_map hb,Result.andThen_ok,NF T,N3 T];cases hp:kY es k 0 with
 |none=>
  have hn:aZ es k=none:=by
   have:=nQ k es 0;rw [hp] at this
   simpa using this.symm
  simp only [Option.bind_none,ju es k hn,Sem.run_bind];rw [MapKept.run_setObj_map _ hb];simp
 |some j=>
  obtain ⟨v,hv⟩:∃v,aZ es k=some v:=by have:=nQ k es 0;rw [hp] at this;exact Option.isSome_iff_exists.1 this.symm
  have hs:=KF k es 0 j hp;rw [Nat.sub_zero] at hs;simp only [hv,Option.bind_some,Option.map_some,hs,Sem.run_bind];rw [MapKept.run_setObj_map _ hb];simp
theorem KP {ty:TypeId} {cs:Array Bool} (hu:P.underlying t=some (.map kt ke)) {m:Nat} {es:List En} {c:Nat} (hb:w.heap[m]? =some (.map (aY es) c))
  (hk:K (.int .i64 es.length) w):aA P (.bi .len #[t] ty cs) [.map (some m)] K w:=by
 intro _;refine aK (s:=Builtin.len_ #[t] ty #[.map (some m)]) ?_ hk;simp only [Builtin.len_,List.getElem?_toArray,List.getElem?_cons_zero,Sem.run_bind,run_underlying hu,MapKept.run_getObj_map hb,Result.andThen_ok,Sem.run_pure,goInt];simp [aY]
theorem uF (hu:P.underlying t=some (.map kt ke)) {m:Nat} {es:List En} {c:Nat} (s:St w0 F w) (hb:w.heap[m]? =some (.map (aY es) c))
  (hk:∀b w',St w0 (F*pt b (.mapIter (some m) c #[] c)) w'->K (.pointer (some ⟨b,0,none⟩)) w'):aA P (.rng t) [.map (some m)] K w:=by
 intro _;refine aK (s:=Instr.range t (.map (some m))) ?_ (hk _ _ (s.alloc trivial));simp [Instr.range,run_underlying hu,MapKept.run_getObj_map hb,Result.andThen]
theorem KS (hu:P.underlying t=some (.map kt ke)) (s:St w0 F w)
  (hk:∀b w',St w0 (F*pt b (.mapIter none 0 #[] 0)) w'->K (.pointer (some ⟨b,0,none⟩)) w'):aA P (.rng t) [.map none] K w:=by
 intro _;refine aK (s:=Instr.range t (.map none)) ?_ (hk _ _ (s.alloc trivial));simp [Instr.range,run_underlying hu,Result.andThen]
theorem KR {ty:TypeId} {b:Nat} (s:St w0 (F*pt b (.mapIter none 0 #[] 0)) w) (hk:K (.tuple #[.bool false]) w):aA P (.nxt false ty) [.pointer (some ⟨b,0,none⟩)] K w:=by intro _;have hb:=s.look;refine aK (w':=w) ?_ hk;simp [Instr.next,getObj,Sem.run,hb]
theorem nc {r:Nat} {m:Option Nat} {a c:Nat} {seen:Array Nat} (hb:w.heap[r]? =some (.mapIter m a seen c)):(getObj r).run P w= .ok (.mapIter m a seen c) w:=by simp [getObj,Sem.run,hb]
theorem Dw {r:Nat} {m:Option Nat} {a c:Nat} {seen:Array Nat} (o:Obj) (hb:w.heap[r]? =some (.mapIter m a seen c)):(setObj r o).run P w= .ok () {w with heap:=w.heap.setIfInBounds r o}:=by simp [setObj,Sem.run,hb]
theorem choose_lt (n:Nat) (hn:0<n):∃i w',i<n/\(choose (.mapNext n)).run P w= .ok i w'/\(w'=w\/w'=w.drew):=by
 rw [run_choose_drew]
 by_cases h:n<=1
 ·exact ⟨0,w,hn,by simp [Question.forced,h],.inl rfl⟩
 ·exact ⟨_,w.drew,Nat.mod_lt (w.tape w.drawn (.mapNext n)) hn,by simp [Question.forced,h,Question.cut],.inr rfl⟩
def de (es:List En) (seen:Array Nat):List En:=es.filter λe=> !seen.contains e.b
theorem yc (es:List En) (seen:Array Nat):((aY es).filter λe=> !seen.contains e.born)=aY (de es seen):=by apply Array.ext';simp only [aY,de,Array.toList_filter,List.toList_toArray,List.filter_map];rfl
theorem Ht {es:List En} {c:Nat} (h:∀e∈es,e.b<c):((aY es).filter λe=>decide (e.born<c))=aY es:=by apply Array.ext';simp only [aY,Array.toList_filter,List.toList_toArray];refine List.filter_eq_self.2 λx hx=> ?_;obtain ⟨e,he,rfl⟩:=List.mem_map.1 hx;exact decide_eq_true (h e he)
theorem CX {es:List En} {c:Nat} (h:∀e∈es,e.b<c):((aY es).filter λe=>decide (e.born≥c))= #[]:=by apply Array.ext';simp only [aY,Array.toList_filter,List.toList_toArray];refine List.filter_eq_nil_iff.2 λx hx=> ?_;obtain ⟨e,he,rfl⟩:=List.mem_map.1 hx;have:=h e he;simp;omega
theorem uE {ty:TypeId} {b m:Nat} {es:List En} {c:Nat} {seen:Array Nat} (s:St w0 (F*ao m es c*pt b (.mapIter (some m) c seen c)) w) (hc:∀e∈es,e.b<c)
  (hk1:∀e∈es,e.b∉seen->∀w',St w0 (F*ao m es c*pt b (.mapIter (some m) c (seen.push e.b) c)) w'->K (.tuple #[.bool true,.int .i64 e.k,e.v]) w')
  (hk2:(∀e∈es,e.b∈seen)->∀w',St w0 (F*ao m es c*pt b (.mapIter (some m) c seen c)) w'->K (.tuple #[.bool false]) w'):aA P (.nxt false ty) [.pointer (some ⟨b,0,none⟩)] K w:=by
 intro _;have hi:=s.look;have hm:=s.swap.look;have hlt:∀e∈de es seen,e.b<c:=λe he=>hc e (List.mem_filter.1 he).1;have hall:(!seen.isEmpty&& !(aY es).isEmpty&&(aY es).all λx=>decide (x.born≥c))=false:=by
  cases es with
  |nil=>simp [aY]
  |cons e r=>
   have:=hc e (.head _);have hf:((aY (e::r)).all λx=>decide (x.born≥c))=false:=by
    have:¬c<=e.b:=by omega
    simp [aY,this]
   rw [hf,Bool.and_false]
 by_cases hl:de es seen= []
 ·have hno:∀e∈es,e.b∈seen:=λe he=>by
   have:=List.filter_eq_nil_iff.1 hl e he
   simpa using this
  refine aK (s:=Instr.next (.pointer (some ⟨b,0,none⟩)) false ty) (w':=w) ?_ (hk2 hno w s);have hch:(choose (.mapNext 1)).run P w= .ok 0 w:=by rw [run_choose_drew];simp [Question.forced]
  simp only [Instr.next,Sem.run_bind,nc hi,Result.andThen_ok,MapKept.run_getObj_map hm,hall,Sem.run_ite,yc,Ht hlt,CX hlt,hl];simp [aY,hch,Question.forced]
 ·have hpos:0<(de es seen).length:=List.length_pos_iff.2 hl
  obtain ⟨i,w1,hil,hch,hw1⟩:=choose_lt (P:=P) (w:=w) (de es seen).length hpos;have hmem:=List.getElem_mem hil;obtain ⟨hme,hns⟩:=List.mem_filter.1 hmem;have hns:(de es seen)[i].b∉seen:=by simpa using hns
  have s1:St w0 (F*ao m es c*pt b (.mapIter (some m) c seen c)) w1:=by rcases hw1 with rfl|rfl;exact s;exact s.drew
  have hi1:=s1.look;have hs:=MapKept.heap_set (o':= .mapIter (some m) c (seen.push (de es seen)[i].b) c) hi1;refine aK (s:=Instr.next (.pointer (some ⟨b,0,none⟩)) false ty) (w':={w1 with heap:=w1.heap.setIfInBounds b (.mapIter (some m) c (seen.push (de es seen)[i].b) c)}) ?_ (hk1 _ hme hns _ (s1.om (o':= .mapIter (some m) c (seen.push (de es seen)[i].b) c) hs.1 hs.2 (by simp) rfl rfl (λ_ _ _ h=>by cases h)));have hne:(aY (de es seen)).isEmpty=false:=by
   cases hq:de es seen with
   |nil=>exact absurd hq hl
   |cons _ _=>simp [aY]
  have hsz:(aY (de es seen)).size=(de es seen).length:=by simp [aY]
  simp only [Instr.next,Sem.run_bind,nc hi,Result.andThen_ok,MapKept.run_getObj_map hm,hall,Sem.run_ite,yc,Ht hlt,CX hlt,hne];simp only [Array.size_append,Array.size_map,hsz,Array.size_empty,Nat.zero_add,if_false,Array.append_empty,Array.empty_append,Bool.false_eq_true,Sem.run_bind,hch,Result.andThen_ok];simp [hsz,hch,aY,hil,Dw _ hi1]
theorem zp {b m:Nat} {es:List En} {a c:Nat} {seen:Array Nat} {e:En} (s:St w0 (F*ao m es c*pt b (.mapIter (some m) a (seen.push e.b) c)) w) (he:e∈es) (hn:(es.map (·.b)).Nodup)
  (hk:K (.tuple #[.int .i64 e.k,e.v]) w):aA P .an [.pointer (some ⟨b,0,none⟩)] K w:=by
 intro _;have hi:=s.look;have hm:=s.swap.look;have hf:(aY es).find? (λx=>x.born==e.b)=some ⟨.int .i64 e.k,e.v,e.b⟩:=by
  have key:∀(es:List En),e∈es->(es.map (·.b)).Nodup->(es.map λe=>(⟨.int .i64 e.k,e.v,e.b⟩:MapEntry)).find? (λx=>x.born==e.b)=some ⟨.int .i64 e.k,e.v,e.b⟩:=by
   intro es
   induction es with
   |nil=>intro h;cases h
   |cons x r ih=>
    intro h hn;rw [List.map_cons,List.nodup_cons] at hn
    by_cases hx:x.b=e.b
    ·rcases List.mem_cons.1 h with rfl|h
     ·simp
     ·exact absurd (List.mem_map.2 ⟨e,h,hx.symm⟩) hn.1
    ·rcases List.mem_cons.1 h with rfl|h
     ·exact absurd rfl hx
     ·rw [List.map_cons,List.find?_cons_of_neg (by simpa using hx)]
      exact ih h hn.2
  simpa [aY] using key es he hn
 refine aK (s:=Instr.entry (.pointer (some ⟨b,0,none⟩))) (w':=w) ?_ hk;simp only [Instr.entry,Sem.run_bind,nc hi,Result.andThen_ok,Array.back?_push,MapKept.run_getObj_map hm,hf];simp
end
structure FE (es:List En) (c:Nat):Prop where
 lt:∀e∈es,e.b<c
 bn:(es.map (·.b)).Nodup
 kn:(es.map (·.k)).Nodup
theorem AK (c:Nat):FE [] c:=⟨by simp,by simp,by simp⟩
theorem IP {es:List En} {k:Int}:aZ es k=none↔∀e∈es,e.k≠k:=by
 induction es with
 |nil=>simp [aZ]
 |cons e r ih=>
  simp only [aZ];split
  ·rename_i h;subst h;simp
  ·rename_i h
   rw [ih];constructor
   ·intro hr x hx
    rcases List.mem_cons.1 hx with rfl|hx
    ·exact λg=>h g.symm
    ·exact hr x hx
   ·intro hr x hx;exact hr x (List.mem_cons_of_mem _ hx)
theorem K8 {es:List En} {k:Int} {v:Value} (h:aZ es k=some v):∃e∈es,e.k=k/\e.v=v:=by
 induction es with
 |nil=>cases h
 |cons e r ih=>
  simp only [aZ] at h;split at h
  ·rename_i hk;cases h;exact ⟨e,.head _,hk.symm,rfl⟩
  ·obtain ⟨x,hx,h1⟩:=ih h;exact ⟨x,.tail _ hx,h1⟩
theorem N4 {es:List En} (hn:(es.map (·.k)).Nodup) {e:En} (h:e∈es):aZ es e.k=some e.v:=by
 induction es with
 |nil=>cases h
 |cons x r ih=>
  rw [List.map_cons,List.nodup_cons] at hn;simp only [aZ];rcases List.mem_cons.1 h with rfl|h
  ·simp
  ·rw [if_neg (λhk=>hn.1 (List.mem_map.2 ⟨e,h,hk⟩))]
   exact ih hn.2 h
theorem C5 {es:List En} {c:Nat} (h:FE es c) {k:Int} (hk:aZ es k=none) (v:Value):FE (es++ [⟨k,v,c⟩]) (c+1):=by
 refine ⟨λe he=> ?_,?_,?_⟩
 ·rcases List.mem_append.1 he with he|he
  ·have:=h.lt e he;omega
  ·have:e=⟨k,v,c⟩:=by simpa using he
   subst this;exact Nat.lt_succ_self _
 ·rw [List.map_append,List.nodup_append]
  refine ⟨h.bn,by simp,λx hx y hy=> ?_⟩;obtain ⟨e,he,rfl⟩:=List.mem_map.1 hx;have:y=c:=by simpa using hy
  have:=h.lt e he;omega
 ·rw [List.map_append,List.nodup_append]
  refine ⟨h.kn,by simp,λx hx y hy=> ?_⟩;obtain ⟨e,he,rfl⟩:=List.mem_map.1 hx;have:y=k:=by simpa using hy
  rw [this];exact IP.1 hk e he
theorem eC (k:Int):∀es:List En,(eB es k).Sublist es
 | []=> .slnil
 |e::r=>by
  simp only [eB];split
  ·exact List.sublist_cons_self _ _
  ·exact (eC k r).cons_cons _
theorem Hs {es:List En} {c:Nat} (h:FE es c) (k:Int):FE (eB es k) c:=
 ⟨λe he=>h.lt e ((eC k es).subset he),h.bn.sublist ((eC k es).map _),h.kn.sublist ((eC k es).map _)⟩
theorem zm {es:List En} (hn:(es.map (·.k)).Nodup) (k:Int):eB es k=es.filter λe=>decide (e.k≠k):=by
 induction es with
 |nil=>rfl
 |cons e r ih=>
  rw [List.map_cons,List.nodup_cons] at hn;simp only [eB];split
  ·rename_i h
   subst h;rw [List.filter_cons_of_neg (by simp)];symm;refine List.filter_eq_self.2 λx hx=>decide_eq_true λg=>hn.1 (List.mem_map.2 ⟨x,hx,g⟩)
  ·rename_i h
   rw [List.filter_cons_of_pos (by simpa using λg:e.k=k=>h g.symm),ih hn.2]
theorem K7 {es:List En} (hn:(es.map (·.k)).Nodup) (k j:Int):aZ (eB es k) j=if j=k then none else aZ es j:=by
 rw [zm hn]
 induction es with
 |nil=>simp [aZ]
 |cons e r ih=>
  rw [List.map_cons,List.nodup_cons] at hn
  by_cases h:e.k=k
  ·rw [List.filter_cons_of_neg (by simpa using h),ih hn.2]
   by_cases hj:j=k
   ·simp [hj]
   ·have hne:¬j=e.k:=λg=>hj (g.trans h)
    simp [hj,aZ,hne]
  ·rw [List.filter_cons_of_pos (by simpa using h)]
   simp only [aZ,ih hn.2]
   by_cases hj:j=e.k
   ·have hne:¬j=k:=λg=>h (hj.symm.trans g)
    rw [if_pos hj,if_pos hj,if_neg hne]
   ·rw [if_neg hj,if_neg hj]
theorem IQ (es:List En) (k:Int) (v:Value) (c:Nat) (hk:aZ es k=none) (j:Int):aZ (es++ [⟨k,v,c⟩]) j=if j=k then some v else aZ es j:=by
 induction es with
 |nil=>simp [aZ]
 |cons e r ih=>
  simp only [aZ] at hk;split at hk
  ·cases hk
  ·rename_i hne
   simp only [List.cons_append,aZ,ih hk]
   by_cases hj:j=e.k
   ·have:¬j=k:=λg=>hne (g.symm.trans hj)
    rw [if_pos hj,if_neg this,if_pos hj]
   ·rw [if_neg hj,if_neg hj]
section
variable {P:Program} {F0:PF P} {F:ak} {K:Value->World->Prop} {w w0:World}
def uJ:List (List UInt8)->Nat->List MapEntry
 | [],_=> []
 |x::r,i=>⟨.string (mk x),.int .i64 (i:Int),i⟩::uJ r (i+1)
def fm (ks:List (List UInt8)):Array MapEntry:=(uJ ks 0).toArray
def mR (k:List UInt8):List (List UInt8)->Nat->Option Nat
 | [],_=>none
 |x::r,i=>if k=x then some i else mR k r (i+1)
theorem xI (k:List UInt8):∀(ks:List (List UInt8)) (i:Nat),uJ (ks++ [k]) i=uJ ks i++ [⟨.string (mk k),.int .i64 ((i+ks.length:Nat):Int),i+ks.length⟩]
 | [],i=>by simp [uJ]
 |x::r,i=>by
  simp only [List.cons_append,uJ,xI k r (i+1),List.length_cons];have:i+1+r.length=i+(r.length+1):=by omega
  rw [this]
theorem Je (k:List UInt8) (ks:List (List UInt8)):(fm ks).push ⟨.string (mk k),.int .i64 (ks.length:Int),ks.length⟩=fm (ks++ [k]):=by apply Array.ext';simp [fm,xI]
theorem mk_inj {a b:List UInt8} (h:mk a=mk b):a=b:=by
 have h2:(mk a).data.toList=(mk b).data.toList:=by rw [h]
 exact h2
theorem Ji (a b:List UInt8):(mk a==mk b)=decide (a=b):=by rw [Bool.eq_iff_iff,MapKept.bytes_beq];exact ⟨λh=>decide_eq_true (mk_inj h),λh=>by rw [of_decide_eq_true h]⟩
theorem qI (k:List UInt8):∀(ks:List (List UInt8)) (i j:Nat),Instr.findNow .string (.string (mk k)) (uJ ks j) i=some ((mR k ks j).map λn=>(i+(n -j),.int .i64 (n:Int)))
 | [],_,_=>rfl
 |x::r,i,j=>by
  simp only [uJ,Instr.findNow,Instr.sameNow,Ji,mR]
  by_cases h:k=x
  ·simp [h]
  ·simp only [h,decide_false,if_false]
   rw [qI k r (i+1) (j+1)];cases hl:mR k r (j+1) with
   |none=>rfl
   |some n=>
    have:j+1<=n:=by
     have key:∀(l:List (List UInt8)) (j n:Nat),mR k l j=some n->j<=n:=by
      intro l
      induction l with
      |nil=>intro j n h;cases h
      |cons y t ih=>
       intro j n h;simp only [mR] at h;split at h
       ·cases h;exact Nat.le_refl _
       ·have:=ih _ _ h;omega
     exact key r _ _ hl
    simp only [Option.map_some,Option.some.injEq,Prod.mk.injEq,and_true];omega
theorem NT {t:TypeId} (s:St w0 F w) (hk:∀b w',St w0 (F*pt b (.map (fm []) 0)) w'->K (.map (some b)) w'):aA P (.mkm t false) [] K w:=by intro _;refine aK (s:=Instr.makeMap t none) (v:= .map (some w.heap.size)) (w':=w.alloc (.map (fm []) 0)) ?_ (hk _ _ (s.alloc trivial));simp [Instr.makeMap,newObj,Sem.run,fm,uJ,Sem.bind]
def Ic (k:List UInt8) (ks:List (List UInt8)):Int:=((mR k ks 0).getD 0:Nat)
def rW (k:List UInt8) (ks:List (List UInt8)):Bool:=(mR k ks 0).isSome
abbrev Sw (k:List UInt8) (ks:List (List UInt8)):Value:= .tuple #[.int .i64 (Ic k ks),.bool (rW k ks)]
structure Ni (P:Program) (t kt ke:TypeId):Prop where
 ty:P.underlying t=some (.map kt ke)
 key:P.underlying kt=some .string
 zero:(P.info? ke).bind (·.zero)=some (.int .i64 0)
theorem LA {t kt ke:TypeId} (T:Ni P t kt ke) {m:Nat} {ks:List (List UInt8)} {c:Nat} (hb:w.heap[m]? =some (.map (fm ks) c)) (k:List UInt8):
  (Instr.lookup t (.map (some m)) (.string (mk k)) true).run P w= .ok (Sw k ks) w:=by
 obtain ⟨i,hi,hz⟩:=Option.bind_eq_some_iff.1 T.zero;have hf:=qI k ks 0 0;have he:(fm ks).toList=uJ ks 0:=by simp [fm]
 have hck:=λe=>MapKept.run_checkKey (P:=P) (w:=w) T.key (show MapKept.IsKey .string (.string (mk k)) from trivial) e 9999;have hfk:=MapKept.run_findKey (P:=P) (w:=w) T.key hf;rw [<-he] at hfk;simp only [Instr.lookup,Sem.run_bind,run_underlying T.ty,MapKept.run_getObj_map hb,Result.andThen_ok,Sem.run_pure,hck,hfk];unfold Sw Ic rW;cases hl:mR k ks 0 with
 |none=>simp [zeroValue,typeInfo,hi,hz]
 |some n=>simp
theorem Iv {C:List Value->World->Prop} {q:Nat->List Value->Value} {n:Nat} {vs:List Value} {t kt ke:TypeId} (T:Ni P t kt ke) {m:Nat} {ks:List (List UInt8)} {c:Nat} {k:List UInt8} {K:Value->List Value->Prop}
  (hb:∀vs' w,era n vs'=era n vs->C vs' w->w.heap[m]? =some (.map (fm ks) c)) (hk:K (Sw k ks) vs):tV F0 C q n (.look t true) [.map (some m),.string (mk k)] vs K:=
 pC (s:=Instr.lookup t (.map (some m)) (.string (mk k)) true) rfl (λvs' w he hw=>LA T (hb vs' w he hw) k) hk
theorem NV {t kt ke:TypeId} (T:Ni P t kt ke) {m:Nat} {ks:List (List UInt8)} {k:List UInt8} (s:St w0 (F*pt m (.map (fm ks) ks.length)) w) (hn:mR k ks 0=none)
  (hk:∀w',St w0 (F*pt m (.map (fm (ks++ [k])) (ks++ [k]).length)) w'->K undef w'):aA P (.lW t) [.map (some m),.string (mk k),.int .i64 (ks.length:Int)] K w:=by
 have hb:=s.look;have hf:=qI k ks 0 0;rw [hn] at hf;have he:(fm ks).toList=uJ ks 0:=by simp [fm]
 have hck:=λe=>MapKept.run_checkKey (P:=P) (w:=w) T.key (show MapKept.IsKey .string (.string (mk k)) from trivial) e 9999;have hfk:=MapKept.run_findKey (P:=P) (w:=w) T.key hf;rw [<-he] at hfk;have hs:=MapKept.heap_set (o':= .map (fm (ks++ [k])) (ks++ [k]).length) hb;intro _;refine lk (s:=Instr.mapUpdate t (.map (some m)) (.string (mk k)) (.int .i64 (ks.length:Int))) (w':={w with heap:=w.heap.setIfInBounds m (.map (fm (ks++ [k])) (ks++ [k]).length)}) ?_ (hk _ (s.om (o':= .map (fm (ks++ [k])) (ks++ [k]).length) hs.1 hs.2 (by simp) rfl rfl (λ_ _ _ h=>by cases h)));simp only [Instr.mapUpdate,Sem.run_bind,run_underlying T.ty,MapKept.run_getObj_map hb,Result.andThen_ok,hck,hfk,Option.map_none,Je];rw [MapKept.run_setObj_map _ hb];simp
theorem NU {xt t:TypeId} {v:Value} {d:TypeDesc} (hu:P.underlying t=some d) (hd:∀ms,d≠ .interface ms) (hk:K v w):aA P (.tas xt t false) [.iface t v] K w:=by intro _;refine aK (s:=Instr.typeAssert (.iface t v) xt t false) (v:=v) (w':=w) ?_ hk;simp only [Instr.typeAssert,Sem.run_bind,run_underlying hu,Result.andThen_ok];cases d<;>simp_all
end
section
variable {P:Program}
inductive PV where
 |int (k:IntKind) (a:Int)
 |str (b:List UInt8)
 |bool (b:Bool)
deriving DecidableEq
inductive PK where
 |int (k:IntKind)
 |str
 |bool
deriving DecidableEq
def PV.val:PV->Value
 | .int k a=> .int k a
 | .str b=> .string (mk b)
 | .bool b=> .bool b
def PV.kind:PV->PK
 | .int k _=> .int k
 | .str _=> .str
 | .bool _=> .bool
def PK.of:PK->TypeDesc->Bool
 | .int _,.int _=>true
 | .str,.string=>true
 | .bool,.bool=>true
 |_,_=>false
def vW (P:Program):List Field->List PK->Nat->Bool
 | [],[],_=>true
 |f::fs,k::ks,o=>(f.name != "_")&&(f.offset==o)&&(match P.underlying f.type with|some d=>k.of d|none=>false)&&vW P fs ks (o+1)
 |_,_,_=>false
def cva (xs:Array Value) (o:Nat) (as_:List PV):Prop:=∀j u,as_[j]? =some u->xs[o+j]? =some u.val
structure Sm (P:Program) (t:TypeId) (ks:List PK):Prop where
 und:P.underlying t=some (.struct (P.fieldsOf t))
 stood:P.stoodInHeld t=false
 guard:P.eqGuardType P.depth t=false
 prims:vW P (P.fieldsOf t).toList ks 0=true
variable {K:Value->World->Prop} {w w0:World} {A:ak} {C:World->Prop}
end
theorem xN (o:Nat):∀(vs:List Value) (j:Nat) (c:Array Value),(vs.zipIdx j).foldl (λ(cs:Array Value) x=>cs.setIfInBounds (o+x.2) x.1) c=(vs.zipIdx (o+j)).foldl (λ(cs:Array Value) x=>cs.setIfInBounds x.2 x.1) c
 | [],_,_=>rfl
 |v::vs,j,c=>by rw [List.zipIdx_cons,List.zipIdx_cons,List.foldl_cons,List.foldl_cons,xN o vs (j+1)];rfl
theorem RU (size:Nat):∀(vs:List Value) (k:Nat) (c:List Value),(∀v∈vs,v.cells.size=size)->(k+vs.length)*size<=c.length->
  Instr.fill (λi=>some (i*size,size)) c.toArray ((List.range' k vs.length).zip vs)=some (c.take (k*size)++vs.flatMap (λv=>v.cells.toList)++c.drop ((k+vs.length)*size)).toArray
 | [],k,c,_,_=>by simp [Instr.fill]
 |v::vs,k,c,hv,hc=>by
  have h0:v.cells.size=size:=hv v (List.mem_cons_self ..);have hle:(k+1+vs.length)*size<=c.length:=by
   have:k+(v::vs).length=k+1+vs.length:=by simp;omega
   rw [this] at hc;exact hc
  have hk1:(k+1)*size=k*size+size:=Nat.succ_mul k size;have hadd:(k+1+vs.length)*size=k*size+size+vs.length*size:=by rw [Nat.add_mul,hk1]
  rw [List.length_cons,List.range'_succ,List.zip_cons_cons];simp only [Instr.fill,h0];rw [if_neg (by simp;omega)];have hsz:v.cells.toList.length=size:=by rw [Array.length_toList,h0]
  have hf:v.cells.zipIdx.foldl (λ(cs:Array Value) (x:Value×Nat)=>cs.setIfInBounds (k*size+x.2) x.1) c.toArray=(c.take (k*size)++v.cells.toList++c.drop (k*size+size)).toArray:=by
   have e:v.cells.zipIdx=(v.cells.toList.zipIdx 0).toArray:=by apply Array.ext';simp
   rw [e,List.foldl_toArray']
   ·rw [xN,Nat.add_zero,qJ v.cells.toList (k*size) c (by rw [hsz];omega),hsz]
   ·rfl
  rw [hf];have ih:=RU size vs (k+1) (c.take (k*size)++v.cells.toList++c.drop (k*size+size)) (λu hu=>hv u (List.mem_cons_of_mem _ hu)) (by simp only [List.length_append,List.length_take,List.length_drop,hsz];omega)
  rw [ih]
  congr 2
  have l1:(c.take (k*size)).length=k*size:=by rw [List.length_take];omega
  have l2:(c.take (k*size)++v.cells.toList).length=(k+1)*size:=by rw [List.length_append,l1,hsz,hk1]
  have t1:(c.take (k*size)++v.cells.toList++c.drop (k*size+size)).take ((k+1)*size)=c.take (k*size)++v.cells.toList:=by rw [<-l2];exact List.take_left
  have t2:(c.take (k*size)++v.cells.toList++c.drop (k*size+size)).drop ((k+1+vs.length)*size)=c.drop ((k+(vs.length+1))*size):=by
   have e2:(k+(vs.length+1))*size=(k+1+vs.length)*size:=by congr 1;omega
   rw [List.drop_append,l2,List.drop_of_length_le (by rw [l2,hadd,hk1];omega),List.nil_append,List.drop_drop,e2]
   congr 1
   rw [hadd,hk1];omega
  rw [t1,t2];simp [List.flatMap_cons,List.append_assoc]
theorem Cd {P:Program} {K:Value->World->Prop} {w w0:World} {F:ak} {e size n:Nat} {z:Array Value} {vs:List Value} {ix:List Nat} (s:St w0 F w) (hv:∀v∈vs,v.cells.size=size) (hn:vs.length=n) (hix:ix=List.range' 0 n) (hm:n<=maxLen)
  (hk:∀v w',St w0 (F*own e size v n (vs.flatMap λv=>v.cells.toList)) w'->K v w'):aA P (.bsl e n size z ix) vs K w:=by
 subst hix hn;have hl:((Array.range (vs.length*size)).map λi=>z[i %z.size]!).size=vs.length*size:=by simp
 have hfl:(vs.flatMap λv=>v.cells.toList).length=vs.length*size:=by
  clear hl s hk hm
  induction vs with
  |nil=>simp
  |cons v vs ih=>
   rw [List.flatMap_cons,List.length_append,ih (λu hu=>hv u (List.mem_cons_of_mem _ hu)),Array.length_toList,hv v (List.mem_cons_self ..),List.length_cons,Nat.succ_mul];omega
 refine lA (cells:=(vs.flatMap λv=>v.cells.toList).toArray) s ?_ λb w' s'=>hk _ w' (s'.vS (Nat.le_refl _) hm (by rw [List.size_toArray,hfl]) (by rw [<-hfl];exact List.take_length));have:=RU size vs 0 ((Array.range (vs.length*size)).map λi=>z[i %z.size]!).toList hv (by simp);rw [Array.toArray_toList] at this;refine this.trans ?_;rw [Nat.zero_mul,List.take_zero,List.nil_append,Nat.zero_add,List.drop_of_length_le (by rw [Array.length_toList,hl];exact Nat.le_refl _),List.append_nil]
theorem KO {P:Program} {K:Value->World->Prop} {w w0:World} {F:ak} {e n:Nat} {z:Array Value} {vs:List Value} {ix:List Nat} (s:St w0 F w) (hv:∀v∈vs,v.oneCell'=true) (hn:vs.length=n) (hix:ix=List.range' 0 n) (hm:n<=maxLen)
  (hk:∀v w',St w0 (F*own e 1 v n vs) w'->K v w'):aA P (.bsl e n 1 z ix) vs K w:=by
 have hc:∀v∈vs,v.cells= #[v]:=λv h=>by have:=hv v h;cases v<;>first|rfl|(simp [Value.oneCell'] at this)
 refine Cd s (λv h=>by rw [hc v h];rfl) hn hix hm λv w' s'=>hk v w' ?_;have e:(vs.flatMap λv=>v.cells.toList)=vs:=by
  clear s hk hn hix hm s' hv
  induction vs with
  |nil=>rfl
  |cons v vs ih=>rw [List.flatMap_cons,hc v (List.mem_cons_self ..),ih λu hu=>hc u (List.mem_cons_of_mem _ hu)];rfl
 rw [e] at s';exact s'
section
variable {P:Program} {K:Value->World->Prop} {w w0:World} {F:ak}
def grw (e size:Nat) (v v':Value) (n m:Nat) (xs ys:List Value):ak:=λh=>
 (∃g cap,v= .slice (some ⟨g,0,none⟩) n cap/\v'= .slice (some ⟨g,0,none⟩) (n+m) cap/\xs.length=n*size/\own e size v' (n+m) (xs++ys) h)\/
 (own e size v n xs*own e size v' (n+m) (xs++ys)) h
theorem Dd {e size g n m cap:Nat} {xs ys:List Value} (hl:xs.length=n*size) {h:_} (hh:own e size (.slice (some ⟨g,0,none⟩) (n+m) cap) (n+m) (xs++ys) h):own e size (.slice (some ⟨g,0,none⟩) n cap) n xs h:=by
 refine ⟨hl,.inr ?_⟩;rcases hh.2 with ⟨h1,_⟩|⟨g',cap',cur,h1,h2,h3,h4,h5,h6⟩
 ·cases h1
 ·cases h1
  refine ⟨g,cap,cur,rfl,by omega,h3,h4,?_,h6⟩;have:(cur.toList.take ((n+m)*size)).take (n*size)=(xs++ys).take (n*size):=by rw [h5]
  rw [List.take_take,Nat.min_eq_left (Nat.mul_le_mul_right _ (by omega)),<-hl,List.take_left] at this;rw [<-hl];exact this
end
def mY (f:Nat->ak):Nat->ak
 |0=>emp
 |n+1=>mY f n*f n
theorem mZ {f g:Nat->ak}:∀{n:Nat},(∀j,j<n->f j=g j)->mY f n=mY g n
 |0,_=>rfl
 |n+1,h=>by show mY f n*f n=mY g n*g n;rw [mZ λj hj=>h j (by omega),h n (by omega)]
theorem dX (A:ak):emp*A=A:=by
 have:emp*A=A*emp:=by ac_rfl
 rw [this,aq]
theorem Dm {f:Nat->ak} {i:Nat}:∀{n:Nat},i<n->mY f n=mY (λj=>if j=i then emp else f j) n*f i
 |n+1,h=>by
  show mY f n*f n=mY (λj=>if j=i then emp else f j) n*(if n=i then emp else f n)*f i
  by_cases e:n=i
  ·subst e
   rw [if_pos rfl,aq,mZ (f:=λj=>if j=n then emp else f j) (g:=f) λj hj=>if_neg (by omega)]
  ·rw [if_neg e,Dm (f:=f) (by omega:i<n)];ac_rfl
section
variable {α:Type}
def dj (F:Nat->α->ak) (Y:Nat->α) (n:Nat):ak:=mY (λj=>F j (Y j)) n
def jn (F:Nat->α->ak) (Y:Nat->α) (i n:Nat):ak:=mY (λj=>if j=i then emp else F j (Y j)) n
def jV (Y:Nat->α) (i:Nat) (y:α):Nat->α:=λj=>if j=i then y else Y j
theorem uh {F:Nat->α->ak} {Y:Nat->α} {i n:Nat} (h:i<n):dj F Y n=jn F Y i n*F i (Y i):=Dm h
theorem yX {F:Nat->α->ak} {Y:Nat->α} {i n:Nat} (h:i<n) (y:α):dj F (jV Y i y) n=jn F Y i n*F i y:=by
 rw [uh h];have e:jV Y i y i=y:=if_pos rfl;rw [e]
 congr 1
 exact mZ λj hj=>by
  by_cases e:j=i
  ·rw [if_pos e,if_pos e]
  ·rw [if_neg e,if_neg e];simp only [jV,if_neg e]
theorem kq (Y:Nat->α) (i:Nat) (y:α):jV Y i y i=y:=if_pos rfl
theorem kr (Y:Nat->α) {i j:Nat} (y:α) (h:j≠i):jV Y i y j=Y j:=if_neg h
end
end Go.HL
