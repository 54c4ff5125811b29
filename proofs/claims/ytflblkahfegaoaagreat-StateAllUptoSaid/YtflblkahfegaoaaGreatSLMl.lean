/- Part 12. -/
import Derived.Test.YtflblkahfegaoaaGreatSLMk
import Derived.MapKept
set_option linter.unusedSimpArgs false
set_option linter.unusedVariables false
set_option maxRecDepth 4000
namespace Go.HL
def IQ {α:Type} (F:α->al):al:=λh=>∃a,F a h
theorem K6 {α:Type} {w0 w:World} {A:al} {F:α->al} (s:St w0 (A*IQ F) w):∃a,St w0 (A*F a) w:=by obtain ⟨g,h1,h2,h3,d,e,a,m,b⟩:=s.holds;exact ⟨m,s.of ⟨g,h1,h2,h3,d,e,a,b⟩⟩
theorem SJ {α:Type} {w0 w:World} {A:al} {F:α->al} (x:α) (s:St w0 (A*F x) w):St w0 (A*IQ F) w:=by obtain ⟨g,h1,h2,h3,d,e,a,b⟩:=s.holds;exact s.of ⟨g,h1,h2,h3,d,e,a,x,b⟩
section
variable {P:Program} {F0:PF P} {F:al} {K:Value->World->Prop} {w w0:World}
structure En where
 k:Int
 v:Value
 b:Nat
def dt (es:List En):Array MapEntry:=(es.map λe=>(⟨.int .i64 e.k,e.v,e.b⟩:MapEntry)).toArray
def dp:List En->Int->Option Value
 | [],_=>none
 |e::r,k=>if k=e.k then some e.v else dp r k
def od:List En->Int->Value->List En
 | [],_,_=> []
 |e::r,k,v=>if k=e.k then ⟨e.k,v,e.b⟩::r else e::od r k v
def py:List En->Int->List En
 | [],_=> []
 |e::r,k=>if k=e.k then r else e::py r k
def lx:List En->Int->Nat->Option Nat
 | [],_,_=>none
 |e::r,k,i=>if k=e.k then some i else lx r k (i+1)
theorem Cx (k:Int):∀(es:List En) (i:Nat),Instr.findNow (.int .i64) (.int .i64 k) (dt es).toList i=some ((lx es k i).bind λj=>(dp es k).map λv=>(j,v))
 | [],_=>rfl
 |e::r,i=>by
  have h:=Cx k r (i+1);simp only [dt,List.toList_toArray] at h;simp only [dt,List.toList_toArray,List.map_cons,Instr.findNow,Instr.sameNow,if_true,lx,dp]
  by_cases hk:k=e.k
  ·subst hk;simp
  ·simp only [beq_eq_false_iff_ne.2 hk,hk,if_false]
   exact h
theorem nT (k:Int):∀(es:List En) (i:Nat),(lx es k i).isSome=(dp es k).isSome
 | [],_=>rfl
 |e::r,i=>by
  simp only [lx,dp];split
  ·rfl
  ·exact nT k r (i+1)
theorem AU (k:Int):∀(es:List En) (i j:Nat),lx es k i=some j->i<=j
 | [],_,_,h=>by cases h
 |e::r,i,j,h=>by
  simp only [lx] at h;split at h
  ·cases h;exact Nat.le_refl _
  ·have:=AU k r _ _ h;omega
theorem Mt (k:Int) (v:Value):∀(es:List En) (i j:Nat),lx es k i=some j->(dt es).modify (j -i) (λe=>{e with key:= .int .i64 k,val:=v})=dt (od es k v)
 | [],_,_,h=>by cases h
 |e::r,i,j,h=>by
  simp only [lx] at h;apply Array.ext'
  by_cases hk:k=e.k
  ·rw [if_pos hk] at h
   cases h;subst hk;simp [dt,od,Array.toList_modify,List.modify]
  ·rw [if_neg hk] at h
   have hge:=AU k r _ _ h;have ih:=congrArg Array.toList (Mt k v r _ _ h);obtain ⟨d,rfl⟩:∃d,j=i+1+d:=⟨j -(i+1),by omega⟩;have e1:i+1+d -i=d+1:=by omega
   have e2:i+1+d -(i+1)=d:=by omega
   rw [e2] at ih;rw [e1];simp only [dt,Array.toList_modify,List.toList_toArray,List.map_cons,od,hk,if_false,List.modify_succ_cons,List.cons.injEq,true_and] at ih⊢;exact ih
theorem KR (k:Int):∀(es:List En) (i j:Nat),lx es k i=some j->(dt es).eraseIdxIfInBounds (j -i)=dt (py es k)
 | [],_,_,h=>by cases h
 |e::r,i,j,h=>by
  simp only [lx] at h;apply Array.ext'
  by_cases hk:k=e.k
  ·rw [if_pos hk] at h
   cases h;subst hk;simp [dt,py,Array.eraseIdxIfInBounds]
  ·rw [if_neg hk] at h
   have hge:=AU k r _ _ h;have ih:=congrArg Array.toList (KR k r _ _ h);obtain ⟨d,rfl⟩:∃d,j=i+1+d:=⟨j -(i+1),by omega⟩;have e1:i+1+d -i=d+1:=by omega
   have e2:i+1+d -(i+1)=d:=by omega
   have key:∀(l:List MapEntry) (n:Nat),(l.toArray.eraseIdxIfInBounds n).toList=l.eraseIdx n:=by
    intro l n;unfold Array.eraseIdxIfInBounds;split
    ·simp
    ·rename_i hh
     rw [List.eraseIdx_of_length_le (by simpa using hh)]
   simp only [e2,dt,key] at ih;simp only [e1,dt,key,List.map_cons,py,hk,if_false,List.eraseIdx_cons_succ,List.toList_toArray,List.cons.injEq,true_and]
   simpa using ih
structure qw (P:Program) (t kt ke:TypeId) (z:Value):Prop where
 ty:P.underlying t=some (.map kt ke)
 key:P.underlying kt=some (.int .i64)
 zero:(P.info? ke).bind (·.zero)=some z
abbrev aF (m:Nat) (es:List En) (c:Nat):al:=pt m (.map (dt es) c)
variable {t kt ke:TypeId} {z:Value}
theorem NC (T:qw P t kt ke z) (e:Bool) (k:Int):(Instr.checkKey e 10000 kt (.int .i64 k)).run P w= .ok () w:=MapKept.run_checkKey (P:=P) (w:=w) T.key (show MapKept.IsKey (.int .i64) (.int .i64 k) from rfl) e 9999
theorem NT (T:qw P t kt ke z) (k:Int) (es:List En):(Instr.findKey kt (.int .i64 k) (dt es).toList).run P w= .ok ((lx es k 0).bind λj=>(dp es k).map λv=>(j,v)) w:=MapKept.run_findKey (P:=P) (w:=w) T.key (Cx k es 0)
theorem zrI (T:qw P t kt ke z):(zeroValue ke).run P w= .ok z w:=by obtain ⟨i,hi,hz⟩:=Option.bind_eq_some_iff.1 T.zero;simp [zeroValue,typeInfo,hi,hz]
theorem NU {es:List En} {k:Int}:((lx es k 0).bind λj=>(dp es k).map λv=>(j,v)).map (·.2)=dp es k:=by
 have:=nT k es 0;cases hp:lx es k 0 with
 |none=>rw [hp] at this;cases hg:dp es k with
  |none=>rfl
  |some v=>rw [hg] at this;cases this
 |some j=>cases hg:dp es k<;>rfl
theorem qS (T:qw P t kt ke z) {m:Nat} {es:List En} {c:Nat} (hb:w.heap[m]?=some (.map (dt es) c)) (k:Int) (ok:Bool):
  (Instr.lookup t (.map (some m)) (.int .i64 k) ok).run P w= .ok (if ok then .tuple #[(dp es k).getD z,.bool (dp es k).isSome] else (dp es k).getD z) w:=by
 have hg:=NU (es:=es) (k:=k);simp only [Instr.lookup,Sem.run_bind,run_underlying T.ty,MapKept.run_getObj_map hb,Result.andThen_ok,Sem.run_pure,NC T,NT T];cases hf:((lx es k 0).bind λj=>(dp es k).map λv=>(j,v)) with
 |none=>rw [hf] at hg;rw [<-hg];simp [zrI T]
 |some q=>rw [hf] at hg;rw [<-hg];simp
theorem IC (T:qw P t kt ke z) {m:Nat} {es:List En} {c:Nat} (hb:w.heap[m]?=some (.map (dt es) c)) {k:Int} (hk:K ((dp es k).getD z) w):aI P (.look t false) [.map (some m),.int .i64 k] K w:=by intro _;exact bm (qS T hb k false) hk
theorem gj (T:qw P t kt ke z) {m:Nat} {es:List En} {c:Nat} (hb:w.heap[m]?=some (.map (dt es) c)) {k:Int} (hk:K (.tuple #[(dp es k).getD z,.bool (dp es k).isSome]) w):aI P (.look t true) [.map (some m),.int .i64 k] K w:=by intro _;exact bm (qS T hb k true) hk
theorem ox {C:List Value->World->Prop} {q:Nat->List Value->Value} {n:Nat} {vs:List Value} (T:qw P t kt ke z) {m:Nat} {es:List En} {c:Nat} {k:Int} {K:Value->List Value->Prop}
  (hb:∀vs' w,era n vs'=era n vs->C vs' w->w.heap[m]?=some (.map (dt es) c)) (hk:K ((dp es k).getD z) vs):tD F0 C q n (.look t false) [.map (some m),.int .i64 k] vs K:=
 pE (s:=Instr.lookup t (.map (some m)) (.int .i64 k) false) rfl (λvs' w he hw=>qS T (hb vs' w he hw) k false) hk
theorem um (s:St w0 F w) (hk:∀b w',St w0 (F*aF b [] 0) w'->K (.map (some b)) w'):aI P (.mkm t false) [] K w:=by intro _;refine bm (s:=Instr.makeMap t none) (v:= .map (some w.heap.size)) (w':=w.alloc (.map (dt []) 0)) ?_ (hk _ _ (s.alloc trivial));simp [Instr.makeMap,newObj,Sem.run,dt,Sem.bind]
theorem MS {m:Nat} {o:Obj} {es':List En} {c':Nat} (s:St w0 (F*pt m o) w):St w0 (F*aF m es' c') {w with heap:=w.heap.setIfInBounds m (.map (dt es') c')}:=by have hs:=MapKept.heap_set (o':= .map (dt es') c') s.look;exact s.oe (o':= .map (dt es') c') hs.1 hs.2 (by simp) rfl rfl (λ_ _ _ h=>by cases h)
theorem mK (T:qw P t kt ke z) {m:Nat} {es:List En} {c:Nat} {k:Int} {v:Value} (s:St w0 (F*aF m es c) w) (hn:dp es k=none)
  (hk:∀w',St w0 (F*aF m (es++ [⟨k,v,c⟩]) (c+1)) w'->K undef w'):aI P (.lK t) [.map (some m),.int .i64 k,v] K w:=by
 intro _;refine lF (s:=Instr.mapUpdate t (.map (some m)) (.int .i64 k) v) ?_ (hk _ (MS s));have hb:=s.look;have hp:lx es k 0=none:=by
  have:=nT k es 0;rw [hn] at this
  simpa using this
 have he:(dt es).push ⟨.int .i64 k,v,c⟩=dt (es++ [⟨k,v,c⟩]):=by apply Array.ext';simp [dt]
 simp only [Instr.mapUpdate,Sem.run_bind,run_underlying T.ty,MapKept.run_getObj_map hb,Result.andThen_ok,NC T,NT T,hp,Option.bind_none,he];rw [MapKept.run_setObj_map _ hb]
theorem xp (T:qw P t kt ke z) {m:Nat} {es:List En} {c:Nat} {k:Int} {v u:Value} (s:St w0 (F*aF m es c) w) (hn:dp es k=some u)
  (hk:∀w',St w0 (F*aF m (od es k v) c) w'->K undef w'):aI P (.lK t) [.map (some m),.int .i64 k,v] K w:=by
 intro _;refine lF (s:=Instr.mapUpdate t (.map (some m)) (.int .i64 k) v) ?_ (hk _ (MS s));have hb:=s.look;obtain ⟨j,hp⟩:∃j,lx es k 0=some j:=by have:=nT k es 0;rw [hn] at this;exact Option.isSome_iff_exists.1 this
 have hs:=Mt k v es 0 j hp;rw [Nat.sub_zero] at hs;have hkey:((dt es)[j]?.map (·.key)).getD (.int .i64 k)= .int .i64 k:=by
  have key:∀(es:List En) (i j:Nat),lx es k i=some j->∀e,es[j -i]?=some e->e.k=k:=by
   intro es
   induction es with
   |nil=>intro i j h;cases h
   |cons x r ih=>
    intro i j h e he;simp only [lx] at h;split at h
    ·rename_i hx
     cases h;simp only [Nat.sub_self,List.getElem?_cons_zero,Option.some.injEq] at he;rw [<-he,hx]
    ·have hge:=AU k r _ _ h
     refine ih (i+1) j h e ?_;have:j -i=(j -(i+1))+1:=by omega
     rw [this,List.getElem?_cons_succ] at he;exact he
  cases hj:es[j]? with
  |none=>simp [dt,hj]
  |some e=>
   have:=key es 0 j hp e (by simpa using hj);simp [dt,hj,this]
 simp only [Instr.mapUpdate,Sem.run_bind,run_underlying T.ty,MapKept.run_getObj_map hb,Result.andThen_ok,NC T,NT T,hp,hn,Option.bind_some,Option.map_some,hkey];rw [MapKept.run_keyThatStays (show MapKept.IsKey (.int .i64) (.int .i64 k) from rfl)];simp only [Result.andThen_ok,hs];rw [MapKept.run_setObj_map _ hb]
theorem jY:∀(es:List En) (k:Int),dp es k=none->py es k=es
 | [],_,_=>rfl
 |e::r,k,h=>by
  simp only [dp] at h;split at h
  ·cases h
  ·rename_i hk;simp only [py,hk,if_false,jY r k h]
theorem Co {kt' ty:TypeId} {cs:Array Bool} (T:qw P t kt ke z) {m:Nat} {es:List En} {c:Nat} {k:Int} (s:St w0 (F*aF m es c) w)
  (hk:∀w',St w0 (F*aF m (py es k) c) w'->K (.tuple #[]) w'):aI P (.bi .delete #[t,kt'] ty cs) [.map (some m),.int .i64 k] K w:=by
 intro _;refine bm (s:=Builtin.delete_ #[t,kt'] ty #[.map (some m),.int .i64 k]) ?_ (hk _ (MS s));have hb:=s.look;simp only [Builtin.delete_,List.getElem?_toArray,List.getElem?_cons_zero,List.getElem?_cons_succ,Sem.run_bind,run_underlying T.ty,MapKept.run_getObj_map hb,Result.andThen_ok,NC T,NT T];cases hp:lx es k 0 with
 |none=>
  have hn:dp es k=none:=by
   have:=nT k es 0;rw [hp] at this
   simpa using this.symm
  simp only [Option.bind_none,jY es k hn,Sem.run_bind];rw [MapKept.run_setObj_map _ hb];simp
 |some j=>
  obtain ⟨v,hv⟩:∃v,dp es k=some v:=by have:=nT k es 0;rw [hp] at this;exact Option.isSome_iff_exists.1 this.symm
  have hs:=KR k es 0 j hp;rw [Nat.sub_zero] at hs;simp only [hv,Option.bind_some,Option.map_some,hs,Sem.run_bind];rw [MapKept.run_setObj_map _ hb];simp
theorem choose_lt (n:Nat) (hn:0<n):∃i w',i<n/\(choose (.mapNext n)).run P w= .ok i w'/\(w'=w\/w'=w.drew):=by
 rw [run_choose_drew]
 by_cases h:n<=1
 ·exact ⟨0,w,hn,by simp [Question.forced,h],.inl rfl⟩
 ·exact ⟨_,w.drew,Nat.mod_lt (w.tape w.drawn (.mapNext n)) hn,by simp [Question.forced,h,Question.cut],.inr rfl⟩
def iFa (es:List En) (seen:Array Nat):List En:=es.filter λe=> !seen.contains e.b
end
structure okE (es:List En) (c:Nat):Prop where
 lt:∀e∈es,e.b<c
 bn:(es.map (·.b)).Nodup
 kn:(es.map (·.k)).Nodup
end Go.HL
namespace Go.HL.Es
open Go.HL
abbrev Rw:=Int×Int
def ck:List Rw->Int->Int
 | [],_=>0
 |r::t,k=>if k=r.1 then r.2 else ck t k
def del (k:Int) (l:List Rw):List Rw:=l.filter λr=>decide (r.1≠k)
def ins (k v:Int):List Rw->List Rw
 | []=> [(k,v)]
 |r::t=>if k<r.1 then (k,v)::r::t else r::ins k v t
def fR (k v:Int) (l:List Rw):List Rw:=if v=0 then del k l else ins k v (del k l)
def gy (l:List Rw):Prop:=l.Pairwise (λa b=>a.1<b.1)/\∀r∈l,1<=r.1/\r.1<9223372036854775808/\0<r.2
theorem pQ (k v:Int):∀l:List Rw,(ins k v l).Perm ((k,v)::l)
 | []=> .refl _
 |r::t=>by
  simp only [ins];split
  ·exact .refl _
  ·exact ((pQ k v t).cons r).trans (.swap _ _ _)
theorem pP {k v:Int} {l:List Rw} {x:Rw}:x∈ins k v l↔x=(k,v)\/x∈l:=by rw [(pQ k v l).mem_iff];simp
theorem jD {k:Int} {l:List Rw} {x:Rw}:x∈del k l↔x∈l/\x.1≠k:=by simp [del]
theorem uR {k v:Int}:∀{l:List Rw},l.Pairwise (λa b=>a.1<b.1)->(∀r∈l,r.1≠k)->(ins k v l).Pairwise (λa b=>a.1<b.1)
 | [],_,_=>by simp [ins]
 |r::t,h,hk=>by
  simp only [List.pairwise_cons] at h;simp only [ins];split
  ·rename_i hlt
   simp only [List.pairwise_cons,List.mem_cons];refine ⟨?_,h.1,h.2⟩;rintro x (rfl|hx)
   ·exact hlt
   ·have:=h.1 x hx;omega
  ·rename_i hlt
   have hr:=hk r (.head _);simp only [List.pairwise_cons];refine ⟨λx hx=> ?_,uR h.2 λy hy=>hk y (.tail _ hy)⟩;rcases pP.1 hx with rfl|hx
   ·simp only;omega
   ·exact h.1 x hx
theorem nV {k v:Int} {l:List Rw} (h:gy l) (hk:1<=k/\k<9223372036854775808) (hv:0<=v):gy (fR k v l):=by
 have hd:(del k l).Pairwise (λa b=>a.1<b.1):=h.1.filter _;unfold fR;split
 ·exact ⟨hd,λr hr=>h.2 r (jD.1 hr).1⟩
 ·refine ⟨uR hd λr hr=>(jD.1 hr).2,λr hr=> ?_⟩
  rcases pP.1 hr with rfl|hr
  ·exact ⟨hk.1,hk.2,by simp only;omega⟩
  ·exact h.2 r (jD.1 hr).1
theorem nF {l:List Rw} (h:l.Pairwise (λa b=>a.1≠b.1)) {k v:Int} (hm:(k,v)∈l):ck l k=v:=by
 induction l with
 |nil=>cases hm
 |cons r t ih=>
  simp only [List.pairwise_cons] at h;simp only [ck];rcases List.mem_cons.1 hm with rfl|hm
  ·simp
  ·have:=h.1 _ hm
   rw [if_neg (λe=>this e.symm)];exact ih h.2 hm
theorem kV {l:List Rw} {k:Int} (h:∀r∈l,r.1≠k):ck l k=0:=by
 induction l with
 |nil=>rfl
 |cons r t ih=>
  simp only [ck];rw [if_neg (λe=>h r (.head _) e.symm)];exact ih λx hx=>h x (.tail _ hx)
theorem gy.ne {l:List Rw} (h:gy l):l.Pairwise (λa b=>a.1≠b.1):=h.1.imp λh=>by omega
theorem qB {l:List Rw} (k:Int):(∃v,(k,v)∈l)\/∀r∈l,r.1≠k:=by
 by_cases h:∃v,(k,v)∈l
 ·exact .inl h
 ·refine .inr λr hr e=>h ⟨r.2,?_⟩
  subst e;exact hr
theorem kW {k v:Int} {l:List Rw} (h:gy l) (hk:1<=k/\k<9223372036854775808) (hv:0<=v) (j:Int):ck (fR k v l) j=if j=k then v else ck l j:=by
 have ok:=nV h hk hv
 by_cases e:j=k
 ·subst e
  rw [if_pos rfl]
  by_cases hz:v=0
  ·rw [hz]
   refine kV λr hr=> ?_;simp only [fR,if_true] at hr;exact (jD.1 hr).2
  ·refine nF ok.ne ?_
   simp only [fR,hz,if_false];exact pP.2 (.inl rfl)
 ·rw [if_neg e]
  rcases qB (l:=l) j with ⟨u,hu⟩|hn
  ·rw [nF h.ne hu]
   refine nF ok.ne ?_;have hd:(j,u)∈del k l:=jD.2 ⟨hu,e⟩;unfold fR;split
   ·exact hd
   ·exact pP.2 (.inr hd)
  ·rw [kV hn]
   refine kV λr hr=> ?_;unfold fR at hr;split at hr
   ·exact hn r (jD.1 hr).1
   ·rcases pP.1 hr with rfl|hr
    ·exact λh=>e h.symm
    ·exact hn r (jD.1 hr).1
theorem tY {l:List Rw} (h:gy l) (k:Int):0<=ck l k:=by
 rcases qB (l:=l) k with ⟨u,hu⟩|hn
 ·rw [nF h.ne hu];have:=(h.2 _ hu).2.2;simp only at this;omega
 ·rw [kV hn];exact Int.le_refl _
theorem gy.tail {r:Rw} {t:List Rw} (h:gy (r::t)):gy t:=⟨(List.pairwise_cons.1 h.1).2,λx hx=>h.2 x (.tail _ hx)⟩
theorem jU {r:Rw} {t:List Rw}:ck (r::t) r.1=r.2:=by simp [ck]
theorem nE {l:List Rw} {k:Int} (h:∀r∈l,k<r.1):ck l k=0:=kV λr hr e=>by have:=h r hr;omega
theorem Mn:∀{l l':List Rw},gy l->gy l'->(∀k,ck l k=ck l' k)->l=l'
 | [],[],_,_,_=>rfl
 | [],r::t,_,h',he=>by have h1:=he r.1;rw [jU] at h1;have h2:=(h'.2 r (.head _)).2.2;simp only [ck] at h1;omega
 |r::t,[],h,_,he=>by have h1:=he r.1;rw [jU] at h1;have h2:=(h.2 r (.head _)).2.2;simp only [ck] at h1;omega
 |r::t,r'::t',h,h',he=>by
  have s1:=(List.pairwise_cons.1 h.1).1;have s2:=(List.pairwise_cons.1 h'.1).1;have p1:=(h.2 r (.head _)).2.2;have p2:=(h'.2 r' (.head _)).2.2;have e1:r.1=r'.1:=by
   rcases Int.lt_trichotomy r.1 r'.1 with hlt|he'|hlt
   ·have h1:=he r.1
    rw [jU,nE (λx hx=>by
     rcases List.mem_cons.1 hx with rfl|hx
     ·exact hlt
     ·have:=s2 x hx;omega)] at h1
    omega
   ·exact he'
   ·have h1:=he r'.1
    rw [jU,nE (λx hx=>by
     rcases List.mem_cons.1 hx with rfl|hx
     ·exact hlt
     ·have:=s1 x hx;omega)] at h1
    omega
  have e2:r.2=r'.2:=by have h1:=he r.1;rw [jU,e1,jU] at h1;exact h1
  have er:r=r':=Prod.ext e1 e2;subst er
  congr 1
  refine Mn h.tail h'.tail λk=> ?_;have h1:=he k;simp only [ck] at h1
  by_cases hk:k=r.1
  ·subst hk
   rw [nE s1,nE s2]
  ·rw [if_neg hk,if_neg hk] at h1
   exact h1
theorem JI {k v:Int} {l:List Rw} (h:gy l) (hk:1<=k/\k<9223372036854775808) (hv:0<=v):fR k (ck l k) (fR k v l)=l:=by
 have h1:=nV h hk hv;have h0:=tY h k;refine Mn (nV h1 hk h0) h λj=> ?_;rw [kW h1 hk h0,kW h hk hv]
 by_cases e:j=k
 ·rw [if_pos e,e]
 ·rw [if_neg e,if_neg e]
def wh (e:En):Int×Value:=(e.k,e.v)
def QW (r:Rw):Int×Value:=(r.1,.int .u64 r.2)
structure EH (es:List En) (c:Nat) (l:List Rw):Prop where
 perm:(es.map wh).Perm (l.map QW)
 keys:(es.map (·.k)).Nodup
 borns:(es.map (·.b)).Nodup
 clock:∀e∈es,e.b<c
theorem get_mem {es:List En} (h:(es.map (·.k)).Nodup) {k:Int} {v:Value} (hm:(k,v)∈es.map wh):dp es k=some v:=by
 induction es with
 |nil=>simp at hm
 |cons e t ih=>
  simp only [List.map_cons,List.nodup_cons] at h;simp only [dp];simp only [List.map_cons,List.mem_cons] at hm;rcases hm with hm|hm
  ·simp only [wh,Prod.mk.injEq] at hm
   rw [if_pos hm.1,hm.2]
  ·have:k≠e.k:=by rintro rfl;apply h.1;obtain ⟨x,hx,hx2⟩:=List.mem_map.1 hm;simp only [wh,Prod.mk.injEq] at hx2;exact List.mem_map.2 ⟨x,hx,hx2.1⟩
   rw [if_neg this];exact ih h.2 hm
theorem get_none {es:List En} {k:Int} (h:∀e∈es,e.k≠k):dp es k=none:=by
 induction es with
 |nil=>rfl
 |cons e t ih=>
  simp only [dp];rw [if_neg (λx=>h e (.head _) x.symm)];exact ih λx hx=>h x (.tail _ hx)
theorem EH.get {es:List En} {c:Nat} {l:List Rw} (h:EH es c l) (ok:gy l) (k:Int):(dp es k).getD (.int .u64 0)= .int .u64 (ck l k)/\(dp es k=none↔∀r∈l,r.1≠k):=by
 rcases qB (l:=l) k with ⟨u,hu⟩|hn
 ·have hm:(k,Value.int .u64 u)∈es.map wh:=h.perm.mem_iff.2 (List.mem_map.2 ⟨_,hu,rfl⟩)
  rw [get_mem h.keys hm,nF ok.ne hu];exact ⟨rfl,⟨λh=>(by cases h),λh=>absurd rfl (h _ hu)⟩⟩
 ·have:dp es k=none:=get_none λe he hk=>by have:wh e∈l.map QW:=h.perm.mem_iff.1 (List.mem_map.2 ⟨e,he,rfl⟩);obtain ⟨r,hr,hr2⟩:=List.mem_map.1 this;simp only [wh,QW,Prod.mk.injEq] at hr2;exact hn r hr (hr2.1.trans hk)
  rw [this,kV hn];exact ⟨rfl,by simpa using hn⟩
theorem jX:∀(es:List En) (k:Int),(py es k).Sublist es
 | [],_=> .slnil
 |e::r,k=>by
  simp only [py];split
  ·exact .cons _ (.refl _)
  ·exact (jX r k).cons_cons _
theorem zg:∀{es:List En} {k:Int},(es.map (·.k)).Nodup->(py es k).map wh=(es.map wh).filter λx=>decide (x.1≠k)
 | [],_,_=>rfl
 |e::r,k,h=>by
  simp only [List.map_cons,List.nodup_cons] at h;simp only [py,List.map_cons]
  by_cases hk:k=e.k
  ·subst hk
   rw [if_pos rfl];rw [List.filter_cons_of_neg (by simp [wh])];refine (List.filter_eq_self.2 λx hx=> ?_).symm;obtain ⟨y,hy,rfl⟩:=List.mem_map.1 hx;exact decide_eq_true λe=>h.1 (List.mem_map.2 ⟨y,hy,e⟩)
  ·rw [if_neg hk,List.filter_cons_of_pos (by simp [wh,Ne.symm hk]),List.map_cons,zg h.2]
theorem Bo:∀{es:List En} {k:Int} {v u:Value},(es.map (·.k)).Nodup->dp es k=some u->((od es k v).map wh).Perm ((k,v)::(es.map wh).filter λx=>decide (x.1≠k))
 | [],_,_,_,_,h=>by cases h
 |e::r,k,v,u,hn,h=>by
  simp only [List.map_cons,List.nodup_cons] at hn;simp only [dp] at h;simp only [od,List.map_cons]
  by_cases hk:k=e.k
  ·subst hk
   rw [if_pos rfl,List.filter_cons_of_neg (by simp [wh]),List.map_cons];rw [List.filter_eq_self.2 λx hx=>by obtain ⟨y,hy,rfl⟩:=List.mem_map.1 hx;exact decide_eq_true λe=>hn.1 (List.mem_map.2 ⟨y,hy,e⟩)]
   exact .refl _
  ·rw [if_neg hk] at h⊢
   rw [List.filter_cons_of_pos (by simp [wh,Ne.symm hk]),List.map_cons];exact ((Bo hn.2 h).cons _).trans (.swap _ _ _)
theorem ri:∀(es:List En) (k:Int) (v:Value),(od es k v).map (·.k)=es.map (·.k)
 | [],_,_=>rfl
 |e::r,k,v=>by
  simp only [od];split
  ·rfl
  ·simp only [List.map_cons,ri r k v]
theorem ka:∀(es:List En) (k:Int) (v:Value),(od es k v).map (·.b)=es.map (·.b)
 | [],_,_=>rfl
 |e::r,k,v=>by
  simp only [od];split
  ·rfl
  ·simp only [List.map_cons,ka r k v]
theorem xw (k:Int) (l:List Rw):(l.map QW).filter (λx=>decide (x.1≠k))=(del k l).map QW:=by simp only [del,List.filter_map];rfl
theorem EH.del {es:List En} {c:Nat} {l:List Rw} (h:EH es c l) (k:Int):EH (py es k) c (Es.del k l) where
 perm:=by rw [zg h.keys,<-xw];exact h.perm.filter _
 keys:=h.keys.sublist ((jX es k).map _)
 borns:=h.borns.sublist ((jX es k).map _)
 clock:=λe he=>h.clock e ((jX es k).subset he)
theorem EH.put {es:List En} {c:Nat} {l:List Rw} (h:EH es c l) {k v:Int} (hn:dp es k=none) (hl:∀r∈l,r.1≠k):EH (es++ [⟨k,.int .u64 v,c⟩]) (c+1) (ins k v (Es.del k l)) where
 perm:=by
  have hd:Es.del k l=l:=List.filter_eq_self.2 λr hr=>by simpa using hl r hr
  rw [hd,List.map_append];refine (List.perm_append_comm).trans ?_;refine .trans ?_ ((pQ k v l).map QW).symm;exact h.perm.cons _
 keys:=by rw [List.map_append,List.nodup_append];refine ⟨h.keys,by simp,?_⟩;intro a ha b hb;simp only [List.map_cons,List.map_nil,List.mem_singleton] at hb;subst hb;rintro rfl;obtain ⟨e,he,he2⟩:=List.mem_map.1 ha;have:wh e∈l.map QW:=h.perm.mem_iff.1 (List.mem_map.2 ⟨e,he,rfl⟩);obtain ⟨r,hr,hr2⟩:=List.mem_map.1 this;simp only [wh,QW,Prod.mk.injEq] at hr2;exact hl r hr (hr2.1.trans he2)
 borns:=by rw [List.map_append,List.nodup_append];refine ⟨h.borns,by simp,?_⟩;intro a ha b hb;simp only [List.map_cons,List.map_nil,List.mem_singleton] at hb;subst hb;rintro rfl;obtain ⟨e,he,he2⟩:=List.mem_map.1 ha;have:=h.clock e he;omega
 clock:=by
  intro e he;rcases List.mem_append.1 he with he|he
  ·have:=h.clock e he;omega
  ·simp only [List.mem_singleton] at he;subst he;simp
theorem EH.lK {es:List En} {c:Nat} {l:List Rw} (h:EH es c l) {k v:Int} {u:Value} (hn:dp es k=some u):EH (od es k (.int .u64 v)) c (ins k v (Es.del k l)) where
 perm:=by refine (Bo h.keys hn).trans ?_;refine .trans ?_ ((pQ k v (Es.del k l)).map QW).symm;rw [List.map_cons,<-xw];exact (h.perm.filter _).cons _
 keys:=by rw [ri];exact h.keys
 borns:=by rw [ka];exact h.borns
 clock:=by
  intro e he;have:e.b∈es.map (·.b):=by rw [<-ka es k (.int .u64 v)];exact List.mem_map.2 ⟨e,he,rfl⟩
  obtain ⟨e',he',h2⟩:=List.mem_map.1 this;have:=h.clock e' he';omega
def TI (m:Nat) (l:List Rw):al:=λh=>∃es c,EH es c l/\aF m es c h
theorem I7 {w0 w:World} {A:al} {m:Nat} {l:List Rw} (s:St w0 (A*TI m l) w):∃es c,EH es c l/\St w0 (A*aF m es c) w:=by obtain ⟨g,h1,h2,h3,d,e,a,es,c,hE,b⟩:=s.holds;exact ⟨es,c,hE,s.of ⟨g,h1,h2,h3,d,e,a,b⟩⟩
theorem Fw {w0 w:World} {A:al} {m:Nat} {l:List Rw} {es:List En} {c:Nat} (hE:EH es c l) (s:St w0 (A*aF m es c) w):St w0 (A*TI m l) w:=by obtain ⟨g,h1,h2,h3,d,e,a,b⟩:=s.holds;exact s.of ⟨g,h1,h2,h3,d,e,a,es,c,hE,b⟩
end Go.HL.Es
namespace Go.HL.Nm
open Go.HL Go.Proofs
@[simp] theorem WL (args:List Value):F4.val 348 args=Ll.val args:=rfl
@[simp] theorem YT (args:List Value):F4.ok 348 args=Ll.ok args:=rfl
@[simp] theorem gta (u lo hi:Int) (k k' k'':IntKind):Ll.val [.int k u,.int k' lo,.int k'' hi]= .bool (eD u lo hi):=rfl
@[simp] theorem iAa (u lo hi:Int) (k k' k'':IntKind):Ll.ok [.int k u,.int k' lo,.int k'' hi]=(k= .i64/\k'= .i64/\k''= .i64):=rfl
def rD (u:Int):List Int:=if u=223 then [115,115] else [pK u]
def fH (us:List (Int×Nat)):List Int:=us.flatMap λu=>rD u.1
def fo (l:List UInt8):List Int:=fH (eC l)
theorem IY (u:Int):(rD u).length<=2/\1<=(rD u).length:=by unfold rD;split<;>simp
theorem mN:∀us:List (Int×Nat),(fH us).length<=2*us.length
 | []=>by simp [fH]
 |u::us=>by have:=mN us;have h1:=(IY u.1).1;simp only [fH,List.flatMap_cons,List.length_append,List.length_cons] at this⊢;omega
theorem pJ (us:List (Int×Nat)) (u:Int×Nat):fH (us++ [u])=fH us++rD u.1:=by simp [fH]
def lY (l:List Int):List Value:=l.map (Value.int .i32)
def b2a:Nat->PO
 |0=>(.bin .eql)
 |1=>(.cal 348)
 |2=>(.bin .add)
 |3=>(.ext 0)
 |4=>(.ext 1)
 |5=> .lenL
 |6=>(.bin .lss)
 |7=>(.idxL 1)
 |8=> .lenS
 |9=>(.ext 2)
 |10=>(.cal 200)
 |11=>(.cal 353)
 |_=> .same
def ZW:Nat->EO
 |0=>(.bsl 3 2 1 #[(.int .i64 0)] [0,1])
 |1=>(.bsl 3 1 1 #[(.int .i64 0)] [0])
 |2=>(.call 346)
 |3=>(.ld false 1)
 |4=>(.call 347)
 |5=>(.app 32 32 3 1 8 (.int .i64 0))
 |6=>(.mks 332 21 1 4 (.int .i32 0))
 |7=>(.rngS 9)
 |8=>(.nxt true 0)
 |9=>(.bsl 21 2 1 #[(.int .i32 0)] [0,1])
 |10=>(.app 332 332 21 1 4 (.int .i32 0))
 |11=>(.bsl 21 1 1 #[(.int .i32 0)] [0])
 |_=> .an
def eea:Nat->Value
 |0=>(.slice none 0 0)
 |1=>(.int .i64 223)
 |2=>(.int .i64 115)
 |3=>(.int .i64 1025)
 |4=>(.int .i64 1105)
 |5=>(.int .i64 962)
 |6=>(.int .i64 963)
 |7=>(.int .i64 215)
 |8=>(.int .i64 930)
 |9=>(.bool true)
 |10=>(.int .i64 65)
 |11=>(.int .i64 90)
 |12=>(.int .i64 192)
 |13=>(.int .i64 222)
 |14=>(.int .i64 913)
 |15=>(.int .i64 937)
 |16=>(.int .i64 1040)
 |17=>(.int .i64 1071)
 |18=>(.int .i64 32)
 |19=>(.int .i64 0)
 |20=>(.int .i64 1)
 |21=>(.int .i32 223)
 |22=>(.int .i32 115)
 |_=>undef
def doa:dk:=⟨b2a,ZW,eea⟩
def UU:ai:=⟨[0,2,3,4,5,6,11,12],31,[.slot 1],aW doa [] 0x2ce79bffdd0081b6eb2db399fb8b7e02cb3402281d3114b04b07114b068bc0b2f0e78a2df80b2cd008a07538248e0be71b575342405018d4d0901409dcdd553d1100d000a04553d1100d000afdc71a6765711fe115c47103c47fb11c4068bc2bc089c6d59b30f6cc79b30f11ba0278b7cc6f079fbdf30b257ce922c21bcea7dd2001⟩
theorem Pp:aj F4 279 400=some UU:=by kernel_rfl
def Ls (w:World) (b:Nat):Nat:=match w.heap[b]? with
 |some (.stringIter _ p)=>p
 |_=>0
theorem pR {w0 w:World} {F:al} {b p:Nat} {x:ByteArray} (s:St w0 (F*pt b (.stringIter x p)) w):Ls w b=p:=by unfold Ls;rw [s.look]
theorem Cy (l:List UInt8) (w0 w:World) (A:al) (hl:l.length<=1048576) (s:St w0 A w):
  ak Tryz.prog 279 [.string (mk l)] (λr w'=>St w0 (A*own 21 1 r (fo l).length (lY (fo l))) w') w:=by
 have hul:=yH l;refine aE Pp (by simp [UU]) ?_;simp [UU];refine nI (l:=0) (c:=l.length) s (by omega) (by unfold maxLen;omega) (by omega) rfl ?_;intro v w1 s1;simp;refine Cq s1 ?_;intro b w2 s2;simp;refine dB (λenv w'=>∃(i:Nat) (done:List (Int×Nat)) (v x y z t:Value),env= [.string (mk l),.slice none 0 0,v,x,y,z,.pointer (some ⟨b,0,none⟩),t]/\
   i<=l.length/\eC l=done++eC (l.drop i)/\St w0 (A*own 21 1 v (fH done).length (lY (fH done))*pt b (.stringIter (mk l) i)) w')
  (λ_ w=>l.length -Ls w b) ⟨0,[],_,_,_,_,_,rfl,by omega,by simp,by simpa [fH,lY] using s2⟩ ?_
 rintro LQ env w' ⟨i,done,v,x,y,z,t,rfl,hi,hu,s'⟩ hN hE hR;simp;refine Cp s' (λh w2 s2=> ?_) (λh=> ?_)
 ·simp at h
  have hle:=Hk (l:=l) (i:=i) h;have hob:=iJ (l:=l.drop i) (by simp;omega);rw [kA,nH _ (by simp;omega)] at s2;have hstep:=vW hu h;rw [kA,nH _ (by simp;omega)];simp;refine ⟨⟨hl,h⟩,?_⟩;have hdl:done.length+1<=l.length:=by rw [hstep] at hul;simp at hul;omega
  have hfl:=mN done;refine aN (λh1=> ?_) (λh1=> ?_)
  ·simp at h1
   simp;refine Cm s2.swap rfl rfl ?_;intro b2 w3 s3;simp;refine bE (n:=(fH done).length) (m:=2) (news:= [.int .i32 115,.int .i32 115]) s3.swap rfl s3.aJ (by simp [Value.oneCell']) (by decide) rfl (by unfold maxLen;omega) (by omega) ?_;intro v' w4 s4;simp;refine hN _ _ ⟨i+(bJ (l.drop i)).2,done++ [bJ (l.drop i)],v',_,_,_,_,by simp;exact ⟨rfl,rfl,rfl,rfl⟩,hle.1,hstep,?_⟩ ?_
   ·rw [pJ,rD,if_pos h1]
    simpa [lY] using s4.swap.drop.swap
   ·rw [pR s',pR s4.swap.drop.swap];omega
  ·simp at h1
   simp;refine ⟨by omega,?_⟩;refine cw s2.swap rfl ?_;intro b2 w3 s3;simp;refine bE (n:=(fH done).length) (m:=1) (news:= [.int .i32 (pK (bJ (l.drop i)).1)]) s3.swap rfl s3.aJ (by simp [Value.oneCell']) (by decide) rfl (by unfold maxLen;omega) (by omega) ?_;intro v' w4 s4;simp;refine hN _ _ ⟨i+(bJ (l.drop i)).2,done++ [bJ (l.drop i)],v',_,_,_,_,by simp;exact ⟨rfl,rfl,rfl,rfl⟩,hle.1,hstep,?_⟩ ?_
   ·rw [pJ,rD,if_neg h1]
    simpa [lY] using s4.swap.drop.swap
   ·rw [pR s',pR s4.swap.drop.swap];omega
 ·simp at h
  simp;refine hE _ _ _ ?_;simp;have:i=l.length:=by omega
  subst this;rw [List.drop_length,nX,List.append_nil] at hu;rw [fo,hu];exact s'.drop
def xZ (u:Int):Prop:=(0<=u/\u<55296)\/(57344<=u/\u<=1114111)\/(2097152<=u/\u<2097408)
def kZ (n:Nat):List Nat:=
 if 2097152<=n then [n -2097152]
 else if n<128 then [n]
 else if n<2048 then [192+n /64,128+n %64]
 else if n<65536 then [224+n /4096,128+n /64 %64,128+n %64]
 else [240+n /262144,128+n /4096 %64,128+n /64 %64,128+n %64]
def mo (u:Int):List UInt8:=(kZ u.toNat).map UInt8.ofNat
def ik (us:List Int):List UInt8:=us.flatMap mo
theorem KW (n:Nat):(kZ n).length<=4:=by unfold kZ;(repeat' split)<;>simp
theorem KX (u:Int):(mo u).length<=4:=by simp only [mo,List.length_map];exact KW _
theorem uo:∀us:List Int,(ik us).length<=4*us.length
 | []=>by simp [ik]
 |u::us=>by have:=uo us;have h1:=KX u;simp only [ik,List.flatMap_cons,List.length_append,List.length_cons] at this⊢;omega
theorem Cr (us:List Int) (u:Int):ik (us++ [u])=ik us++mo u:=by simp [ik]
theorem gi (a b:List UInt8):aM (a++b)=aM a++aM b:=by simp [aM]
theorem ER (l:List Nat) (h:∀n∈l,n<256):aM (l.map UInt8.ofNat)=l.map λn=> .int .u8 (n:Int):=by simp only [aM,List.map_map];refine List.map_congr_left λn hn=> ?_;have:=h n hn;simp;omega
theorem NP (n:Nat) (h:xZ n):∀b∈kZ n,b<256:=by
 have hn:n<=1114111\/(2097152<=n/\n<2097408):=by unfold xZ at h;omega
 unfold kZ
 repeat' split
 all_goals (intro b hb;simp at hb;omega)
theorem SF (n:Nat) (h:xZ n):aM (mo n)=(kZ n).map λb=> .int .u8 (b:Int):=by
 have:=ER (kZ n) (NP n h)
 simpa [mo] using this
def b3a:Nat->PO
 |0=>(.bin .geq)
 |1=>(.bin .sub)
 |2=>(.convI .u8)
 |3=>(.bin .lss)
 |4=>(.bin .quo)
 |5=>(.bin .add)
 |6=>(.bin .rem)
 |7=> .lenL
 |8=>(.idxL 1)
 |_=> .same
def ZX:Nat->EO
 |0=>(.bsl 5 1 1 #[(.int .u8 0)] [0])
 |1=>(.bsl 5 2 1 #[(.int .u8 0)] [0,1])
 |2=>(.bsl 5 3 1 #[(.int .u8 0)] [0,1,2])
 |3=>(.bsl 5 4 1 #[(.int .u8 0)] [0,1,2,3])
 |4=>(.ld false 1)
 |5=>(.call 349)
 |6=>(.app 52 52 5 1 1 (.int .u8 0))
 |7=>(.b2s 52 9)
 |_=> .an
def efa:Nat->Value
 |0=>(.slice none 0 0)
 |1=>(.int .i64 2097152)
 |2=>(.int .i64 128)
 |3=>(.int .i64 2048)
 |4=>(.int .i64 64)
 |5=>(.int .i64 192)
 |6=>(.int .i64 65536)
 |7=>(.int .i64 4096)
 |8=>(.int .i64 224)
 |9=>(.int .i64 262144)
 |10=>(.int .i64 240)
 |11=>(.string ⟨#[]⟩)
 |12=>(.int .i64 0)
 |13=>(.int .i64 1)
 |_=>undef
def i7a:dk:=⟨b3a,ZX,efa⟩
theorem fd (n:Nat) (k:Nat) (h:k<=32):(n:Int).fdiv (2^min k IntKind.i32.bits)=(n:Int) /2^k:=by have:min k IntKind.i32.bits=k:=Nat.min_eq_left h;rw [this,Int.fdiv_eq_ediv_of_nonneg];exact Int.le_of_lt (Int.pow_pos (by decide))
theorem fd6 (n:Nat):(n:Int).fdiv (2^min 6 IntKind.i32.bits)=(n:Int) /64:=fd n 6 (by decide)
theorem SK (n:Nat):(n:Int).fdiv (2^min 12 IntKind.i32.bits)=(n:Int) /4096:=fd n 12 (by decide)
theorem gia (n:Nat):(n:Int).fdiv (2^min 18 IntKind.i32.bits)=(n:Int) /262144:=fd n 18 (by decide)
theorem V8:∀m:Fin 32,IntKind.u8.wrap ((192 %2^IntKind.u8.bits|||(((m.val:Nat):Int) %2^IntKind.u8.bits).toNat:Nat):Int)=192+((m.val:Nat):Int):=by decide+kernel
theorem V9:∀m:Fin 16,IntKind.u8.wrap ((224 %2^IntKind.u8.bits|||(((m.val:Nat):Int) %2^IntKind.u8.bits).toNat:Nat):Int)=224+((m.val:Nat):Int):=by decide+kernel
theorem Wa:∀m:Fin 8,IntKind.u8.wrap ((240 %2^IntKind.u8.bits|||(((m.val:Nat):Int) %2^IntKind.u8.bits).toNat:Nat):Int)=240+((m.val:Nat):Int):=by decide+kernel
theorem V7:∀m:Fin 64,IntKind.u8.wrap ((128 %2^IntKind.u8.bits|||(((m.val:Nat):Int) %2^IntKind.u8.bits).toNat:Nat):Int)=128+((m.val:Nat):Int):=by decide+kernel
theorem bua {x:Int} (h:0<=x) (h2:x<32):IntKind.u8.wrap ((192 %2^IntKind.u8.bits|||(x %2^IntKind.u8.bits).toNat:Nat):Int)=192+x:=by obtain ⟨m,rfl⟩:=Int.eq_ofNat_of_zero_le h;exact V8 ⟨m,by omega⟩
theorem RM {x:Int} (h:0<=x) (h2:x<16):IntKind.u8.wrap ((224 %2^IntKind.u8.bits|||(x %2^IntKind.u8.bits).toNat:Nat):Int)=224+x:=by obtain ⟨m,rfl⟩:=Int.eq_ofNat_of_zero_le h;exact V9 ⟨m,by omega⟩
theorem bva {x:Int} (h:0<=x) (h2:x<8):IntKind.u8.wrap ((240 %2^IntKind.u8.bits|||(x %2^IntKind.u8.bits).toNat:Nat):Int)=240+x:=by obtain ⟨m,rfl⟩:=Int.eq_ofNat_of_zero_le h;exact Wa ⟨m,by omega⟩
theorem Hn {x:Int} (h:0<=x) (h2:x<64):IntKind.u8.wrap ((128 %2^IntKind.u8.bits|||(x %2^IntKind.u8.bits).toNat:Nat):Int)=128+x:=by obtain ⟨m,rfl⟩:=Int.eq_ofNat_of_zero_le h;exact V7 ⟨m,by omega⟩
theorem Gs {x:Int} (h:0<=x):IntKind.u8.wrap (((IntKind.u8.wrap x %2^IntKind.u8.bits).toNat&&&63 %2^IntKind.u8.bits:Nat):Int)=x %64:=by have e:(63 %2^IntKind.u8.bits:Nat)=2^6 -1:=rfl;rw [e,Nat.and_two_pow_sub_one_eq_mod,IntKind.wrap_u8,IntKind.wrap_u8];have e2:(2^IntKind.u8.bits:Int)=256:=rfl;rw [e2];omega
def b4a:Nat->PO
 |0=>(.convI .u32)
 |1=>(.bin .leq)
 |2=>(.bin .shr)
 |3=>(.convI .u8)
 |4=>(.bin .or)
 |5=>(.bin .and)
 |6=>(.bin .lss)
 |7=>(.bin .gtr)
 |8=>(.bin .geq)
 |9=>(.bin .sub)
 |10=> .lenL
 |11=>(.idxL 1)
 |12=>(.bin .add)
 |_=> .same
def ZY:Nat->EO
 |0=>(.bsl 5 2 1 #[(.int .u8 0)] [0,1])
 |1=>(.app 52 52 5 1 1 (.int .u8 0))
 |2=>(.bsl 5 3 1 #[(.int .u8 0)] [0,1,2])
 |3=>(.bsl 5 4 1 #[(.int .u8 0)] [0,1,2,3])
 |4=>(.bsl 5 1 1 #[(.int .u8 0)] [0])
 |5=>(.call 429)
 |6=>(.call 405)
 |7=>(.ld false 1)
 |8=>(.call 352)
 |9=>(.b2s 52 9)
 |_=> .an
def ega:Nat->Value
 |0=>(.slice none 0 0)
 |1=>(.int .u32 2047)
 |2=>(.int .u64 6)
 |3=>(.int .u8 192)
 |4=>(.int .u8 63)
 |5=>(.int .u8 128)
 |6=>(.int .u32 55296)
 |7=>(.int .u32 57343)
 |8=>(.int .u32 65535)
 |9=>(.bool false)
 |10=>(.int .u64 12)
 |11=>(.int .u8 224)
 |12=>(.int .u32 1114111)
 |13=>(.int .u64 18)
 |14=>(.int .u8 240)
 |15=>(.int .u8 239)
 |16=>(.int .u8 191)
 |17=>(.int .u8 189)
 |18=>(.int .u32 127)
 |19=>(.int .i32 2097152)
 |20=>(.string ⟨#[]⟩)
 |21=>(.int .i64 0)
 |22=>(.int .i64 1)
 |_=>undef
def HT:dk:=⟨b4a,ZY,ega⟩
def Vo:ai:=⟨[0,1,4,5,25],78,[.slot 2],aW HT [] 0xe6da39ae8b2ffe28b7e02cb3400054d4909220248f042b2ffdc71c71c71c71c71c71cee2df80b2cd0001514c95c95d44571043152144572575115d350900420c5485115c95d44574d4a0500420c5485115c95d3534140108348e0440f2575115c410c5485135115c410c5c410f2575115d350900420c5485135115d350900420c5d350900420f5090042c95d44574d4a0500420c5485135115d35281401083174d4a0500420f52814010b2574d4d0500420d2381134d4d0500420f534140109c8de7db5d2f95d4c0500c1cd8cf5301403073575e900c7d7a4031ecbff71c71c71c71c73b8b7e02cb3400054c95c95d44571043152144572575115d350900420c5485115c95d3528140108348b0440b2575115c410c5485135115c410c5c410f2575115d350900420c5485135115d350900420c5d350900420f5090042c95d3528140108348b044d35281401083d4a05004212b9dc8de7f75d2f95d7a403073133d7a40307357d0d21c6f434871af0049dcdd5d46403184d464031acbff71c71c73b8b7e02cb3400072572575115c410c5485115c95d350900420d20c4032575115c410c5485135115c410c5c410f2574d42401083483134d42401083d4240109c6d5d41403058d414030409dcdd5c41003c41027dd2002⟩
theorem Qy:aj F4 429 400=some Vo:=by kernel_rfl
def Vm:ai:=⟨[0,1,4],16,[.slot 2],aW HT [] 0xb39bff8b7cc2f41400168bc0b2fffb8b7e02cb3400074c410c4c410dc71b575282571040058d4a095c41001c41027dd2002⟩
theorem Qt:aj F4 405 400=some Vm:=by kernel_rfl
def Vc:ai:=⟨[0,1,4],16,[.slot 2],aW HT [] 0x2ce6ffe2df30bd050006a2f02cbff73b8b7e02cb3400074d352c2401f83134d4b09007e0f52c2401f9c6d5d4b09007a6352c2401ea7dd2002⟩
theorem Qa:aj F4 352 400=some Vc:=by kernel_rfl
def UT:ai:=⟨[0,2,3,5,6,7,8],18,[.slot 1],aW HT [] 0x2ce79bff8b7cc1c42fadbb99dcdd5d4e09018c046d4e09018c06db278b7cc2f43402ea7ef7cc3d3d19010b047f464042c1068bc2bc071b57d15018663d15018602771a659d92342195f0a04540013c2bfdd20029f748c081⟩
theorem Po:aj F4 278 400=some UT:=by kernel_rfl
theorem wL (n:Nat) (bs:List UInt8) (v:Value) (w0 w:World) (A:al) (hl:bs.length<=16777216) (hu:xZ n) (h128:128<=n) (hbad:n<2097152) (s:St w0 (A*own 5 1 v bs.length (aM bs)) w):
  ak Tryz.prog 429 [v,.int .i32 n] (λr w'=>St w0 (A*own 5 1 r (bs.length+(mo n).length) (aM (bs++mo n))) w') w:=by
 have hn:n<=1114111/\¬(55296<=n/\n<57344):=by unfold xZ at hu;omega
 have hlen:(mo n).length=(kZ n).length:=by simp [mo]
 rw [gi,SF n hu,hlen];refine aE Qy (by simp [Vo]) ?_;simp [Vo]
 try simp (disch:=omega) only [H5]
 refine aN (λh1=> ?_) (λh1=> ?_)
 ·simp at h1
  have e:kZ n= [192+n /64,128+n %64]:=by unfold kZ;rw [if_neg (by omega),if_neg (by omega),if_pos (by omega)]
  rw [e];simp
  try simp (disch:=omega) only [fd6,Gs,rn,bua,Hn]
  refine Cm s rfl rfl ?_;intro b w1 s1;simp;refine bE (n:=bs.length) (m:=2) (news:= [.int .u8 (192+n /64),.int .u8 (128+n %64)]) s1.swap rfl s1.aJ (by simp [Value.oneCell']) (by decide) rfl (by unfold maxLen;omega) (by omega) ?_;intro v' w2 s2;simp;exact s2.swap.drop
 simp at h1;simp;refine aN (λh2=> ?_) (λh2=> ?_)
 ·simp at h2
  simp [h2];have e:kZ n= [224+n /4096,128+n /64 %64,128+n %64]:=by unfold kZ;rw [if_neg (by omega),if_neg (by omega),if_neg (by omega),if_pos (by omega)]
  rw [e];simp
  try simp (disch:=omega) only [SK,fd6,Gs,rn,RM,Hn]
  refine Cn s rfl rfl rfl ?_;intro b w1 s1;simp;refine bE (n:=bs.length) (m:=3) (news:= [.int .u8 (224+n /4096),.int .u8 (128+n /64 %64),.int .u8 (128+n %64)]) s1.swap rfl s1.aJ (by simp [Value.oneCell']) (by decide) rfl (by unfold maxLen;omega) (by omega) ?_;intro v' w2 s2;simp;exact s2.swap.drop
 simp at h2;have h2':¬(n:Int)<55296:=by omega
 have h57:(57343:Int)<n:=by omega
 simp [h57];refine aN (λh3=> ?_) (λh3=> ?_)
 ·simp at h3
  have e:kZ n= [224+n /4096,128+n /64 %64,128+n %64]:=by unfold kZ;rw [if_neg (by omega),if_neg (by omega),if_neg (by omega),if_pos (by omega)]
  rw [e];simp
  try simp (disch:=omega) only [SK,fd6,Gs,rn,RM,Hn]
  refine Cn s rfl rfl rfl ?_;intro b w1 s1;simp;refine bE (n:=bs.length) (m:=3) (news:= [.int .u8 (224+n /4096),.int .u8 (128+n /64 %64),.int .u8 (128+n %64)]) s1.swap rfl s1.aJ (by simp [Value.oneCell']) (by decide) rfl (by unfold maxLen;omega) (by omega) ?_;intro v' w2 s2;simp;exact s2.swap.drop
 simp at h3;have h4:(65535:Int)<n:=by omega
 have h5:(n:Int)<=1114111:=by omega
 have e:kZ n= [240+n /262144,128+n /4096 %64,128+n /64 %64,128+n %64]:=by unfold kZ;rw [if_neg (by omega),if_neg (by omega),if_neg (by omega),if_neg (by omega)]
 rw [e];simp [h4,h5]
 try simp (disch:=omega) only [gia,SK,fd6,Gs,rn,bva,Hn]
 refine KU s rfl rfl rfl rfl ?_;intro b w1 s1;simp;refine bE (n:=bs.length) (m:=4) (news:= [.int .u8 (240+n /262144),.int .u8 (128+n /4096 %64),.int .u8 (128+n /64 %64),.int .u8 (128+n %64)]) s1.swap rfl s1.aJ (by simp [Value.oneCell']) (by decide) rfl (by unfold maxLen;omega) (by omega) ?_;intro v' w2 s2;simp;exact s2.swap.drop
theorem yN (n:Nat) (bs:List UInt8) (v:Value) (w0 w:World) (A:al) (hl:bs.length<=16777216) (hu:xZ n) (hbad:n<2097152) (s:St w0 (A*own 5 1 v bs.length (aM bs)) w):
  ak Tryz.prog 405 [v,.int .i32 n] (λr w'=>St w0 (A*own 5 1 r (bs.length+(mo n).length) (aM (bs++mo n))) w') w:=by
 refine aE Qt (by simp [Vm]) ?_;simp [Vm]
 try simp (disch:=omega) only [H5]
 refine aN (λh1=> ?_) (λh1=> ?_)
 ·simp at h1
  have e:kZ n= [n]:=by unfold kZ;rw [if_neg (by omega),if_pos (by omega)]
  have hlen:(mo n).length=1:=by simp [mo,e]
  rw [gi,SF n hu,hlen,e];simp
  try simp (disch:=omega) only [rn]
  refine cw s rfl ?_;intro b w1 s1;simp;refine bE (n:=bs.length) (m:=1) (news:= [.int .u8 n]) s1.swap rfl s1.aJ (by simp [Value.oneCell']) (by decide) rfl (by unfold maxLen;omega) (by omega) ?_;intro v' w2 s2;simp;exact s2.swap.drop
 simp at h1;simp;refine ad ((wL n bs v w0 w A hl hu (by omega) hbad s).mono ?_);intro r w2 s2;simp;exact s2
theorem fA (n:Nat) (bs:List UInt8) (v:Value) (w0 w:World) (A:al) (hl:bs.length<=16777216) (hu:xZ n) (s:St w0 (A*own 5 1 v bs.length (aM bs)) w):
  ak Tryz.prog 352 [v,.int .i32 n] (λr w'=>St w0 (A*own 5 1 r (bs.length+(mo n).length) (aM (bs++mo n))) w') w:=by
 refine aE Qa (by simp [Vc]) ?_;simp [Vc];refine aN (λh1=> ?_) (λh1=> ?_)
 ·simp at h1
  have hn:n<2097408:=by unfold xZ at hu;omega
  have e:kZ n= [n -2097152]:=by unfold kZ;rw [if_pos (by omega)]
  have hlen:(mo n).length=1:=by simp [mo,e]
  have hsub:((n -2097152:Nat):Int)=(n:Int) -2097152:=by omega
  rw [gi,SF n hu,hlen,e];simp
  try simp (disch:=omega) only [rn,wrap32]
  refine cw s rfl ?_;intro b w1 s1;simp;refine bE (n:=bs.length) (m:=1) (news:= [.int .u8 (n -2097152)]) s1.swap rfl s1.aJ (by simp [Value.oneCell']) (by decide) rfl (by unfold maxLen;omega) (by omega) ?_;intro v' w2 s2;simp;rw [hsub];exact s2.swap.drop
 simp at h1;simp;refine ad ((yN n bs v w0 w A hl hu (by omega) s).mono ?_);intro r w2 s2;simp;exact s2
theorem JT (us:List Int) (v:Value) (w0 w:World) (A:al) (hl:us.length<=4194304) (hok:∀u∈us,xZ u) (s:St w0 (A*own 21 1 v us.length (lY us)) w):
  ak Tryz.prog 278 [v] (λr w'=>r= .string (mk (ik us))/\St w0 (A*own 21 1 v us.length (lY us)) w') w:=by
 obtain ⟨a1,c1,rfl,hc1,hn1⟩:=s.ay;refine aE Po (by simp [UT]) ?_;simp [UT];refine dB (λenv w'=>∃(i:Nat) (v x:Value),env= [.slice a1 us.length c1,.string (mk []),v,x,.slice a1 us.length c1,.int .i64 us.length,.int .i64 i]/\i<=us.length/\
   St w0 (A*own 21 1 (.slice a1 us.length c1) us.length (lY us)*own 5 1 v (ik (us.take i)).length (aM (ik (us.take i)))) w')
  (λenv _=>us.length -ax env 6) ⟨0,_,_,rfl,by omega,by simpa [ik,aM] using s.aG 5 1⟩ ?_
 rintro LQ env w' ⟨i,v,x,rfl,hi,s'⟩ hN hE hR;simp;refine aN (λh=> ?_) (λh=> ?_)
 ·simp at h
  obtain ⟨g1,c1',e1,_,hcell⟩:=s'.swap.aU (by omega);cases e1;have hui:=hcell i (.int .i32 us[i]) (by simp [lY,h]);simp;refine ⟨h,af hui ?_⟩;simp;have hub:=hok us[i] (List.getElem_mem h);obtain ⟨m,hm⟩:=Int.eq_ofNat_of_zero_le (show 0<=us[i] by unfold xZ at hub;omega);rw [hm] at hub;rw [hm];have hfl:=uo (us.take i);rw [List.length_take] at hfl;refine ad ((fA m _ v w0 _ _ (by omega) hub s').mono ?_);intro r w2 s2;simp
  try simp (disch:=omega) only [wrap64]
  refine hN _ _ ⟨i+1,r,_,by simp;rfl,h,?_⟩ (by simp [ax];omega);rw [List.take_succ_eq_append_getElem h,Cr,hm,List.length_append];exact s2
 ·simp at h
  simp;refine hE _ _ _ ?_;simp;have:i=us.length:=by omega
  subst this;rw [List.take_length] at s';refine NK s' ?_;simp;exact s'.drop
def iHa:List UInt8:= [48,206,191,208,190,49,206,177,208,176,209,129,208,181,209,145,206,185,206,186,208,186,207,129,209,128,207,132,209,130,207,133,206,189,207,135,209,133,206,179,209,131,32,95]
def iLa:List UInt8:= [111,111,111,108,97,97,99,101,101,105,107,107,112,112,116,116,117,118,120,120,121,121,45,45]
def kHa:List UInt8:= [97,97,97,97,97,97,230,99,101,101,101,101,105,105,105,105,240,110,111,111,111,111,111,247,111,117,117,117,117,121,254,121]
def iIa:List (Int×Nat):= [(48,1),(959,2),(1086,2),(49,1),(945,2),(1072,2),(1089,2),(1077,2),(1105,2),(953,2),(954,2),(1082,2),(961,2),(1088,2),(964,2),(1090,2),(965,2),(957,2),(967,2),(1093,2),(947,2),(1091,2),(32,1),(95,1)]
def b5a:Nat->PO
 |0=>(.ext 0)
 |1=>(.ext 2)
 |2=>(.bin .eql)
 |3=> .chS
 |4=>(.convI .i32)
 |5=>(.bin .add)
 |6=>(.bin .geq)
 |7=>(.bin .leq)
 |8=>(.bin .sub)
 |_=> .same
def ZZ:Nat->EO
 |0=>(.rngS 9)
 |1=>(.nxt true 0)
 |_=> .an
def eha:Nat->Value
 |0=>(.int .i32 0)
 |1=>(.int .i64 0)
 |2=>(.string ⟨#[48,206,191,208,190,49,206,177,208,176,209,129,208,181,209,145,206,185,206,186,208,186,207,129,209,128,207,132,209,130,207,133,206,189,207,135,209,133,206,179,209,131,32,95]⟩)
 |3=>(.string ⟨#[111,111,111,108,97,97,99,101,101,105,107,107,112,112,116,116,117,118,120,120,121,121,45,45]⟩)
 |4=>(.int .i64 1)
 |5=>(.int .i32 224)
 |6=>(.int .i32 255)
 |7=>(.bool false)
 |8=>(.string ⟨#[97,97,97,97,97,97,230,99,101,101,101,101,105,105,105,105,240,110,111,111,111,111,111,247,111,117,117,117,117,121,254,121]⟩)
 |_=>undef
def i8a:dk:=⟨b5a,ZZ,eha⟩
theorem zc (b:Int) (r:List UInt8) (v:Int) (n:Nat) (least:Int) (hb:0<=b/\b<256) (hv:0<=v):xZ (gS b r v n least).1:=by
 unfold gS xZ;split
 ·rename_i u hu
  have:=DW n r v u hv hu;split
  ·simp only;omega
  ·simp only;omega
 ·simp only;omega
theorem LX {l:List UInt8} (h:l≠ []):xZ (bJ l).1:=by
 cases l with
 |nil=>exact absurd rfl h
 |cons c r=>
  have hc:=c.toNat_lt;rw [jL];split
  ·unfold xZ;simp only;omega
  split
  ·exact zc c.toNat r (c.toNat -192) 1 128 (by omega) (by omega)
  split
  ·exact zc c.toNat r (c.toNat -224) 2 2048 (by omega) (by omega)
  split
  ·exact zc c.toNat r (c.toNat -240) 3 65536 (by omega) (by omega)
  ·unfold xZ;simp only;omega
theorem Jw {u:Int} (h:xZ u):xZ (pK u):=by
 unfold xZ at h⊢;unfold pK;repeat' split
 all_goals omega
def Hq:List Int->List Int
 |114::110::r=>109::Hq r
 |118::118::r=>119::Hq r
 |u::r=>u::Hq r
 | []=> []
def bna (l:List UInt8):List Int:=Hq ((fo l).map uZ)
theorem D7:∀(n:Nat) (l:List UInt8),l.length<=n->∀u∈eC l,xZ u.1
 |0,l,h=>by have:l= []:=List.eq_nil_of_length_eq_zero (by omega);subst this;simp [nX]
 |n+1,l,h=>by
  by_cases he:l= []
  ·subst he;simp [nX]
  ·have hb:=iJ he
   rw [vV he];intro u hu;rcases List.mem_cons.1 hu with rfl|hu
   ·exact LX he
   ·exact D7 n _ (by simp;omega) u hu
theorem I2 (l:List UInt8):∀u∈fo l,xZ u:=by
 intro u hu;simp only [fo,fH,List.mem_flatMap] at hu;obtain ⟨x,hx,hu⟩:=hu;have hk:=D7 _ l (Nat.le_refl _) x hx;unfold rD at hu;split at hu
 ·have:u=115:=by simpa using hu
  subst this;exact .inl (by omega)
 ·have:u=pK x.1:=by simpa using hu
  subst this;exact Jw hk
theorem Fl (l:List UInt8):(fo l).length<=2*l.length:=by have h1:=mN (eC l);have h2:=yH l;unfold fo;omega
def b6a:Nat->PO
 |0=> .lenL
 |1=>(.bin .lss)
 |2=>(.idxL 1)
 |3=>(.cal 267)
 |4=>(.bin .add)
 |5=>(.bin .eql)
 |6=>(.slL 1 false true false)
 |_=> .same
def Z1:Nat->EO
 |0=>(.call 266)
 |1=>(.call 268)
 |2=>(.call 279)
 |3=>(.call 278)
 |4=>(.ld false 1)
 |5=>(.st 1)
 |6=>(.bsl 3 1 1 #[(.int .i64 0)] [0])
 |7=>(.app 32 32 3 1 8 (.int .i64 0))
 |8=>(.call 325)
 |9=>(.bsl 21 1 1 #[(.int .i32 0)] [0])
 |10=>(.app 332 332 21 1 4 (.int .i32 0))
 |_=> .an
def eia:Nat->Value
 |0=>(.string ⟨#[]⟩)
 |1=>(.int .i64 0)
 |2=>(.int .i64 1)
 |3=>(.slice none 0 0)
 |4=>(.tuple #[])
 |5=>(.int .i64 114)
 |6=>(.int .i64 110)
 |7=>(.bool false)
 |8=>(.int .i64 109)
 |9=>(.int .i64 118)
 |10=>(.int .i64 119)
 |11=>(.int .i32 114)
 |12=>(.int .i32 110)
 |13=>(.int .i32 109)
 |14=>(.int .i32 118)
 |15=>(.int .i32 119)
 |_=>undef
def dpa:dk:=⟨b6a,Z1,eia⟩
def Uy:ai:=⟨[0,2],6,[.slot 1],aW dpa [] 0xe6ffe28b7e019b30fc0a7dd2001⟩
theorem OS:aj F4 203 400=some Uy:=by kernel_rfl
theorem wP (l:List UInt8) (w0 w:World) (A:al) (hl:l.length<=1048576) (s:St w0 A w):
  ak Tryz.prog 203 [.string (mk l)] (λr w'=>r= .string (mk (ik (fo l)))/\St w0 A w') w:=by
 have hfl:=Fl l;refine aE OS (by simp [Uy]) ?_;simp [Uy];refine ad ((Cy l w0 w A hl s).mono ?_);intro v w1 s1;simp;refine ad ((JT _ v w0 w1 A (by omega) (I2 l) s1).mono ?_);rintro r w2 ⟨rfl,s2⟩;simp;exact s2.drop
def half (f:Int->Int):Nat->List Int->List Int
 |_,[]=> []
 |0,a::l=>a::l
 |i+1,a::l=>f a::half f i l
def View (w0:World) (A:al) (k:IntKind) (v:Value) (xs:List Int):Prop:=
 ∃a cap,v= .slice a xs.length cap/\xs.length<=cap/\(0<xs.length->∃g o,a=some ⟨g,o,none⟩/\∀w,St w0 A w->∀j u,xs[j]?=some u->w.cell? ⟨g,o+j,none⟩=some (.int k u))
end Go.HL.Nm
namespace Go.HL
section
variable {P:Program} {F0:PF P} {F:al} {K:Value->World->Prop} {w w0:World}
def uv:List (List UInt8)->Nat->List MapEntry
 | [],_=> []
 |x::r,i=>⟨.string (mk x),.int .i64 (i:Int),i⟩::uv r (i+1)
def gl (ks:List (List UInt8)):Array MapEntry:=(uv ks 0).toArray
def jv (k:List UInt8):List (List UInt8)->Nat->Option Nat
 | [],_=>none
 |x::r,i=>if k=x then some i else jv k r (i+1)
theorem xr (k:List UInt8):∀(ks:List (List UInt8)) (i:Nat),uv (ks++ [k]) i=uv ks i++ [⟨.string (mk k),.int .i64 ((i+ks.length:Nat):Int),i+ks.length⟩]
 | [],i=>by simp [uv]
 |x::r,i=>by
  simp only [List.cons_append,uv,xr k r (i+1),List.length_cons];have:i+1+r.length=i+(r.length+1):=by omega
  rw [this]
theorem Jq (k:List UInt8) (ks:List (List UInt8)):(gl ks).push ⟨.string (mk k),.int .i64 (ks.length:Int),ks.length⟩=gl (ks++ [k]):=by apply Array.ext';simp [gl,xr]
theorem mk_inj {a b:List UInt8} (h:mk a=mk b):a=b:=by
 have h2:(mk a).data.toList=(mk b).data.toList:=by rw [h]
 exact h2
theorem Jt (a b:List UInt8):(mk a==mk b)=decide (a=b):=by rw [Bool.eq_iff_iff,MapKept.bytes_beq];exact ⟨λh=>decide_eq_true (mk_inj h),λh=>by rw [of_decide_eq_true h]⟩
theorem qJ (k:List UInt8):∀(ks:List (List UInt8)) (i j:Nat),Instr.findNow .string (.string (mk k)) (uv ks j) i=some ((jv k ks j).map λn=>(i+(n -j),.int .i64 (n:Int)))
 | [],_,_=>rfl
 |x::r,i,j=>by
  simp only [uv,Instr.findNow,Instr.sameNow,Jt,jv]
  by_cases h:k=x
  ·simp [h]
  ·simp only [h,decide_false,if_false]
   rw [qJ k r (i+1) (j+1)];cases hl:jv k r (j+1) with
   |none=>rfl
   |some n=>
    have:j+1<=n:=by
     have key:∀(l:List (List UInt8)) (j n:Nat),jv k l j=some n->j<=n:=by
      intro l
      induction l with
      |nil=>intro j n h;cases h
      |cons y t ih=>
       intro j n h;simp only [jv] at h;split at h
       ·cases h;exact Nat.le_refl _
       ·have:=ih _ _ h;omega
     exact key r _ _ hl
    simp only [Option.map_some,Option.some.injEq,Prod.mk.injEq,and_true];omega
theorem NM {t:TypeId} (s:St w0 F w) (hk:∀b w',St w0 (F*pt b (.map (gl []) 0)) w'->K (.map (some b)) w'):aI P (.mkm t false) [] K w:=by intro _;refine bm (s:=Instr.makeMap t none) (v:= .map (some w.heap.size)) (w':=w.alloc (.map (gl []) 0)) ?_ (hk _ _ (s.alloc trivial));simp [Instr.makeMap,newObj,Sem.run,gl,uv,Sem.bind]
def Ni (k:List UInt8) (ks:List (List UInt8)):Int:=((jv k ks 0).getD 0:Nat)
def tI (k:List UInt8) (ks:List (List UInt8)):Bool:=(jv k ks 0).isSome
abbrev Sj (k:List UInt8) (ks:List (List UInt8)):Value:= .tuple #[.int .i64 (Ni k ks),.bool (tI k ks)]
structure Na (P:Program) (t kt ke:TypeId):Prop where
 ty:P.underlying t=some (.map kt ke)
 key:P.underlying kt=some .string
 zero:(P.info? ke).bind (·.zero)=some (.int .i64 0)
theorem Lz {t kt ke:TypeId} (T:Na P t kt ke) {m:Nat} {ks:List (List UInt8)} {c:Nat} (hb:w.heap[m]?=some (.map (gl ks) c)) (k:List UInt8):
  (Instr.lookup t (.map (some m)) (.string (mk k)) true).run P w= .ok (Sj k ks) w:=by
 obtain ⟨i,hi,hz⟩:=Option.bind_eq_some_iff.1 T.zero;have hf:=qJ k ks 0 0;have he:(gl ks).toList=uv ks 0:=by simp [gl]
 have hck:=λe=>MapKept.run_checkKey (P:=P) (w:=w) T.key (show MapKept.IsKey .string (.string (mk k)) from trivial) e 9999;have hfk:=MapKept.run_findKey (P:=P) (w:=w) T.key hf;rw [<-he] at hfk;simp only [Instr.lookup,Sem.run_bind,run_underlying T.ty,MapKept.run_getObj_map hb,Result.andThen_ok,Sem.run_pure,hck,hfk];unfold Sj Ni tI;cases hl:jv k ks 0 with
 |none=>simp [zeroValue,typeInfo,hi,hz]
 |some n=>simp
theorem IE {C:List Value->World->Prop} {q:Nat->List Value->Value} {n:Nat} {vs:List Value} {t kt ke:TypeId} (T:Na P t kt ke) {m:Nat} {ks:List (List UInt8)} {c:Nat} {k:List UInt8} {K:Value->List Value->Prop}
  (hb:∀vs' w,era n vs'=era n vs->C vs' w->w.heap[m]?=some (.map (gl ks) c)) (hk:K (Sj k ks) vs):tD F0 C q n (.look t true) [.map (some m),.string (mk k)] vs K:=
 pE (s:=Instr.lookup t (.map (some m)) (.string (mk k)) true) rfl (λvs' w he hw=>Lz T (hb vs' w he hw) k) hk
theorem NO {t kt ke:TypeId} (T:Na P t kt ke) {m:Nat} {ks:List (List UInt8)} {k:List UInt8} (s:St w0 (F*pt m (.map (gl ks) ks.length)) w) (hn:jv k ks 0=none)
  (hk:∀w',St w0 (F*pt m (.map (gl (ks++ [k])) (ks++ [k]).length)) w'->K undef w'):aI P (.lK t) [.map (some m),.string (mk k),.int .i64 (ks.length:Int)] K w:=by
 have hb:=s.look;have hf:=qJ k ks 0 0;rw [hn] at hf;have he:(gl ks).toList=uv ks 0:=by simp [gl]
 have hck:=λe=>MapKept.run_checkKey (P:=P) (w:=w) T.key (show MapKept.IsKey .string (.string (mk k)) from trivial) e 9999;have hfk:=MapKept.run_findKey (P:=P) (w:=w) T.key hf;rw [<-he] at hfk;have hs:=MapKept.heap_set (o':= .map (gl (ks++ [k])) (ks++ [k]).length) hb;intro _;refine lF (s:=Instr.mapUpdate t (.map (some m)) (.string (mk k)) (.int .i64 (ks.length:Int))) (w':={w with heap:=w.heap.setIfInBounds m (.map (gl (ks++ [k])) (ks++ [k]).length)}) ?_ (hk _ (s.oe (o':= .map (gl (ks++ [k])) (ks++ [k]).length) hs.1 hs.2 (by simp) rfl rfl (λ_ _ _ h=>by cases h)));simp only [Instr.mapUpdate,Sem.run_bind,run_underlying T.ty,MapKept.run_getObj_map hb,Result.andThen_ok,hck,hfk,Option.map_none,Jq];rw [MapKept.run_setObj_map _ hb];simp
end
section
variable {P:Program}
inductive PV where
 |int (k:IntKind) (a:Int)
 |str (b:List UInt8)
 |bool (b:Bool)
deriving DecidableEq
inductive PK where
 |int (k:IntKind)
 |str
 |bool
deriving DecidableEq
def PV.val:PV->Value
 | .int k a=> .int k a
 | .str b=> .string (mk b)
 | .bool b=> .bool b
def PV.kind:PV->PK
 | .int k _=> .int k
 | .str _=> .str
 | .bool _=> .bool
def PK.of:PK->TypeDesc->Bool
 | .int _,.int _=>true
 | .str,.string=>true
 | .bool,.bool=>true
 |_,_=>false
def vt (P:Program):List Field->List PK->Nat->Bool
 | [],[],_=>true
 |f::fs,k::ks,o=>(f.name != "_")&&(f.offset==o)&&(match P.underlying f.type with|some d=>k.of d|none=>false)&&vt P fs ks (o+1)
 |_,_,_=>false
def gsa (xs:Array Value) (o:Nat) (as_:List PV):Prop:=∀j u,as_[j]?=some u->xs[o+j]?=some u.val
structure Sc (P:Program) (t:TypeId) (ks:List PK):Prop where
 und:P.underlying t=some (.struct (P.fieldsOf t))
 stood:P.stoodInHeld t=false
 guard:P.eqGuardType P.depth t=false
 prims:vt P (P.fieldsOf t).toList ks 0=true
variable {K:Value->World->Prop} {w w0:World} {A:al} {C:World->Prop}
end
end Go.HL
namespace Go.HL.Pu
open Go.HL Go.HL.Nm Go.Proofs
structure Ac where
 name:List UInt8
 ab:Int
deriving DecidableEq
def Ac.cs (x:Ac):List Value:= [.string (HL.mk x.name),.int .u64 x.ab]
def flat (l:List Ac):List Value:=l.flatMap Ac.cs
theorem lN (x:Ac):x.cs.length=2:=rfl
theorem iZ (l:List Ac):(flat l).length=l.length*2:=gw Ac.cs 2 lN l
theorem cN (x:Ac):∀u∈x.cs,u.oneCell'=true:=by intro u hu;simp only [Ac.cs,List.mem_cons,List.not_mem_nil,or_false] at hu;rcases hu with rfl|rfl<;>rfl
theorem La (l:List Ac):∀u∈flat l,u.oneCell'=true:=by intro u hu;obtain ⟨x,_,hx⟩:=List.mem_flatMap.1 hu;exact cN x u hx
theorem gH {ae:List Ac} {i:Nat} (h:i<ae.length):∀j u,(ae[i].cs)[j]?=some u->(flat ae)[i*2+j]?=some u:=by intro j u hu;have hj:j<2:=(List.getElem?_eq_some_iff.1 hu).1;rw [<-hu];exact fW Ac.cs 2 lN ae i j h hj
theorem IV {ae:List Ac} {i:Nat} (h:i<ae.length):(flat ae)[i*2]?=some (.string (mk ae[i].name)):=gH h 0 _ rfl
theorem j0 {ae:List Ac} {i:Nat} (h:i<ae.length):(flat ae)[i*2+1]?=some (.int .u64 ae[i].ab):=gH h 1 _ rfl
theorem IW {ae:List Ac} {i:Nat} (h:i<ae.length) (c:Int):(flat ae).set (i*2+1) (.int .u64 c)=flat (ae.set i ⟨ae[i].name,c⟩):=by
 have e:=uA Ac.cs 2 lN (⟨ae[i].name,c⟩:Ac) ae i h;show _=List.flatMap Ac.cs _;rw [<-e];have hl:=iZ ae;have hf:flat ae=ae.flatMap Ac.cs:=rfl;apply List.ext_getElem?;intro k;have hlen:i*2+2<=(ae.flatMap Ac.cs).length:=by rw [<-hf];omega
 have tl:((ae.flatMap Ac.cs).take (i*2)).length=i*2:=by rw [List.length_take];omega
 rw [hf];have c4:(⟨ae[i].name,c⟩:Ac).cs.length=2:=rfl
 by_cases k1:k<i*2
 ·rw [List.getElem?_set_ne (by omega),List.append_assoc,List.getElem?_append_left (by omega),List.getElem?_take,if_pos k1]
 by_cases k2:k<i*2+2
 ·rw [List.append_assoc,List.getElem?_append_right (by omega),tl,List.getElem?_append_left (by rw [c4];omega)]
  obtain ⟨j,rfl⟩:∃j,k=i*2+j:=⟨k -i*2,by omega⟩;have hj:j<2:=by omega
  rw [Nat.add_sub_cancel_left];have:j=0\/j=1:=by omega
  rcases this with rfl|rfl
  ·rw [List.getElem?_set_ne (by omega),fW Ac.cs 2 lN ae i 0 h (by omega)];rfl
  ·rw [List.getElem?_set_self (by omega)];rfl
 ·rw [List.getElem?_set_ne (by omega),List.append_assoc,List.getElem?_append_right (by omega),tl,List.getElem?_append_right (by rw [c4];omega),List.getElem?_drop,c4]
  congr 1
  omega
def gU (l:List UInt8):List UInt8:=ik (fo l)
def RQ (l:List UInt8):List UInt8:=ik (bna l)
def keys (l:List Ac):List (List UInt8):=l.map λx=>gU x.name
structure Ps where
 lim:Int
 rows:List Ac
 sup:Int
 held:Int
deriving DecidableEq
abbrev qX (p:Nat) (P:Ps) (m:Nat) (v:Value):al:=pt p (.cells #[.map (some m),.int .i64 P.lim,v,.int .u64 P.sup,.int .u64 P.held] 195 (0,0))
abbrev pX (m:Nat) (l:List Ac):al:=pt m (.map (gl (keys l)) (keys l).length)
def cr (p:Nat) (P:Ps):al:=λh=>∃m v,(qX p P m v*pX m P.rows*own 139 2 v P.rows.length (flat P.rows)) h
theorem mm {w0 w:World} {A:al} {p:Nat} {P:Ps} (s:St w0 (A*cr p P) w):
  ∃m v,St w0 (A*qX p P m v*pX m P.rows*own 139 2 v P.rows.length (flat P.rows)) w:=by
 obtain ⟨g,h1,h2,h3,d,e,a,m,v,b⟩:=s.holds;refine ⟨m,v,?_⟩;rw [aw,aw,<-aw (qX p P m v)];exact s.of ⟨g,h1,h2,h3,d,e,a,b⟩
theorem iw {w0 w:World} {A:al} {p:Nat} {P:Ps} {m:Nat} {v:Value}
  (s:St w0 (A*qX p P m v*pX m P.rows*own 139 2 v P.rows.length (flat P.rows)) w):St w0 (A*cr p P) w:=by
 rw [aw,aw,<-aw (qX p P m v)] at s;obtain ⟨g,h1,h2,h3,d,e,a,b⟩:=s.holds;exact s.of ⟨g,h1,h2,h3,d,e,a,m,v,b⟩
theorem dca:Na Tryz.prog 191 9 3:=⟨by kernel_rfl,by kernel_rfl,by kernel_rfl⟩
noncomputable abbrev U0:PF Tryz.prog:=PF.none _
def b7a:Nat->PO
 |0=> .chkp
 |1=>(.fld 0)
 |2=>(.ext 0)
 |3=>(.ext 1)
 |4=>(.eqNil false (.map 9 3) (.map none))
 |5=>(.ifc 191)
 |6=> .lenL
 |7=>(.slL 1 false true true)
 |8=>(.slL 2 false true true)
 |9=>(.eqNil false (.slice 139) (.slice none 0 0))
 |10=>(.bin .gtr)
 |11=>(.bin .sub)
 |_=> .same
def Z2:Nat->EO
 |0=>(.ld false 1)
 |1=>(.call 203)
 |2=>(.look 191 true)
 |3=>(.lK 191)
 |4=>(.cext 232)
 |5=>(.tas 20 191 false)
 |6=>(.bsl 139 0 2 #[] [])
 |7=>(.app 136 136 139 2 24 (.agg #[(.string ⟨#[]⟩),(.int .u64 0)]))
 |_=> .an
def eja:Nat->Value
 |0=>(.int .i64 0)
 |1=>(.bool false)
 |2=>(.map none)
 |3=>(.slice none 0 0)
 |4=>(.int .u64 0)
 |5=>(.int .i64 11)
 |_=>undef
def yA:dk:=⟨b7a,Z2,eja⟩
def TW:ai:=⟨[0,1,4,5,6,7],20,[.slot 2,.slot 3],aW yA [] 0x2ce6ffda6764050d0102a5cee289c71a6765664420c5566442084991083991082cb8cc2c41074d3c001034f0007c0059da6764810d2002⟩
theorem Oc:aj U0 123 400=some TW:=by kernel_rfl
def TX:ai:=⟨[0,1,2],13,[],aW yA [] 0x2973b8a269853d0b8cc3c41074d3c001034f0007c005⟩
theorem Od:aj U0 124 400=some TX:=by kernel_rfl
def l74:ai:=⟨[0,2],9,[.slot 1],aW yA [] 0xe6ffdc71cdd553257c195f064001c153257c195f064001fc1bc1a7dd20c1⟩
theorem VN:aj U0 74 400=some l74:=by kernel_rfl
def Uh:ai:=⟨[0,2],9,[.slot 1],aW yA [] 0xe6ffdc71cdd553257c195f06400e8153257c195f06400ebc1bc1a7dd20c1⟩
theorem OD:aj U0 148 400=some Uh:=by kernel_rfl
def Ui:ai:=⟨[0,2],8,[.slot 1],aW yA [] 0xb39bff8a2df8054f331d31a8bc0b2fff748305c6d5f3e63cfa7dd20c1⟩
theorem OE:aj U0 149 400=some Ui:=by kernel_rfl
def T6:ai:=⟨[0,1,4,5],12,[.slot 2,.slot 3],aW yA [] 0x2ce6ffdc699d9200357d05000b042f414002c1a2f02cbff699d9214348409c6d553c401281614f1004afda6764800d2102⟩
theorem Oh:aj U0 128 400=some T6:=by kernel_rfl
theorem FC (p:Nat) (c:Array Value) (t:TypeId) (m:Nat) (ks:List (List UInt8)) (n:Nat) (x:List UInt8) (w0 w:World) (A:al) (hc:c[0]?=some (.map (some m))) (hx:x.length<=1048576)
  (s:St w0 (A*pt p (.cells c t (0,0))*pt m (.map (gl ks) n)) w):
  ak Tryz.prog 123 [.pointer (some ⟨p,0,none⟩),.string (mk x)] (λr w'=>r= .tuple #[.int .i64 (Ni (gU x) ks),.bool (tI (gU x) ks)]/\St w0 (A*pt p (.cells c t (0,0))*pt m (.map (gl ks) n)) w') w:=by
 refine aE Oc (by simp [TW]) ?_;simp [TW];refine kG (λvs w=>match vs with
  | []=>St w0 (A*pt p (.cells c t (0,0))*pt m (.map (gl ks) n)) w
  |r::_=>r= .string (mk (gU x))/\St w0 (A*pt p (.cells c t (0,0))*pt m (.map (gl ks) n)) w) s.drew ?_
 have base:∀{vs':List Value} {w:World},(match vs' with
  | []=>St w0 (A*pt p (.cells c t (0,0))*pt m (.map (gl ks) n)) w
  |r::_=>r= .string (mk (gU x))/\St w0 (A*pt p (.cells c t (0,0))*pt m (.map (gl ks) n)) w)->St w0 (A*pt p (.cells c t (0,0))*pt m (.map (gl ks) n)) w:=by
  intro vs' w h;cases vs' with
  |nil=>exact h
  |cons r l=>exact h.2
 simp;refine au (v:= .map (some m)) (λvs' w _ hw=>by rw [cell_of (base hw).drop.look];exact hc) ?_;simp;refine bG rfl (λw hw=>ad ((wP x w0 w _ hx hw).mono λr w' h=>h)) (λr hr=> ?_);obtain ⟨_,rfl,_⟩:=hr;simp;refine IE dca (λvs' w _ hw=>(base hw).look) ?_;simp
theorem Ff (p:Nat) (c:Array Value) (t:TypeId) (m:Nat) (ks:List (List UInt8)) (x:List UInt8) (w0 w:World) (A:al) (hc:c[0]?=some (.map (some m))) (hx:x.length<=1048576) (hn:jv (gU x) ks 0=none)
  (s:St w0 (A*pt p (.cells c t (0,0))*pt m (.map (gl ks) ks.length)) w):
  ak Tryz.prog 124 [.pointer (some ⟨p,0,none⟩),.string (mk x),.int .i64 (ks.length:Int)] (λr w'=>St w0 (A*pt p (.cells c t (0,0))*pt m (.map (gl (ks++ [gU x])) (ks++ [gU x]).length)) w') w:=by
 refine aE Od (by simp [TX]) ?_;simp [TX];refine kG (λvs w=>match vs with
  | []=>St w0 (A*pt p (.cells c t (0,0))*pt m (.map (gl ks) ks.length)) w
  | [r]=>r= .string (mk (gU x))/\St w0 (A*pt p (.cells c t (0,0))*pt m (.map (gl ks) ks.length)) w
  |_=>St w0 (A*pt p (.cells c t (0,0))*pt m (.map (gl (ks++ [gU x])) (ks++ [gU x]).length)) w) s.drew ?_
 simp;refine au (v:= .map (some m)) (λvs' w he hw=> ?_) ?_
 ·match vs',hw with
  | [],hw=>rw [cell_of (St.drop hw).look];exact hc
  | [_],hw=>rw [cell_of (St.drop hw.2).look];exact hc
  |_::_::_,hw=>simp [era] at he
 simp;refine bG rfl (λw hw=>ad ((wP x w0 w _ hx hw).mono λr w' h=>h)) (λr hr=> ?_);obtain ⟨_,rfl,_⟩:=hr;simp;refine bG rfl (λw hw=>NO dca hw.2 hn λw' h=>by simpa using h) (λr hr=> ?_);simp
theorem lD (a b:Int) (w:World) (ha:0<=a/\a<18446744073709551616) (hb:0<=b/\b<18446744073709551616):ak Tryz.prog 128 [.int .u64 a,.int .u64 b] (λr w'=>r= .tuple #[.int .u64 (if a<b then 0 else a -b),.int .i64 (if a<b then 11 else 0)]/\w'=w) w:=by
 refine aE Oh (by simp [T6]) ?_;simp [T6];refine aN (λh=> ?_) (λh=> ?_)
 ·simp at h
  simp [h]
 ·simp at h
  simp
  try simp (disch:=omega) only [bB]
  exact ⟨by rw [if_neg (by omega)],by omega⟩
def KM:Value->Value
 | .slice a n _=> .slice a n n
 |v=>v
theorem jT {w0 w:World} {A:al} {e size n:Nat} {v:Value} {xs:List Value} (s:St w0 (A*own e size v n xs) w):St w0 (A*own e size (KM v) n xs) w:=by
 rcases s.own with ⟨hl,⟨rfl,rfl,rfl,s'⟩|⟨g,cap,cur,rfl,h1,h2,h3,h4,s'⟩⟩
 ·exact s
 ·exact s'.qe (Nat.le_refl n) (Nat.le_trans h1 h2) (Nat.le_trans (Nat.mul_le_mul_right _ h1) h3) h4
theorem add_zero:(λx:Addr=>x.add 0)=id:=by funext x;cases x;rfl
theorem tW (v:Value) (n:Nat) (xs:List Value) (e:Nat) (w0 w:World) (A:al) (hn:n<=1048576) (s:St w0 (A*own e 1 v n xs) w):
  ak Tryz.prog 74 [v] (λr w'=>St w0 (A*own e 1 r n xs) w') w:=by
 obtain ⟨a,cap,rfl,hc,_⟩:=s.ay;refine aE VN (by simp [l74]) ?_;simp [l74,add_zero];exact ⟨hc,jT s⟩
theorem E3 (v:Value) (n:Nat) (xs:List Value) (e:Nat) (w0 w:World) (A:al) (hn:n<=1048576) (s:St w0 (A*own e 2 v n xs) w):
  ak Tryz.prog 148 [v] (λr w'=>St w0 (A*own e 2 r n xs) w') w:=by
 obtain ⟨a,cap,rfl,hc,_⟩:=s.ay;refine aE OD (by simp [Uh]) ?_;simp [Uh,add_zero];exact ⟨hc,jT s⟩
theorem E6 (v:Value) (rows:List Ac) (w0 w:World) (A:al) (hl:rows.length<=1048576) (s:St w0 (A*own 139 2 v rows.length (flat rows)) w):
  ak Tryz.prog 149 [v] (λr w'=>St w0 (A*own 139 2 v rows.length (flat rows)*own 139 2 r rows.length (flat rows)) w') w:=by
 obtain ⟨a,cap,rfl,hcap,_⟩:=s.ay;refine aE OE (by simp [Ui]) ?_;simp [Ui];cases a with
 |none=>
  simp;rcases s.own.2 with ⟨h,h0,_⟩|⟨_,_,_,h,_⟩
  ·have hi:rows= []:=List.eq_nil_of_length_eq_zero h0
   subst hi;exact s.aG _ _
  ·cases h
 |some a=>
  simp;refine pC s ?_;intro v0 w1 s1;simp;have hr:Row w0 (A*own 139 2 (.slice (some a) rows.length cap) rows.length (flat rows)*own 139 2 v0 0 []) (.slice (some a) rows.length cap) rows.length 2 (flat rows):=(bQ s).mono λw s=>s.drop;refine gD s1 hr (La _) (by decide) rfl (by unfold maxLen;omega) (by omega) ?_;intro v' w2 s2;simp
  simpa using s2
structure Bd (P:Ps):Prop where
 ab:∀i,i<P.rows.length->0<=(P.rows.getD i ⟨[],0⟩).ab/\(P.rows.getD i ⟨[],0⟩).ab<=4611686018427387904
 held:0<=P.held/\P.held<=4611686018427387904
 sup:0<=P.sup/\P.sup<=4611686018427387904
 len:P.rows.length<=64
def bR (l:List Ac) (i:Nat):Int:=(l.getD i ⟨[],0⟩).ab
def bM (l:List Ac) (i:Nat) (c:Int):List Ac:=l.set i ⟨(l.getD i ⟨[],0⟩).name,c⟩
theorem dy {l:List Ac} {i:Nat} (h:i<l.length):bR l i=l[i].ab:=by simp [bR,h]
theorem Bn {l:List Ac} {i:Nat} (h:i<l.length) (c:Int):(flat l).set (i*2+1) (.int .u64 c)=flat (bM l i c):=by rw [IW h];simp [bM,h]
theorem aC (l:List Ac) (i:Nat) (c:Int):(bM l i c).length=l.length:=by simp [bM]
theorem ll (l:List Ac) (i:Nat) (c:Int):keys (bM l i c)=keys l:=by
 unfold keys bM;rw [List.map_set]
 by_cases h:i<l.length
 ·have e:gU (l.getD i ⟨[],0⟩).name=(l.map λx=>gU x.name)[i]'(by simpa using h):=by simp [h]
  show (l.map λx=>gU x.name).set i (gU (l.getD i ⟨[],0⟩).name)=_;rw [e];exact List.set_getElem_self _
 ·rw [List.set_eq_of_length_le (by simp;omega)]
def dz (l:List Ac) (n:Int):Int:=if 0<=n/\n<l.length then 0 else 142
def b8a:Nat->PO
 |0=>(.eqNil false (.pointer 195) (.pointer none))
 |1=>(.bin .lss)
 |2=> .chkp
 |3=>(.fld 2)
 |4=> .lenL
 |5=>(.bin .geq)
 |6=>(.ext 0)
 |7=>(.ext 1)
 |8=>(.bin .neq)
 |9=>(.fld 0)
 |10=>(.fld 1)
 |11=>(.bin .eql)
 |12=>(.build #[(.string ⟨#[]⟩),(.int .u64 0)] [(0,1),(1,1)] [0])
 |13=>(.fld 3)
 |14=>(.bin .sub)
 |15=>(.bin .gtr)
 |16=>(.bin .add)
 |17=>(.idxL 2)
 |18=>(.fld 4)
 |19=>(.build #[(.string ⟨#[]⟩),(.int .u64 0)] [(0,1),(1,1)] [])
 |_=> .same
def Z3:Nat->EO
 |0=>(.ld false 1)
 |1=>(.call 122)
 |2=>(.call 123)
 |3=>(.bsl 139 1 2 #[(.string ⟨#[]⟩),(.int .u64 0)] [0])
 |4=>(.app 136 136 139 2 24 (.agg #[(.string ⟨#[]⟩),(.int .u64 0)]))
 |5=>(.st 1)
 |6=>(.call 124)
 |7=>(.call 125)
 |8=>(.bi .max #[47,47] 47 #[false,false])
 |9=>(.call 128)
 |10=>(.new 139 (.agg #[(.string ⟨#[]⟩),(.int .u64 0)]))
 |11=>(.st 2)
 |12=>(.ld true 2)
 |_=> .an
def eka:Nat->Value
 |0=>(.int .i64 0)
 |1=>(.int .i64 1)
 |2=>(.tuple #[])
 |3=>(.bool true)
 |4=>(.int .i64 142)
 |5=>(.int .i64 140)
 |6=>(.int .i64 141)
 |7=>(.int .u64 0)
 |8=>(.int .i64 2)
 |9=>(.int .u64 4611686018427387904)
 |10=>(.int .i64 144)
 |11=>(.int .i64 234)
 |12=>(.int .i64 143)
 |_=>undef
def vS:dk:=⟨b8a,Z3,eka⟩
def TY:ai:=⟨[0,1,4],18,[.slot 2],aW vS [] 0xe79bffdd2002a2f02cbffdd210272375d91f6d20d8ce271c7db572566e04592090073158cf2566e04592090073166e04996482574f020f3033d3c083cfc0b3575010041d40401068bc0b2fff748109c6d5f0063c027dd2002⟩
theorem Oe:aj U0 125 400=some TY:=by kernel_rfl
def l60:ai:=⟨[0,1,4,5,7,9,10],59,[.slot 2,.slot 3],aW vS [] 0xb39e79e79bff699d920034060a773b69853d190055d3c0be1b4f02fbc0a773bee273b698c91095d3c083174f020fc0b2e33134c413010f104c074d3c083034f020fc0a8bc0b2ffda6764860d200273b71b572cd018b058cb34062c1d34f02281034f02281f029dcedcdd59b31069b3134d3c083034f020fc0a8bc0b2ffda6764850d20026d01589dcedc737566cc7166cc79b31bd055d3c0be0b4f02fbc0a8bc0b2ffda6764040d200271b57501013a63501013a9e271cdd59b31c49b31e6cc6c41068bc0b2ffda6764810d200271b57c018f009da6764800d2002⟩
theorem Vz:aj U0 60 400=some l60:=by kernel_rfl
def l61:ai:=⟨[0,1,2,6,7],43,[.slot 3],aW vS [] 0x39e79e6fff74800e773b73b71ceda63257d0b8202574f41cc908a045d3d073242281f41cc90bd0b8202d34f41cc908a040d3d073242281f41cc90b4d3c083034f020fc0a773b71ceda63257d0b3202574f02341174f02341f02f42cc80b4d3c08d040d3c08d07c0a8bc0b2fff748a04373b71c6d5c95cb34be3814023c1632572cd2f8e05008f072cd2f8e074d3c08d040d3c08d07c0a8bc0b2fff74ba0dc6d5d474022c16351d008b068bc0b2fff74040dc6d5d40404e98d40404ea78b7cc4f414001e7dd2003⟩
theorem VA:aj U0 61 400=some l61:=by kernel_rfl
def l64:ai:=⟨[0,1,2,3,8,9,10,11],62,[.slot 4],aW vS [] 0xe79e79e6fff748012773b73b71ceda63257d0f8202574f42cc908a045d3d0b3242281f42cc90bd0f8202d34f42cc908a040d3d0b3242281f42cc90b4d3c083034f020fc0a773b73b698f46574f41cc908a045d3d073242281f41cc90b4d3c083034f020fc0a8bc0b2fff748c04471b5750101fa6350101fa9dcedcee271c699d959910871d59910861a64421e64421bd0f8fb4d3d073242281034f41cc908a07d073242d34f020c0d3c083f02a2f02cbffdd2e8471b5751d00cb058d474032c1a2f02cbffdd22c111c6d5f424012c163d09004b068bc0b2fff740511c6d5d40405e98d40405ea78a28b7442172e33ebd090007f414001e7dd2004⟩
theorem VD:aj U0 64 400=some l64:=by kernel_rfl
def U4:ai:=⟨[0,1,2,6,7,8,9],47,[.slot 3],aW vS [] 0xe79e79bffdd20039dcedc73b698c95f42cc8095d3c08a085d3c08a0bc0bd0b3202d34f02282034f02282f029dcedceda63d155d3d073242281174f41cc908a07d073242d34f020c0d3c083f02a2f02cbffdd23010dc6d5d40406e98d40406ea773b73b89c71a6765664421c6566442185991087991086f42e3ed34f41cc908a040d3d073242281f41cc90b4d3c083034f020fc0a8bc0b2fff74040dc6d5d40404e98d40404ea78b7cc4f414001e7dd2003⟩
theorem P3:aj U0 307 400=some U4:=by kernel_rfl
def Vg:ai:=⟨[0,1,2,6,7,8,9],43,[.slot 3],aW vS [] 0xe79e79bffdd20039dcedcedc73b698c95f42e08095d3d073242281174f41cc908a07d073242f42e080b4d3d073242281034f41cc908a07d073242d34f020c0d3c083f029dceda63d155d3c08a085d3c08a0bc0a8bc0b2fff748c04371b5750101ba6350101ba9dcee271c699d959b81c6566e06166e079b81bd0b3fb4d3c08a080d3c08a0bc0a8bc0b2fff74040dc6d5d40404e98d40404ea78b7cc4f414001e7dd2003⟩
theorem Qn:aj U0 368 400=some Vg:=by kernel_rfl
def Up:ai:=⟨[0,1,4,5,6],21,[.cell 2 true 2,.slot 3],aW vS [] 0x39e6ffdcefb8b74800f2e1008b074f41cc908c07d073242d34f020c0d3c083f02a2f02cbffef74040f25532c24022c14cb09c6d5d40404e98d40404ea78b7cc4f414001e789a6764800f3093281⟩
theorem ON:aj U0 169 400=some Up:=by kernel_rfl
theorem bh (p:Nat) (P:Ps) (n:Int) (w0 w:World) (A:al) (s:St w0 (A*cr p P) w):
  ak Tryz.prog 125 [.pointer (some ⟨p,0,none⟩),.int .i64 n] (λr w'=>r= .int .i64 (dz P.rows n)/\St w0 (A*cr p P) w') w:=by
 refine aE Oe (by simp [TY]) ?_;simp [TY];obtain ⟨m,v,s1⟩:=mm s;obtain ⟨a,cap,rfl,_⟩:=s1.ay
 by_cases h:n<0
 ·simp [h]
  rw [dz,if_neg (by omega)];exact ⟨rfl,s⟩
 ·simp [h]
  refine af (v:= .slice a P.rows.length cap) (by rw [cell_of s1.drop.drop.look];rfl) ?_;simp;refine aN (λh2=> ?_) (λh2=> ?_)
  ·simp at h2
   simp;rw [dz,if_neg (by omega)];exact ⟨rfl,s⟩
  ·simp at h2
   simp;rw [dz,if_pos (by omega)];exact ⟨rfl,s⟩
theorem N6 (p:Nat) (P:Ps) (m:Nat) (v:Value) (x:List UInt8) (w0 w:World) (A:al) (hx:x.length<=1048576) (s:St w0 (A*qX p P m v*pX m P.rows) w):
  ak Tryz.prog 123 [.pointer (some ⟨p,0,none⟩),.string (mk x)] (λr w'=>r= .tuple #[.int .i64 (Ni (gU x) (keys P.rows)),.bool (tI (gU x) (keys P.rows))]/\St w0 (A*qX p P m v*pX m P.rows) w') w:=
 FC p _ _ m (keys P.rows) _ x w0 w A rfl hx s
theorem NS (p:Nat) (P:Ps) (m:Nat) (v:Value) (x:List UInt8) (l:List Ac) (w0 w:World) (A:al) (hx:x.length<=1048576) (hn:tI (gU x) (keys l)=false) (s:St w0 (A*qX p P m v*pX m l) w):
  ak Tryz.prog 124 [.pointer (some ⟨p,0,none⟩),.string (mk x),.int .i64 (l.length:Int)] (λr w'=>St w0 (A*qX p P m v*pX m (l++ [⟨x,0⟩])) w') w:=by
 have e1:((keys l).length:Int)=l.length:=by simp [keys]
 have e2:keys (l++ [⟨x,0⟩])=keys l++ [gU x]:=by simp [keys]
 rw [<-e1];show ak _ _ _ (λr w'=>St w0 (A*qX p P m v*pt m (.map (gl (keys (l++ [⟨x,0⟩]))) (keys (l++ [⟨x,0⟩])).length)) w') _;rw [e2];exact Ff p _ _ m (keys l) x w0 w A rfl hx (by simpa [tI] using hn) s
def bq (P:Ps) (x:List UInt8):Int×Int×Ps:=
 if (fN x).2=0 then
  if tI (gU x) (keys P.rows)=true then (0,140,P)
  else if (P.rows.length:Int)=P.lim then (0,141,P)
  else ((P.rows.length:Int),0,{P with rows:=P.rows++ [⟨x,0⟩]})
 else (0,(fN x).2,P)
theorem wT (p:Nat) (P:Ps) (x:List UInt8) (w0 w:World) (A:al) (hx:x.length<=1048576) (hl:P.rows.length<=1048576) (s:St w0 (A*cr p P) w):
  ak Tryz.prog 60 [.pointer (some ⟨p,0,none⟩),.string (mk x)] (λr w'=>r= .tuple #[.int .i64 (bq P x).1,.int .i64 (bq P x).2.1]/\St w0 (A*cr p (bq P x).2.2) w') w:=by
 refine aE Vz (by simp [l60]) ?_;simp [l60];refine ad ((EY x w0 w _ hx s).mono ?_);rintro r w1 ⟨rfl,s⟩;simp;refine aN (λh=> ?_) (λh=> ?_)
 ·simp at h
  simp [bq,h];exact s
 simp at h;simp;obtain ⟨m,v,s1⟩:=mm s;refine ad ((N6 p P m v x w0 w1 (A*own 139 2 v P.rows.length (flat P.rows)) hx (s1.to (by ac_rfl))).mono ?_);rintro r w2 ⟨rfl,s2⟩;simp;have s3:=s2.to (B:=A*qX p P m v*pX m P.rows*own 139 2 v P.rows.length (flat P.rows)) (by ac_rfl);clear s s1 s2;refine aN (λh2=> ?_) (λh2=> ?_)
 ·simp [bq,h,h2]
  exact iw s3
 simp;obtain ⟨a,cap,rfl,_⟩:=s3.ay;refine af (v:= .slice a P.rows.length cap) (by rw [cell_of s3.drop.drop.look];rfl) ?_;simp;refine af (v:= .int .i64 P.lim) (by rw [cell_of s3.drop.drop.look];rfl) ?_;simp;refine aN (λh3=> ?_) (λh3=> ?_)
 ·simp at h3
  simp [bq,h,h2,h3];exact iw s3
 simp at h3;simp;refine af (v:= .slice a P.rows.length cap) (by rw [cell_of s3.drop.drop.look];rfl) ?_;simp [Instr.fill,Value.cells];refine cx s3 rfl ?_;intro c w3 s4;simp;refine bE (m:=1) (news:=Ac.cs ⟨x,0⟩) (s4.to (B:=A*qX p P m (.slice a P.rows.length cap)*pX m P.rows*pt c (.cells (Ac.cs ⟨x,0⟩).toArray 139 (0,0))*own 139 2 (.slice a P.rows.length cap) P.rows.length (flat P.rows)) (by ac_rfl)) rfl s4.aJ (cN _) (by decide) rfl (by unfold maxLen;omega) (by omega) ?_;intro v2 w4 s5;simp;have hv2:=s5.ay;obtain ⟨a2,cap2,rfl,_⟩:=hv2;refine bj (s5.to (B:=A*pX m P.rows*pt c (.cells (Ac.cs ⟨x,0⟩).toArray 139 (0,0))*own 139 2 (.slice a2 (P.rows.length+1) cap2) (P.rows.length+1) (flat P.rows++Ac.cs ⟨x,0⟩)*qX p P m (.slice a P.rows.length cap)) (by ac_rfl)) rfl (by simp) ?_;intro w5 s6;simp at s6;simp
 have s6:St w0 (A*pX m P.rows*pt c (.cells (Ac.cs ⟨x,0⟩).toArray 139 (0,0))*own 139 2 (.slice a2 (P.rows.length+1) cap2) (P.rows.length+1) (flat P.rows++Ac.cs ⟨x,0⟩)*qX p P m (.slice a2 (P.rows.length+1) cap2)) w5:=s6;refine ad ((NS p P m (.slice a2 (P.rows.length+1) cap2) x P.rows w0 w5 (A*own 139 2 (.slice a2 (P.rows.length+1) cap2) (P.rows.length+1) (flat P.rows++Ac.cs ⟨x,0⟩)) hx h2 (St.cut (pt c (.cells (Ac.cs ⟨x,0⟩).toArray 139 (0,0))) s6 (by ac_rfl))).mono ?_);intro r w6 s7;simp [bq,h,h2,h3];refine iw (m:=m) (v:= .slice a2 (P.rows.length+1) cap2) ?_;have e:flat (P.rows++ [⟨x,0⟩])=flat P.rows++Ac.cs ⟨x,0⟩:=by simp [flat]
 show St w0 (A*qX p P m (.slice a2 (P.rows.length+1) cap2)*pX m (P.rows++ [(⟨x,0⟩:Ac)])*own 139 2 (.slice a2 (P.rows.length+1) cap2) (P.rows++ [(⟨x,0⟩:Ac)]).length (flat (P.rows++ [⟨x,0⟩]))) w6;rw [e,List.length_append];exact s7.to (by ac_rfl)
theorem jk {l:List Ac} {n:Int} (h:dz l n=0):∃i:Nat,n=i/\i<l.length:=by
 unfold dz at h;split at h
 ·exact ⟨n.toNat,by omega,by omega⟩
 ·cases h
theorem ny (l:List Ac) (n:Int):dz l n=0\/dz l n=142:=by unfold dz;split<;>simp
def cQ (P:Ps) (n c:Int):Int×Ps:=
 if dz P.rows n=0 then
  if c=0 then (2,P) else if 4611686018427387904 -P.sup<c then (144,P)
  else (0,{P with sup:=P.sup+c,rows:=bM P.rows n.toNat (bR P.rows n.toNat+c)})
 else (142,P)
theorem Ie (p:Nat) (P:Ps) (n c:Int) (w0 w:World) (A:al) (hP:Bd P) (hc:0<=c/\c<18446744073709551616) (s:St w0 (A*cr p P) w):
  ak Tryz.prog 61 [.pointer (some ⟨p,0,none⟩),.int .i64 n,.int .u64 c] (λr w'=>r= .int .i64 (cQ P n c).1/\St w0 (A*cr p (cQ P n c).2) w') w:=by
 refine aE VA (by simp [l61]) ?_;simp [l61];have hs:=hP.sup;have hlen:=hP.len;refine ad ((bh p P n w0 w A s).mono ?_);rintro r w1 ⟨rfl,s⟩;simp;refine aN (λh=> ?_) (λh=> ?_)
 ·simp at h
  have h142:=(ny P.rows n).resolve_left h;simp [cQ,h142];exact s
 simp at h;obtain ⟨i,rfl,hi⟩:=jk h;simp;refine aN (λh1=> ?_) (λh1=> ?_)
 ·simp at h1
  simp [cQ,h,h1];exact s
 simp at h1;simp;obtain ⟨m,v,s1⟩:=mm s;refine af (v:= .int .u64 P.sup) (by rw [cell_of s1.drop.drop.look];rfl) ?_;simp
 try simp (disch:=omega) only [bB]
 refine aN (λh2=> ?_) (λh2=> ?_)
 ·simp at h2
  simp [cQ,h,h1,h2];exact s
 simp at h2;simp;refine af (v:= .int .u64 P.sup) (by rw [cell_of s1.drop.drop.look];rfl) ?_;simp
 try simp (disch:=omega) only [bB]
 refine bj (s1.to (B:=A*pX m P.rows*own 139 2 v P.rows.length (flat P.rows)*qX p P m v) (by ac_rfl)) rfl (by simp) ?_;intro w2 s2;simp at s2;simp;obtain ⟨g,cap,hv,hcap,_⟩:=s1.aU (by omega);subst hv;have hco:=hP.ab i hi;have hci:(P.rows.getD i ⟨[],0⟩).ab=bR P.rows i:=rfl;rw [hci] at hco;refine af (v:= .slice (some ⟨g,0,none⟩) P.rows.length cap) (by rw [cell_of s2.look];rfl) ?_;simp [hi];have s3:=s2.to (B:=A*pX m P.rows*qX p {P with sup:=P.sup+c} m (.slice (some ⟨g,0,none⟩) P.rows.length cap)*own 139 2 (.slice (some ⟨g,0,none⟩) P.rows.length cap) P.rows.length (flat P.rows)) (by ac_rfl);obtain ⟨g',cap',hv,_,hcell⟩:=s3.aU (by omega);cases hv;refine af (v:= .int .u64 (bR P.rows i)) (by rw [hcell _ _ (j0 hi),dy hi]) ?_;simp [hi]
 try simp (disch:=omega) only [bB]
 have hfl:=iZ P.rows;refine cH (u:= .int .u64 (bR P.rows i+c)) s3 (by omega) rfl ?_;intro w3 s4;rw [Bn hi] at s4;simp [cQ,h,h1];rw [if_neg (by omega)];refine ⟨rfl,iw (m:=m) (v:= .slice (some ⟨g,0,none⟩) P.rows.length cap) ?_⟩;rw [pX,ll,aC];exact s4.to (by ac_rfl)
theorem pD {P:Program} {K:Value->World->Prop} {w:World} {ats:Array TypeId} {ty:TypeId} {cs:Array Bool} {k:IntKind} {a b:Int} (hk:K (.int k (if b>a then b else a)) w):aI P (.bi .max ats ty cs) [.int k a,.int k b] K w:=by intro _;show gC P (dU (Builtin.max_ ats ty #[.int k a,.int k b])) K w;refine bm (v:= .int k (if b>a then b else a)) (w':=w) ?_ hk;simp [Builtin.max_,Builtin.max2]
theorem eL {P:Ps} (hP:Bd P) {i:Nat} (h:i<P.rows.length):0<=bR P.rows i/\bR P.rows i<=4611686018427387904:=hP.ab i h
theorem pq {l:List Ac} {i j:Nat} (h:i<l.length) (c:Int):bR (bM l i c) j=if j=i then c else bR l j:=by
 unfold bR bM
 by_cases e:j=i
 ·subst e;simp [h]
 ·rw [if_neg e]
  simp [List.getElem?_set_ne (Ne.symm e)]
theorem tB {w0 w:World} {A:al} {p m g cap i:Nat} {P:Ps} {c:Int} {l:List Ac} (hi:i<l.length)
  (s:St w0 (A*own 139 2 (.slice (some ⟨g,0,none⟩) l.length cap) l.length (flat l)) w) {K:Value->World->Prop}
  (hk:∀w',St w0 (A*own 139 2 (.slice (some ⟨g,0,none⟩) (bM l i c).length cap) (bM l i c).length (flat (bM l i c))) w'->K undef w'):
  aI Tryz.prog (.st 1) [.pointer (some ⟨g,i*2+1,none⟩),.int .u64 c] K w:=by
 have hfl:=iZ l;refine cH (u:= .int .u64 c) s (by omega) rfl ?_;intro w3 s4;rw [Bn hi] at s4;refine hk w3 ?_;rw [aC];exact s4
def fg (P:Ps) (a b c:Int):Int×Ps:=
 if dz P.rows a=0/\dz P.rows b=0 then
  if a=b then (234,P) else if c=0 then (2,P) else if bR P.rows a.toNat<c then (143,P)
  else (0,{P with rows:=bM (bM P.rows a.toNat (bR P.rows a.toNat -c)) b.toNat (bR P.rows b.toNat+c)})
 else (142,P)
theorem Ki (p:Nat) (P:Ps) (a b c:Int) (w0 w:World) (A:al) (hP:Bd P) (hc:0<=c/\c<18446744073709551616) (s:St w0 (A*cr p P) w):
  ak Tryz.prog 64 [.pointer (some ⟨p,0,none⟩),.int .i64 a,.int .i64 b,.int .u64 c] (λr w'=>r= .int .i64 (fg P a b c).1/\St w0 (A*cr p (fg P a b c).2) w') w:=by
 refine aE VD (by simp [l64]) ?_;simp [l64];have hlen:=hP.len;refine ad ((bh p P a w0 w A s).mono ?_);rintro r w1 ⟨rfl,s⟩;simp;refine ad ((bh p P b w0 w1 A s).mono ?_);rintro r w2 ⟨rfl,s⟩;simp;refine pD ?_;simp;have hor1:=ny P.rows a;have hor2:=ny P.rows b
 by_cases hab:dz P.rows a=0/\dz P.rows b=0
 ·obtain ⟨ha,hb⟩:=hab
  obtain ⟨i,rfl,hi⟩:=jk ha;obtain ⟨j,rfl,hj⟩:=jk hb;simp [ha,hb];refine aN (λh=> ?_) (λh=> ?_)
  ·simp at h
   simp [fg,ha,hb,h];exact s
  simp at h;simp;refine aN (λh1=> ?_) (λh1=> ?_)
  ·simp at h1
   simp [fg,ha,hb,h,h1];exact s
  simp at h1;simp;obtain ⟨m,v,s1⟩:=mm s;clear s;obtain ⟨g,gcap,hv,hcap,hcell⟩:=s1.aU (by omega);subst hv;refine af (v:= .slice (some ⟨g,0,none⟩) P.rows.length gcap) (by rw [cell_of s1.drop.drop.look];rfl) ?_;simp [hi];have hci:=eL hP hi;have hcj:=eL hP hj;refine af (v:= .int .u64 (bR P.rows i)) (by rw [hcell _ _ (j0 hi),dy hi]) ?_;simp;refine ad ((lD (bR P.rows i) c w2 (by omega) hc).mono ?_);rintro r w3 ⟨rfl,rfl⟩;simp;refine aN (λh2=> ?_) (λh2=> ?_)
  ·simp at h2
   simp [fg,ha,hb,h,h1,h2];exact iw s1
  simp at h2;simp [h2];refine af (v:= .slice (some ⟨g,0,none⟩) P.rows.length gcap) (by rw [cell_of s1.drop.drop.look];rfl) ?_;simp [hi];rw [if_neg (by omega)];refine tB (p:=p) (m:=m) (P:=P) hi s1 ?_;intro w4 s2;simp;refine af (v:= .slice (some ⟨g,0,none⟩) P.rows.length gcap) (by rw [cell_of s2.drop.drop.look];rfl) ?_;simp [hj];obtain ⟨g',gcap',hv,_,hcell2⟩:=s2.aU (by rw [aC];omega);cases hv;have hj2:j<(bM P.rows i (bR P.rows i -c)).length:=by rw [aC];exact hj
  refine af (v:= .int .u64 (bR P.rows j)) (by rw [hcell2 _ _ (j0 hj2),<-dy hj2,pq hi,if_neg (by omega)]) ?_;simp [hj]
  try simp (disch:=omega) only [bB]
  refine tB (p:=p) (m:=m) (P:=P) hj2 s2 ?_;intro w5 s3;simp [fg,ha,hb,h,h1];rw [if_neg (by omega)];refine ⟨rfl,iw (m:=m) (v:= .slice (some ⟨g,0,none⟩) P.rows.length gcap) ?_⟩;rw [pX,ll,ll,aC,aC];rw [aC,aC] at s3;exact s3
 ·have hmax:(if dz P.rows b>dz P.rows a then dz P.rows b else dz P.rows a)=142:=by rcases hor1 with h1|h1<;>rcases hor2 with h2|h2<;>simp [h1,h2] at hab⊢
  simp only [gt_iff_lt] at hmax;simp [hmax];simp [fg,hab];exact s
def bz (P:Ps) (n c:Int):Int×Ps:=
 if dz P.rows n=0 then
  if bR P.rows n.toNat<c then (143,P)
  else (0,{P with held:=P.held+c,rows:=bM P.rows n.toNat (bR P.rows n.toNat -c)})
 else (142,P)
theorem wU (p:Nat) (P:Ps) (n c:Int) (w0 w:World) (A:al) (hP:Bd P) (hc:0<=c/\c<18446744073709551616) (s:St w0 (A*cr p P) w):
  ak Tryz.prog 307 [.pointer (some ⟨p,0,none⟩),.int .i64 n,.int .u64 c] (λr w'=>r= .int .i64 (bz P n c).1/\St w0 (A*cr p (bz P n c).2) w') w:=by
 refine aE P3 (by simp [U4]) ?_;simp [U4];have hlen:=hP.len;have hh:=hP.held;refine ad ((bh p P n w0 w A s).mono ?_);rintro r w1 ⟨rfl,s⟩;simp;refine aN (λh=> ?_) (λh=> ?_)
 ·simp at h
  have h142:=(ny P.rows n).resolve_left h;simp [bz,h142];exact s
 simp at h;obtain ⟨i,rfl,hi⟩:=jk h;simp;obtain ⟨m,v,s1⟩:=mm s;clear s;obtain ⟨g,gcap,hv,hcap,hcell⟩:=s1.aU (by omega);subst hv;refine af (v:= .slice (some ⟨g,0,none⟩) P.rows.length gcap) (by rw [cell_of s1.drop.drop.look];rfl) ?_;simp [hi];have hci:=eL hP hi;refine af (v:= .int .u64 (bR P.rows i)) (by rw [hcell _ _ (j0 hi),dy hi]) ?_;simp;refine ad ((lD (bR P.rows i) c w1 (by omega) hc).mono ?_);rintro r w3 ⟨rfl,rfl⟩;simp;refine aN (λh2=> ?_) (λh2=> ?_)
 ·simp at h2
  simp [bz,h,h2];exact iw s1
 simp at h2;simp [h2];refine af (v:= .slice (some ⟨g,0,none⟩) P.rows.length gcap) (by rw [cell_of s1.drop.drop.look];rfl) ?_;simp [hi];rw [if_neg (by omega)];refine tB (p:=p) (m:=m) (P:=P) hi s1 ?_;intro w4 s2;simp;refine af (v:= .int .u64 P.held) (by rw [cell_of s2.drop.drop.look];rfl) ?_;simp
 try simp (disch:=omega) only [bB]
 refine bj (s2.to (B:=A*pX m P.rows*own 139 2 (.slice (some ⟨g,0,none⟩) (bM P.rows i (bR P.rows i -c)).length gcap) (bM P.rows i (bR P.rows i -c)).length (flat (bM P.rows i (bR P.rows i -c)))*qX p P m (.slice (some ⟨g,0,none⟩) P.rows.length gcap)) (by ac_rfl)) rfl (by simp) ?_;intro w5 s3;simp at s3;simp [bz,h];rw [if_neg (by omega)];refine ⟨rfl,iw (m:=m) (v:= .slice (some ⟨g,0,none⟩) P.rows.length gcap) ?_⟩;rw [pX,ll];rw [aC] at s3⊢;exact s3.to (by ac_rfl)
def aP (P:Ps) (n c:Int):Int×Ps:=
 if dz P.rows n=0 then
  if P.held<c then (143,P)
  else (0,{P with held:=P.held -c,rows:=bM P.rows n.toNat (bR P.rows n.toNat+c)})
 else (142,P)
theorem pb (p:Nat) (P:Ps) (n c:Int) (w0 w:World) (A:al) (hP:Bd P) (hc:0<=c/\c<18446744073709551616) (s:St w0 (A*cr p P) w):
  ak Tryz.prog 368 [.pointer (some ⟨p,0,none⟩),.int .i64 n,.int .u64 c] (λr w'=>r= .int .i64 (aP P n c).1/\St w0 (A*cr p (aP P n c).2) w') w:=by
 refine aE Qn (by simp [Vg]) ?_;simp [Vg];have hlen:=hP.len;have hh:=hP.held;refine ad ((bh p P n w0 w A s).mono ?_);rintro r w1 ⟨rfl,s⟩;simp;refine aN (λh=> ?_) (λh=> ?_)
 ·simp at h
  have h142:=(ny P.rows n).resolve_left h;simp [aP,h142];exact s
 simp at h;obtain ⟨i,rfl,hi⟩:=jk h;simp;obtain ⟨m,v,s1⟩:=mm s;clear s;have hci:=eL hP hi;refine af (v:= .int .u64 P.held) (by rw [cell_of s1.drop.drop.look];rfl) ?_;simp;refine ad ((lD P.held c w1 (by omega) hc).mono ?_);rintro r w3 ⟨rfl,rfl⟩;simp;refine aN (λh2=> ?_) (λh2=> ?_)
 ·simp at h2
  simp [aP,h,h2];exact iw s1
 simp at h2;simp [h2];rw [if_neg (by omega)];refine bj (s1.to (B:=A*pX m P.rows*own 139 2 v P.rows.length (flat P.rows)*qX p P m v) (by ac_rfl)) rfl (by simp) ?_;intro w4 s2;simp at s2;simp;obtain ⟨g,gcap,hv,hcap,hcell⟩:=s1.aU (by omega);subst hv;refine af (v:= .slice (some ⟨g,0,none⟩) P.rows.length gcap) (by rw [cell_of s2.look];rfl) ?_;simp [hi];have s3:=s2.to (B:=A*pX m P.rows*qX p {P with held:=P.held -c} m (.slice (some ⟨g,0,none⟩) P.rows.length gcap)*own 139 2 (.slice (some ⟨g,0,none⟩) P.rows.length gcap) P.rows.length (flat P.rows)) (by ac_rfl);obtain ⟨g',cap',hv,_,hcell⟩:=s3.aU (by omega);cases hv;refine af (v:= .int .u64 (bR P.rows i)) (by rw [hcell _ _ (j0 hi),dy hi]) ?_;simp [hi]
 try simp (disch:=omega) only [bB]
 refine tB (p:=p) (m:=m) (P:=P) hi s3 ?_;intro w5 s4;simp [aP,h,h2];rw [if_neg (by omega)];refine ⟨rfl,iw (m:=m) (v:= .slice (some ⟨g,0,none⟩) P.rows.length gcap) ?_⟩;rw [pX,ll];rw [aC] at s4⊢;exact s4.to (by ac_rfl)
def aA (P:Ps) (n:Int):Ac×Int:=if dz P.rows n=0 then (P.rows.getD n.toNat ⟨[],0⟩,0) else (⟨[],0⟩,142)
theorem fU (p:Nat) (P:Ps) (n:Int) (w0 w:World) (A:al) (hP:P.rows.length<=64) (s:St w0 (A*cr p P) w):
  ak Tryz.prog 169 [.pointer (some ⟨p,0,none⟩),.int .i64 n] (λr w'=>r= .tuple #[.agg (aA P n).1.cs.toArray,.int .i64 (aA P n).2]/\St w0 (A*cr p P) w') w:=by
 refine aE ON (by simp [Up]) ?_;simp [Up];refine bX s ?_;intro b w1 s1;simp;refine ad ((bh p P n w0 w1 (A*pt b (.cells (Ac.cs ⟨[],0⟩).toArray 139 (0,0))) (s1.to (by ac_rfl))).mono ?_);rintro r w2 ⟨rfl,s2⟩;simp;have s2':=s2.swap;refine aN (λh=> ?_) (λh=> ?_)
 ·simp at h
  simp [aA,h,Instr.fill,Value.cells];refine dg (vs:=Ac.cs ⟨[],0⟩) s2' rfl rfl (cN _) (by simp [Ac.cs]) ?_;intro w3 s3;simp;have s4:St w0 (A*cr p P*pt b (.cells (Ac.cs ⟨[],0⟩).toArray 139 (0,0))) w3:=by simpa [Ac.cs] using s3
  refine ar (vs:=Ac.cs ⟨[],0⟩) rfl s4.ah rfl ?_;simp;refine ⟨?_,s4.drop⟩;exact (ny P.rows n).resolve_left h
 simp at h;simp;obtain ⟨i,rfl,hi⟩:=jk h;obtain ⟨m,v,s3⟩:=mm s2;obtain ⟨g,gcap,hv,hcap,hcell⟩:=s3.aU (by omega);subst hv;refine af (v:= .slice (some ⟨g,0,none⟩) P.rows.length gcap) (by rw [cell_of s3.drop.drop.look];rfl) ?_;simp [hi];refine aB (vs:=P.rows[i].cs) (λj u hu=>hcell _ _ (gH hi j u hu)) rfl ?_;simp;have hg:aA P (i:Int)=(P.rows[i],0):=by simp [aA,h,hi]
 refine dg (vs:=P.rows[i].cs) s2' rfl rfl (cN _) (by simp [Ac.cs]) ?_;intro w3 s3;simp [hg];have s4:St w0 (A*cr p P*pt b (.cells P.rows[i].cs.toArray 139 (0,0))) w3:=by simpa [Ac.cs] using s3
 refine ar (vs:=P.rows[i].cs) rfl s4.ah rfl ?_;simp;exact s4.drop
def b9a:Nat->PO
 |0=>(.eqNil false (.pointer 195) (.pointer none))
 |1=> .chkp
 |2=>(.fld 0)
 |3=>(.ext 0)
 |4=>(.ext 1)
 |5=>(.fld 2)
 |6=> .lenL
 |7=>(.bin .lss)
 |8=>(.idxL 2)
 |9=>(.bin .eql)
 |10=>(.bin .add)
 |11=>(.fld 3)
 |12=>(.fld 4)
 |_=> .same
def Z4:Nat->EO
 |0=>(.call 123)
 |1=>(.call 241)
 |2=>(.ld false 1)
 |3=>(.ld true 2)
 |4=>(.new 139 (.agg #[(.string ⟨#[]⟩),(.int .u64 0)]))
 |5=>(.st 2)
 |6=>(.bsl 3 1 1 #[(.int .i64 0)] [0])
 |7=>(.app 32 32 3 1 8 (.int .i64 0))
 |8=>(.call 74)
 |9=>(.call 149)
 |10=>(.call 148)
 |11=>(.ld true 5)
 |12=>(.new 195 (.agg #[(.map none),(.int .i64 0),(.slice none 0 0),(.int .u64 0),(.int .u64 0)]))
 |13=>(.st 5)
 |14=>(.st 1)
 |15=>(.call 156)
 |_=> .an
def ela:Nat->Value
 |0=>(.int .i64 0)
 |1=>(.bool false)
 |2=>(.slice none 0 0)
 |3=>(.int .i64 1)
 |4=>(.int .u64 0)
 |5=>(.pointer none)
 |_=>undef
def HU:dk:=⟨b9a,Z4,ela⟩
def l55:ai:=⟨[0,2],9,[.slot 1],aW HU [] 0xb39bff73bdf3074d3c04b042d3c04b07c068bc0b2fff748405c6d5f0063c027dd2101⟩
theorem Vu:aj U0 55 400=some l55:=by kernel_rfl
def Ue:ai:=⟨[0,2],9,[.slot 1],aW HU [] 0xb39bff73bdf3074d3c04c042d3c04c07c068bc0b2fff748405c6d5f0063c027dd2101⟩
theorem Oz:aj U0 142 400=some Ue:=by kernel_rfl
def l58:ai:=⟨[0,2],10,[.slot 1],aW HU [] 0x2ce6ffdcedcdd59b31819b31b4d3c0450b4f0117c068bc0b2fff748005c6d5f0063c027dd2001⟩
theorem Vx:aj U0 58 400=some l58:=by kernel_rfl
def l79:ai:=⟨[0,2],11,[.slot 1],aW HU [] 0xb39bff73b8a2dd10819b82819b3fb4d3c0450b4f0117c068bc0b2fff748205c6d5f0063c027dd2081⟩
theorem VR:aj U0 79 400=some l79:=by kernel_rfl
theorem rq (p:Nat) (P:Ps) (w0 w:World) (A:al) (s:St w0 (A*cr p P) w):
  ak Tryz.prog 55 [.pointer (some ⟨p,0,none⟩)] (λr w'=>r= .int .u64 P.sup/\St w0 (A*cr p P) w') w:=by
 refine aE Vu (by simp [l55]) ?_;simp [l55];obtain ⟨m,v,s1⟩:=mm s;refine af (v:= .int .u64 P.sup) (by rw [cell_of s1.drop.drop.look];rfl) ?_;simp;exact s
theorem wR (p:Nat) (P:Ps) (w0 w:World) (A:al) (s:St w0 (A*cr p P) w):
  ak Tryz.prog 142 [.pointer (some ⟨p,0,none⟩)] (λr w'=>r= .int .u64 P.held/\St w0 (A*cr p P) w') w:=by
 refine aE Oz (by simp [Ue]) ?_;simp [Ue];obtain ⟨m,v,s1⟩:=mm s;refine af (v:= .int .u64 P.held) (by rw [cell_of s1.drop.drop.look];rfl) ?_;simp;exact s
theorem oW (p:Nat) (P:Ps) (w0 w:World) (A:al) (s:St w0 (A*cr p P) w):
  ak Tryz.prog 58 [.pointer (some ⟨p,0,none⟩)] (λr w'=>r= .int .i64 P.rows.length/\St w0 (A*cr p P) w') w:=by
 refine aE Vx (by simp [l58]) ?_;simp [l58];obtain ⟨m,v,s1⟩:=mm s;obtain ⟨a,cap,rfl,_⟩:=s1.ay;refine af (v:= .slice a P.rows.length cap) (by rw [cell_of s1.drop.drop.look];rfl) ?_;simp;exact s
theorem qx (p:Nat) (P:Ps) (w0 w:World) (A:al) (hl:P.rows.length<=1048576) (s:St w0 (A*cr p P) w):
  ak Tryz.prog 79 [.pointer (some ⟨p,0,none⟩)] (λr w'=>St w0 (A*cr p P*own 139 2 r P.rows.length (flat P.rows)) w') w:=by
 refine aE VR (by simp [l79]) ?_;simp [l79];obtain ⟨m,v,s1⟩:=mm s;refine af (v:=v) (by rw [cell_of s1.drop.drop.look];rfl) ?_;simp;refine ad ((E6 v P.rows w0 w _ hl s1).mono ?_);intro r w2 s2;simp;refine ad ((E3 r P.rows.length _ _ w0 w2 _ hl s2).mono ?_);intro r2 w3 s3;simp;have s4:=s3.to (B:=A*own 139 2 r2 P.rows.length (flat P.rows)*qX p P m v*pX m P.rows*own 139 2 v P.rows.length (flat P.rows)) (by ac_rfl);exact (iw s4).to (by ac_rfl)
def RJ:List Ac->List UInt8->Nat->List Int
 | [],_,_=> []
 |a::l,x,i=>if RQ a.name=RQ x then (i:Int)::RJ l x (i+1) else RJ l x (i+1)
def caa:Nat->PO
 |0=>(.build #[(.string ⟨#[]⟩),(.int .u64 0)] [(0,1),(1,1)] [0])
 |1=>(.ext 0)
 |2=>(.ext 1)
 |_=> .same
def Z5:Nat->EO
 |0=>(.bsl 139 1 2 #[(.string ⟨#[]⟩),(.int .u64 0)] [0])
 |1=>(.call 172)
 |_=> .an
def ema:Nat->Value
 |0=>(.pointer none)
 |1=>(.int .i64 0)
 |2=>(.string ⟨#[98,97,110,107]⟩)
 |3=>(.int .u64 0)
 |_=>undef
def dqa:dk:=⟨caa,Z5,ema⟩
def TP:ai:=⟨[0,2,3],10,[.slot 1,.slot 2],aW dqa [] 0x39bffee271c699d959b8082566e01066e029b8054d43cd0001d264820009920809da676481092001⟩
theorem N7:aj U0 105 400=some TP:=by kernel_rfl
def zp:HC:=(.seq (.reg (.done [(3,(.inp 5)),(4,(.cst (.int .i64 0)))] none)) .ret)
@[simp] theorem Xf:type_of%(@aH zp _ zp.eq_1):=aH zp.eq_1
def zq:HC:=(.reg (.chk none (.bin .add) (.cons (.inp 12) (.cons (.cst (.int .i64 1)) .nil)) (.done [(12,(.op (.bin .add) (.cons (.inp 12) (.cons (.cst (.int .i64 1)) .nil))))] none)))
@[simp] theorem Xg:type_of%(@aH zq _ zq.eq_1):=aH zq.eq_1
def zr:HC:=(.regq (.some 1) (.chk none .chkp (.cons (.inp 5) .nil) (.chk none (.fld 2) (.cons (.op .chkp (.cons (.inp 5) .nil)) .nil) (.eff (.ld false 1) (.cons (.op (.fld 2) (.cons (.op .chkp (.cons (.inp 5) .nil)) .nil)) .nil) (.chk none .chkp (.cons (.inp 5) .nil) (.chk none (.fld 2) (.cons (.op .chkp (.cons (.inp 5) .nil)) .nil) (.eff (.ld false 1) (.cons (.op (.fld 2) (.cons (.op .chkp (.cons (.inp 5) .nil)) .nil)) .nil) (.chk none .lenL (.cons (.bv 1) .nil) (.chk none (.bin .sub) (.cons (.op .lenL (.cons (.bv 1) .nil)) (.cons (.cst (.int .i64 1)) .nil)) (.chk none (.fld 1) (.cons (.inp 6) .nil) (.eff (.ld false 1) (.cons (.op (.fld 1) (.cons (.inp 6) .nil)) .nil) (.chk none (.idxL 2) (.cons (.bv 0) (.cons (.op (.bin .sub) (.cons (.op .lenL (.cons (.bv 1) .nil)) (.cons (.cst (.int .i64 1)) .nil))) .nil)) (.chk none (.fld 1) (.cons (.op (.idxL 2) (.cons (.bv 0) (.cons (.op (.bin .sub) (.cons (.op .lenL (.cons (.bv 1) .nil)) (.cons (.cst (.int .i64 1)) .nil))) .nil))) .nil) (.eff (.st 1) (.cons (.op (.fld 1) (.cons (.op (.idxL 2) (.cons (.bv 0) (.cons (.op (.bin .sub) (.cons (.op .lenL (.cons (.bv 1) .nil)) (.cons (.cst (.int .i64 1)) .nil))) .nil))) .nil)) (.cons (.bv 2) .nil)) (.done [] none)))))))))))))))
@[simp] theorem Xh:type_of%(@aH zr _ zr.eq_1):=aH zr.eq_1
def zt:HC:=(.seq (.reg (.chk none .chkp (.cons (.inp 5) .nil) (.chk none (.fld 4) (.cons (.op .chkp (.cons (.inp 5) .nil)) .nil) (.eff (.st 1) (.cons (.op (.fld 4) (.cons (.op .chkp (.cons (.inp 5) .nil)) .nil)) (.cons (.inp 8) .nil)) (.done [] none))))) zr)
@[simp] theorem Xi:type_of%(@aH zt _ zt.eq_1):=aH zt.eq_1
def zu:HC:=(.seq (.reg (.done [(3,(.cst (.pointer none))),(4,(.cst (.int .i64 144)))] none)) .ret)
@[simp] theorem Xj:type_of%(@aH zu _ zu.eq_1):=aH zu.eq_1
def zv:HC:=(.seq (.br (.chk none (.bin .neq) (.cons (.inp 9) (.cons (.cst (.int .i64 0)) .nil)) (.done [] (some (.op (.bin .neq) (.cons (.inp 9) (.cons (.cst (.int .i64 0)) .nil)))))) zu .skip) zt)
@[simp] theorem Xk:type_of%(@aH zv _ zv.eq_1):=aH zv.eq_1
def zw:HC:=(.seq (.regq (.some 1) (.chk none .chkp (.cons (.inp 5) .nil) (.chk none (.fld 4) (.cons (.op .chkp (.cons (.inp 5) .nil)) .nil) (.eff (.ld false 1) (.cons (.op (.fld 4) (.cons (.op .chkp (.cons (.inp 5) .nil)) .nil)) .nil) (.chk none (.fld 1) (.cons (.inp 6) .nil) (.eff (.ld false 1) (.cons (.op (.fld 1) (.cons (.inp 6) .nil)) .nil) (.eff (.call 128) (.cons (.bv 0) (.cons (.bv 1) .nil)) (.chk none (.ext 0) (.cons (.bv 2) .nil) (.chk none (.ext 1) (.cons (.bv 2) .nil) (.done [(8,(.op (.ext 0) (.cons (.bv 2) .nil))),(9,(.op (.ext 1) (.cons (.bv 2) .nil)))] none)))))))))) zv)
@[simp] theorem Xl:type_of%(@aH zw _ zw.eq_1):=aH zw.eq_1
def zx:HC:=(.seq (.reg (.done [(3,(.cst (.pointer none))),(4,(.inp 7))] none)) .ret)
@[simp] theorem Xm:type_of%(@aH zx _ zx.eq_1):=aH zx.eq_1
def zy:HC:=(.seq (.br (.chk none (.bin .neq) (.cons (.inp 7) (.cons (.cst (.int .i64 0)) .nil)) (.done [] (some (.op (.bin .neq) (.cons (.inp 7) (.cons (.cst (.int .i64 0)) .nil)))))) zx .skip) zw)
@[simp] theorem Xn:type_of%(@aH zy _ zy.eq_1):=aH zy.eq_1
def zz:HC:=(.seq (.reg (.chk none (.fld 0) (.cons (.inp 6) .nil) (.eff (.ld false 1) (.cons (.op (.fld 0) (.cons (.inp 6) .nil)) .nil) (.eff (.call 60) (.cons (.inp 5) (.cons (.bv 0) .nil)) (.chk none (.ext 0) (.cons (.bv 1) .nil) (.chk none (.ext 1) (.cons (.bv 1) .nil) (.done [(7,(.op (.ext 1) (.cons (.bv 1) .nil)))] none))))))) zy)
@[simp] theorem Xo:type_of%(@aH zz _ zz.eq_1):=aH zz.eq_1
def sl:HC:=(.seq (.reg (.chk none (.idxL 2) (.cons (.inp 10) (.cons (.inp 12) .nil)) (.eff (.ld true 2) (.cons (.op (.idxL 2) (.cons (.inp 10) (.cons (.inp 12) .nil))) .nil) (.eff (.new 139 (.agg #[(.string ⟨#[]⟩),(.int .u64 0)])) .nil (.eff (.st 2) (.cons (.bv 1) (.cons (.bv 0) .nil)) (.done [(6,(.bv 1))] none)))))) zz)
@[simp] theorem SX:type_of%(@aH sl _ sl.eq_1):=aH sl.eq_1
def sm:HC:=(.seq (.block 2 sl) zq)
@[simp] theorem SY:type_of%(@aH sm _ sm.eq_1):=aH sm.eq_1
def so:HC:=(.seq (.br (.chk none (.bin .lss) (.cons (.inp 12) (.cons (.inp 11) .nil)) (.done [] (some (.op (.bin .lss) (.cons (.inp 12) (.cons (.inp 11) .nil)))))) .skip (.exit 1)) sm)
@[simp] theorem SZ:type_of%(@aH so _ so.eq_1):=aH so.eq_1
def sq:HC:=(.loop so)
@[simp] theorem S5:type_of%(@aH sq _ sq.eq_1):=aH sq.eq_1
def sr:HC:=(.seq (.block 1 sq) zp)
@[simp] theorem S6:type_of%(@aH sr _ sr.eq_1):=aH sr.eq_1
def sx:HC:=(.seq (.reg (.chk none .lenL (.cons (.inp 1) .nil) (.done [(10,(.inp 1)),(11,(.op .lenL (.cons (.inp 1) .nil))),(12,(.cst (.int .i64 0)))] none))) sr)
@[simp] theorem S7:type_of%(@aH sx _ sx.eq_1):=aH sx.eq_1
def pM:HC:=(.seq (.reg (.eff (.mkm 191 false) .nil (.chk none (.build #[(.map none)] [(0,1)] [0]) (.cons (.bv 0) .nil) (.chk none (.build #[(.map none),(.int .i64 0),(.slice none 0 0),(.int .u64 0),(.int .u64 0)] [(0,1),(1,1),(2,1),(3,1),(4,1)] [0,1,3,4]) (.cons (.op (.build #[(.map none)] [(0,1)] [0]) (.cons (.bv 0) .nil)) (.cons (.inp 0) (.cons (.inp 2) (.cons (.inp 2) .nil)))) (.eff (.box 195) (.cons (.op (.build #[(.map none),(.int .i64 0),(.slice none 0 0),(.int .u64 0),(.int .u64 0)] [(0,1),(1,1),(2,1),(3,1),(4,1)] [0,1,3,4]) (.cons (.op (.build #[(.map none)] [(0,1)] [0]) (.cons (.bv 0) .nil)) (.cons (.inp 0) (.cons (.inp 2) (.cons (.inp 2) .nil))))) .nil) (.done [(5,(.bv 1))] none)))))) sx)
@[simp] theorem S8:type_of%(@aH pM _ pM.eq_1):=aH pM.eq_1
def sy:HC:=(.seq (.reg (.done [(3,(.cst (.pointer none))),(4,(.cst (.int .i64 2)))] none)) .ret)
@[simp] theorem S9:type_of%(@aH sy _ sy.eq_1):=aH sy.eq_1
def sC:HC:=(.seq (.reg (.done [(3,(.cst (.pointer none))),(4,(.cst (.int .i64 144)))] none)) .ret)
@[simp] theorem Ta:type_of%(@aH sC _ sC.eq_1):=aH sC.eq_1
def sD:HC:=(.seq (.reg (.done [(3,(.cst (.pointer none))),(4,(.cst (.int .i64 141)))] none)) .ret)
@[simp] theorem Tb:type_of%(@aH sD _ sD.eq_1):=aH sD.eq_1
def sF:HC:=(.seq (.reg (.done [(3,(.cst (.pointer none))),(4,(.cst (.int .i64 142)))] none)) .ret)
@[simp] theorem Tc:type_of%(@aH sF _ sF.eq_1):=aH sF.eq_1
def sG:HC:=(.br (.chk none .lenL (.cons (.inp 1) .nil) (.chk none (.bin .eql) (.cons (.op .lenL (.cons (.inp 1) .nil)) (.cons (.cst (.int .i64 0)) .nil)) (.gh (.op (.bin .eql) (.cons (.op .lenL (.cons (.inp 1) .nil)) (.cons (.cst (.int .i64 0)) .nil))) (.chk (some ((.bv 0),false)) (.idxL 2) (.cons (.inp 1) (.cons (.cst (.int .i64 0)) .nil)) (.chk (some ((.bv 0),false)) (.fld 0) (.cons (.op (.idxL 2) (.cons (.inp 1) (.cons (.cst (.int .i64 0)) .nil))) .nil) (.ite (.bv 0) false (.eff (.ld false 1) (.cons (.ite (.bv 0) false (.op (.fld 0) (.cons (.op (.idxL 2) (.cons (.inp 1) (.cons (.cst (.int .i64 0)) .nil))) .nil)) (.cst (.tuple #[]))) .nil) (.chk none (.bin .neq) (.cons (.bv 1) (.cons (.cst (.string ⟨#[98,97,110,107]⟩)) .nil)) (.isb none (.bv 0) (.done [] (some (.op (.bin .neq) (.cons (.bv 1) (.cons (.cst (.string ⟨#[98,97,110,107]⟩)) .nil)))))))) (.isb none (.bv 0) (.done [] (some (.cst (.bool true))))))))))) sF .skip)
@[simp] theorem Td:type_of%(@aH sG _ sG.eq_1):=aH sG.eq_1
def sH:HC:=(.br (.chk none .lenL (.cons (.inp 1) .nil) (.chk none (.bin .gtr) (.cons (.op .lenL (.cons (.inp 1) .nil)) (.cons (.inp 0) .nil)) (.done [] (some (.op (.bin .gtr) (.cons (.op .lenL (.cons (.inp 1) .nil)) (.cons (.inp 0) .nil))))))) sD sG)
@[simp] theorem Te:type_of%(@aH sH _ sH.eq_1):=aH sH.eq_1
def sI:HC:=(.br (.chk none (.bin .gtr) (.cons (.inp 2) (.cons (.cst (.int .u64 4611686018427387904)) .nil)) (.done [] (some (.op (.bin .gtr) (.cons (.inp 2) (.cons (.cst (.int .u64 4611686018427387904)) .nil)))))) sC sH)
@[simp] theorem Tf:type_of%(@aH sI _ sI.eq_1):=aH sI.eq_1
def sJ:HC:=(.br (.chk none (.bin .lss) (.cons (.inp 0) (.cons (.cst (.int .i64 1)) .nil)) (.gh (.op (.bin .lss) (.cons (.inp 0) (.cons (.cst (.int .i64 1)) .nil))) (.chk (some ((.bv 0),false)) (.bin .gtr) (.cons (.inp 0) (.cons (.cst (.int .i64 64)) .nil)) (.isb none (.bv 0) (.done [] (some (.ite (.bv 0) true (.cst (.bool true)) (.op (.bin .gtr) (.cons (.inp 0) (.cons (.cst (.int .i64 64)) .nil)))))))))) sy sI)
@[simp] theorem Tg:type_of%(@aH sJ _ sJ.eq_1):=aH sJ.eq_1
def sK:HC:=(.seq (.block 0 sJ) pM)
@[simp] theorem Th:type_of%(@aH sK _ sK.eq_1):=aH sK.eq_1
def Ur:ai:=⟨[0,1,2,6,7,8,10,12,13,14,48,49,50],96,[.slot 3,.slot 4],(.seq (.reg (.done [(3,(.cst (.pointer none))),(4,(.cst (.int .i64 0)))] none)) sK)⟩
theorem OO:aj U0 172 400=some Ur:=by kernel_rfl
def cK:List UInt8:= [98,97,110,107]
def mn (P:Ps) (a:Ac):Int:=if (bq P a.name).2.1=0 then (if P.held<a.ab then 144 else 0) else (bq P a.name).2.1
def jg (P:Ps) (a:Ac):Ps:={P with held:=P.held -a.ab,rows:=P.rows++ [a]}
def j4 (P:Ps):List Ac->Int×Ps
 | []=>(0,P)
 |a::l=>if mn P a=0 then j4 (jg P a) l else (mn P a,P)
def gJ (lim:Int) (rows:List Ac) (sup:Int):Int×Ps:=
 if 1<=lim/\lim<=64 then
  if 4611686018427387904<sup then (144,⟨0,[],0,0⟩)
  else if lim<rows.length then (141,⟨0,[],0,0⟩)
  else if (rows.getD 0 ⟨[],0⟩).name=cK then j4 ⟨lim,[],sup,sup⟩ rows
  else (142,⟨0,[],0,0⟩)
 else (2,⟨0,[],0,0⟩)
theorem AK {P:Ps} {x:List UInt8} (h:(bq P x).2.1=0):(bq P x).2.2={P with rows:=P.rows++ [⟨x,0⟩]}/\tI (gU x) (keys P.rows)=false/\(P.rows.length:Int)≠P.lim/\(fN x).2=0:=by
 unfold bq at h⊢
 split at h
 ·rename_i h1
  rw [if_pos h1];split at h
  ·cases h
  ·rename_i h2
   rw [if_neg h2];split at h
   ·cases h
   ·rename_i h3
    rw [if_neg h3];exact ⟨rfl,by simpa using h2,h3,h1⟩
 ·rename_i h1
  exact absurd h h1
theorem Dj {P:Ps} {x:List UInt8} (h:(bq P x).2.1≠0):(bq P x).2.2=P:=by
 unfold bq at h⊢
 split
 ·split
  ·rfl
  ·split
   ·rfl
   ·rename_i h1 h2 h3
    rw [if_pos h1,if_neg h2,if_neg h3] at h;exact absurd rfl h
 ·rfl
def rX (X Y:World->Prop):List Value->World->Prop
 | [],w=>X w
 |_::_,w=>Y w
@[simp] theorem kU (X Y:World->Prop) (w:World):rX X Y [] w=X w:=rfl
@[simp] theorem W8 (X Y:World->Prop) (v:Value) (l:List Value) (w:World):rX X Y (v::l) w=Y w:=rfl
theorem bW {X Y:World->Prop} {R:Prop} {vs:List Value} {w:World} (h1:X w->R) (h2:Y w->R) (h:rX X Y vs w):R:=by
 cases vs with
 |nil=>exact h1 h
 |cons _ _=>exact h2 h
theorem JH (l:List Ac) (x:List UInt8) (c:Int):bM (l++ [⟨x,0⟩]) l.length c=l++ [⟨x,c⟩]:=by simp [bM]
theorem Jo (lim:Int) (rows:List Ac) (sup:Int) (ra:Option Addr) (rcap:Nat) (w0 w:World) (A:al) (hl:rows.length<=64) (hsup:0<=sup/\sup<=4611686018427387904) (hn:∀x∈rows,x.name.length<=1048576) (hc:∀x∈rows,0<=x.ab/\x.ab<18446744073709551616)
  (hrow:Row w0 A (.slice ra rows.length rcap) rows.length 2 (flat rows)) (s:St w0 A w):
  HC.wp U0 pM (uq Tryz.prog [RV.slot 3,RV.slot 4] λr w'=>if (j4 ⟨lim,[],sup,sup⟩ rows).1=0 then∃q,r= .tuple #[.pointer (some ⟨q,0,none⟩),.int .i64 0]/\St w0 (A*cr q (j4 ⟨lim,[],sup,sup⟩ rows).2) w' else r= .tuple #[.pointer none,.int .i64 (j4 ⟨lim,[],sup,sup⟩ rows).1]/\St w0 A w')
   [.int .i64 lim,.slice ra rows.length rcap,.int .u64 sup,.pointer none,.int .i64 0,undef,undef,undef,undef,undef,undef,undef,undef] w:=by
 simp;refine NM s ?_;intro m w1 s1;simp [Instr.fill,Value.cells];refine bA s1 ?_;intro p w2 s2;simp;have s3:St w0 (A*cr p ⟨lim,[],sup,sup⟩) w2:=iw (m:=m) (v:= .slice none 0 0) (P:=⟨lim,[],sup,sup⟩) (St.aG (s2.to (by ac_rfl)) _ _);clear s s1 s2;generalize hP0:(⟨lim,[],sup,sup⟩:Ps)=P0 at*;refine dB (λenv w'=>∃(i:Nat) (P:Ps) (o6 o7 o8 o9:Value),env= [.int .i64 lim,.slice ra rows.length rcap,.int .u64 sup,.pointer none,.int .i64 0,.pointer (some ⟨p,0,none⟩),o6,o7,o8,o9,.slice ra rows.length rcap,.int .i64 rows.length,.int .i64 i]/\i<=rows.length/\
   j4 P0 rows=j4 P (rows.drop i)/\P.rows=rows.take i/\P.lim=lim/\P.sup=sup/\0<=P.held/\P.held<=sup/\St w0 (A*cr p P) w')
  (λenv _=>rows.length -ax env 12) ⟨0,P0,_,_,_,_,rfl,by omega,rfl,by rw [<-hP0];rfl,by rw [<-hP0],by rw [<-hP0],by rw [<-hP0];exact hsup.1,by rw [<-hP0];exact Int.le_refl _,s3⟩ ?_
 clear s3;rintro LQ env w' ⟨i,P,o6,o7,o8,o9,rfl,hi,hL,hPr,hPl,hPs,hh0,hh1,s⟩ hN hE hR;simp;refine aN (λh=> ?_) (λh=> ?_)
 ·simp at h
  have h:i<rows.length:=by omega
  obtain ⟨g,o,gcap,hv,hcell⟩:=hrow.at (by omega);cases hv;have hPlen:P.rows.length=i:=by rw [hPr,List.length_take];omega
  have hmem:rows[i]∈rows:=List.getElem_mem h;have hdrop:rows.drop i=rows[i]::rows.drop (i+1):=List.drop_eq_getElem_cons h;have htk:rows.take (i+1)=rows.take i++ [rows[i]]:=List.take_succ_eq_append_getElem h;rw [hdrop] at hL;have hna:=hn _ hmem;have hca:=hc _ hmem;obtain ⟨a,ha⟩:∃a,rows[i]=a:=⟨_,rfl⟩;rw [ha] at hmem hdrop htk hna hca hL;simp [h];refine aB (vs:=a.cs) (λj u hu=>by rw [Nat.add_assoc];exact hcell _ s.drop _ _ (gH h j u (by rw [ha];exact hu))) rfl ?_;simp;refine bX s ?_;intro b w3 s1;simp;refine dg (vs:=a.cs) s1 rfl rfl (cN _) (by simp) ?_;intro w4 s2;have s2:St w0 (A*cr p P*pt b (.cells a.cs.toArray 139 (0,0))) w4:=by simpa using s2
  simp;refine af (v:= .string (mk a.name)) (by rw [cell_of s2.look];rfl) ?_;simp;refine ad ((wT p P a.name w0 w4 (A*pt b (.cells a.cs.toArray 139 (0,0))) hna (by omega) (s2.to (by ac_rfl))).mono ?_);rintro r w5 ⟨rfl,s3⟩;simp;refine aN (λh1=> ?_) (λh1=> ?_)
  ·simp at h1
   have hse:mn P a=(bq P a.name).2.1:=by unfold mn;rw [if_neg h1]
   have hLL:j4 P0 rows=(mn P a,P):=by rw [hL,j4,if_neg (by rw [hse];exact h1)]
   simp;refine hR _ _ ?_;simp;rw [hLL,hse];simp [h1];rw [Dj h1] at s3;exact s3.drop.drop
  simp at h1;obtain ⟨ho,hask,hlen,hchk⟩:=AK h1;rw [ho] at s3;simp;obtain ⟨m2,v2,s4⟩:=mm s3;clear s3;generalize hB:(A*pt b (.cells a.cs.toArray 139 (0,0))*qX p {P with rows:=P.rows++ [⟨a.name,0⟩]} m2 v2*pX m2 (P.rows++ [(⟨a.name,0⟩:Ac)])*own 139 2 v2 (P.rows++ [(⟨a.name,0⟩:Ac)]).length (flat (P.rows++ [(⟨a.name,0⟩:Ac)])))=B;have sB:St w0 B w5:=hB▸s4;have hpc:∀{w},St w0 B w->w.cell? ⟨p,4,none⟩=some (.int .u64 P.held):=λh=>by rw [<-hB] at h;rw [cell_of h.drop.drop.look];rfl
  have hbc:∀{w},St w0 B w->w.cell? ⟨b,1,none⟩=some (.int .u64 a.ab):=λh=>by rw [<-hB] at h;rw [cell_of h.drop.drop.drop.look];rfl
  refine kG (λvs w=>match vs with
   | []=>St w0 B w
   |r::_=>r= .tuple #[.int .u64 (if P.held<a.ab then 0 else P.held -a.ab),.int .i64 (if P.held<a.ab then 11 else 0)]/\St w0 B w) sB.drew ?_
  simp;refine au (v:= .int .u64 P.held) (λvs' w he hw=> ?_) ?_
  ·match vs',hw with
   | [],hw=>exact hpc hw
   |_::_,hw=>exact hpc hw.2
  simp;refine au (v:= .int .u64 a.ab) (λvs' w he hw=> ?_) ?_
  ·match vs',hw with
   | [],hw=>exact hbc hw
   |_::_,hw=>exact hbc hw.2
  simp;refine bG rfl (λw hw=>ad ((lD P.held a.ab w (by omega) (by omega)).mono λr w' h=> ?_)) (λr hr=> ?_)
  ·obtain ⟨rfl,rfl⟩:=h;exact ⟨rfl,hw⟩
  obtain ⟨_,rfl,_⟩:=hr;simp;intro w6 s6;refine aN (λh2=> ?_) (λh2=> ?_)
  ·simp at h2
   have hse:mn P a=144:=by unfold mn;rw [if_pos h1,if_pos h2]
   have hLL:j4 P0 rows=(mn P a,P):=by rw [hL,j4,if_neg (by rw [hse];decide)]
   simp;refine hR _ _ ?_;simp;rw [hLL,hse];simp;rw [<-hB] at s6;exact s6.drop.drop.drop.drop
  simp at h2;simp;rw [if_neg (by omega)];rw [<-hB] at s6;refine bj (s6.to (B:=A*pt b (.cells a.cs.toArray 139 (0,0))*pX m2 (P.rows++ [(⟨a.name,0⟩:Ac)])*own 139 2 v2 (P.rows++ [(⟨a.name,0⟩:Ac)]).length (flat (P.rows++ [(⟨a.name,0⟩:Ac)]))*qX p {P with rows:=P.rows++ [⟨a.name,0⟩]} m2 v2) (by ac_rfl)) rfl (by simp) ?_;intro w7 s7;simp only [List.setIfInBounds_toArray,List.set_cons_succ,List.set_cons_zero] at s7;simp;obtain ⟨g2,cap2,hv,_,_⟩:=s4.aU (by simp);subst hv;have hPl1:(P.rows++ [(⟨a.name,0⟩:Ac)]).length=i+1:=by simp [hPlen]
  have s8:St w0 (A*pt b (.cells a.cs.toArray 139 (0,0))*pX m2 (P.rows++ [(⟨a.name,0⟩:Ac)])*qX p {P with held:=P.held -a.ab} m2 (.slice (some ⟨g2,0,none⟩) (P.rows++ [(⟨a.name,0⟩:Ac)]).length cap2)*own 139 2 (.slice (some ⟨g2,0,none⟩) (P.rows++ [(⟨a.name,0⟩:Ac)]).length cap2) (P.rows++ [(⟨a.name,0⟩:Ac)]).length (flat (P.rows++ [(⟨a.name,0⟩:Ac)]))) w7:=s7.swap;clear s7 s6;have hii:i<(P.rows++ [(⟨a.name,0⟩:Ac)]).length:=by omega
  have hst:bM (P.rows++ [(⟨a.name,0⟩:Ac)]) i a.ab=P.rows++ [a]:=by rw [<-hPlen];exact JH _ _ _
  have hfl:=iZ (P.rows++ [(⟨a.name,0⟩:Ac)]);generalize hC0:(A*pt b (.cells a.cs.toArray 139 (0,0))*pX m2 (P.rows++ [(⟨a.name,0⟩:Ac)])*qX p {P with held:=P.held -a.ab} m2 (.slice (some ⟨g2,0,none⟩) (P.rows++ [(⟨a.name,0⟩:Ac)]).length cap2))=C0 at s8;have hpc:∀{w},St w0 C0 w->w.cell? ⟨p,2,none⟩=some (.slice (some ⟨g2,0,none⟩) (i+1) cap2):=λh=>by rw [<-hC0] at h;rw [cell_of h.look,<-hPl1];rfl
  have hbc:∀{w},St w0 C0 w->w.cell? ⟨b,1,none⟩=some (.int .u64 a.ab):=λh=>by rw [<-hC0] at h;rw [cell_of h.drop.drop.look];rfl
  refine kG (rX (St w0 (C0*own 139 2 (.slice (some ⟨g2,0,none⟩) (P.rows++ [(⟨a.name,0⟩:Ac)]).length cap2) (P.rows++ [(⟨a.name,0⟩:Ac)]).length (flat (P.rows++ [(⟨a.name,0⟩:Ac)]))))
   (St w0 (C0*own 139 2 (.slice (some ⟨g2,0,none⟩) (P.rows++ [(⟨a.name,0⟩:Ac)]).length cap2) (P.rows++ [(⟨a.name,0⟩:Ac)]).length (flat (P.rows++ [a]))))) s8.drew ?_
  simp;refine au (v:= .slice (some ⟨g2,0,none⟩) (i+1) cap2) (λvs' w he hw=>bW (λh=>hpc h.drop) (λh=>hpc h.drop) hw) ?_;simp;refine au (v:= .slice (some ⟨g2,0,none⟩) (i+1) cap2) (λvs' w he hw=>bW (λh=>hpc h.drop) (λh=>hpc h.drop) hw) ?_;simp
  try simp (disch:=omega) only [wrap64]
  refine au (v:= .int .u64 a.ab) (λvs' w he hw=>bW (λh=>hbc h.drop) (λh=>hbc h.drop) hw) ?_;have hwi:IntKind.i64.wrap (i:Int)=i:=wrap64 (by omega) (by omega);simp [hwi];refine ⟨by omega,?_⟩;refine bG (by rfl) (λw hw=> ?_) (λr hr=> ?_)
  ·rw [kU] at hw
   refine cH (u:= .int .u64 a.ab) hw (by rw [hfl,hPl1];omega) rfl λw' h=> ?_;rw [Bn hii,hst] at h;exact h
  simp;intro w8 s9
  try simp (disch:=omega) only [wrap64]
  have hse:mn P a=0:=by unfold mn;rw [if_pos h1,if_neg (by omega)]
  refine hN _ _ ⟨i+1,jg P a,_,_,_,_,by simp;exact ⟨rfl,rfl,rfl,rfl⟩,by omega,?_,?_,hPl,hPs,?_,?_,?_⟩ (by simp [ax];omega)
  ·rw [hL,j4,if_pos hse]
  ·rw [htk,<-hPr];rfl
  ·show 0<=P.held -a.ab;omega
  ·show P.held -a.ab<=sup;omega
  ·have e1:(P.rows++ [(⟨a.name,0⟩:Ac)]).length=(jg P a).rows.length:=by simp [jg]
   have e2:keys (P.rows++ [(⟨a.name,0⟩:Ac)])=keys (jg P a).rows:=by simp [jg,keys]
   have e3:P.rows.length+1=(jg P a).rows.length:=by simp [jg]
   rw [<-hC0,pX,e2,e1,e3] at s9;have s10:St w0 (A*pt b (.cells a.cs.toArray 139 (0,0))*pX m2 (jg P a).rows*qX p {P with held:=P.held -a.ab} m2 (.slice (some ⟨g2,0,none⟩) (jg P a).rows.length cap2)*own 139 2 (.slice (some ⟨g2,0,none⟩) (jg P a).rows.length cap2) (jg P a).rows.length (flat (P.rows++ [a]))) w8:=s9;refine iw (m:=m2) (v:= .slice (some ⟨g2,0,none⟩) (jg P a).rows.length cap2) ?_;exact St.cut (pt b (.cells a.cs.toArray 139 (0,0))) s10 (by show _=A*qX p {P with held:=P.held -a.ab} m2 (.slice (some ⟨g2,0,none⟩) (jg P a).rows.length cap2)*pX m2 (jg P a).rows*own 139 2 (.slice (some ⟨g2,0,none⟩) (jg P a).rows.length cap2) (jg P a).rows.length (flat (P.rows++ [a]))*_;ac_rfl)
 simp at h;simp;refine hE _ _ _ ?_;simp;have hie:i=rows.length:=by omega
 rw [hie,List.drop_length] at hL;have hLL:j4 P0 rows=(0,P):=hL;rw [hLL];simp;exact s
theorem qv (lim:Int) (rows:List Ac) (sup:Int) (v:Value) (w0 w:World) (A:al) (hl:rows.length<=1048576) (hsup:0<=sup/\sup<18446744073709551616) (hn:∀x∈rows,x.name.length<=1048576) (hc:∀x∈rows,0<=x.ab/\x.ab<18446744073709551616)
  (hrow:Row w0 A v rows.length 2 (flat rows)) (s:St w0 A w):
  ak Tryz.prog 172 [.int .i64 lim,v,.int .u64 sup] (λr w'=>if (gJ lim rows sup).1=0 then∃q,r= .tuple #[.pointer (some ⟨q,0,none⟩),.int .i64 0]/\St w0 (A*cr q (gJ lim rows sup).2) w' else r= .tuple #[.pointer none,.int .i64 (gJ lim rows sup).1]/\St w0 A w') w:=by
 obtain ⟨ra,rcap,rfl⟩:=hrow.val;refine dQ OO (by simp [Ur]) ?_;simp [Ur];refine aN (λh=> ?_) (λh=> ?_)
 ·simp at h
  have e:(gJ lim rows sup).1=2:=by unfold gJ;rw [if_neg (by omega)]
  simp [e];exact s
 simp at h;simp;refine aN (λh1=> ?_) (λh1=> ?_)
 ·simp at h1
  have e:(gJ lim rows sup).1=144:=by unfold gJ;rw [if_pos (by omega),if_pos h1]
  simp [e];exact s
 simp at h1;simp;refine aN (λh2=> ?_) (λh2=> ?_)
 ·simp at h2
  have e:(gJ lim rows sup).1=141:=by unfold gJ;rw [if_pos (by omega),if_neg (by omega),if_pos h2]
  simp [e];exact s
 simp at h2
 by_cases hnil:rows= []
 ·subst hnil
  simp;have e:(gJ lim [] sup).1=142:=by unfold gJ;rw [if_pos (by omega),if_neg (by omega),if_neg (by simpa using h2),if_neg (by decide)]
  simp [e];exact s
 have hpos:0<rows.length:=List.length_pos_iff.2 hnil;obtain ⟨g,o,gcap,hv,hcell⟩:=hrow.at hpos;cases hv;simp [hnil,hpos];refine af (v:= .string (mk rows[0].name)) (hcell w s 0 _ (IV hpos)) ?_;simp;refine aN (λh3=> ?_) (λh3=> ?_)
 ·simp at h3
  have hnb:(rows.getD 0 ⟨[],0⟩).name≠cK:=by simpa [hpos,cK] using h3
  have e:(gJ lim rows sup).1=142:=by unfold gJ;rw [if_pos (by omega),if_neg (by omega),if_neg (by omega),if_neg hnb]
  rw [e];simp;exact s
 have hb:(rows.getD 0 ⟨[],0⟩).name=cK:=by simpa [hpos,cK] using h3
 have e:gJ lim rows sup=j4 ⟨lim,[],sup,sup⟩ rows:=by unfold gJ;rw [if_pos (by omega),if_neg (by omega),if_neg (by omega),if_pos hb]
 rw [e];simp
 simpa using Jo lim rows sup _ rcap w0 w A (by omega) (by omega) hn hc hrow s
theorem No:(fN cK).2=0:=by decide+kernel
theorem fz {lim:Int} (h:1<=lim/\lim<=64):gJ lim [⟨cK,0⟩] 0=(0,⟨lim,[⟨cK,0⟩],0,0⟩):=by
 unfold gJ;rw [if_pos h,if_neg (by decide),if_neg (by simp;omega),if_pos (by rfl)];have ho:(bq ⟨lim,[],0,0⟩ cK).2.1=0:=by unfold bq;rw [if_pos No];have:tI (gU cK) (keys [])=false:=rfl;simp [this];rw [if_neg (by omega)]
 have hs:mn ⟨lim,[],0,0⟩ ⟨cK,0⟩=0:=by unfold mn;rw [if_pos ho];rfl
 rw [j4,if_pos hs];rfl
theorem QO {lim:Int} (h:¬(1<=lim/\lim<=64)):(gJ lim [⟨cK,0⟩] 0).1=2:=by unfold gJ;rw [if_neg h]
theorem iT (lim:Int) (w0 w:World) (A:al) (s:St w0 A w):
  ak Tryz.prog 105 [.int .i64 lim] (λr w'=>if 1<=lim/\lim<=64 then∃q,r= .tuple #[.pointer (some ⟨q,0,none⟩),.int .i64 0]/\St w0 (A*cr q ⟨lim,[⟨cK,0⟩],0,0⟩) w' else r= .tuple #[.pointer none,.int .i64 2]/\St w0 A w') w:=by
 refine aE N7 (by simp [TP]) ?_;simp [TP,Instr.fill,Value.cells];refine cx s rfl ?_;intro c w1 s1;simp;have hrow:Row w0 (A*pt c (.cells (Ac.cs ⟨cK,0⟩).toArray 139 (0,0))) (.slice (some ⟨c,0,none⟩) 1 1) 1 2 (flat [⟨cK,0⟩]):=
  ⟨rfl,_,_,rfl,Nat.le_refl _,.inr ⟨c,0,rfl,λw s j u hu=>s.ah j u hu⟩⟩
 refine ad ((qv lim [⟨cK,0⟩] 0 (.slice (some ⟨c,0,none⟩) 1 1) w0 w1 _ (by decide) (by decide) (by simp [cK]) (by simp) hrow s1).mono ?_);intro r w2 h2
 by_cases h:1<=lim/\lim<=64
 ·rw [fz h] at h2
  simp only [if_true] at h2;obtain ⟨q,rfl,s2⟩:=h2;simp [h];exact St.cut (pt c (.cells (Ac.cs ⟨cK,0⟩).toArray 139 (0,0))) s2 (by ac_rfl)
 ·have e:=QO h
  rw [e] at h2;simp only [if_neg (show¬(2:Int)=0 by decide)] at h2;obtain ⟨rfl,s2⟩:=h2;simp [h];exact s2.drop
end Go.HL.Pu
namespace Go.HL.Gd
open Go.HL Go.Proofs
structure It where
 num:Int
 kind:Int
 acc:Int
 bp:Int
deriving DecidableEq
def It.cs (x:It):List Value:= [.int .i64 x.num,.int .i64 x.kind,.int .i64 x.acc,.int .i64 x.bp]
def flat (l:List It):List Value:=l.flatMap It.cs
theorem lN (x:It):x.cs.length=4:=rfl
theorem iZ (l:List It):(flat l).length=l.length*4:=gw It.cs 4 lN l
theorem cN (x:It):∀u∈x.cs,u.oneCell'=true:=by intro u hu;simp only [It.cs,List.mem_cons,List.not_mem_nil,or_false] at hu;rcases hu with rfl|rfl|rfl|rfl<;>rfl
theorem gH {ae:List It} {i:Nat} (h:i<ae.length):∀j u,(ae[i].cs)[j]?=some u->(flat ae)[i*4+j]?=some u:=by intro j u hu;have hj:j<4:=(List.getElem?_eq_some_iff.1 hu).1;rw [<-hu];exact fW It.cs 4 lN ae i j h hj
theorem IX {ae:List It} {i:Nat} (h:i<ae.length) (a c:Int):((flat ae).set (i*4+2) (.int .i64 a)).set (i*4+3) (.int .i64 c)=flat (ae.set i ⟨ae[i].num,ae[i].kind,a,c⟩):=by
 have e:=uA It.cs 4 lN (⟨ae[i].num,ae[i].kind,a,c⟩:It) ae i h;show _=List.flatMap It.cs _;rw [<-e];have hl:=iZ ae;apply List.ext_getElem?;intro k;have hlen:i*4+4<=(ae.flatMap It.cs).length:=by have:(ae.flatMap It.cs).length=ae.length*4:=iZ ae;omega
 have tl:((ae.flatMap It.cs).take (i*4)).length=i*4:=by rw [List.length_take];omega
 have hf:flat ae=ae.flatMap It.cs:=rfl;rw [hf];have c4:(⟨ae[i].num,ae[i].kind,a,c⟩:It).cs.length=4:=rfl
 by_cases k1:k<i*4
 ·rw [List.getElem?_set_ne (by omega),List.getElem?_set_ne (by omega),List.append_assoc,List.getElem?_append_left (by omega),List.getElem?_take,if_pos k1]
 by_cases k2:k<i*4+4
 ·have g0:∀j,j<4->(ae.flatMap It.cs)[i*4+j]?=(ae[i].cs)[j]?:=λj hj=>fW It.cs 4 lN ae i j h hj
  rw [List.append_assoc,List.getElem?_append_right (by omega),tl,List.getElem?_append_left (by rw [c4];omega)];obtain ⟨j,rfl⟩:∃j,k=i*4+j:=⟨k -i*4,by omega⟩;have hj:j<4:=by omega
  rw [Nat.add_sub_cancel_left];have:j=0\/j=1\/j=2\/j=3:=by omega
  rcases this with rfl|rfl|rfl|rfl
  ·rw [List.getElem?_set_ne (by omega),List.getElem?_set_ne (by omega),g0 0 (by omega)];rfl
  ·rw [List.getElem?_set_ne (by omega),List.getElem?_set_ne (by omega),g0 1 (by omega)];rfl
  ·rw [List.getElem?_set_ne (by omega),List.getElem?_set_self (by omega)];rfl
  ·rw [List.getElem?_set_self (by rw [List.length_set];omega)];rfl
 ·rw [List.getElem?_set_ne (by omega),List.getElem?_set_ne (by omega),List.append_assoc,List.getElem?_append_right (by omega),tl,List.getElem?_append_right (by rw [c4];omega),List.getElem?_drop,c4]
  congr 1
  omega
def cf (p:Nat) (lim:Int) (ae:List It):al:=λh=>∃v,(pt p (.cells #[.int .i64 lim,v] 198 (0,0))*own 201 4 v ae.length (flat ae)) h
theorem xG {w0 w:World} {A:al} {p:Nat} {lim:Int} {ae:List It} (s:St w0 (A*cf p lim ae) w):
  ∃v,St w0 (A*pt p (.cells #[.int .i64 lim,v] 198 (0,0))*own 201 4 v ae.length (flat ae)) w:=by
 obtain ⟨g,h1,h2,h3,d,e,a,v,b⟩:=s.holds;refine ⟨v,?_⟩;rw [aw];exact s.of ⟨g,h1,h2,h3,d,e,a,b⟩
theorem oC {w0 w:World} {A:al} {p:Nat} {lim:Int} {ae:List It} {v:Value}
  (s:St w0 (A*pt p (.cells #[.int .i64 lim,v] 198 (0,0))*own 201 4 v ae.length (flat ae)) w):St w0 (A*cf p lim ae) w:=by
 rw [aw] at s;obtain ⟨g,h1,h2,h3,d,e,a,b⟩:=s.holds;exact s.of ⟨g,h1,h2,h3,d,e,a,v,b⟩
noncomputable abbrev G0:PF Tryz.prog:=PF.none _
def bRa:Nat->PO
 |0=>(.bin .geq)
 |1=>(.bin .lss)
 |_=> .same
def ZL:Nat->EO
 |_=> .an
def d3a:Nat->Value
 |0=>(.bool false)
 |1=>(.int .i64 0)
 |2=>(.int .i64 64)
 |3=>(.int .i64 16)
 |_=>undef
def RZ:dk:=⟨bRa,ZL,d3a⟩
def TZ:ai:=⟨[0,2],9,[.slot 1],aW RZ [] 0xe6ffdc8de7f75d2015d42400073073d42400073575050000d41400027dd2001⟩
theorem Of:aj G0 126 400=some TZ:=by kernel_rfl
def T5:ai:=⟨[0,2],9,[.slot 1],aW RZ [] 0xe6ffdc8de7f75d2015d43400073073d43400073575050000d41400027dd2001⟩
theorem Og:aj G0 127 400=some T5:=by kernel_rfl
def om (a:Int):Bool:=decide (0<=a)&&decide (a<64)
def rI (a:Int):Bool:=decide (0<=a)&&decide (a<16)
theorem bh (u:Int) (w:World):ak Tryz.prog 126 [.int .i64 u] (λr w'=>r= .bool (om u)/\w'=w) w:=by refine aE Of (by simp [TZ]) ?_;simp [TZ,om,gr]
theorem Ji (u:Int) (w:World):ak Tryz.prog 127 [.int .i64 u] (λr w'=>r= .bool (rI u)/\w'=w) w:=by refine aE Og (by simp [T5]) ?_;simp [T5,rI,gr]
def PS.ii {P:Program} (f:Nat) (k k':IntKind) (g:Int->Int) (h:∀u w,ak P f [.int k u] (λr w'=>r= .int k' (g u)/\w'=w) w):PS P where
 f:=f
 val args:=match args with
  | [.int _ u]=> .int k' (g u)
  |_=>undef
 ok args:=match args with
  | [.int k' _]=>k'=k
  |_=>False
 sound args w hok:=by
  split at hok
  ·subst hok;exact h _ w
  ·exact hok.elim
def ica (a n:Int):Int:=if a.tmod n<0 then a.tmod n+n else a.tmod n
noncomputable def Ko:PS Tryz.prog:=PS.ib 126 .i64 om bh
noncomputable def CU:PS Tryz.prog:=PS.ib 127 .i64 rI Ji
noncomputable abbrev G1:PF Tryz.prog:=PF.of [Ko,CU]
@[simp] theorem Y0 (args:List Value):G1.val 126 args=Ko.val args:=rfl
@[simp] theorem fka (args:List Value):G1.ok 126 args=Ko.ok args:=rfl
@[simp] theorem Y1 (args:List Value):G1.val 127 args=CU.val args:=rfl
@[simp] theorem fna (args:List Value):G1.ok 127 args=CU.ok args:=rfl
@[simp] theorem fpa (u:Int):Ko.val [.int .i64 u]= .bool (om u):=rfl
@[simp] theorem f7a (u:Int):Ko.ok [.int .i64 u]=(IntKind.i64= .i64):=rfl
@[simp] theorem bka (u:Int):CU.val [.int .i64 u]= .bool (rI u):=rfl
@[simp] theorem fIa (u:Int):CU.ok [.int .i64 u]=(IntKind.i64= .i64):=rfl
def bSa:Nat->PO
 |0=>(.fld 0)
 |1=>(.fld 3)
 |2=>(.bin .gtr)
 |3=>(.bin .lss)
 |4=>(.build #[(.int .i64 0),(.slice none 0 0)] [(0,1),(1,1)] [0])
 |5=>(.eqNil false (.pointer 198) (.pointer none))
 |6=> .chkp
 |7=>(.fld 1)
 |8=> .lenL
 |9=>(.cal 126)
 |10=>(.un .not)
 |11=>(.cal 127)
 |12=>(.bin .geq)
 |13=>(.bin .add)
 |14=>(.build #[(.int .i64 0),(.int .i64 0),(.int .i64 0),(.int .i64 0)] [(0,1),(1,1),(2,1),(3,1)] [0,1,2])
 |15=>(.build #[(.int .i64 0),(.int .i64 0),(.int .i64 0),(.int .i64 0)] [(0,4)] [0])
 |16=>(.bin .sub)
 |17=>(.idxL 4)
 |18=>(.eqB true)
 |19=>(.fld 2)
 |_=> .same
def ZM:Nat->EO
 |0=>(.box 201)
 |1=>(.ld false 1)
 |2=>(.box 198)
 |3=>(.bsl 201 1 4 #[(.int .i64 0),(.int .i64 0),(.int .i64 0),(.int .i64 0)] [0])
 |4=>(.app 196 196 201 4 32 (.agg #[(.int .i64 0),(.int .i64 0),(.int .i64 0),(.int .i64 0)]))
 |5=>(.st 1)
 |6=>(.ld true 4)
 |7=>(.call 225)
 |8=>(.call 204)
 |_=> .an
def d4a:Nat->Value
 |0=>(.bool false)
 |1=>(.int .i64 0)
 |2=>(.pointer none)
 |3=>(.int .i64 512)
 |4=>(.bool true)
 |5=>(.int .i64 2)
 |6=>(.int .i64 1)
 |7=>(.int .i64 152)
 |8=>(.int .i64 150)
 |9=>(.tuple #[])
 |10=>(.int .i64 151)
 |11=>(.int .i64 (-1))
 |_=>undef
def rU:dk:=⟨bSa,ZM,d4a⟩
def UI:ai:=⟨[0,1,2],7,[.slot 2],aW rU [] 0xe6ffdcedcdd5d41cc20b50730b4d31040041d310400710409e2699d92002cc1f00⟩
theorem Pe:aj G1 225 400=some UI:=by kernel_rfl
def TQ:ai:=⟨[0,2,3],13,[.slot 1,.slot 2],aW rU [] 0xb39bffeda6764810b3074f040bc128bc0b2ffda67648509208172375f6d75750d0002484cd8cf50d0002cd5d414000f50500039da676481092081⟩
theorem N8:aj G1 106 400=some TQ:=by kernel_rfl
def l57:ai:=⟨[0,2],10,[.slot 1],aW rU [] 0x2ce6ffdcedcdd59b3e819b3eb4d3c187074f061fc1a8bc0b2fff748105c6d5f0563c167dd2041⟩
theorem Vw:aj G1 57 400=some l57:=by kernel_rfl
def l63:ai:=⟨[0,1,2,6,7,8],52,[.slot 3,.slot 4],aW rU [] 0x2ce79bff699d920444050e773b73b89ceda632442574f061c5d3c187f06cb8cc4d3453d09005014e04f043d14f424014053813c153d09005014e074d3c187074f061fc1a773b71cdd5d46566cfa3411751959b3e8d066cfad34f061c1d3c187f06b68a28aaf02cbff699d92e844810dcedc73b71b572e159b3e8c058cb8566cfa301d34f06001d3c180f069b3eb4d3c187074f061fc181b2ffda67648711204371c6d5d3104b04a058d3104b04a07104b06cbff699d921444810dc71b574c42f8a058d310be281c42facbff699d921844810dc6d5f0563c1409da676481112043⟩
theorem VC:aj G1 63 400=some l63:=by kernel_rfl
def Uz:ai:=⟨[0,1,2,3,4,10,11],53,[.slot 5],aW rU [] 0xb39e6fff748116771cedc73b698f44574d31186001174d31186001d31186031186f43574d3118600b085d34c461802c2d311860311869dcedc7375725751900480b32421b25751900480b3242d46401202d34f061c1d3c187f06a2f02cbffdd228115c8dd7647df6d2118484ce271c7e375d91f6d211844289cee271f6d5f424452826110bd09114a0a64441f4c95d464012024432421b25751900480910c90b51900480a6592f95d3c1874420510b4f061d10bc191095c959b8e964be401cc2cf2566e3a592f900730a6e3a9964be574f061f3073d3c187cfc1b3575190043d464010e7dd2045⟩
theorem OT:aj G1 204 400=some Uz:=by kernel_rfl
def T9:ai:=⟨[0,1,2,6],18,[.slot 3],aW rU [] 0x2ce6ffe2df30d4514d41402480401400eada28bc0b2fff74850dc71b574c42f8a058d310be281c42facbffdd218371b57c158f05027dd2043⟩
theorem Oj:aj G1 130 400=some T9:=by kernel_rfl
def U5:ai:=⟨[0,1,2,6],17,[.slot 3],aW rU [] 0xb39bff8b7cc351453d0922c1480401400eada28bc0b2fff74850dc6d5d464020d8d464020ecbffdd218371b57c158f05027dd2043⟩
theorem P4:aj G1 308 400=some U5:=by kernel_rfl
def Ve:ai:=⟨[0,1,2,6],18,[.slot 3],aW rU [] 0x2ce6ffe2df30d4514d41402484401400eada28bc0b2fff74850dc71b574c42f8a058d310be281c42facbffdd218371b57c158f05027dd2043⟩
theorem Ql:aj G1 366 400=some Ve:=by kernel_rfl
theorem lh (x:It) (w0 w:World) (A:al) (s:St w0 A w):
  ak Tryz.prog 225 [.agg x.cs.toArray] (λr w'=>r= .bool (decide (0<x.bp))/\St w0 A w') w:=by
 refine aE Pe (by simp [UI]) ?_;simp [UI];refine bA s ?_;intro b w1 s1;simp;refine af (v:= .int .i64 x.bp) ?_ ?_
 ·rw [cell_of s1.look];rfl
 simp;exact s1.drop
theorem iT (lim:Int) (w0 w:World) (A:al) (s:St w0 A w):
  ak Tryz.prog 106 [.int .i64 lim] (λr w'=>if 0<=lim/\lim<=512 then∃p,r= .tuple #[.pointer (some ⟨p,0,none⟩),.int .i64 0]/\St w0 (A*cf p lim []) w' else r= .tuple #[.pointer none,.int .i64 2]/\St w0 A w') w:=by
 refine aE N8 (by simp [TQ]) ?_;simp [TQ];refine aN (λh=> ?_) (λh=> ?_)
 ·simp at h
  have:¬(0<=lim/\lim<=512):=by omega
  simp [this];exact s
 ·simp at h
  simp [h,Instr.fill,Value.cells];refine bA s ?_;intro b w1 s1;simp;refine oC (v:= .slice none 0 0) ?_;exact s1.aG _ _
theorem oW (p:Nat) (lim:Int) (ae:List It) (w0 w:World) (A:al) (s:St w0 (A*cf p lim ae) w):
  ak Tryz.prog 57 [.pointer (some ⟨p,0,none⟩)] (λr w'=>r= .int .i64 ae.length/\St w0 (A*cf p lim ae) w') w:=by
 refine aE Vw (by simp [l57]) ?_;simp [l57];obtain ⟨v,s1⟩:=xG s;obtain ⟨a,cap,rfl,_⟩:=s1.ay;refine af (v:= .slice a ae.length cap) (by rw [cell_of s1.swap.look];rfl) ?_;simp;exact s
def dx (lim:Int) (ae:List It) (k a:Int):Int×Int×List It:=
 if om a=false then (0,2,ae) else if rI k=false then (0,152,ae) else if lim<=ae.length then (0,150,ae) else (ae.length+1,0,ae++ [⟨ae.length+1,k,a,0⟩])
theorem Ic (p:Nat) (lim:Int) (ae:List It) (k a:Int) (w0 w:World) (A:al) (hl:lim<=512) (s:St w0 (A*cf p lim ae) w):
  ak Tryz.prog 63 [.pointer (some ⟨p,0,none⟩),.int .i64 k,.int .i64 a]
   (λr w'=>r= .tuple #[.int .i64 (dx lim ae k a).1,.int .i64 (dx lim ae k a).2.1]/\St w0 (A*cf p lim (dx lim ae k a).2.2) w') w:=by
 refine aE VC (by simp [l63]) ?_;simp [l63];refine aN (λh1=> ?_) (λh1=> ?_)
 ·simp at h1
  simp [dx,h1];exact s
 simp at h1;simp;refine aN (λh2=> ?_) (λh2=> ?_)
 ·simp at h2
  simp [dx,h1,h2];exact s
 simp at h2
 try simp
 obtain ⟨v,s1⟩:=xG s;obtain ⟨b,cap,rfl,_⟩:=s1.ay;refine Sq s1 ?_;simp;refine bc (v:= .slice b ae.length cap) (λw' s'=>by rw [cell_of s'.swap.look];rfl) ?_;simp;refine bc (v:= .int .i64 lim) (λw' s'=>by rw [cell_of s'.swap.look];rfl) ?_;simp;intro w2 s2;refine aN (λh3=> ?_) (λh3=> ?_)
 ·simp at h3
  simp [dx,h1,h2,h3];exact oC s2
 simp at h3;have h3':¬lim<=ae.length:=by omega
 simp;refine af (v:= .slice b ae.length cap) (by rw [cell_of s2.swap.look];rfl) ?_;have hw:IntKind.i64.wrap (ae.length+1)=ae.length+1:=wrap64 (by omega) (by omega);simp [hw];refine af (v:= .slice b ae.length cap) (by rw [cell_of s2.swap.look];rfl) ?_;simp [Instr.fill,Value.cells];refine cx s2 rfl ?_;intro c w3 s3;simp;refine bE (m:=1) (news:=It.cs ⟨ae.length+1,k,a,0⟩) s3.swap rfl s3.aJ (cN _) (by decide) rfl (by unfold maxLen;omega) (by omega) ?_;intro v' w4 s4;simp;refine bj s4.p3 ?_ (by simp) ?_
 ·rcases s4.ay with ⟨_,_,rfl,_⟩;rfl
 intro w5 s5;simp [dx,h1,h2,h3'];refine oC (v:=v') ?_;have e:flat ae++It.cs ⟨ae.length+1,k,a,0⟩=flat (ae++ [⟨ae.length+1,k,a,0⟩]):=by simp [flat]
 rw [e] at s5
 simpa using s5.p3.drop.swap
def aP (ae:List It) (item:Int) (held:Bool) (acc bp:Int):Int×List It:=
 if 1<=item/\item<=ae.length then
  if decide (0<(ae.getD (item.toNat -1) ⟨0,0,0,0⟩).bp)=held then
   (0,ae.set (item.toNat -1) ⟨(ae.getD (item.toNat -1) ⟨0,0,0,0⟩).num,(ae.getD (item.toNat -1) ⟨0,0,0,0⟩).kind,acc,bp⟩)
  else (151,ae)
 else (151,ae)
theorem fA (p:Nat) (lim:Int) (ae:List It) (item:Int) (held:Bool) (acc bp:Int) (w0 w:World) (A:al) (hl:ae.length<=1048576) (s:St w0 (A*cf p lim ae) w):
  ak Tryz.prog 204 [.pointer (some ⟨p,0,none⟩),.int .i64 item,.bool held,.int .i64 acc,.int .i64 bp]
   (λr w'=>r= .int .i64 (aP ae item held acc bp).1/\St w0 (A*cf p lim (aP ae item held acc bp).2) w') w:=by
 refine aE OT (by simp [Uz]) ?_;simp [Uz]
 by_cases h1:item<1
 ·have:¬(1<=item/\item<=ae.length):=by omega
  simp [h1,aP,this];exact s
 obtain ⟨v,s1⟩:=xG s;obtain ⟨b,cap,rfl,_⟩:=s1.ay;simp [h1];refine af (v:= .slice b ae.length cap) (by rw [cell_of s1.swap.look];rfl) ?_
 by_cases h2:ae.length<item
 ·have:¬(1<=item/\item<=ae.length):=by omega
  simp [h2,aP,this];exact s
 simp [h2];obtain ⟨i,rfl⟩:∃i:Nat,item=i+1:=⟨item.toNat -1,by omega⟩;have hi:i<ae.length:=by omega
 obtain ⟨g,cap',hv,_,hc⟩:=s1.aU (by omega);cases hv;refine af (v:= .slice (some ⟨g,0,none⟩) ae.length cap) (by rw [cell_of s1.swap.look];rfl) ?_;have hw:IntKind.i64.wrap (i:Int)=i:=wrap64 (by omega) (by omega);simp [hw,hi];refine aB (vs:=ae[i].cs) (λj u hu=>hc _ _ (gH hi j u hu)) rfl ?_;simp;refine ad ((lh ae[i] w0 w _ s1).mono ?_);rintro r w2 ⟨rfl,s2⟩;simp;have hp:aP ae (i+1) held acc bp=if decide (0<ae[i].bp)=held then (0,ae.set i ⟨ae[i].num,ae[i].kind,acc,bp⟩) else (151,ae):=by
  unfold aP;rw [if_pos (by omega)];have:((i:Int)+1).toNat -1=i:=by omega
  simp [this,hi]
 refine aN (λh3=> ?_) (λh3=> ?_)
 ·have e3:¬decide (0<ae[i].bp)=held:=by simpa using h3
  rw [hp,if_neg e3];simp;exact oC s2
 have e3:decide (0<ae[i].bp)=held:=by simpa using h3
 rw [hp,if_pos e3];simp;refine af (v:= .slice (some ⟨g,0,none⟩) ae.length cap) (by rw [cell_of s2.swap.look];rfl) ?_;simp [hw,hi];have hfl:=iZ ae;refine cH s2 (by omega) rfl ?_;intro w3 s3;simp;refine cH s3 (by rw [List.length_set];omega) rfl ?_;intro w4 s4;simp;rw [IX hi] at s4;refine oC (v:= .slice (some ⟨g,0,none⟩) ae.length cap) ?_
 simpa using s4
def fy (ae:List It) (item a:Int):Int×List It:=if om a=true then aP ae item false a 0 else (2,ae)
def ff (ae:List It) (item c:Int):Int×List It:=if c<1 then (2,ae) else aP ae item false (-1) c
def eH (ae:List It) (item a:Int):Int×List It:=if om a=true then aP ae item true a 0 else (2,ae)
theorem Ih (p:Nat) (lim:Int) (ae:List It) (item a:Int) (w0 w:World) (A:al) (hl:ae.length<=1048576) (s:St w0 (A*cf p lim ae) w):
  ak Tryz.prog 130 [.pointer (some ⟨p,0,none⟩),.int .i64 item,.int .i64 a]
   (λr w'=>r= .int .i64 (fy ae item a).1/\St w0 (A*cf p lim (fy ae item a).2) w') w:=by
 refine aE Oj (by simp [T9]) ?_;simp [T9];refine aN (λh1=> ?_) (λh1=> ?_)
 ·simp at h1
  simp [fy,h1];exact s
 simp at h1;simp;refine ad ((fA p lim ae item false a 0 w0 w A hl s).mono ?_);rintro r w1 ⟨rfl,s1⟩;simp [fy,h1];exact s1
theorem wS (p:Nat) (lim:Int) (ae:List It) (item c:Int) (w0 w:World) (A:al) (hl:ae.length<=1048576) (s:St w0 (A*cf p lim ae) w):
  ak Tryz.prog 308 [.pointer (some ⟨p,0,none⟩),.int .i64 item,.int .i64 c]
   (λr w'=>r= .int .i64 (ff ae item c).1/\St w0 (A*cf p lim (ff ae item c).2) w') w:=by
 refine aE P4 (by simp [U5]) ?_;simp [U5];refine aN (λh1=> ?_) (λh1=> ?_)
 ·simp at h1
  simp [ff,h1];exact s
 simp at h1;simp;refine ad ((fA p lim ae item false (-1) c w0 w A hl s).mono ?_);rintro r w1 ⟨rfl,s1⟩;have:¬c<1:=by omega
 simp [ff,this];exact s1
theorem Ia (p:Nat) (lim:Int) (ae:List It) (item a:Int) (w0 w:World) (A:al) (hl:ae.length<=1048576) (s:St w0 (A*cf p lim ae) w):
  ak Tryz.prog 366 [.pointer (some ⟨p,0,none⟩),.int .i64 item,.int .i64 a]
   (λr w'=>r= .int .i64 (eH ae item a).1/\St w0 (A*cf p lim (eH ae item a).2) w') w:=by
 refine aE Ql (by simp [Ve]) ?_;simp [Ve];refine aN (λh1=> ?_) (λh1=> ?_)
 ·simp at h1
  simp [eH,h1];exact s
 simp at h1;simp;refine ad ((fA p lim ae item true a 0 w0 w A hl s).mono ?_);rintro r w1 ⟨rfl,s1⟩;simp [eH,h1];exact s1
def bTa:Nat->PO
 |0=>(.eqNil false (.pointer 198) (.pointer none))
 |1=>(.build #[(.int .i64 0),(.int .i64 0),(.int .i64 0),(.int .i64 0)] [(0,1),(1,1),(2,1),(3,1)] [])
 |2=>(.bin .lss)
 |3=> .chkp
 |4=>(.fld 1)
 |5=> .lenL
 |6=>(.bin .gtr)
 |7=>(.bin .sub)
 |8=>(.idxL 4)
 |9=>(.fld 0)
 |10=>(.bin .add)
 |11=>(.un .not)
 |12=>(.fld 2)
 |13=>(.bin .eql)
 |14=>(.fld 3)
 |15=>(.mkf (.func 224) 0)
 |16=>(.mkf (.func 370) 0)
 |_=> .same
def ZN:Nat->EO
 |0=>(.new 123 (.agg #[(.int .i64 0),(.int .i64 0),(.int .i64 0),(.int .i64 0)]))
 |1=>(.st 4)
 |2=>(.ld false 1)
 |3=>(.ld true 4)
 |4=>(.new 201 (.agg #[(.int .i64 0),(.int .i64 0),(.int .i64 0),(.int .i64 0)]))
 |5=>(.bsl 123 1 4 #[(.int .i64 0),(.int .i64 0),(.int .i64 0),(.int .i64 0)] [0])
 |6=>(.app 143 143 123 4 32 (.agg #[(.int .i64 0),(.int .i64 0),(.int .i64 0),(.int .i64 0)]))
 |7=> .callv
 |8=>(.bsl 3 1 1 #[(.int .i64 0)] [0])
 |9=>(.app 32 32 3 1 8 (.int .i64 0))
 |10=>(.box 201)
 |11=>(.call 225)
 |12=>(.box 3)
 |13=>(.call 223)
 |_=> .an
def d5a:Nat->Value
 |0=>(.int .i64 0)
 |1=>(.int .i64 1)
 |2=>(.tuple #[])
 |3=>(.bool true)
 |4=>(.int .i64 151)
 |5=>(.slice none 0 0)
 |6=>(.bool false)
 |_=>undef
def vQ:dk:=⟨bTa,ZN,d5a⟩
def T7:ai:=⟨[0,1,4,5],32,[.cell 2 true 4,.slot 3],aW vQ [] 0xb39bff73b71cee2dd2003cb8402074d32575050047cfaf83d32575050047cfafb2575050047cfad414011f4d3c0c40b4f0313c0eda28bc0b2fffbdd2103c954c140205305c8dd7647db48363389c71f6d5c959b8156482401cc6633c959b8156482401cc69b8166592095d3c0c4cc2cf4f03133f03cd5d414010b5050042b2fffbdd2043c954c140205305c6d5f0063c0009e2699d92003cc24c0⟩
theorem Oi:aj G1 129 400=some T7:=by kernel_rfl
def l82:ai:=⟨[0,2,3,5,11,12,13],24,[.slot 1],aW vQ [] 0xe79e6fff740206dbb99dcdd5d414062811b505018a06db27ee28b74420b2e100869b3174c43f83c43fa7ee28b7e03cb3e014c4d3d19013a0fd19013a068bc2bc071b57d15018263d15018202773b71a659d92006566cc5173126cc5d34f03102d3c0c4f039f74850a8bc0b2fff748505c6d5f0063c027dd2141⟩
theorem VU:aj G1 82 400=some l82:=by kernel_rfl
def UG:ai:=⟨[0,1,4,5,7,13,14,15],30,[.slot 2],aW vQ [] 0xe79e6fff74030adbb99dcdd5d414072811f50501ca06db28bc09dcee28b74420f2e100fe9b3eb4d3113ef82d3113efb113e8a26f8632cd0047c440e7ee28b7e04cb3e014c4d3d1d017a0fd1d017a068bc2bc071b57d1901c263d1901c202773b71a659d92007566cc51b3166cc5d34f03102d3c0c4f039f74850e8bc0b2fff748509c6d5f0063c027dd2142⟩
theorem Pc:aj G1 223 400=some UG:=by kernel_rfl
def UH:ai:=⟨[0,1,2,3],14,[.slot 3],aW vQ [] 0x39bff8a272379e95fdd21834428a271fdd5c911110cd043442c911110cd071042997482574c42f8c051082442d310be301442c42f910959b82c19b82c19b32c1c420e789a6764860f30bc281⟩
theorem Pd:aj G1 224 400=some UH:=by kernel_rfl
def Vi:ai:=⟨[0,1,2,3],13,[.slot 3],aW vQ [] 0xe6ffe289e7a57f74860f88a271fdd5c910d108d043e32443442341c410a65d2095d310be381e02e34c42f8e078c42fb89b32c1c420e789a6764860f30bc281⟩
theorem Qp:aj G1 370 400=some Vi:=by kernel_rfl
def Ud:ai:=⟨[0,1,3,4],8,[.slot 3],aW vQ [] 0xe6fffbdf30f257108f05000d07108ffe2699d92143cc2c41301⟩
theorem Oy:aj G1 141 400=some Ud:=by kernel_rfl
def U8:ai:=⟨[0,1,3,4],8,[.slot 3],aW vQ [] 0x39bffef7cc3c95c42202400341c422029e2699d92143cc2c41301⟩
theorem P7:aj G1 311 400=some U8:=by kernel_rfl
def aA (ae:List It) (n:Int):It×Int:=if 1<=n/\n<=ae.length then (ae.getD (n.toNat -1) ⟨0,0,0,0⟩,0) else (⟨0,0,0,0⟩,151)
theorem fU (p:Nat) (lim:Int) (ae:List It) (n:Int) (w0 w:World) (A:al) (hl:ae.length<=1048576) (s:St w0 (A*cf p lim ae) w):
  ak Tryz.prog 129 [.pointer (some ⟨p,0,none⟩),.int .i64 n]
   (λr w'=>r= .tuple #[.agg (aA ae n).1.cs.toArray,.int .i64 (aA ae n).2]/\St w0 (A*cf p lim ae) w') w:=by
 refine aE Oi (by simp [T7]) ?_;simp [T7];refine bX s ?_;intro b w1 s1;simp;obtain ⟨v,s2⟩:=xG s1.swap;obtain ⟨a,cap,rfl,_⟩:=s2.ay
 by_cases h1:n<1
 ·have hg:aA ae n=(⟨0,0,0,0⟩,151):=by unfold aA;rw [if_neg (by omega)]
  simp [h1,hg,Instr.fill,Value.cells];refine dg (vs:=It.cs ⟨0,0,0,0⟩) s1 rfl rfl (cN _) (by simp) ?_;intro w2 s3;simp;have s4:St w0 (A*cf p lim ae*pt b (.cells (It.cs ⟨0,0,0,0⟩).toArray 123 (0,0))) w2:=by simpa using s3
  refine ar (vs:=It.cs ⟨0,0,0,0⟩) rfl s4.ah rfl ?_;simp;exact s4.drop
 simp [h1];refine af (v:= .slice a ae.length cap) (by rw [cell_of s2.swap.look];rfl) ?_
 by_cases h2:ae.length<n
 ·have hg:aA ae n=(⟨0,0,0,0⟩,151):=by unfold aA;rw [if_neg (by omega)]
  simp [h2,hg,Instr.fill,Value.cells];refine dg (vs:=It.cs ⟨0,0,0,0⟩) s1 rfl rfl (cN _) (by simp) ?_;intro w2 s3;simp;have s4:St w0 (A*cf p lim ae*pt b (.cells (It.cs ⟨0,0,0,0⟩).toArray 123 (0,0))) w2:=by simpa using s3
  refine ar (vs:=It.cs ⟨0,0,0,0⟩) rfl s4.ah rfl ?_;simp;exact s4.drop
 simp [h2];obtain ⟨i,rfl⟩:∃i:Nat,n=i+1:=⟨n.toNat -1,by omega⟩;have hi:i<ae.length:=by omega
 obtain ⟨g,cap',hv,_,hc⟩:=s2.aU (by omega);cases hv;refine af (v:= .slice (some ⟨g,0,none⟩) ae.length cap) (by rw [cell_of s2.swap.look];rfl) ?_;have hw:IntKind.i64.wrap (i:Int)=i:=wrap64 (by omega) (by omega);simp [hw,hi];refine aB (vs:=ae[i].cs) (λj u hu=>hc _ _ (gH hi j u hu)) rfl ?_;simp;have hg:aA ae (i+1)=(ae[i],0):=by
  unfold aA;rw [if_pos (by omega)];have:((i:Int)+1).toNat -1=i:=by omega
  simp [this,hi]
 refine dg (vs:=ae[i].cs) s1 rfl rfl (cN _) (by simp) ?_;intro w3 s3;simp [hg];have s4:St w0 (A*cf p lim ae*pt b (.cells ae[i].cs.toArray 123 (0,0))) w3:=by simpa using s3
 refine ar (vs:=ae[i].cs) rfl s4.ah rfl ?_;simp;exact s4.drop
theorem qx (p:Nat) (lim:Int) (ae:List It) (w0 w:World) (A:al) (hl:ae.length<=1048576) (s:St w0 (A*cf p lim ae) w):
  ak Tryz.prog 82 [.pointer (some ⟨p,0,none⟩)]
   (λr w'=>St w0 (A*cf p lim ae*own 123 4 r ae.length (flat ae)) w') w:=by
 refine aE VU (by simp [l82]) ?_;simp [l82];obtain ⟨v,s2⟩:=xG s;obtain ⟨a,cap,rfl,_⟩:=s2.ay;refine af (v:= .slice a ae.length cap) (by rw [cell_of s2.swap.look];rfl) ?_;simp;refine dB (λenv w'=>∃(i:Nat) (v o:Value),env= [.pointer (some ⟨p,0,none⟩),.slice none 0 0,v,o,.slice a ae.length cap,.int .i64 ae.length,.int .i64 i]/\i<=ae.length/\
   St w0 (A*pt p (.cells #[.int .i64 lim,.slice a ae.length cap] 198 (0,0))*own 201 4 (.slice a ae.length cap) ae.length (flat ae)*own 123 4 v i (flat (ae.take i))) w')
  (λenv _=>ae.length -ax env 6) ⟨0,_,_,rfl,by omega,s2.aG _ _⟩ ?_
 rintro LQ env w' ⟨i,v,o,rfl,hi,s'⟩ hN hE hR;simp;refine aN (λh=> ?_) (λh=> ?_)
 ·simp at h
  obtain ⟨g,cap',hv,_,hc⟩:=s'.swap.aU (by omega);cases hv;simp [h];refine aB (vs:=ae[i].cs) (λj u hu=>hc _ _ (gH h j u hu)) rfl ?_;simp;refine bX s' ?_;intro b w1 s1;simp;refine dg (vs:=ae[i].cs) s1 rfl rfl (cN _) (by simp) ?_;intro w2 s2;simp;have s3:St w0 (A*pt p (.cells #[.int .i64 lim,.slice (some ⟨g,0,none⟩) ae.length cap] 198 (0,0))*own 201 4 (.slice (some ⟨g,0,none⟩) ae.length cap) ae.length (flat ae)*own 123 4 v i (flat (ae.take i))*pt b (.cells ae[i].cs.toArray 201 (0,0))) w2:=by simpa using s2
  refine aB (vs:=ae[i].cs) s3.ah rfl ?_;simp;refine cx s3 rfl ?_;intro c w4 s4;simp;refine bE (m:=1) (news:=ae[i].cs) s4.p3 rfl s4.aJ (cN _) (by decide) rfl (by unfold maxLen;omega) (by omega) ?_;intro v' w5 s5;simp
  try simp (disch:=omega) only [wrap64]
  refine hN _ _ ⟨i+1,v',_,by simp;exact rfl,by omega,?_⟩ (by simp [ax];omega);have e:flat (ae.take i)++ae[i].cs=flat (ae.take (i+1)):=by rw [List.take_succ_eq_append_getElem h];simp only [flat,List.flatMap_append,List.flatMap_cons,List.flatMap_nil,List.append_nil]
  rw [e] at s5;exact s5.swap.drop.swap.drop
 ·simp at h
  simp;refine hE _ _ _ ?_;simp;have:i=ae.length:=by omega
  subst this;rw [List.take_length] at s';exact (oC s'.p3.p3).swap
theorem Kh (x:It) (q:Nat) (a:Int) (w0 w:World) (A:al) (s:St w0 (A*pt q (.cells #[.int .i64 a] 3 (0,0))) w):
  ak Tryz.prog 224 [.agg x.cs.toArray,.pointer (some ⟨q,0,none⟩)] (λr w'=>r= .bool (!decide (0<x.bp)&&decide (x.acc=a))/\St w0 (A*pt q (.cells #[.int .i64 a] 3 (0,0))) w') w:=by
 refine aE Pd (by simp [UH]) ?_;simp [UH];refine bA s ?_;intro b w1 s1;simp;have hc:∀j u,x.cs[j]?=some u->w1.cell? ⟨b,0+j,none⟩=some u:=λj u hu=>by rw [cell_of s1.look];simpa using hu
 refine aB (vs:=x.cs) hc rfl ?_;simp;refine ad ((lh x w0 w1 _ s1).mono ?_);rintro r w2 ⟨rfl,s2⟩;have hc2:w2.cell? ⟨b,2,none⟩=some (.int .i64 x.acc):=by rw [cell_of s2.look];rfl
 have hc3:w2.cell? ⟨q,0,none⟩=some (.int .i64 a):=by rw [cell_of s2.swap.look];rfl
 by_cases h:0<x.bp
 ·simp [h]
  exact s2.drop
 ·simp [h]
  refine af hc2 ?_;simp;refine af hc3 ?_;simp;exact s2.drop
theorem Kd (x:It) (q:Nat) (a:Int) (w0 w:World) (A:al) (s:St w0 (A*pt q (.cells #[.int .i64 a] 3 (0,0))) w):
  ak Tryz.prog 370 [.agg x.cs.toArray,.pointer (some ⟨q,0,none⟩)] (λr w'=>r= .bool (decide (0<x.bp)&&decide (x.bp=a))/\St w0 (A*pt q (.cells #[.int .i64 a] 3 (0,0))) w') w:=by
 refine aE Qp (by simp [Vi]) ?_;simp [Vi];refine bA s ?_;intro b w1 s1;simp;have hc:∀j u,x.cs[j]?=some u->w1.cell? ⟨b,0+j,none⟩=some u:=λj u hu=>by rw [cell_of s1.look];simpa using hu
 refine aB (vs:=x.cs) hc rfl ?_;simp;refine ad ((lh x w0 w1 _ s1).mono ?_);rintro r w2 ⟨rfl,s2⟩;have hc2:w2.cell? ⟨b,3,none⟩=some (.int .i64 x.bp):=by rw [cell_of s2.look];rfl
 have hc3:w2.cell? ⟨q,0,none⟩=some (.int .i64 a):=by rw [cell_of s2.swap.look];rfl
 by_cases h:0<x.bp
 ·simp [h]
  refine af hc2 ?_;simp;refine af hc3 ?_;simp;exact s2.drop
 ·simp [h]
  exact s2.drop
def LU (ae:List It) (a:Int):List Int:=(ae.filter λx=> !decide (0<x.bp)&&decide (x.acc=a)).map It.num
def eD (ae:List It) (c:Int):List Int:=(ae.filter λx=>decide (0<x.bp)&&decide (x.bp=c)).map It.num
def ints (l:List Int):List Value:=l.map (Value.int .i64)
theorem vZ (p:Nat) (lim:Int) (ae:List It) (f:FuncId) (q:Nat) (a:Int) (pred:It->Bool) (hb:bZ Tryz.prog f=true)
  (hf:∀(x:It) (w0 w:World) (A:al),St w0 (A*pt q (.cells #[.int .i64 a] 3 (0,0))) w->ak Tryz.prog f [.agg x.cs.toArray,.pointer (some ⟨q,0,none⟩)] (λr w'=>r= .bool (pred x)/\St w0 (A*pt q (.cells #[.int .i64 a] 3 (0,0))) w') w)
  (w0 w:World) (A:al) (hl:ae.length<=1048576) (s:St w0 (A*cf p lim ae*pt q (.cells #[.int .i64 a] 3 (0,0))) w):
  ak Tryz.prog 223 [.pointer (some ⟨p,0,none⟩),.func (.func f) #[] #[.pointer (some ⟨q,0,none⟩)]]
   (λr w'=>St w0 (A*cf p lim ae*own 3 1 r ((ae.filter pred).map It.num).length (ints ((ae.filter pred).map It.num))) w') w:=by
 refine aE Pc (by simp [UG]) ?_;simp [UG];obtain ⟨v,s2⟩:=xG s.swap;obtain ⟨c,cap,rfl,_⟩:=s2.ay;refine af (v:= .slice c ae.length cap) (by rw [cell_of s2.swap.look];rfl) ?_;simp;refine dB (λenv w'=>∃(i:Nat) (v o:Value),env= [.pointer (some ⟨p,0,none⟩),.func (.func f) #[] #[.pointer (some ⟨q,0,none⟩)],.slice none 0 0,v,o,.slice c ae.length cap,.int .i64 ae.length,.int .i64 i]/\i<=ae.length/\
   St w0 (A*pt p (.cells #[.int .i64 lim,.slice c ae.length cap] 198 (0,0))*own 201 4 (.slice c ae.length cap) ae.length (flat ae)*own 3 1 v (((ae.take i).filter pred).map It.num).length (ints (((ae.take i).filter pred).map It.num))*pt q (.cells #[.int .i64 a] 3 (0,0))) w')
  (λenv _=>ae.length -ax env 7) ⟨0,_,_,rfl,by omega,?_⟩ ?_
 ·exact (s2.aG _ _).to (by simp [ints];ac_rfl)
 rintro LQ env w' ⟨i,v,o,rfl,hi,s'⟩ hN hE hR;simp;refine aN (λh=> ?_) (λh=> ?_)
 ·simp at h
  obtain ⟨g,cap',hv,_,hc⟩:=s'.swap.drop.swap.aU (by omega);cases hv;simp [h];refine aB (vs:=ae[i].cs) (λj u hu=>hc _ _ (gH h j u hu)) rfl ?_;simp;refine bX s' ?_;intro b w1 s1;simp;refine dg (vs:=ae[i].cs) s1 rfl rfl (cN _) (by simp) ?_;intro w2 s2;simp;have s3:St w0 (A*pt p (.cells #[.int .i64 lim,.slice (some ⟨g,0,none⟩) ae.length cap] 198 (0,0))*own 201 4 (.slice (some ⟨g,0,none⟩) ae.length cap) ae.length (flat ae)*own 3 1 v (((ae.take i).filter pred).map It.num).length (ints (((ae.take i).filter pred).map It.num))*pt b (.cells ae[i].cs.toArray 201 (0,0))*pt q (.cells #[.int .i64 a] 3 (0,0))) w2:=by simpa using s2.swap
  refine aB (vs:=ae[i].cs) s3.swap.ah rfl ?_;simp;refine bO hb ((hf ae[i] w0 w2 _ s3).mono ?_);rintro r w3 ⟨rfl,s4⟩;have htake:ae.take (i+1)=ae.take i++ [ae[i]]:=List.take_succ_eq_append_getElem h;simp;refine aN (λhp=> ?_) (λhp=> ?_)
  ·have hp0:=hp
   simp;refine af (v:= .int .i64 ae[i].num) (by rw [cell_of s4.swap.look];rfl) ?_;simp;refine cw s4 rfl ?_;intro c1 w4 s5;simp;refine bE (m:=1) (news:= [.int .i64 ae[i].num]) (F:=A*pt p (.cells #[.int .i64 lim,.slice (some ⟨g,0,none⟩) ae.length cap] 198 (0,0))*own 201 4 (.slice (some ⟨g,0,none⟩) ae.length cap) ae.length (flat ae)*pt b (.cells ae[i].cs.toArray 201 (0,0))*pt q (.cells #[.int .i64 a] 3 (0,0))*pt c1 (.cells #[.int .i64 ae[i].num] 3 (0,0))) (s5.to (by ac_rfl)) rfl s5.aJ (by simp [Value.oneCell']) (by decide) rfl ?_ ?_ ?_
   ·have:=List.length_filter_le pred (ae.take i)
    simp only [List.length_map,List.length_take] at this⊢;unfold maxLen;omega
   ·have:=List.length_filter_le pred (ae.take i)
    simp only [List.length_map,List.length_take] at this⊢;omega
   intro v' w5 s6;simp
   try simp (disch:=omega) only [wrap64]
   refine hN _ _ ⟨i+1,v',_,by simp;exact rfl,by omega,?_⟩ (by simp [ax];omega);refine St.cut (pt b (.cells ae[i].cs.toArray 201 (0,0))*pt c1 (.cells #[.int .i64 ae[i].num] 3 (0,0))) s6 ?_;rw [htake];simp only [List.filter_append,List.map_append,hp0,List.filter_cons_of_pos,List.filter_nil,List.map_cons,List.map_nil,ints,List.length_append,List.length_map,List.length_cons,List.length_nil];ac_rfl
  ·have hp0:=hp
   simp
   try simp (disch:=omega) only [wrap64]
   refine hN _ _ ⟨i+1,v,_,by simp;exact rfl,by omega,?_⟩ (by simp [ax];omega);refine St.cut (pt b (.cells ae[i].cs.toArray 201 (0,0))) s4 ?_;rw [htake,List.filter_append,List.filter_cons_of_neg (by simp [hp0]),List.filter_nil,List.append_nil];ac_rfl
 ·simp at h
  simp;refine hE _ _ _ ?_;simp;have:i=ae.length:=by omega
  subst this;rw [List.take_length] at s';exact ((oC (A:=A*own 3 1 v ((ae.filter pred).map It.num).length (ints ((ae.filter pred).map It.num))) (s'.drop.to (by ac_rfl))).swap).to (by simp)
theorem Nb (p:Nat) (lim:Int) (ae:List It) (a:Int) (w0 w:World) (A:al) (hl:ae.length<=1048576) (s:St w0 (A*cf p lim ae) w):
  ak Tryz.prog 141 [.pointer (some ⟨p,0,none⟩),.int .i64 a]
   (λr w'=>St w0 (A*cf p lim ae*own 3 1 r (LU ae a).length (ints (LU ae a))) w') w:=by
 refine aE Oy (by simp [Ud]) ?_;simp [Ud];refine bA s ?_;intro q w1 s1;simp;refine ad ((vZ p lim ae 224 q a _ (by kernel_rfl) (λx w0 w A s=>Kh x q a w0 w A s) w0 w1 A hl s1).mono ?_);intro r w2 s2;simp;exact s2
theorem M9 (p:Nat) (lim:Int) (ae:List It) (a:Int) (w0 w:World) (A:al) (hl:ae.length<=1048576) (s:St w0 (A*cf p lim ae) w):
  ak Tryz.prog 311 [.pointer (some ⟨p,0,none⟩),.int .i64 a]
   (λr w'=>St w0 (A*cf p lim ae*own 3 1 r (eD ae a).length (ints (eD ae a))) w') w:=by
 refine aE P7 (by simp [U8]) ?_;simp [U8];refine bA s ?_;intro q w1 s1;simp;refine ad ((vZ p lim ae 370 q a _ (by kernel_rfl) (λx w0 w A s=>Kd x q a w0 w A s) w0 w1 A hl s1).mono ?_);intro r w2 s2;simp;exact s2
structure WF (ae:List It):Prop where
 num:∀(i:Nat) (h:i<ae.length),ae[i].num=i+1
 kind:∀x∈ae,0<=x.kind/\x.kind<16
def ofP (a:Int) (x:It):Bool:= !decide (0<x.bp)&&decide (x.acc=a)
def jqa (l:List It):List Int:=(List.range 16).map λ(k:Nat)=>((l.filter λx=>decide (x.kind=(k:Int))).length:Int)
structure Ac where
 kind:Int
 a:Int
 b:Int
def Ac.cs (x:Ac):List Value:= [.int .i64 x.kind,.int .i64 x.a,.int .i64 x.b]
def Il (lim:Int) (ae:List It) (x:Ac):Int×List It:=
 if x.kind=1 then (dx lim ae x.a x.b).2 else if x.kind=2 then fy ae x.a x.b else if x.kind=3 then ff ae x.a x.b else if x.kind=4 then eH ae x.a x.b else (0,ae)
def fba (was:List It) (x:Ac):Option (List It):=
 if x.kind=1 then some (was++ [⟨was.length+1,x.a,x.b,0⟩])
 else if x.kind=2\/x.kind=3\/x.kind=4 then
  if 1<=x.a/\x.a<=was.length then
   if decide ((was.getD (x.a.toNat -1) ⟨0,0,0,0⟩).bp≠0)=decide (x.kind=4) then
    some (was.set (x.a.toNat -1) ⟨(was.getD (x.a.toNat -1) ⟨0,0,0,0⟩).num,(was.getD (x.a.toNat -1) ⟨0,0,0,0⟩).kind,if x.kind=3 then -1 else x.b,if x.kind=3 then x.b else 0⟩)
   else none
  else none
 else some was
def gK (was now:List It) (x:Ac):Bool:=match fba was x with
 |some l=>now==l
 |none=>false
structure GI (lim:Int) (ae:List It):Prop extends WF ae where
 len:(ae.length:Int)<=lim
 lim:lim<=512
 place:∀x∈ae,(x.bp=0/\0<=x.acc/\x.acc<64)\/(0<x.bp/\x.acc= -1)
def i1a (ae:List It) (n:Int):Nat:=(ae.filter λx=> !decide (0<x.bp)&&(decide (0<=x.acc)&&decide (x.acc<n))).length
def iza (ae:List It):Nat:=(ae.filter λx=>decide (x.bp≠0)).length
theorem SR {lim:Int} (h:0<=lim) (h2:lim<=512):GI lim [] where
 num i h:=by simp at h
 kind x h:=by cases h
 len:=by simpa using h
 lim:=h2
 place x h:=by cases h
theorem NW {lim:Int} {ae:List It} (hg:GI lim ae) {k a:Int} (ha:om a=true) (hk:rI k=true) (hl:¬lim<=ae.length):GI lim (ae++ [⟨ae.length+1,k,a,0⟩]) where
 num i h:=by
  by_cases e:i<ae.length
  ·rw [List.getElem_append_left e];exact hg.num i e
  ·have:i=ae.length:=by simp at h;omega
   subst this;simp
 kind x h:=by
  rcases List.mem_append.1 h with h|h
  ·exact hg.kind x h
  ·have:x=⟨ae.length+1,k,a,0⟩:=by simpa using h
   subst this
   simpa [rI] using hk
 len:=by simp;omega
 lim:=hg.lim
 place x h:=by
  rcases List.mem_append.1 h with h|h
  ·exact hg.place x h
  ·have:x=⟨ae.length+1,k,a,0⟩:=by simpa using h
   subst this;left
   simpa [om] using ha
theorem uF {lim:Int} {ae:List It} (hg:GI lim ae) {item:Int} {held:Bool} {a c:Int} (hp:(c=0/\0<=a/\a<64)\/(0<c/\a= -1)):GI lim (aP ae item held a c).2:=by
 unfold aP;split
 ·rename_i hi
  split
  ·have hlt:item.toNat -1<ae.length:=by omega
   have hgd:ae.getD (item.toNat -1) ⟨0,0,0,0⟩=ae[item.toNat -1]:=by simp [hlt]
   rw [hgd];refine ⟨⟨λi h=> ?_,λx hx=> ?_⟩,by rw [List.length_set];exact hg.len,hg.lim,λx hx=> ?_⟩
   ·rw [List.length_set] at h
    rw [List.getElem_set];split
    ·rename_i e;subst e;exact hg.num _ h
    ·exact hg.num i h
   ·rcases List.mem_or_eq_of_mem_set hx with h|rfl
    ·exact hg.kind x h
    ·exact hg.kind ae[item.toNat -1] (List.getElem_mem hlt)
   ·rcases List.mem_or_eq_of_mem_set hx with h|rfl
    ·exact hg.place x h
    ·exact hp
  ·exact hg
 ·exact hg
theorem nz (a:Int):om a=true↔0<=a/\a<64:=by simp [om]
theorem Lg {lim:Int} {ae:List It} (hg:GI lim ae) (x:Ac):GI lim (Il lim ae x).2:=by
 unfold Il;split
 ·unfold dx
  split
  ·exact hg
  split
  ·exact hg
  split
  ·exact hg
  ·rename_i h1 h2 h3
   exact NW hg (by simpa using h1) (by simpa using h2) h3
 split
 ·unfold fy
  split
  ·rename_i h;exact uF hg (.inl ⟨rfl,(nz _).1 h⟩)
  ·exact hg
 split
 ·unfold ff
  split
  ·exact hg
  ·rename_i h;exact uF hg (.inr ⟨by omega,rfl⟩)
 split
 ·unfold eH
  split
  ·rename_i h;exact uF hg (.inl ⟨rfl,(nz _).1 h⟩)
  ·exact hg
 ·exact hg
def acs (l:List Ac):List Value:=l.flatMap Ac.cs
def bUa:Nat->PO
 |0=>(.eqNil false (.slice 201) (.slice none 0 0))
 |1=>(.eqNil false (.pointer 198) (.pointer none))
 |2=> .chkp
 |3=>(.fld 0)
 |4=>(.fld 1)
 |5=>(.build #[(.int .i64 0),(.slice none 0 0)] [(0,1),(1,1)] [0,1])
 |_=> .same
def ZO:Nat->EO
 |0=>(.bsl 201 0 4 #[] [])
 |1=>(.app 196 196 201 4 32 (.agg #[(.int .i64 0),(.int .i64 0),(.int .i64 0),(.int .i64 0)]))
 |2=>(.ld false 1)
 |3=>(.call 157)
 |4=>(.box 198)
 |_=> .an
def d6a:Nat->Value
 |0=>(.slice none 0 0)
 |1=>(.pointer none)
 |_=>undef
def i5a:dk:=⟨bUa,ZO,d6a⟩
def RG (i:Nat) (x:It):Int:=if x.num≠(i:Int)+1 then 151 else if rI x.kind=false then 152 else if x.bp<0\/(0<x.bp/\x.acc≠ -1)\/(¬0<x.bp/\om x.acc=false) then 2 else 0
def RP:Nat->List It->Int
 |_,[]=>0
 |i,x::l=>if RG i x=0 then RP (i+1) l else RG i x
def iKa (lim:Int) (rows:List It):Int:=if 0<=lim/\lim<=512 then (if lim<rows.length then 150 else RP 0 rows) else 2
end Go.HL.Gd
