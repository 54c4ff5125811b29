/- Part 11. -/
import Derived.Test.YtpldhemgcoimaaaGreatMFMj
import Derived.Defers
set_option linter.unusedSimpArgs false
set_option linter.unusedVariables false
set_option maxRecDepth 4000
namespace Go.HL
def HP (P:Program) (f:FuncId) (args:List Value) (K:World->Prop) (w:World):Prop:=
 CallsD P f args.toArray .returning w λe u' w'=>u'= .returning/\∃v,e= .returned v/\K w'
structure Yl where
 t:Nat
 f:FuncId
 caps:List Operand
def Kn:List Oper->Option Yl
 | [⟨some t,.makeFunc (.func f) first caps,_,_,_,none⟩,⟨none,.defer ⟨.value (.tmp u),args,_⟩,_,_,_,none⟩]=>
  if u=t/\first.size=0/\args.size=0 then some ⟨t,f,caps.toList⟩ else none
 |_=>none
def Gr:Code->Option Yl
 | .region _ ops false=>Kn ops.toList
 |_=>none
def vQ:List Code->Option (List Code×Yl×List Code)
 | []=>none
 |c::r=>match Gr c with
  |some d=>some ([],d,r)
  |none=>(vQ r).map λq=>(c::q.1,q.2.1,q.2.2)
structure oO where
 L:List Nat
 N:Nat
 rs:List RV
 h1:HC
 f:FuncId
 caps:di
 h2:HC
section
variable {P:Program} (F:PF P)
def Lh (f:FuncId) (fuel:Nat):Option oO:=do
 let fn<-P.funcs[f]?
 let c<-fn.body
 let L:=Li fn c fuel
 let q<-vQ (flat c [])
 let h1<-iV F L fn.ntmps fuel q.1
 let h2<-iV F L fn.ntmps fuel q.2.2
 let rs<-AK P L fn.results.toList
 let es<-kR L [] q.2.1.caps
 if bP P q.2.1.f&& !(L.contains q.2.1.t)&&decide (q.2.1.t<fn.ntmps) then some ⟨L,fn.ntmps,rs,h1,q.2.1.f,es,h2⟩ else none
def EC (P:Program) (l:oO) (caps:List Value) (K:Value->World->Prop):EX->List Value->World->Prop
 | .ex _,_,_=>False
 |_,env,w=>HP P l.f caps (λw'=>yd P env l.rs (λvs w=>K (Jq vs) w) w') w
def Ss (l:oO) (K:Value->World->Prop):EX->List Value->World->Prop
 | .ex _,_,_=>False
 | .ret,env,w=>yd P env l.rs (λvs w=>K (Jq vs) w) w
 | .nrm,env,w=>l.h2.wp F (EC P l (di.dA F env [] l.caps) K) env w
variable {F}
theorem rE {fn:Func} {L:List Nat} {N:Nat} {D:List Deferred} {env:List Value} {a:Act} {rs:List RV} {w:World} {K:Value->World->Prop} (R:Rel L N D env a)
  (hrs:AK P L fn.results.toList=some rs) (hq:yd P env rs (λvs w=>K (Jq vs) w) w):∃v,(results fn a.tmps).run P w= .ok v w/\K v w:=by
 obtain ⟨vs,h1,h2⟩:=tz R _ _ w _ hrs hq;refine ⟨Jq vs,?_,h2⟩;have hm:(fn.results.mapM (fun| .tmp t=>pure (a.tmps.getD t undef)| .cell u t=>do loadVar t (<-asAddr (a.tmps.getD u undef)):ResultVar->Sem Value)).run P w= .ok vs.toArray w:=by rw [<-Array.toArray_toList (xs:=fn.results),List.mapM_toArray];simp only [Sem.run_map];refine (congrArg (λr=>Result.andThen r _) h1).trans ?_;simp only [Result.andThen_ok]
 have he:results fn a.tmps=(fn.results.mapM (fun| .tmp t=>pure (a.tmps.getD t undef)| .cell u t=>do loadVar t (<-asAddr (a.tmps.getD u undef)):ResultVar->Sem Value))>>=λvs=>pure (if h:vs.size=1 then vs[0] else .tuple vs):=rfl;rw [he,Sem.run_bind,hm];simp only [Result.andThen_ok,Sem.run_pure];rw [MC]
theorem HJ:∀(x y:List Code) (Q:Exit->Act->World->Prop) (a:Act) (w:World),A5 P x (Exit.then (A5 P y Q) Q) a w->A5 P (x++y) Q a w
 | [],y,Q,a,w,h=>h
 |c::r,y,Q,a,w,h=>by
  simp only [List.cons_append,A5] at h⊢
  refine wp_mono h λe a w q=> ?_;cases e with
  |normal=>exact HJ r y Q a w q
  |_=>exact q
theorem yj:∀{l:List Code} {q:List Code×Yl×List Code},vQ l=some q->∃c,l=q.1++c::q.2.2/\Gr c=some q.2.1
 | [],_,h=>by simp [vQ] at h
 |c::r,q,h=>by
  unfold vQ at h;split at h
  ·rename_i d hd
   cases h;exact ⟨c,rfl,hd⟩
  ·simp only [Option.map_eq_some_iff] at h
   obtain ⟨q',hq,rfl⟩:=h;obtain ⟨c',h1,h2⟩:=yj hq;exact ⟨c',by rw [h1];rfl,h2⟩
theorem Ko {c:Code} {d:Yl} (h:Gr c=some d) {L:List Nat} {N:Nat} {env:List Value} {a:Act} {w:World} {es:di} {Q:Exit->Act->World->Prop} (R:Rel L N [] env a)
  (hes:kR L [] d.caps=some es) (ht:L.contains d.t=false) (hN:d.t<N)
  (hn:∀a',Rel L N [{target:= .fn (.func d.f) (di.dA F env [] es).toArray,args:= #[]}] env a'->Q .normal a' w):c.wp P Q a w:=by
 cases c<;>simp only [Gr] at h<;>(try (cases h;done));rename_i id ops dr;cases dr<;>simp only at h<;>(try (cases h;done));refine wp_region_list ?_;unfold Kn at h;split at h
 ·rename_i t f first caps ty1 pos1 af1 u args ats ty2 pos2 af2 hops
  split at h
  ·rename_i hc
   obtain ⟨rfl,hf,ha⟩:=hc;cases h;simp only at hes ht hN hn;rw [hops];have hv:=R.inv (F:=F)|>.kR hes;have hf:first= #[]:=by simpa using hf
   have ha:args= #[]:=by simpa using ha
   subst hf ha;have hu:(a.put (some u) (.func (.func f) #[] (caps.map a.eval))).eval (.tmp u)= .func (.func f) #[] (caps.map a.eval):=by simp [Act.put,Act.eval,R.size,hN]
   have e1:(execOp a.eval ⟨some u,.makeFunc (.func f) #[] caps,ty1,pos1,af1,none⟩).run P w= .ok (.value (.func (.func f) #[] (caps.map a.eval))) w:=by simp [execOp,Instr.makeFunc]
   have e2:(execOp (a.put (some u) (.func (.func f) #[] (caps.map a.eval))).eval ⟨none,.defer ⟨.value (.tmp u),#[],ats⟩,ty2,pos2,af2,none⟩).run P w= .ok (.defer {target:= .fn (.func f) (caps.map a.eval),args:= #[]}) w:=by simp [execOp,resolve,hu,Deferred.ofValue]
   have hcap:caps.map a.eval=(di.dA F env [] es).toArray:=by rw [<-hv];have:caps=caps.toList.toArray:=rfl;generalize caps.toList=k at this⊢;subst this;simp only [List.map_toArray]
   have wn:∀(o:Oper) (y:Nat->Option Bool),o.guard=none->Region.wanted o y=true:=λo y hg=>by simp [Region.wanted,hg]
   unfold wpList;rw [if_pos (wn ⟨some u,.makeFunc (.func f) #[] caps,ty1,pos1,af1,none⟩ _ rfl)];left;unfold Oper.wp;rw [e1,Oper.upon_value];unfold wpList;rw [if_pos (wn ⟨none,.defer ⟨.value (.tmp u),#[],ats⟩,ty2,pos2,af2,none⟩ _ rfl)];left;unfold Oper.wp;rw [e2,Oper.upon_defer];refine hn _ ⟨?_,?_,R.len,?_⟩
   ·simp [Act.put,R.size]
   ·simp [Act.put,R.dfr,hcap]
   ·intro i t hi
    have hne:u≠t:=by rintro rfl;have:u∈L:=List.mem_of_getElem? hi;simp [this] at ht
    simp only [Act.put];rw [uH _ _ _ _ (by rw [R.size];exact hN),if_neg hne];exact R.get i t hi
  ·cases h
 ·cases h
theorem tX {f:FuncId} {fuel:Nat} {l:oO} (hl:Lh F f fuel=some l) {args:List Value} {K:Value->World->Prop} {w:World} (hlen:args.length<=l.N)
  (h:l.h1.wp F (Ss F l K) (uv l.L l.N args) w):aj P f args K w:=by
 simp only [Lh,Option.bind_eq_bind,Option.bind_eq_some_iff] at hl;obtain ⟨fn,hfn,c,hc,q,hq,h1,hl1,h2,hl2,rs,hrs,es,hes,hl⟩:=hl;split at hl
 ·rename_i hg
  simp only [Bool.and_eq_true,Bool.not_eq_true',decide_eq_true_eq] at hg;cases hl;simp only at h hlen;obtain ⟨c',hfl,hd⟩:=yj hq;refine calls_of_wp_defers hfn hc (uE ?_);rw [hfl];refine HJ _ _ _ _ _ (j3 (D:= []) _ _ _ hl1 _ _ _ _ _ ?_ ?_ h)
  ·intro e env a w R hq
   cases e with
   |ex id=>exact hq.elim
   |ret=>
    obtain ⟨v,hr,hk⟩:=rE R hrs hq;show Leaves P fn a.tmps _ a.defers .returning w;rw [R.dfr];exact ⟨v,hr,v,rfl,hk⟩
   |nrm=>
    show A5 P (c'::q.2.2) _ a w;simp only [A5];refine Ko (F:=F) hd R hes hg.1.2 hg.2 λa' R'=> ?_;refine j3 (D:= [{target:= .fn (.func q.2.1.f) (di.dA F env [] es).toArray,args:= #[]}]) _ _ _ hl2 _ _ _ _ _ ?_ R' hq;intro e env2 a2 w2 R2 hq2;have fin:HP P q.2.1.f (di.dA F env [] es) (λw'=>yd P env2 rs (λvs w=>K (Jq vs) w) w') w2->Leaves P fn a2.tmps (λe w'=>∃v,e= .returned v/\K v w') a2.defers .returning w2:=by
     intro hd2;rw [R2.dfr];refine leaves_cons (f:=q.2.1.f) (args:=(di.dA F env [] es).toArray) (by simp) ?_ ?_
     ·simpa [invoke] using dn hg.1.1 (di.dA F env [] es).toArray w2
     ·refine CallsD.mono hd2 ?_
      rintro e u' w' ⟨rfl,v,rfl,hk⟩;obtain ⟨v',hr,hk'⟩:=rE R2 hrs hk;exact ⟨v',hr,v',rfl,hk'⟩
    cases e with
    |nrm=>exact fin hq2
    |ex id=>exact hq2.elim
    |ret=>exact fin hq2
  ·refine ⟨?_,rfl,by simp [uv],λi t hi=> ?_⟩
   ·simp only [Array.size_append,List.size_toArray,Array.size_replicate]
    omega
   ·simp only [uv,List.getD_eq_getElem?_getD,List.getElem?_map,hi,Option.map_some,Option.getD_some]
    simp only [Array.getD_eq_getD_getElem?,Array.getElem?_append,List.getElem?_toArray,List.size_toArray,Array.getElem?_replicate];split
    ·rename_i hlt
     rw [if_pos (by omega)]
    ·rename_i hge
     have:args[t]? =none:=by simp;omega
     split<;>split<;>simp [this]
 ·cases hl
end
end Go.HL
