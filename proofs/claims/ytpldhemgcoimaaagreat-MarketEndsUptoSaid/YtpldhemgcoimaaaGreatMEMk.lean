/- Part 11. -/
import Derived.Test.YtpldhemgcoimaaaGreatMEMj
import Derived.Defers
set_option linter.unusedSimpArgs false
set_option linter.unusedVariables false
set_option maxRecDepth 4000
namespace Go.HL
def H4 (P:Program) (f:FuncId) (args:List Value) (K:World->Prop) (w:World):Prop:=
 CallsD P f args.toArray .returning w λe u' w'=>u'= .returning/\∃v,e= .returned v/\K w'
structure YF where
 t:Nat
 f:FuncId
 caps:List Operand
def KG:List Oper->Option YF
 | [⟨some t,.makeFunc (.func f) first caps,_,_,_,none⟩,⟨none,.defer ⟨.value (.tmp u),args,_⟩,_,_,_,none⟩]=>
  if u=t/\first.size=0/\args.size=0 then some ⟨t,f,caps.toList⟩ else none
 |_=>none
def GJ:Code->Option YF
 | .region _ ops false=>KG ops.toList
 |_=>none
def wo:List Code->Option (List Code×YF×List Code)
 | []=>none
 |c::r=>match GJ c with
  |some d=>some ([],d,r)
  |none=>(wo r).map λq=>(c::q.1,q.2.1,q.2.2)
structure pb where
 L:List Nat
 N:Nat
 rs:List RV
 h1:HC
 f:FuncId
 caps:dt
 h2:HC
section
variable {P:Program} (F:PF P)
def Lx (f:FuncId) (fuel:Nat):Option pb:=do
 let fn<-P.funcs[f]?
 let c<-fn.body
 let L:=Ly fn c fuel
 let q<-wo (flat c [])
 let h1<-iX F L fn.ntmps fuel q.1
 let h2<-iX F L fn.ntmps fuel q.2.2
 let rs<-A0 P L fn.results.toList
 let es<-kW L [] q.2.1.caps
 if bT P q.2.1.f&& !(L.contains q.2.1.t)&&decide (q.2.1.t<fn.ntmps) then some ⟨L,fn.ntmps,rs,h1,q.2.1.f,es,h2⟩ else none
def ES (P:Program) (l:pb) (caps:List Value) (K:Value->World->Prop):EX->List Value->World->Prop
 | .ex _,_,_=>False
 |_,env,w=>H4 P l.f caps (λw'=>yx P env l.rs (λvs w=>K (JI vs) w) w') w
def SM (l:pb) (K:Value->World->Prop):EX->List Value->World->Prop
 | .ex _,_,_=>False
 | .ret,env,w=>yx P env l.rs (λvs w=>K (JI vs) w) w
 | .nrm,env,w=>l.h2.wp F (ES P l (dt.dF F env [] l.caps) K) env w
variable {F}
theorem rS {fn:Func} {L:List Nat} {N:Nat} {D:List Deferred} {env:List Value} {a:Act} {rs:List RV} {w:World} {K:Value->World->Prop} (R:Rel L N D env a)
  (hrs:A0 P L fn.results.toList=some rs) (hq:yx P env rs (λvs w=>K (JI vs) w) w):∃v,(results fn a.tmps).run P w= .ok v w/\K v w:=by
 obtain ⟨vs,h1,h2⟩:=tR R _ _ w _ hrs hq;refine ⟨JI vs,?_,h2⟩;have hm:(fn.results.mapM (fun| .tmp t=>pure (a.tmps.getD t undef)| .cell u t=>do loadVar t (<-asAddr (a.tmps.getD u undef)):ResultVar->Sem Value)).run P w= .ok vs.toArray w:=by rw [<-Array.toArray_toList (xs:=fn.results),List.mapM_toArray];simp only [Sem.run_map];refine (congrArg (λr=>Result.andThen r _) h1).trans ?_;simp only [Result.andThen_ok]
 have he:results fn a.tmps=(fn.results.mapM (fun| .tmp t=>pure (a.tmps.getD t undef)| .cell u t=>do loadVar t (<-asAddr (a.tmps.getD u undef)):ResultVar->Sem Value))>>=λvs=>pure (if h:vs.size=1 then vs[0] else .tuple vs):=rfl;rw [he,Sem.run_bind,hm];simp only [Result.andThen_ok,Sem.run_pure];rw [MN]
theorem HZ:∀(x y:List Code) (Q:Exit->Act->World->Prop) (a:Act) (w:World),Bk P x (Exit.then (Bk P y Q) Q) a w->Bk P (x++y) Q a w
 | [],y,Q,a,w,h=>h
 |c::r,y,Q,a,w,h=>by
  simp only [List.cons_append,Bk] at h⊢
  refine wp_mono h λe a w q=> ?_;cases e with
  |normal=>exact HZ r y Q a w q
  |_=>exact q
theorem yB:∀{l:List Code} {q:List Code×YF×List Code},wo l=some q->∃c,l=q.1++c::q.2.2/\GJ c=some q.2.1
 | [],_,h=>by simp [wo] at h
 |c::r,q,h=>by
  unfold wo at h;split at h
  ·rename_i d hd
   cases h;exact ⟨c,rfl,hd⟩
  ·simp only [Option.map_eq_some_iff] at h
   obtain ⟨q',hq,rfl⟩:=h;obtain ⟨c',h1,h2⟩:=yB hq;exact ⟨c',by rw [h1];rfl,h2⟩
theorem KH {c:Code} {d:YF} (h:GJ c=some d) {L:List Nat} {N:Nat} {env:List Value} {a:Act} {w:World} {es:dt} {Q:Exit->Act->World->Prop} (R:Rel L N [] env a)
  (hes:kW L [] d.caps=some es) (ht:L.contains d.t=false) (hN:d.t<N)
  (hn:∀a',Rel L N [{target:= .fn (.func d.f) (dt.dF F env [] es).toArray,args:= #[]}] env a'->Q .normal a' w):c.wp P Q a w:=by
 cases c<;>simp only [GJ] at h<;>(try (cases h;done));rename_i id ops dr;cases dr<;>simp only at h<;>(try (cases h;done));refine wp_region_list ?_;unfold KG at h;split at h
 ·rename_i t f first caps ty1 pos1 af1 u args ats ty2 pos2 af2 hops
  split at h
  ·rename_i hc
   obtain ⟨rfl,hf,ha⟩:=hc;cases h;simp only at hes ht hN hn;rw [hops];have hv:=R.inv (F:=F)|>.kW hes;have hf:first= #[]:=by simpa using hf
   have ha:args= #[]:=by simpa using ha
   subst hf ha;have hu:(a.put (some u) (.func (.func f) #[] (caps.map a.eval))).eval (.tmp u)= .func (.func f) #[] (caps.map a.eval):=by simp [Act.put,Act.eval,R.size,hN]
   have e1:(execOp a.eval ⟨some u,.makeFunc (.func f) #[] caps,ty1,pos1,af1,none⟩).run P w= .ok (.value (.func (.func f) #[] (caps.map a.eval))) w:=by simp [execOp,Instr.makeFunc]
   have e2:(execOp (a.put (some u) (.func (.func f) #[] (caps.map a.eval))).eval ⟨none,.defer ⟨.value (.tmp u),#[],ats⟩,ty2,pos2,af2,none⟩).run P w= .ok (.defer {target:= .fn (.func f) (caps.map a.eval),args:= #[]}) w:=by simp [execOp,resolve,hu,Deferred.ofValue]
   have hcap:caps.map a.eval=(dt.dF F env [] es).toArray:=by rw [<-hv];have:caps=caps.toList.toArray:=rfl;generalize caps.toList=k at this⊢;subst this;simp only [List.map_toArray]
   have wn:∀(o:Oper) (y:Nat->Option Bool),o.guard=none->Region.wanted o y=true:=λo y hg=>by simp [Region.wanted,hg]
   unfold wpList;rw [if_pos (wn ⟨some u,.makeFunc (.func f) #[] caps,ty1,pos1,af1,none⟩ _ rfl)];left;unfold Oper.wp;rw [e1,Oper.upon_value];unfold wpList;rw [if_pos (wn ⟨none,.defer ⟨.value (.tmp u),#[],ats⟩,ty2,pos2,af2,none⟩ _ rfl)];left;unfold Oper.wp;rw [e2,Oper.upon_defer];refine hn _ ⟨?_,?_,R.len,?_⟩
   ·simp [Act.put,R.size]
   ·simp [Act.put,R.dfr,hcap]
   ·intro i t hi
    have hne:u≠t:=by rintro rfl;have:u∈L:=List.mem_of_getElem? hi;simp [this] at ht
    simp only [Act.put];rw [uX _ _ _ _ (by rw [R.size];exact hN),if_neg hne];exact R.get i t hi
  ·cases h
 ·cases h
theorem uq {f:FuncId} {fuel:Nat} {l:pb} (hl:Lx F f fuel=some l) {args:List Value} {K:Value->World->Prop} {w:World} (hlen:args.length<=l.N)
  (h:l.h1.wp F (SM F l K) (uL l.L l.N args) w):aj P f args K w:=by
 simp only [Lx,Option.bind_eq_bind,Option.bind_eq_some_iff] at hl;obtain ⟨fn,hfn,c,hc,q,hq,h1,hl1,h2,hl2,rs,hrs,es,hes,hl⟩:=hl;split at hl
 ·rename_i hg
  simp only [Bool.and_eq_true,Bool.not_eq_true',decide_eq_true_eq] at hg;cases hl;simp only at h hlen;obtain ⟨c',hfl,hd⟩:=yB hq;refine calls_of_wp_defers hfn hc (uU ?_);rw [hfl];refine HZ _ _ _ _ _ (j8 (D:= []) _ _ _ hl1 _ _ _ _ _ ?_ ?_ h)
  ·intro e env a w R hq
   cases e with
   |ex id=>exact hq.elim
   |ret=>
    obtain ⟨v,hr,hk⟩:=rS R hrs hq;show Leaves P fn a.tmps _ a.defers .returning w;rw [R.dfr];exact ⟨v,hr,v,rfl,hk⟩
   |nrm=>
    show Bk P (c'::q.2.2) _ a w;simp only [Bk];refine KH (F:=F) hd R hes hg.1.2 hg.2 λa' R'=> ?_;refine j8 (D:= [{target:= .fn (.func q.2.1.f) (dt.dF F env [] es).toArray,args:= #[]}]) _ _ _ hl2 _ _ _ _ _ ?_ R' hq;intro e env2 a2 w2 R2 hq2;have fin:H4 P q.2.1.f (dt.dF F env [] es) (λw'=>yx P env2 rs (λvs w=>K (JI vs) w) w') w2->Leaves P fn a2.tmps (λe w'=>∃v,e= .returned v/\K v w') a2.defers .returning w2:=by
     intro hd2;rw [R2.dfr];refine leaves_cons (f:=q.2.1.f) (args:=(dt.dF F env [] es).toArray) (by simp) ?_ ?_
     ·simpa [invoke] using dw hg.1.1 (dt.dF F env [] es).toArray w2
     ·refine CallsD.mono hd2 ?_
      rintro e u' w' ⟨rfl,v,rfl,hk⟩;obtain ⟨v',hr,hk'⟩:=rS R2 hrs hk;exact ⟨v',hr,v',rfl,hk'⟩
    cases e with
    |nrm=>exact fin hq2
    |ex id=>exact hq2.elim
    |ret=>exact fin hq2
  ·refine ⟨?_,rfl,by simp [uL],λi t hi=> ?_⟩
   ·simp only [Array.size_append,List.size_toArray,Array.size_replicate]
    omega
   ·simp only [uL,List.getD_eq_getElem?_getD,List.getElem?_map,hi,Option.map_some,Option.getD_some]
    simp only [Array.getD_eq_getD_getElem?,Array.getElem?_append,List.getElem?_toArray,List.size_toArray,Array.getElem?_replicate];split
    ·rename_i hlt
     rw [if_pos (by omega)]
    ·rename_i hge
     have:args[t]? =none:=by simp;omega
     split<;>split<;>simp [this]
 ·cases hl
end
end Go.HL
