/- Part 11. -/
import Derived.Test.YtpldhemgcoimaaaGreatMFMj
import Derived.RangeFuncCalls
set_option linter.unusedSimpArgs false
set_option linter.unusedVariables false
set_option maxRecDepth 4000
namespace Go.HL.Es
open Go.HL Go.Proofs Go.RowKit Go.Shelf
attribute [local go_sem] Oper.semAt_some
section
variable {P:Program}
def Lo (P:Program) (fn:Func) (K:World->Prop):Exit->Act->World->Prop
 | .normal,a,w| .ret,a,w=>∃w',(a.defers= []/\w'=w\/∃D,a.defers= [{target:= .collected D,args:= #[]}]/\(Instr.takeDeferred D).run P w= .ok [] w')/\∃v,(results fn a.tmps).run P w'= .ok v w'/\K w'
 |_,_,_=>False
theorem pd {f:FuncId} {fn:Func} {c:Code} {args:List Value} {w:World} {K:World->Prop} (hf:P.funcs[f]?=some fn) (hb:fn.body=some c)
  (h:c.wp P (Lo P fn K) {tmps:=args.toArray++Array.replicate (fn.ntmps -args.toArray.size) undef,defers:= []} w):HP P f args K w:=by
 intro c₀ cs hu
 let b:Frame:={(default:Frame) with fn:=f,kind:= .deferred}
 have henter:Frame.enter P f args.toArray .deferred=
   b.at {tmps:=args.toArray++Array.replicate (fn.ntmps -args.toArray.size) undef,defers:= []} [.code c]:=by
  simp [Frame.enter,Frame.at,hf,hb,b]
 have hc:({c₀ with mode:= .returning}:Frame)=c₀:=by rw [<-hu]
 obtain ⟨e,a',w',hq,harr⟩:=h b [] (c₀::cs);rw [<-henter] at harr;have fin:∀todo,Steps P (lone (Frame.enter P f args.toArray .deferred) (c₀::cs) w) (lone {b.at a' todo with mode:= .returning} (c₀::cs) w')->
   (∃w'',(a'.defers= []/\w''=w'\/∃D,a'.defers= [{target:= .collected D,args:= #[]}]/\(Instr.takeDeferred D).run P w'= .ok [] w'')/\∃v,(results fn a'.tmps).run P w''= .ok v w''/\K w'')->
   ∃e u' w' fr,(u'=FrameMode.returning/\∃v,e= .returned v/\K w')/\Comes P (lone (Frame.enter P f args.toArray .deferred) (c₀::cs) w) (lone fr ({c₀ with mode:=u'}::cs) w') e/\fr.kind= .deferred/\fr.going P w' e:=by
  rintro todo hs ⟨w'',hd,v,hr,hK⟩;rcases hd with ⟨hd,rfl⟩|⟨D,hd,ht⟩
  ·exact ⟨.returned v,.returning,_,_,⟨rfl,v,rfl,hK⟩,(by rw [hc];exact hs),rfl,rfl,hd,fn,hf,hr⟩
  ·have h1:=step_collected (P:=P) (fr:={b.at a' todo with mode:= .returning}) (cs:=c₀::cs) (w:=w') (by simp) hd rfl ht
   exact ⟨.returned v,.returning,_,_,⟨rfl,v,rfl,hK⟩,(by rw [hc];exact Steps.trans hs (.one h1)),rfl,rfl,rfl,fn,hf,hr⟩
 cases e with
 |normal=>exact fin [] (Steps.trans harr (.one step_end)) hq
 |ret=>
  obtain ⟨todo,hs⟩:=harr;exact fin todo hs hq
 |panic chain=>exact hq.elim
 |exit id=>exact hq.elim
 |goto l=>exact hq.elim
 |outgrown=>exact hq.elim
theorem St.putObj {w0 w:World} {F:ak} {b:Nat} {o o':Obj} (s:St w0 (F*pt b o) w) (ho:∀c t f,o'≠ .cells c t f):St w0 (F*pt b o') (w.putObj b o'):=by have hb:=s.look;have hlt:=(Array.getElem?_eq_some_iff.1 hb).1;refine s.rX (w':=w.putObj b o') (World.putObj_heap_same hlt) (λc hc=>World.putObj_heap_other hc) (by simp [World.putObj]) rfl rfl (λc t f e=>absurd e (ho c t f))
abbrev lp (st:LoopState) (fn:FuncId) (tmps:Array Value) (ps:Array Tmp) (assign body:Code) (D:Nat):Loop:={state:=st,pending:=none,fn:=fn,tmps:=tmps,params:=ps,assign:=assign,body:=body,defers:=D}
theorem Ma {w0 W:World} {F:ak} {R:World->Prop} {m l D:Nat} {fn:FuncId} {tmps:Array Value} {ps:Array Tmp} {assign body:Code} {args:Array Value} {ob:Obj}
  (hob:ob= .loop (lp .ready fn tmps ps assign body D)) (s:St w0 (F*pt l ob) W) (hs:args.size=ps.size)
  (h:∀bs,assign.wpIn (Fence.wide.inRound l) m P (Exit.then (λa₁ w₁=>w₁=W/\∀W2,St w0 (F*pt l bs) W2->
    body.wpIn (Fence.wide.inRound l) m P (λe _ W3=>e= .normal/\∃F',St w0 (F'*pt l bs) W3/\∀W4,St w0 (F'*pt l ob) W4->R W4) a₁ W2) (λ_ _ _=>False))
   {tmps:=(ps.zip args).foldl (λt (p,v)=>t.setIfInBounds p v) tmps,defers:= []} W):
  YieldAt Fence.wide m P l args W λe W'=>e= .returned (.bool true)/\R W':=by
 subst hob;refine ⟨_,_,_,_,run_yield s.look hs,roundIn_of_wpIn trivial (wpIn_mono (h (.loop (lp .busy fn tmps ps assign body D))) λe a w q=> ?_)⟩;cases e with
 |normal=>
  obtain ⟨rfl,hb⟩:=q;refine ⟨_,run_beginRound s.look rfl,?_⟩;refine wpIn_mono (hb _ (St.putObj s (by intro _ _ _ h;cases h))) λe a w q=> ?_;obtain ⟨rfl,F',s3,hR⟩:=q;exact ⟨_,_,run_endRound none s3.look,rfl,hR _ (St.putObj s3 (by intro _ _ _ h;cases h))⟩
 |_=>exact q
theorem C7 {w0 w:World} {F:ak} {g:Operand} {ps:Array Tmp} {assign body:Code} {Q:Exit->Act->World->Prop} {a:Act} {n gf:Nat} {lb:Array Value}
  (hg:a.eval g= .func (.func gf) #[] lb) (hb:bP P gf=true) (hn:1<=n) (s:St w0 F w)
  (h:∀fn l D ob W,ob= .loop (lp .ready fn a.tmps ps assign body D)->St w0 (F*pt D (.deferred (some []))*pt l ob) W->
   CallsIn Fence.wide (n -1) P gf (#[.func (.yield l) #[] #[]]++lb) W λe W'=>(∃v,e= .returned v)/\∃F',St w0 (F'*pt D (.deferred (some []))*pt l ob) W'/\
    ∀W'',St w0 (F'*pt D (.deferred (some []))) W''->Q .normal {a with defers:={target:= .collected D,args:= #[]}::a.defers} W''):
  (Code.rangeFunc g ps assign body).wpIn Fence.wide n P Q a w:=by
 refine wpIn_rangeFunc λfn hfn=> ?_;have s2:=(St.alloc s (o:= .deferred (some [])) trivial).alloc (o:= .loop (lp .ready fn a.tmps ps assign body w.heap.size)) trivial;rw [World.size_alloc] at s2;have h1:=run_enterLoop_outer (P:=P) (w:=w) fn a.tmps ps assign body;have h2:=h fn _ _ _ _ rfl s2;clear h s s2;generalize (w.alloc (.deferred (some []))).alloc (.loop (lp .ready fn a.tmps ps assign body w.heap.size))=W1 at h1 h2;have h3:(resolve a.eval (rangeCall g (w.heap.size+1)) 0).run P W1= .ok {target:= .fn (.func gf) lb,args:= #[.func (.yield (w.heap.size+1)) #[] #[]]} W1:=by simp only [resolve,hg];simp [Deferred.ofValue,Act.eval]
 have h4:(invoke (.fn (.func gf) lb) #[.func (.yield (w.heap.size+1)) #[] #[]]).run P W1= .ok (.enter gf (#[.func (.yield (w.heap.size+1)) #[] #[]]++lb)) W1:=by simpa only [invoke] using dn hb _ _
 refine ⟨_,_,_,_,_,gf,_,_,h1,h3,λ_ _=>trivial,h4,λ_=>hn,CallsIn.mono h2 ?_⟩;rintro e W' ⟨⟨v,rfl⟩,F',s3,hQ⟩;exact ⟨none,_,run_endLoop s3.look (by simp),hQ _ (St.putObj s3 (o':= .loop {lp .ready fn a.tmps ps assign body w.heap.size with state:= .exhausted}) (by intro _ _ _ h;cases h)).drop⟩
end
noncomputable abbrev E0:PF Tryz.prog:=PF.none _
def UO:ai:=⟨[0,1,2],4,[.slot 2],aN tG [] 0x39bff73757104e3810b104e3bf89a67648b1c2cc1f08343⟩
theorem PQ:af E0 230 400=some UO:=by kernel_rfl
def UN:ai:=⟨[0,1],7,[],aN tG [] 0x9e28a289a632442401072e3324a13c3c8131040⟩
theorem PN:af E0 228 400=some UN:=by kernel_rfl
theorem wD {w0 w:World} {A:ak} {v:Value} (s:St w0 A w):
  aj Tryz.prog 230 [v] (λr w'=>∃Bs,r= .func (.func 289) #[] #[.pointer (some ⟨Bs,0,none⟩)]/\St w0 (A*pt Bs (.cells v.cells 300 (0,0))) w') w:=by
 refine aG PQ (by simp [UO]) ?_;simp [UO];refine bu s λBs w' s=> ?_;simp;exact s
set_option maxRecDepth 100000 in
set_option maxHeartbeats 2000000 in
theorem Rc {w0 w:World} {A:ak} {Be Br:Nat} {K:World->Prop} (s:St w0 (A*pt Be (.cells #[.int .i64 0] 38 (0,0))) w) (hK:K w):
  HP Tryz.prog 229 [.pointer (some ⟨Be,0,none⟩),.pointer (some ⟨Br,0,none⟩)] K w:=by
 refine pd Tryz.func229 rfl ?_;have hBe:w.cell? ⟨Be,0,none⟩=some (.int .i64 0):=cell_of s.look;refine (wpIn_wide (n:=9)).1 ?_;simp only [Tryz.ntmps229,List.size_toArray,List.length_cons,List.length_nil,Nat.reduceAdd,Nat.reduceSub,Array.replicate_succ,Array.replicate_zero,List.push_toArray,List.append_toArray,List.nil_append,List.cons_append]
 gi_wp2
 exact ⟨_,.inl ⟨rfl,rfl⟩,_,results_none rfl _ _ _,hK⟩
theorem vv {w0 w:World} {A E R O B:ak} (s:St w0 (A*R*O*B*E) w):St w0 (A*E*R*B*O) w:=s.to (by ac_rfl)
theorem b7a {w0 w:World} {A E R O B S D L:ak} (s:St w0 (A*E*R*O*B*S*D*L) w):St w0 (A*E*R*O*B*D*L*S) w:=s.to (by ac_rfl)
theorem Z8 {w0 w:World} {A E R O B S D L:ak} (s:St w0 (A*E*R*O*B*S*D*L) w):St w0 (A*E*R*O*S*D*L*B) w:=s.to (by ac_rfl)
theorem b8a {w0 w:World} {A E R O B S D L:ak} (s:St w0 (A*E*R*O*S*D*L*B) w):St w0 (A*E*R*O*B*S*D*L) w:=s.to (by ac_rfl)
theorem b6a {w0 w:World} {A E R O B S D L:ak} (s:St w0 (A*E*R*O*B*S*D*L) w):St w0 (A*E*R*B*S*D*L*O) w:=s.to (by ac_rfl)
set_option maxRecDepth 100000 in
set_option maxHeartbeats 2000000 in
theorem MF {w0 w:World} {A:ak} {Be Br:Nat} {e:Int} {n:Nat} {v:Value} {fs:List Value} (he:e≠0) (hn:n*8<=140737488351232)
  (B:Nat->ak)
  (hB:∀(G:ak) (k:Nat) (W:World),k<n->St w0 (G*B (k+1)) W->∃g cs,fs[k]?=some (.func (.func g) #[] cs)/\bP Tryz.prog g=true/\aj Tryz.prog g cs.toList (λ_ W'=>St w0 (G*B k) W') W)
  (s:St w0 (A*pt Be (.cells #[.int .i64 e] 38 (0,0))*pt Br (.cells #[v] 300 (0,0))*own 1 1 v n fs*B n) w):
  HP Tryz.prog 229 [.pointer (some ⟨Be,0,none⟩),.pointer (some ⟨Br,0,none⟩)]
   (λw'=>St w0 (A*pt Be (.cells #[.int .i64 e] 38 (0,0))*B 0) w') w:=by
 refine pd Tryz.func229 rfl ?_;have sE:St w0 (A*pt Br (.cells #[v] 300 (0,0))*own 1 1 v n fs*B n*pt Be (.cells #[.int .i64 e] 38 (0,0))) w:=s.to (by ac_rfl);have sR:St w0 (A*pt Be (.cells #[.int .i64 e] 38 (0,0))*own 1 1 v n fs*B n*pt Br (.cells #[v] 300 (0,0))) w:=s.to (by ac_rfl);have hBe:w.cell? ⟨Be,0,none⟩=some (.int .i64 e):=(cell_of sE.look).trans rfl;have hBr:w.cell? ⟨Br,0,none⟩=some v:=(cell_of sR.look).trans rfl;refine (wpIn_wide (n:=9)).1 ?_;simp only [Tryz.ntmps229,List.size_toArray,List.length_cons,List.length_nil,Nat.reduceAdd,Nat.reduceSub,Array.replicate_succ,Array.replicate_zero,List.push_toArray,List.append_toArray,List.nil_append,List.cons_append];have hne:(decide (e=0))=false:=by simpa using he
 gi_wp2
 refine ⟨trivial,(callsIn_wide.2 (wD s)).mono ?_⟩;rintro e' w1 ⟨_,rfl,Bs,rfl,s1⟩
 gi_wp2
 have hv:v.cells= #[v]:=by obtain ⟨a,cap,rfl,_⟩:=St.ax (vv sE);rfl
 rw [hv] at s1;refine C7 (gf:=289) (lb:= #[.pointer (some ⟨Bs,0,none⟩)]) rfl (by kernel_rfl) (by omega) s1 λfn l D ob W hob sW=> ?_;have key:CallsIn Fence.wide 8 Tryz.prog 289 #[.func (.yield l) #[] #[],.pointer (some ⟨Bs,0,none⟩)] W λe' W'=>(∃v,e'= .returned v)/\
   St w0 (A*pt Be (.cells #[.int .i64 e] 38 (0,0))*pt Br (.cells #[v] 300 (0,0))*own 1 1 v n fs*B 0*pt Bs (.cells #[v] 300 (0,0))*pt D (.deferred (some []))*pt l ob) W':=by
  have hS:=λk W (hJ:St w0 (A*pt Be (.cells #[.int .i64 e] 38 (0,0))*pt Br (.cells #[v] 300 (0,0))*own 1 1 v n fs*B k*pt Bs (.cells #[v] 300 (0,0))*pt D (.deferred (some []))*pt l ob) W)=>
   (cell_of (off:=0) (b7a hJ).look).trans (rfl:_=some v)
  have hlen:=(vv sE).own.1;rcases St.iE (vv sE) with ⟨hfs,rfl⟩|⟨g,cap,rfl,hcap,_⟩
  ·have hn0:n=0:=by subst hfs;simp at hlen;omega
   subst hn0;exact YH 8 l Bs _ W (hS 0 W sW) sW
  ·refine YI 8 (by omega) l Bs g 0 n cap fs (by omega) (λk W=>St w0 (A*pt Be (.cells #[.int .i64 e] 38 (0,0))*pt Br (.cells #[.slice (some ⟨g,0,none⟩) n cap] 300 (0,0))*own 1 1 (.slice (some ⟨g,0,none⟩) n cap) n fs*B k*pt Bs (.cells #[.slice (some ⟨g,0,none⟩) n cap] 300 (0,0))*pt D (.deferred (some []))*pt l ob) W) ?_ ?_ W sW
   ·intro k W hJ
    refine ⟨hS k W hJ,λj hj=> ?_⟩;rcases St.iE (b6a hJ) with ⟨hfs,h⟩|⟨g',cap',h,_,hc⟩
    ·cases h
    ·cases h
     have hj':j<fs.length:=by omega
     rw [Nat.zero_add];have:=hc j fs[j] (by simp [hj']);rw [this];simp [hj']
   ·intro k W hJ hk
    obtain ⟨g',cs,hg,hb,_⟩:=hB _ k W hk (Z8 hJ);have hg':fs[k]?.getD undef= .func (.func g') #[] cs:=by rw [hg];rfl
    have eg:=λargs w=>dn (P:=Tryz.prog) hb args w;rw [hg'];refine Ma hob hJ (by rfl) λbs=> ?_
    gi_wp2
    intro W2 s4;obtain ⟨g2,cs2,hg2,_,hcall⟩:=hB _ k W2 hk (Z8 s4);rw [hg] at hg2;cases hg2
    gi_wp2
    refine ⟨trivial,((callsIn_wide.2 hcall).inRound l).mono ?_⟩;rintro e' W3 ⟨_,rfl,s5⟩
    gi_wp2
    exact ⟨_,b8a s5,λW4 s6=>s6⟩
 refine key.mono ?_;rintro e' W' ⟨hv',s7⟩;refine ⟨hv',_,s7,λW'' s8=> ?_⟩;refine ⟨_,.inr ⟨D,rfl,run_takeDeferred s8.look⟩,_,results_none rfl _ _ _,?_⟩;exact (St.putObj s8 (o':= .deferred none) (by intro _ _ _ h;cases h)).cut (pt Br (.cells #[v] 300 (0,0))*own 1 1 v n fs*pt Bs (.cells #[v] 300 (0,0))*pt D (.deferred none)) (by ac_rfl)
end Go.HL.Es
