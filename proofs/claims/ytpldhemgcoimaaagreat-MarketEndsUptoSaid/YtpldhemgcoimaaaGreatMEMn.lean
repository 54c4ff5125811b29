/- Part 14. -/
import Derived.Test.YtpldhemgcoimaaaGreatMEMm
import Derived.Laws.Externs
set_option linter.unusedSimpArgs false
set_option linter.unusedVariables false
set_option maxRecDepth 4000
namespace Go.HL.Es
open Go.HL Go.Proofs
def UY:ag:=⟨[0,1,4,5,6,7],17,[.slot 2,.slot 3],aM tG [] 0xe79bff699d920034040a8bc0b2ffda67648c08348609c6d5d46405118d4640512789c71a676566cce045566ccc0449b33819b33015351900500082c49da6764800d2182⟩
theorem Pr:ai E0 201 400=some UY:=by kernel_rfl
def Uy:ag:=⟨[0,2,3,4,6,7,8,9,10,11],27,[.slot 1,.slot 2],aM tG [] 0xb39e6ffda6764800900c1b6ee677375750d0fbefb50d0fbeb6ce67dd0143a2f02cbff699d9018248605c6d5d40406118d4040612789c71a676566cce046566ccc0459b33819b3301f444032090a7ef7cc4d3df901cb040f7e4072c1068bc2bc071b57de90f8763de90f8702771a659d9203e57c0ba4001fc0a7dd21839da676480092181⟩
theorem OP:ai E0 145 400=some Uy:=by kernel_rfl
def U8:ag:=⟨[0,1,4],9,[.slot 2],aM tG [] 0x39e6fff74800a8bc0b2fff748709c6d5d434011d8d434011e8bc0b2fff748309c6d5f09f98f09fa7dd2002⟩
theorem P4:ai E0 227 400=some U8:=by kernel_rfl
def Vf:ag:=⟨[0,1,2],19,[],aM tG [] 0xb2773b89a614f42401ccffb4d3c006034f001bc028bc0b2ffdcee2698f41ccb3c2d34f00180d3c006f0071b575190083635190083⟩
theorem Qa:ai E0 234 400=some Vf:=by kernel_rfl
def Kd:Array Value->Sem Value:=λargs=>do
  let (x,y,c)<-Extern.MathBitsCarry.three "Add64" args
  pure (Extern.MathBitsCarry.pair ((x+y+c) %Extern.MathBitsCarry.m64) ((x+y+c) /Extern.MathBitsCarry.m64))
theorem S6:Extern.find Tryz.f275=some Kd:=by kernel_rfl
theorem aya {P:Program} (x y:Nat) (w:World):(Kd #[.int .u64 x,.int .u64 y,.int .u64 0]).run P w=
  .ok (.tuple #[.int .u64 (((x+y+0) %18446744073709551616:Nat):Int),.int .u64 (((x+y+0) /18446744073709551616:Nat):Int)]) w:=rfl
theorem Iu {x y:Int} {K:Value->World->Prop} {w:World} (hx:0<=x/\x<18446744073709551616) (hy:0<=y/\y<18446744073709551616)
  (hk:K (.tuple #[.int .u64 ((x+y) %18446744073709551616),.int .u64 ((x+y) /18446744073709551616)]) w):
  aA Tryz.prog (.cext 275) [.int .u64 x,.int .u64 y,.int .u64 0] K w:=by
 intro _;unfold fV;have h:=run_callFunc_extern (P:=Tryz.prog) (f:=275) (fn:=Tryz.f275) Tryz.func275 (by kernel_rfl) (by kernel_rfl) (by kernel_rfl) S6 #[.int .u64 x,.int .u64 y,.int .u64 0] w;simp only [EO.mg];rw [h];obtain ⟨a,rfl⟩:∃a:Nat,x=a:=⟨x.toNat,by omega⟩;obtain ⟨b,rfl⟩:∃b:Nat,y=b:=⟨y.toNat,by omega⟩;have hr:=aya (P:=Tryz.prog) a b w;have e1:(((a+b+0) %18446744073709551616:Nat):Int)=((a:Int)+b) %18446744073709551616:=by omega
 have e2:(((a+b+0) /18446744073709551616:Nat):Int)=((a:Int)+b) /18446744073709551616:=by omega
 rw [e1,e2] at hr;rw [hr];exact hk
theorem JV (x y:Int) (w:World) (hx:0<=x/\x<18446744073709551616) (hy:0<=y/\y<18446744073709551616):
  aj Tryz.prog 201 [.int .u64 x,.int .u64 y] (λr w'=>r= .tuple #[.int .u64 (if x+y<18446744073709551616 then x+y else 0),.int .i64 (if x+y<18446744073709551616 then 0 else 10)]/\w'=w) w:=by
 refine aG Pr (by simp [UY]) ?_;simp [UY];refine Iu hx hy ?_;simp
 by_cases h:x+y<18446744073709551616
 ·have e1:(x+y) /18446744073709551616=0:=by omega
  have e2:(x+y) %18446744073709551616=x+y:=by omega
  simp [h,e1,e2]
 ·have e1:(x+y) /18446744073709551616=1:=by omega
  simp [h,e1]
theorem Ck:oe Tryz.prog 229 3 27 (.int .u64 0):=⟨by kernel_rfl,by kernel_rfl,by kernel_rfl⟩
abbrev lZ (s p g m:Nat):ak:=pt s (.cells #[.pointer (some ⟨p,0,none⟩),.pointer (some ⟨g,0,none⟩),.map (some m)] 231 (0,0))
def fX (s p g:Nat) (l:List Rw):ak:=E4 λm=>lZ s p g m*Lg m l
theorem uM {w0 w:World} {A:ak} {s p g:Nat} {l:List Rw} (h:St w0 (A*fX s p g l) w):∃m es c,EH es c l/\St w0 (A*lZ s p g m*ao m es c) w:=by obtain ⟨m,h⟩:=jy h;rw [<-au] at h;obtain ⟨es,c,hE,h⟩:=IV h;exact ⟨m,es,c,hE,h⟩
theorem ki {w0 w:World} {A:ak} {s p g m:Nat} {l:List Rw} {es:List En} {c:Nat} (hE:EH es c l) (h:St w0 (A*lZ s p g m*ao m es c) w):St w0 (A*fX s p g l) w:=by refine oK m ?_;rw [<-au];exact Fj hE h
def ub (c:Int):Int:=if c<1 then 2 else 0
theorem Eg (q:Nat) (c:Int) (w:World):aj Tryz.prog 227 [.pointer (some ⟨q,0,none⟩),.int .i64 c] (λr w'=>r= .int .i64 (ub c)/\w'=w) w:=by refine aG P4 (by simp [U8]) ?_;simp [U8,kL,ub]
theorem wk (s p g:Nat) (l:List Rw) (k v:Int) (w0 w:World) (A:ak) (ok:fu l) (h:St w0 (A*fX s p g l) w):
  aj Tryz.prog 234 [.pointer (some ⟨s,0,none⟩),.int .i64 k,.int .u64 v] (λ_ w'=>St w0 (A*fX s p g (fy k v l)) w') w:=by
 obtain ⟨m,es,c,hE,h⟩:=uM h;have hm:w.cell? ⟨s,2,none⟩=some (.map (some m)):=(cell_of h.swap.look).trans rfl;refine aG Qa (by simp [Vf]) ?_;simp [Vf];refine aR (λhv=> ?_) (λhv=> ?_)
 ·simp at hv
  simp;refine af hm ?_;simp;refine mC Ck h λw1 h1=> ?_;simp;have:=ki (hE.del k) h1
  simpa [fy,hv] using this
 ·simp at hv
  simp;refine af hm ?_;simp;cases hg:aZ es k with
  |none=>
   refine cu Ck h hg λw1 h1=> ?_;simp;have:=ki (hE.put hg ((hE.get ok k).2.1 hg)) h1
   simpa [fy,hv] using this
  |some u=>
   refine xF Ck h hg λw1 h1=> ?_;simp;have:=ki (hE.lW hg) h1
   simpa [fy,hv] using this
theorem wG (Br n:Nat) (v f:Value) (fs:List Value) (w0 w:World) (A:ak) (h1:f.oneCell'=true) (hn:n<=16777216) (s:St w0 (A*pt Br (.cells #[v] 300 (0,0))*own 1 1 v n fs) w):
  aj Tryz.prog 228 [f,.pointer (some ⟨Br,0,none⟩)] (λ_ w'=>∃v',St w0 (A*pt Br (.cells #[v'] 300 (0,0))*own 1 1 v' (n+1) (fs++ [f])) w') w:=by
 refine aG P5 (by simp [U9]) ?_;simp [U9];refine af (v:=v) ((cell_of s.swap.look).trans rfl) ?_;simp;refine fH s h1 λc w1 s1=> ?_;simp;refine bX (m:=1) (news:= [f]) s1.swap rfl s1.aL (by simp [h1]) (by decide) rfl (by unfold maxLen;omega) (by omega) λv' w2 s2=> ?_;simp;have hv:v'.oneCell'=true:=by obtain ⟨a,cap,rfl,_⟩:=s2.ax;rfl
 have s3:St w0 (A*pt c (.cells #[f] 1 (0,0))*own 1 1 v' (n+1) (fs++ [f])*pt Br (.cells #[v] 300 (0,0))) w2:=s2.to (by ac_rfl);refine cH s3 hv (by simp) λw3 s4=> ?_;simp;exact ⟨v',s4.cut (pt c (.cells #[f] 1 (0,0))) (by simp;ac_rfl)⟩
structure Gf where
 to:Int
 item:Int
 coins:Int
def Gf.cs (x:Gf):List Value:= [.int .i64 x.to,.int .i64 x.item,.int .u64 x.coins]
abbrev jX (b4 b5 b6 s:Nat) (c:Int) (x:Gf):ak:=
 pt b4 (.cells #[.pointer (some ⟨s,0,none⟩)] 89 (0,0))*pt b5 (.cells #[.int .i64 c] 3 (0,0))*pt b6 (.cells x.cs.toArray 73 (0,0))
theorem kH {w0 w:World} {A Z:ak} {b4 b5 b6 s p g:Nat} {c:Int} {x:Gf} {l:List Rw} (h:St w0 (A*jX b4 b5 b6 s c x*fX s p g l*Z) w):
  w.cell? ⟨b4,0,none⟩=some (.pointer (some ⟨s,0,none⟩))/\w.cell? ⟨b5,0,none⟩=some (.int .i64 c)/\w.cell? ⟨b6,0,none⟩=some (.int .i64 x.to)/\w.cell? ⟨b6,1,none⟩=some (.int .i64 x.item)/\
  w.cell? ⟨b6,2,none⟩=some (.int .u64 x.coins)/\w.cell? ⟨s,0,none⟩=some (.pointer (some ⟨p,0,none⟩))/\w.cell? ⟨s,1,none⟩=some (.pointer (some ⟨g,0,none⟩)):=by
 have h':St w0 (A*pt b4 (.cells #[.pointer (some ⟨s,0,none⟩)] 89 (0,0))*pt b5 (.cells #[.int .i64 c] 3 (0,0))*pt b6 (.cells x.cs.toArray 73 (0,0))*Z*fX s p g l) w:=h.to (by simp only [jX];ac_rfl);obtain ⟨m,es,cl,hE,h'⟩:=uM h';have f4:=h'.drop.drop.drop.drop.drop.look;have f5:=h'.drop.drop.drop.drop.look;have f6:=h'.drop.drop.drop.look;have fs:=h'.drop.look;exact ⟨(cell_of f4).trans rfl,(cell_of f5).trans rfl,(cell_of f6).trans rfl,(cell_of f6).trans rfl,(cell_of f6).trans rfl,(cell_of fs).trans rfl,(cell_of fs).trans rfl⟩
def Vw:ag:=⟨[0,1,2],11,[],aM tG [] 0xa6273bee289a614c910d10b838a0b1080d31045031045d349b30050349b30059b303c003⟩
theorem Qw:ai E0 291 400=some Vw:=by kernel_rfl
def Vy:ag:=⟨[0,1,2,3],17,[],aM tG [] 0xb278a28a2698532442e3324c0f10c0c4203c02989cefbee2698532443442e0c3c2d31046031046d31041031041d349b30010349b30019b303c003⟩
theorem Qy:ai E0 293 400=some Vy:=by kernel_rfl
theorem Gb (b4 b5 b6 s p g:Nat) (c lim:Int) (x:Gf) (ae:List Gd.It) (l:List Rw) (w0 w:World) (A:ak) (hl:ae.length<=1048576) (h:St w0 (A*jX b4 b5 b6 s c x*fX s p g l*Gd.bN g lim ae) w):
  aj Tryz.prog 291 [.pointer (some ⟨b4,0,none⟩),.pointer (some ⟨b6,0,none⟩),.pointer (some ⟨b5,0,none⟩)]
   (λ_ w'=>St w0 (A*jX b4 b5 b6 s c x*fX s p g l*Gd.bN g lim (Gd.gq ae x.item c).2) w') w:=by
 refine aG Qw (by simp [Vw]) ?_;simp [Vw];have hf:=λ{Z:ak} {w:World} (h:St w0 (A*jX b4 b5 b6 s c x*fX s p g l*Z) w)=>kH h;have hH:=λ{w:World} (h:St w0 (A*jX b4 b5 b6 s c x*fX s p g l*Gd.bN g lim ae) w)=>Gd.xh g lim ae x.item c w0 w _ hl h;generalize A*jX b4 b5 b6 s c x*fX s p g l=B at*;refine fK (Pu.rY (St w0 (B*Gd.bN g lim ae)) (St w0 (B*Gd.bN g lim (Gd.gq ae x.item c).2))) h.drew ?_;simp;refine al (v:= .pointer (some ⟨s,0,none⟩)) (λvs' w he hw=>Pu.bS (λh=>(hf h).1) (λh=>(hf h).1) hw) ?_;simp;refine al (v:= .pointer (some ⟨g,0,none⟩)) (λvs' w he hw=>Pu.bS (λh=>(hf h).2.2.2.2.2.2) (λh=>(hf h).2.2.2.2.2.2) hw) ?_;simp;refine al (v:= .int .i64 x.item) (λvs' w he hw=>Pu.bS (λh=>(hf h).2.2.2.1) (λh=>(hf h).2.2.2.1) hw) ?_;simp;refine al (v:= .int .i64 c) (λvs' w he hw=>Pu.bS (λh=>(hf h).2.1) (λh=>(hf h).2.1) hw) ?_;simp
 refine aO (by rfl) (λw hw=> ?_) (λr hr=> ?_)
 ·rw [Pu.kI] at hw
  refine ab ((hH hw).mono ?_);rintro r w' ⟨_,h⟩;exact h
 simp
theorem Gc (b4 b5 b6 b7 s p g:Nat) (c u:Int) (x:Gf) (P:Pu.Ps) (l:List Rw) (w0 w:World) (A:ak) (hP:Pu.Bd P) (hc:0<=x.coins/\x.coins<18446744073709551616) (ok:fu l)
  (h:St w0 (A*pt b7 (.cells #[.int .u64 u] 27 (0,0))*jX b4 b5 b6 s c x*fX s p g l*Pu.bG p P) w):
  aj Tryz.prog 293 [.pointer (some ⟨b4,0,none⟩),.pointer (some ⟨b6,0,none⟩),.pointer (some ⟨b5,0,none⟩),.pointer (some ⟨b7,0,none⟩)]
   (λ_ w'=>St w0 (A*pt b7 (.cells #[.int .u64 u] 27 (0,0))*jX b4 b5 b6 s c x*fX s p g (fy c u l)*Pu.bG p (Pu.bE P x.to x.coins).2) w') w:=by
 refine aG Qy (by simp [Vy]) ?_;simp [Vy];generalize hA:A*pt b7 (.cells #[.int .u64 u] 27 (0,0))=A1 at h⊢
 have hf:=λ{Z:ak} {w:World} (h:St w0 (A1*jX b4 b5 b6 s c x*fX s p g l*Z) w)=>kH h;have hT:=λ{w:World} (h:St w0 (A1*jX b4 b5 b6 s c x*fX s p g l*Pu.bG p P) w)=>Pu.xk p P x.to x.coins w0 w _ hP hc h;refine fK (Pu.rY (St w0 (A1*jX b4 b5 b6 s c x*fX s p g l*Pu.bG p P)) (St w0 (A1*jX b4 b5 b6 s c x*fX s p g l*Pu.bG p (Pu.bE P x.to x.coins).2))) h.drew ?_;simp;refine al (v:= .pointer (some ⟨s,0,none⟩)) (λvs' w he hw=>Pu.bS (λh=>(hf h).1) (λh=>(hf h).1) hw) ?_;simp;refine al (v:= .pointer (some ⟨p,0,none⟩)) (λvs' w he hw=>Pu.bS (λh=>(hf h).2.2.2.2.2.1) (λh=>(hf h).2.2.2.2.2.1) hw) ?_;simp;refine al (v:= .int .i64 x.to) (λvs' w he hw=>Pu.bS (λh=>(hf h).2.2.1) (λh=>(hf h).2.2.1) hw) ?_;simp;refine al (v:= .int .u64 x.coins) (λvs' w he hw=>Pu.bS (λh=>(hf h).2.2.2.2.1) (λh=>(hf h).2.2.2.2.1) hw) ?_;simp;refine aO (by rfl) (λw hw=> ?_) (λr hr=> ?_)
 ·rw [Pu.kI] at hw
  refine ab ((hT hw).mono ?_);rintro r w' ⟨_,h⟩;exact h
 simp;intro w2 h2;have f7:w2.cell? ⟨b7,0,none⟩=some (.int .u64 u):=by rw [<-hA] at h2;exact (cell_of (h2.to (B:=A*jX b4 b5 b6 s c x*fX s p g l*Pu.bG p (Pu.bE P x.to x.coins).2*pt b7 (.cells #[.int .u64 u] 27 (0,0))) (by ac_rfl)).look).trans rfl
 refine af (hf h2).1 ?_;simp;refine af (hf h2).2.1 ?_;simp;refine af f7 ?_;simp;refine ab ((wk s p g l c u w0 w2 _ ok h2.swap).mono ?_);intro r w3 h3;simp;exact h3.swap
structure cq where
 P:Pu.Ps
 ae:List Gd.It
 l:List Rw
deriving DecidableEq
abbrev aI (p g s:Nat) (lim:Int) (E:cq):ak:=Pu.bG p E.P*Gd.bN g lim E.ae*fX s p g E.l
def cO (c:Int) (x:Gf) (E:cq):Int×cq:=
 if (Pu.aJ E.P x.to).2≠0 then (142,E)
 else if x.item≠0/\((Gd.aJ E.ae x.item).2≠0\/(Gd.aJ E.ae x.item).1.con≠c) then (170,E)
 else if ck E.l c<x.coins then (170,E)
 else (0,⟨(Pu.cd E.P x.to x.coins).2,if x.item≠0 then (Gd.fZ E.ae x.item x.to).2 else E.ae,fy c (ck E.l c -x.coins) E.l⟩)
structure Et where
 acc:Int
 item:Int
 coins:Int
def aN (c:Int) (x:Et) (E:cq):Int×cq:=
 if (Pu.aJ E.P x.acc).2≠0 then (142,E)
 else if x.item≠0/\((Gd.aJ E.ae x.item).2≠0\/(Gd.aJ E.ae x.item).1.con≠0\/(Gd.aJ E.ae x.item).1.acc≠x.acc) then (151,E)
 else if (Pu.bE E.P x.acc x.coins).1≠0 then ((Pu.bE E.P x.acc x.coins).1,E)
 else (0,⟨(Pu.bE E.P x.acc x.coins).2,if x.item≠0 then (Gd.gq E.ae x.item c).2 else E.ae,fy c (ck E.l c+x.coins) E.l⟩)
def eqa (b4 b5 b6 b7:Nat) (x:Gf):List Value:=
 (if x.item≠0 then [.func (.func 291) #[] #[.pointer (some ⟨b4,0,none⟩),.pointer (some ⟨b6,0,none⟩),.pointer (some ⟨b5,0,none⟩)]] else [])++
  [.func (.func 293) #[] #[.pointer (some ⟨b4,0,none⟩),.pointer (some ⟨b6,0,none⟩),.pointer (some ⟨b5,0,none⟩),.pointer (some ⟨b7,0,none⟩)]]
noncomputable abbrev E1:PF Tryz.prog:=(PF.none _).quiet [132,105]
def z7:HC:=(.seq (.reg (.done [(7,(.cst (.int .i64 0)))] none)) .ret)
@[simp] theorem X6:type_of%(@aF z7 _ z7.eq_1):=aF z7.eq_1
def Aa:HC:=(.seq (.reg (.chk none (.mkf (.func 293) 0) (.cons (.inp 4) (.cons (.inp 6) (.cons (.inp 5) (.cons (.inp 11) .nil)))) (.eff .callv (.cons (.inp 3) (.cons (.op (.mkf (.func 293) 0) (.cons (.inp 4) (.cons (.inp 6) (.cons (.inp 5) (.cons (.inp 11) .nil))))) .nil)) (.done [] none)))) z7)
@[simp] theorem X7:type_of%(@aF Aa _ Aa.eq_1):=aF Aa.eq_1
def Ab:HC:=(.seq (.reg (.eff (.ld false 1) (.cons (.inp 4) .nil) (.eff (.ld false 1) (.cons (.inp 5) .nil) (.eff (.call 234) (.cons (.bv 0) (.cons (.bv 1) (.cons (.inp 12) .nil))) (.done [] none))))) Aa)
@[simp] theorem Ya:type_of%(@aF Ab _ Ab.eq_1):=aF Ab.eq_1
def vo:HC:=(.seq (.regq (.some 1) (.eff (.ld false 1) (.cons (.inp 4) .nil) (.chk none .chkp (.cons (.bv 0) .nil) (.chk none (.fld 0) (.cons (.op .chkp (.cons (.bv 0) .nil)) .nil) (.eff (.ld false 1) (.cons (.op (.fld 0) (.cons (.op .chkp (.cons (.bv 0) .nil)) .nil)) .nil) (.chk none (.fld 0) (.cons (.inp 6) .nil) (.eff (.ld false 1) (.cons (.op (.fld 0) (.cons (.inp 6) .nil)) .nil) (.chk none (.fld 2) (.cons (.inp 6) .nil) (.eff (.ld false 1) (.cons (.op (.fld 2) (.cons (.inp 6) .nil)) .nil) (.eff (.call 292) (.cons (.bv 1) (.cons (.bv 2) (.cons (.bv 3) .nil))) (.done [] none))))))))))) Ab)
@[simp] theorem Yb:type_of%(@aF vo _ vo.eq_1):=aF vo.eq_1
def Ad:HC:=(.reg (.chk none (.mkf (.func 291) 0) (.cons (.inp 4) (.cons (.inp 6) (.cons (.inp 5) .nil))) (.eff .callv (.cons (.inp 3) (.cons (.op (.mkf (.func 291) 0) (.cons (.inp 4) (.cons (.inp 6) (.cons (.inp 5) .nil)))) .nil)) (.done [] none))))
@[simp] theorem Yc:type_of%(@aF Ad _ Ad.eq_1):=aF Ad.eq_1
def Ae:HC:=(.seq (.regq (.some 1) (.eff (.ld false 1) (.cons (.inp 4) .nil) (.chk none .chkp (.cons (.bv 0) .nil) (.chk none (.fld 1) (.cons (.op .chkp (.cons (.bv 0) .nil)) .nil) (.eff (.ld false 1) (.cons (.op (.fld 1) (.cons (.op .chkp (.cons (.bv 0) .nil)) .nil)) .nil) (.chk none (.fld 1) (.cons (.inp 6) .nil) (.eff (.ld false 1) (.cons (.op (.fld 1) (.cons (.inp 6) .nil)) .nil) (.chk none (.fld 0) (.cons (.inp 6) .nil) (.eff (.ld false 1) (.cons (.op (.fld 0) (.cons (.inp 6) .nil)) .nil) (.eff (.call 290) (.cons (.bv 1) (.cons (.bv 2) (.cons (.bv 3) .nil))) (.done [] none))))))))))) Ad)
@[simp] theorem Yd:type_of%(@aF Ae _ Ae.eq_1):=aF Ae.eq_1
def vp:HC:=(.seq (.br (.chk none (.fld 1) (.cons (.inp 6) .nil) (.eff (.ld false 1) (.cons (.op (.fld 1) (.cons (.inp 6) .nil)) .nil) (.chk none (.bin .neq) (.cons (.bv 0) (.cons (.cst (.int .i64 0)) .nil)) (.done [] (some (.op (.bin .neq) (.cons (.bv 0) (.cons (.cst (.int .i64 0)) .nil)))))))) Ae .skip) vo)
@[simp] theorem Ye:type_of%(@aF vp _ vp.eq_1):=aF vp.eq_1
def Af:HC:=(.seq (.reg (.done [(7,(.cst (.int .i64 170)))] none)) .ret)
@[simp] theorem Yf:type_of%(@aF Af _ Af.eq_1):=aF Af.eq_1
def Ag:HC:=(.seq (.br (.chk none (.bin .neq) (.cons (.inp 13) (.cons (.cst (.int .i64 0)) .nil)) (.done [] (some (.op (.bin .neq) (.cons (.inp 13) (.cons (.cst (.int .i64 0)) .nil)))))) Af .skip) vp)
@[simp] theorem Yg:type_of%(@aF Ag _ Ag.eq_1):=aF Ag.eq_1
def Ah:HC:=(.seq (.reg (.eff (.ld false 1) (.cons (.inp 11) .nil) (.chk none (.fld 2) (.cons (.inp 6) .nil) (.eff (.ld false 1) (.cons (.op (.fld 2) (.cons (.inp 6) .nil)) .nil) (.eff (.call 104) (.cons (.bv 0) (.cons (.bv 1) .nil)) (.chk none (.ext 0) (.cons (.bv 2) .nil) (.chk none (.ext 1) (.cons (.bv 2) .nil) (.done [(12,(.op (.ext 0) (.cons (.bv 2) .nil))),(13,(.op (.ext 1) (.cons (.bv 2) .nil)))] none)))))))) Ag)
@[simp] theorem Yh:type_of%(@aF Ah _ Ah.eq_1):=aF Ah.eq_1
def pK:HC:=(.seq (.regq (.some 2) (.eff (.ld false 1) (.cons (.inp 4) .nil) (.chk none .chkp (.cons (.bv 0) .nil) (.chk none (.fld 2) (.cons (.op .chkp (.cons (.bv 0) .nil)) .nil) (.eff (.ld false 1) (.cons (.op (.fld 2) (.cons (.op .chkp (.cons (.bv 0) .nil)) .nil)) .nil) (.eff (.ld false 1) (.cons (.inp 5) .nil) (.eff (.look 229 false) (.cons (.bv 1) (.cons (.bv 2) .nil)) (.eff (.new 27 (.int .u64 0)) .nil (.eff (.st 1) (.cons (.bv 4) (.cons (.bv 3) .nil)) (.done [(11,(.bv 4))] none)))))))))) Ah)
@[simp] theorem TX:type_of%(@aF pK _ pK.eq_1):=aF pK.eq_1
def tC:HC:=(.seq (.reg (.done [(7,(.cst (.int .i64 170)))] none)) .ret)
@[simp] theorem TY:type_of%(@aF tC _ tC.eq_1):=aF tC.eq_1
def tD:HC:=(.br (.chk none (.bin .neq) (.cons (.inp 10) (.cons (.cst (.int .i64 0)) .nil)) (.jQ (.op (.bin .neq) (.cons (.inp 10) (.cons (.cst (.int .i64 0)) .nil))) (.chk (some ((.bv 0),false)) (.fld 3) (.cons (.inp 9) .nil) (.ite (.bv 0) false (.eff (.ld false 1) (.cons (.ite (.bv 0) false (.op (.fld 3) (.cons (.inp 9) .nil)) (.cst (.tuple #[]))) .nil) (.eff (.ld false 1) (.cons (.inp 5) .nil) (.chk none (.bin .neq) (.cons (.bv 1) (.cons (.bv 2) .nil)) (.isb none (.bv 0) (.done [] (some (.op (.bin .neq) (.cons (.bv 1) (.cons (.bv 2) .nil))))))))) (.isb none (.bv 0) (.done [] (some (.cst (.bool true))))))))) tC .skip)
@[simp] theorem TZ:type_of%(@aF tD _ tD.eq_1):=aF tD.eq_1
def tE:HC:=(.seq (.regq (.some 2) (.eff (.ld false 1) (.cons (.inp 4) .nil) (.chk none .chkp (.cons (.bv 0) .nil) (.chk none (.fld 1) (.cons (.op .chkp (.cons (.bv 0) .nil)) .nil) (.eff (.ld false 1) (.cons (.op (.fld 1) (.cons (.op .chkp (.cons (.bv 0) .nil)) .nil)) .nil) (.chk none (.fld 1) (.cons (.inp 6) .nil) (.eff (.ld false 1) (.cons (.op (.fld 1) (.cons (.inp 6) .nil)) .nil) (.eff (.call 105) (.cons (.bv 1) (.cons (.bv 2) .nil)) (.chk none (.ext 0) (.cons (.bv 3) .nil) (.chk none (.ext 1) (.cons (.bv 3) .nil) (.eff (.new 126 (.agg #[(.int .i64 0),(.int .i64 0),(.int .i64 0),(.int .i64 0)])) .nil (.eff (.st 4) (.cons (.bv 4) (.cons (.op (.ext 0) (.cons (.bv 3) .nil)) .nil)) (.done [(9,(.bv 4)),(10,(.op (.ext 1) (.cons (.bv 3) .nil)))] none))))))))))))) tD)
@[simp] theorem T3:type_of%(@aF tE _ tE.eq_1):=aF tE.eq_1
def tF:HC:=(.seq (.br (.chk none (.fld 1) (.cons (.inp 6) .nil) (.eff (.ld false 1) (.cons (.op (.fld 1) (.cons (.inp 6) .nil)) .nil) (.chk none (.bin .neq) (.cons (.bv 0) (.cons (.cst (.int .i64 0)) .nil)) (.done [] (some (.op (.bin .neq) (.cons (.bv 0) (.cons (.cst (.int .i64 0)) .nil)))))))) tE .skip) pK)
@[simp] theorem T4:type_of%(@aF tF _ tF.eq_1):=aF tF.eq_1
def tH:HC:=(.seq (.reg (.done [(7,(.inp 8))] none)) .ret)
@[simp] theorem T5:type_of%(@aF tH _ tH.eq_1):=aF tH.eq_1
def tI:HC:=(.seq (.br (.chk none (.bin .neq) (.cons (.inp 8) (.cons (.cst (.int .i64 0)) .nil)) (.done [] (some (.op (.bin .neq) (.cons (.inp 8) (.cons (.cst (.int .i64 0)) .nil)))))) tH .skip) tF)
@[simp] theorem T6:type_of%(@aF tI _ tI.eq_1):=aF tI.eq_1
def tJ:HC:=(.seq (.regq (.some 2) (.eff (.ld false 1) (.cons (.inp 4) .nil) (.chk none .chkp (.cons (.bv 0) .nil) (.chk none (.fld 0) (.cons (.op .chkp (.cons (.bv 0) .nil)) .nil) (.eff (.ld false 1) (.cons (.op (.fld 0) (.cons (.op .chkp (.cons (.bv 0) .nil)) .nil)) .nil) (.chk none (.fld 0) (.cons (.inp 6) .nil) (.eff (.ld false 1) (.cons (.op (.fld 0) (.cons (.inp 6) .nil)) .nil) (.eff (.call 132) (.cons (.bv 1) (.cons (.bv 2) .nil)) (.chk none (.ext 0) (.cons (.bv 3) .nil) (.chk none (.ext 1) (.cons (.bv 3) .nil) (.eff (.new 119 (.agg #[(.string ⟨#[]⟩),(.int .u64 0)])) .nil (.eff (.st 2) (.cons (.bv 4) (.cons (.op (.ext 0) (.cons (.bv 3) .nil)) .nil)) (.done [(8,(.op (.ext 1) (.cons (.bv 3) .nil)))] none))))))))))))) tI)
@[simp] theorem T7:type_of%(@aF tJ _ tJ.eq_1):=aF tJ.eq_1
def Vc:ag:=⟨[0,1,2,3,4,5,6,8,10,11,12,13,14,15],96,[.slot 7],(.seq (.reg (.eff (.box 89) (.cons (.inp 0) .nil) (.eff (.box 3) (.cons (.inp 1) .nil) (.eff (.box 73) (.cons (.inp 2) .nil) (.done [(4,(.bv 0)),(5,(.bv 1)),(6,(.bv 2)),(7,(.cst (.int .i64 0)))] none))))) tJ)⟩
theorem P7:ai E1 231 400=some Vc:=by kernel_rfl
def zT:HC:=(.seq (.reg (.done [(4,(.cst (.int .i64 0)))] none)) .ret)
@[simp] theorem XU:type_of%(@aF zT _ zT.eq_1):=aF zT.eq_1
def vm:HC:=(.seq (.regq (.some 1) (.chk none .chkp (.cons (.inp 0) .nil) (.chk none (.fld 2) (.cons (.op .chkp (.cons (.inp 0) .nil)) .nil) (.eff (.ld false 1) (.cons (.op (.fld 2) (.cons (.op .chkp (.cons (.inp 0) .nil)) .nil)) .nil) (.eff (.look 229 false) (.cons (.bv 0) (.cons (.inp 1) .nil)) (.chk none (.fld 2) (.cons (.inp 3) .nil) (.eff (.ld false 1) (.cons (.op (.fld 2) (.cons (.inp 3) .nil)) .nil) (.chk none (.bin .add) (.cons (.bv 1) (.cons (.bv 2) .nil)) (.eff (.call 234) (.cons (.inp 0) (.cons (.inp 1) (.cons (.op (.bin .add) (.cons (.bv 1) (.cons (.bv 2) .nil))) .nil))) (.done [] none)))))))))) zT)
@[simp] theorem XV:type_of%(@aF vm _ vm.eq_1):=aF vm.eq_1
def zU:HC:=(.regq (.some 1) (.chk none .chkp (.cons (.inp 0) .nil) (.chk none (.fld 1) (.cons (.op .chkp (.cons (.inp 0) .nil)) .nil) (.eff (.ld false 1) (.cons (.op (.fld 1) (.cons (.op .chkp (.cons (.inp 0) .nil)) .nil)) .nil) (.chk none (.fld 1) (.cons (.inp 3) .nil) (.eff (.ld false 1) (.cons (.op (.fld 1) (.cons (.inp 3) .nil)) .nil) (.eff (.call 233) (.cons (.bv 0) (.cons (.bv 1) (.cons (.inp 1) .nil))) (.done [] none))))))))
@[simp] theorem XW:type_of%(@aF zU _ zU.eq_1):=aF zU.eq_1
def zV:HC:=(.seq (.br (.chk none (.fld 1) (.cons (.inp 3) .nil) (.eff (.ld false 1) (.cons (.op (.fld 1) (.cons (.inp 3) .nil)) .nil) (.chk none (.bin .neq) (.cons (.bv 0) (.cons (.cst (.int .i64 0)) .nil)) (.done [] (some (.op (.bin .neq) (.cons (.bv 0) (.cons (.cst (.int .i64 0)) .nil)))))))) zU .skip) vm)
@[simp] theorem XX:type_of%(@aF zV _ zV.eq_1):=aF zV.eq_1
def zW:HC:=(.seq (.reg (.done [(4,(.inp 8))] none)) .ret)
@[simp] theorem XY:type_of%(@aF zW _ zW.eq_1):=aF zW.eq_1
def zX:HC:=(.seq (.br (.chk none (.bin .neq) (.cons (.inp 8) (.cons (.cst (.int .i64 0)) .nil)) (.done [] (some (.op (.bin .neq) (.cons (.inp 8) (.cons (.cst (.int .i64 0)) .nil)))))) zW .skip) zV)
@[simp] theorem XZ:type_of%(@aF zX _ zX.eq_1):=aF zX.eq_1
def vn:HC:=(.seq (.regq (.some 1) (.chk none .chkp (.cons (.inp 0) .nil) (.chk none (.fld 0) (.cons (.op .chkp (.cons (.inp 0) .nil)) .nil) (.eff (.ld false 1) (.cons (.op (.fld 0) (.cons (.op .chkp (.cons (.inp 0) .nil)) .nil)) .nil) (.chk none (.fld 0) (.cons (.inp 3) .nil) (.eff (.ld false 1) (.cons (.op (.fld 0) (.cons (.inp 3) .nil)) .nil) (.chk none (.fld 2) (.cons (.inp 3) .nil) (.eff (.ld false 1) (.cons (.op (.fld 2) (.cons (.inp 3) .nil)) .nil) (.eff (.call 232) (.cons (.bv 0) (.cons (.bv 1) (.cons (.bv 2) .nil))) (.done [(8,(.bv 3))] none)))))))))) zX)
@[simp] theorem X0:type_of%(@aF vn _ vn.eq_1):=aF vn.eq_1
def zY:HC:=(.seq (.reg (.done [(4,(.cst (.int .i64 151)))] none)) .ret)
@[simp] theorem X1:type_of%(@aF zY _ zY.eq_1):=aF zY.eq_1
def zZ:HC:=(.br (.chk none (.bin .neq) (.cons (.inp 7) (.cons (.cst (.int .i64 0)) .nil)) (.jQ (.op (.bin .neq) (.cons (.inp 7) (.cons (.cst (.int .i64 0)) .nil))) (.chk (some ((.bv 0),false)) (.fld 3) (.cons (.inp 6) .nil) (.ite (.bv 0) false (.eff (.ld false 1) (.cons (.ite (.bv 0) false (.op (.fld 3) (.cons (.inp 6) .nil)) (.cst (.tuple #[]))) .nil) (.chk none (.bin .neq) (.cons (.bv 1) (.cons (.cst (.int .i64 0)) .nil)) (.isb none (.bv 0) (.jQ (.op (.bin .neq) (.cons (.bv 1) (.cons (.cst (.int .i64 0)) .nil))) (.chk (some ((.bv 2),false)) (.fld 2) (.cons (.inp 6) .nil) (.ite (.bv 2) false (.eff (.ld false 1) (.cons (.ite (.bv 2) false (.op (.fld 2) (.cons (.inp 6) .nil)) (.cst (.tuple #[]))) .nil) (.chk none (.fld 0) (.cons (.inp 3) .nil) (.eff (.ld false 1) (.cons (.op (.fld 0) (.cons (.inp 3) .nil)) .nil) (.chk none (.bin .neq) (.cons (.bv 3) (.cons (.bv 4) .nil)) (.isb none (.bv 2) (.done [] (some (.op (.bin .neq) (.cons (.bv 3) (.cons (.bv 4) .nil)))))))))) (.isb none (.bv 2) (.done [] (some (.cst (.bool true))))))))))) (.isb none (.bv 0) (.isb none (.cst (.bool true)) (.done [] (some (.cst (.bool true)))))))))) zY .skip)
@[simp] theorem X2:type_of%(@aF zZ _ zZ.eq_1):=aF zZ.eq_1
def z6:HC:=(.seq (.regq (.some 2) (.chk none .chkp (.cons (.inp 0) .nil) (.chk none (.fld 1) (.cons (.op .chkp (.cons (.inp 0) .nil)) .nil) (.eff (.ld false 1) (.cons (.op (.fld 1) (.cons (.op .chkp (.cons (.inp 0) .nil)) .nil)) .nil) (.chk none (.fld 1) (.cons (.inp 3) .nil) (.eff (.ld false 1) (.cons (.op (.fld 1) (.cons (.inp 3) .nil)) .nil) (.eff (.call 105) (.cons (.bv 0) (.cons (.bv 1) .nil)) (.chk none (.ext 0) (.cons (.bv 2) .nil) (.chk none (.ext 1) (.cons (.bv 2) .nil) (.eff (.new 126 (.agg #[(.int .i64 0),(.int .i64 0),(.int .i64 0),(.int .i64 0)])) .nil (.eff (.st 4) (.cons (.bv 3) (.cons (.op (.ext 0) (.cons (.bv 2) .nil)) .nil)) (.done [(6,(.bv 3)),(7,(.op (.ext 1) (.cons (.bv 2) .nil)))] none)))))))))))) zZ)
@[simp] theorem X5:type_of%(@aF z6 _ z6.eq_1):=aF z6.eq_1
def tw:HC:=(.seq (.br (.chk none (.fld 1) (.cons (.inp 3) .nil) (.eff (.ld false 1) (.cons (.op (.fld 1) (.cons (.inp 3) .nil)) .nil) (.chk none (.bin .neq) (.cons (.bv 0) (.cons (.cst (.int .i64 0)) .nil)) (.done [] (some (.op (.bin .neq) (.cons (.bv 0) (.cons (.cst (.int .i64 0)) .nil)))))))) z6 .skip) vn)
@[simp] theorem TT:type_of%(@aF tw _ tw.eq_1):=aF tw.eq_1
def tz:HC:=(.seq (.reg (.done [(4,(.inp 5))] none)) .ret)
@[simp] theorem TU:type_of%(@aF tz _ tz.eq_1):=aF tz.eq_1
def tA:HC:=(.seq (.br (.chk none (.bin .neq) (.cons (.inp 5) (.cons (.cst (.int .i64 0)) .nil)) (.done [] (some (.op (.bin .neq) (.cons (.inp 5) (.cons (.cst (.int .i64 0)) .nil)))))) tz .skip) tw)
@[simp] theorem TV:type_of%(@aF tA _ tA.eq_1):=aF tA.eq_1
def tB:HC:=(.seq (.regq (.some 2) (.chk none .chkp (.cons (.inp 0) .nil) (.chk none (.fld 0) (.cons (.op .chkp (.cons (.inp 0) .nil)) .nil) (.eff (.ld false 1) (.cons (.op (.fld 0) (.cons (.op .chkp (.cons (.inp 0) .nil)) .nil)) .nil) (.chk none (.fld 0) (.cons (.inp 3) .nil) (.eff (.ld false 1) (.cons (.op (.fld 0) (.cons (.inp 3) .nil)) .nil) (.eff (.call 132) (.cons (.bv 0) (.cons (.bv 1) .nil)) (.chk none (.ext 0) (.cons (.bv 2) .nil) (.chk none (.ext 1) (.cons (.bv 2) .nil) (.eff (.new 119 (.agg #[(.string ⟨#[]⟩),(.int .u64 0)])) .nil (.eff (.st 2) (.cons (.bv 3) (.cons (.op (.ext 0) (.cons (.bv 2) .nil)) .nil)) (.done [(5,(.op (.ext 1) (.cons (.bv 2) .nil)))] none)))))))))))) tA)
@[simp] theorem TW:type_of%(@aF tB _ tB.eq_1):=aF tB.eq_1
def UJ:ag:=⟨[0,1,2,5,6,8,9,10,11],87,[.slot 4],(.seq (.reg (.eff (.box 30) (.cons (.inp 2) .nil) (.done [(3,(.bv 0)),(4,(.cst (.int .i64 0)))] none))) tB)⟩
theorem Pd:ai E1 169 400=some UJ:=by kernel_rfl
def BX (X:World->Prop) (Y Z:Nat->World->Prop):List Value->World->Prop
 | [],w=>X w
 | [v],w=>∃b,v= .pointer (some ⟨b,0,none⟩)/\Y b w
 |v::_::_,w=>∃b,v= .pointer (some ⟨b,0,none⟩)/\Z b w
theorem dx {X:World->Prop} {Y Z:Nat->World->Prop} {R:Prop} {vs:List Value} {w:World} (h1:X w->R) (h2:∀b,Y b w->R) (h3:∀b,Z b w->R) (h:BX X Y Z vs w):R:=by
 match vs,h with
 | [],h=>exact h1 h
 | [_],⟨b,_,h⟩=>exact h2 b h
 |_::_::_,⟨b,_,h⟩=>exact h3 b h
theorem nw {P:Program} {f:FuncId} {args:List Value} {r:Value} {X:World->Prop} {Y Z:Nat->World->Prop} {vs:List Value} {w:World}
  (h1:X w->aj P f args (λu w'=>u=r/\X w') w) (h2:∀b,Y b w->aj P f args (λu w'=>u=r/\Y b w') w) (h3:∀b,Z b w->aj P f args (λu w'=>u=r/\Z b w') w)
  (h:BX X Y Z vs w):aj P f args (λu w'=>u=r/\BX X Y Z vs w') w:=by
 match vs,h with
 | [],h=>exact h1 h
 | [v],⟨b,hv,h⟩=>exact (h2 b h).mono λu w' ⟨e,h⟩=>⟨e,b,hv,h⟩
 |v::_::_,⟨b,hv,h⟩=>exact (h3 b h).mono λu w' ⟨e,h⟩=>⟨e,b,hv,h⟩
end Go.HL.Es
namespace Go.HL.Pu
open Go.HL Go.HL.Nm Go.Proofs
noncomputable abbrev U1:PF Tryz.prog:=PF.of []
def bdB (P:Ps):Bool:=decide (∀x∈P.rows,0<=x.coins/\x.coins<=4611686018427387904)&&decide (0<=P.held/\P.held<=4611686018427387904)&&decide (0<=P.sup/\P.sup<=4611686018427387904)&&decide (P.rows.length<=64)
def cta:List (List UInt8):= [[65,110,110],[65,78,78],[97,32],[66,111,98],[67,105,100]]
def cua (x:List UInt8) (r:Ps×List Int):Ps×List Int:=((cC r.1 x).2.2,r.2++ [(cC r.1 x).1,(cC r.1 x).2.1])
def giv:Nat->Ps×List Int
 |0=>(⟨3,[⟨cN,0⟩],0,0⟩,[0])
 |n+1=>cua (cta.getD n []) (giv n)
def G5:Ps:=⟨3,[⟨cN,0⟩,⟨[65,110,110],0⟩,⟨[66,111,98],0⟩],0,0⟩
def G6:Ps:=⟨3,[⟨cN,0⟩,⟨[65,110,110],100⟩,⟨[66,111,98],0⟩],100,0⟩
def G7:Ps:=⟨3,[⟨cN,0⟩,⟨[65,110,110],70⟩,⟨[66,111,98],30⟩],100,0⟩
def fBa:List Int:= [0,1,0,0,140,0,40,2,0,0,141,0,2,142,144,0,234,2,143,142]
def Ac.pv (x:Ac):List PV:= [.str x.name,.int .u64 x.coins]
structure Sp where
 who:Int
 kind:Int
 a:Int
 b:Int
 coins:Int
 name:List UInt8
def Sp.cs (x:Sp):List Value:= [.int .i64 x.who,.int .i64 x.kind,.int .i64 x.a,.int .i64 x.b,.int .u64 x.coins,.string (HL.mk x.name)]
def Sp.ok (x:Sp):Prop:=(0<=x.coins/\x.coins<18446744073709551616)/\x.name.length<=1048576
def cF (P:Ps) (o:Sp):Int×Ps:=
 if o.kind=1 then ((cC P o.name).2.1,(cC P o.name).2.2)
 else if o.kind=2 then eV P o.a o.coins
 else if o.kind=3 then gT P o.a o.b o.coins
 else if o.kind=4 then bE P o.a o.coins
 else if o.kind=5 then cd P o.a o.coins
 else if o.kind=6 then ((aJ P o.a).2,P)
 else (0,P)
def total (l:List Ac):Int:=(l.map Ac.coins).sum
theorem wC (l:List Ac) (a:Ac):total (l++ [a])=total l+a.coins:=by simp [total]
theorem nX:∀{l:List Ac},(∀x∈l,0<=x.coins)->0<=total l
 | [],_=>Int.le_refl _
 |a::l,h=>by have h1:=h a (List.mem_cons_self ..);have h2:=nX λx hx=>h x (List.mem_cons_of_mem _ hx);simp only [total,List.map_cons,List.sum_cons] at h2⊢;omega
theorem wD {l:List Ac} (h:∀x∈l,0<=x.coins) (i:Nat):0<=total (l.take i)/\total (l.take i)<=total l:=by
 have e:total l=total (l.take i)+total (l.drop i):=by unfold total;rw [<-List.sum_append,<-List.map_append,List.take_append_drop]
 have h1:=nX (l:=l.take i) λx hx=>h x (List.mem_of_mem_take hx);have h2:=nX (l:=l.drop i) λx hx=>h x (List.mem_of_mem_drop hx);omega
structure PI (lim:Int) (P:Ps):Prop where
 eqlim:P.lim=lim
 lims:1<=lim/\lim<=64
 len:1<=P.rows.length/\(P.rows.length:Int)<=lim
 coins:∀x∈P.rows,0<=x.coins
 held:0<=P.held
 sum:P.held+total P.rows=P.sup
 sup:P.sup<=4611686018427387904
 names:∀i,(h:i<P.rows.length)->P.rows[i].name.length<=1048576
theorem GC {l:List Ac} (h:∀x∈l,0<=x.coins) {i:Nat} (hi:i<l.length):0<=l[i].coins/\l[i].coins<=total l:=by have h0:=h _ (List.getElem_mem hi);have h1:=wD h (i+1);have h2:=wD h i;rw [List.take_succ_eq_append_getElem hi,wC] at h1;omega
theorem PI.bd {lim:Int} {P:Ps} (h:PI lim P):Bd P:=by
 have ht:=nX h.coins;have h1:=h.held;have h2:=h.sum;have h3:=h.sup;have h4:=h.len;have h5:=h.lims;refine ⟨λi hi=> ?_,by omega,by omega,by omega⟩;have e:P.rows.getD i ⟨[],0⟩=P.rows[i]:=by simp [hi]
 rw [e];have:=GC h.coins hi;omega
def gw (o:Sp) (n:Int):Int×Int×Int:=
 if o.kind=2 then ((if n=o.a then o.coins else 0),0,o.coins)
 else if o.kind=3 then ((if n=o.b then IntKind.u64.wrap ((if n=o.a then IntKind.u64.wrap (0 -o.coins) else 0)+o.coins) else if n=o.a then IntKind.u64.wrap (0 -o.coins) else 0),0,0)
 else if o.kind=4 then ((if n=o.a then IntKind.u64.wrap (0 -o.coins) else 0),o.coins,0)
 else if o.kind=5 then ((if n=o.a then o.coins else 0),IntKind.u64.wrap (0 -o.coins),0)
 else (0,0,0)
theorem dN {l:List Ac} {i k:Nat} {c:Int} (hk:k<l.length):(bO l i c)[k]'(by rw [aC];exact hk)=if k=i then ⟨l[k].name,c⟩ else l[k]:=by
 unfold bO;rw [List.getElem_set]
 by_cases e:k=i
 ·subst e;simp [hk]
 ·rw [if_neg e,if_neg (Ne.symm e)]
theorem nd {l:List Ac} {i:Nat} {c:Int} {x:Ac} (h:x∈bO l i c):x∈l\/x.coins=c:=by
 unfold bO at h;rcases List.mem_or_eq_of_mem_set h with h|h
 ·exact .inl h
 ·exact .inr (by rw [h])
theorem yE:∀(l:List Ac) (i:Nat) (x:Ac) (h:i<l.length),total (l.set i x)=total l -l[i].coins+x.coins
 |a::l,0,x,h=>by simp only [List.set_cons_zero,List.getElem_cons_zero,total,List.map_cons,List.sum_cons];omega
 |a::l,i+1,x,h=>by have:=yE l i x (by simpa using h);simp only [List.set_cons_succ,List.getElem_cons_succ];simp only [total,List.map_cons,List.sum_cons] at this⊢;omega
theorem jM {l:List Ac} {i:Nat} (h:i<l.length) (c:Int):total (bO l i c)=total l -bP l i+c:=by unfold bO;rw [yE l i _ h,dh h]
theorem rq {a c:Int} (h:0<=c/\c<=a/\a<18446744073709551616):IntKind.u64.wrap (a+IntKind.u64.wrap (0 -c))=a -c:=by simp [IntKind.wrap,IntKind.bits,IntKind.signed];omega
structure Nl (P P':Ps) (o:Sp):Prop where
 held:P'.held=IntKind.u64.wrap (P.held+(gw o (-1)).2.1)
 sup:P'.sup=IntKind.u64.wrap (P.sup+(gw o (-1)).2.2)
 each:∀k,(h:k<P.rows.length)->∃h':k<P'.rows.length,P'.rows[k].name=P.rows[k].name/\P'.rows[k].coins=IntKind.u64.wrap (P.rows[k].coins+(gw o k).1)
def Gm:Sp:=⟨0,0,0,0,0,[]⟩
theorem oP {o:Sp} (h:o.kind≠2/\o.kind≠3/\o.kind≠4/\o.kind≠5) (n:Int):gw o n=(0,0,0):=by unfold gw;rw [if_neg h.1,if_neg h.2.1,if_neg h.2.2.1,if_neg h.2.2.2]
theorem yF {lim:Int} {P:Ps} (hP:PI lim P) {o:Sp} (h:o.kind≠2/\o.kind≠3/\o.kind≠4/\o.kind≠5):Nl P P o:=by
 have hb:=hP.bd;have h1:=hb.held;have h2:=hb.sup;refine ⟨?_,?_,λk hk=>⟨hk,rfl,?_⟩⟩
 ·rw [oP h];simp only [Int.add_zero];rw [bw (by omega) (by omega)]
 ·rw [oP h];simp only [Int.add_zero];rw [bw (by omega) (by omega)]
 ·rw [oP h];simp only [Int.add_zero]
  have:=hb.coins k hk;have e:P.rows.getD k ⟨[],0⟩=P.rows[k]:=by simp [hk]
  rw [e] at this;rw [bw (by omega) (by omega)]
theorem yH {lim:Int} {P:Ps} (hP:PI lim P):Nl P P Gm:=yF hP (by decide)
def Xe (P:Ps) (o:Sp):Sp:=if (cF P o).1≠0\/o.kind=1 then Gm else o
def more (P:Ps) (o:Sp):Nat:=if o.kind=1/\(cF P o).1=0 then 1 else 0
theorem pf {l:List Ac} {n:Int} (h:dA l n=0):0<=n/\n.toNat<l.length/\(n.toNat:Int)=n:=by obtain ⟨i,rfl,hi⟩:=iQ h;exact ⟨by omega,by simpa using hi,by simp⟩
theorem p4 {lim:Int} {P:Ps} (hP:PI lim P) {P':Ps} (e1:P'.lim=P.lim) (e2:P'.rows.length=P.rows.length) (hc:∀x∈P'.rows,0<=x.coins) (hh:0<=P'.held) (hs:P'.held+total P'.rows=P'.sup) (hsup:P'.sup<=4611686018427387904)
  (hn:∀k,(h:k<P'.rows.length)->∃h':k<P.rows.length,P'.rows[k].name=P.rows[k].name):PI lim P':=
 ⟨e1.trans hP.eqlim,hP.lims,by rw [e2];exact hP.len,hc,hh,hs,hsup,λi h=>by obtain ⟨h',e⟩:=hn i h;rw [e];exact hP.names i h'⟩
theorem jk {l:List Ac} {i k:Nat} {c:Int} (h:k<(bO l i c).length):∃h':k<l.length,(bO l i c)[k].name=l[k].name:=by
 have h':k<l.length:=by rwa [aC] at h
 refine ⟨h',?_⟩;rw [dN h'];split<;>rfl
structure Step (lim:Int) (P:Ps) (o:Sp):Prop where
 pi:PI lim (cF P o).2
 len:(cF P o).2.rows.length=P.rows.length+more P o
 om:Nl P (cF P o).2 (Xe P o)
 last:more P o=1->(cF P o).2.rows[P.rows.length]? =some ⟨o.name,0⟩
theorem yC {lim:Int} {P:Ps} (hP:PI lim P) {o:Sp} (h:(cF P o).2=P) (hm:more P o=0) (ht:(cF P o).1≠0\/(o.kind≠2/\o.kind≠3/\o.kind≠4/\o.kind≠5)):Step lim P o:=by
 refine ⟨by rw [h];exact hP,by rw [h,hm,Nat.add_zero],?_,λe=>by rw [hm] at e;cases e⟩;rw [h];unfold Xe;split
 ·exact yH hP
 ·rename_i hn
  rcases ht with ht|ht
  ·exact absurd (.inl ht) hn
  ·exact yF hP ht
theorem qC {lim:Int} {P:Ps} {o:Sp} (hP:PI lim P) (ho:o.ok):Step lim P o:=by
 obtain ⟨⟨hc0,hc1⟩,hnm⟩:=ho;have hb:=hP.bd;have hheld:=hb.held;have hsup:=hb.sup;have hsum:=hP.sum;have hlen:=hP.len;have hlims:=hP.lims
 by_cases k1:o.kind=1
 ·-- Open
  have hd:cF P o=((cC P o.name).2.1,(cC P o.name).2.2):=by unfold cF;rw [if_pos k1]
  by_cases h0:(cC P o.name).2.1=0
  ·obtain ⟨hs,hask,hl,hchk⟩:=Hw h0
   have hm:more P o=1:=by unfold more;rw [if_pos ⟨k1,by rw [hd];exact h0⟩]
   have ha:Xe P o=Gm:=by unfold Xe;rw [if_pos (.inr k1)]
   rw [hP.eqlim] at hl;have hP2:(cF P o).2={P with rows:=P.rows++ [⟨o.name,0⟩]}:=by rw [hd];exact hs
   refine ⟨?_,by rw [hP2,hm];simp,?_,λ_=>by rw [hP2];simp⟩
   ·rw [hP2]
    refine ⟨hP.eqlim,hlims,?_,?_,hP.held,?_,hP.sup,?_⟩
    ·simp only [List.length_append,List.length_singleton];omega
    ·intro x hx
     rcases List.mem_append.1 hx with hx|hx
     ·exact hP.coins x hx
     ·have:x=⟨o.name,0⟩:=by simpa using hx
      rw [this];exact Int.le_refl _
    ·show P.held+total (P.rows++ [⟨o.name,0⟩])=P.sup
     rw [wC];show P.held+(total P.rows+0)=P.sup;omega
    ·intro i h
     simp only [List.length_append,List.length_singleton] at h
     by_cases e:i<P.rows.length
     ·show ((P.rows++ [(⟨o.name,0⟩:Ac)])[i]'(by simp;omega)).name.length<=_
      rw [List.getElem_append_left e];exact hP.names i e
     ·have:i=P.rows.length:=by omega
      subst this;show ((P.rows++ [(⟨o.name,0⟩:Ac)])[P.rows.length]'(by simp)).name.length<=_;simp [hnm]
   ·rw [ha,hP2]
    obtain ⟨t1,t2,t3⟩:=yH hP;refine ⟨t1,t2,λk hk=> ?_⟩;obtain ⟨_,t4,t5⟩:=t3 k hk;refine ⟨by simp;omega,?_,?_⟩
    ·show ((P.rows++ [(⟨o.name,0⟩:Ac)])[k]'(by simp;omega)).name=_
     rw [List.getElem_append_left hk]
    ·show ((P.rows++ [(⟨o.name,0⟩:Ac)])[k]'(by simp;omega)).coins=_
     rw [List.getElem_append_left hk];exact t5
  ·have hm:more P o=0:=by unfold more;rw [if_neg (by rw [hd];exact λh=>h0 h.2)]
   exact yC hP (by rw [hd];exact C7 h0) hm (.inl (by rw [hd];exact h0))
 have hm:more P o=0:=by unfold more;rw [if_neg λh=>k1 h.1]
 have keep:(cF P o).2=P->((cF P o).1≠0\/(o.kind≠2/\o.kind≠3/\o.kind≠4/\o.kind≠5))->Step lim P o:=λh ht=>yC hP h hm ht;have good:∀P':Ps,cF P o=(0,P')->PI lim P'->P'.rows.length=P.rows.length->Nl P P' o->Step lim P o:=by
  intro P' hd hpi hl ht;have ha:Xe P o=o:=by unfold Xe;rw [if_neg (by rw [hd];exact λh=>h.elim (λh=>h rfl) k1)]
  exact ⟨by rw [hd];exact hpi,by rw [hd,hm];exact hl,by rw [ha,hd];exact ht,λe=>by rw [hm] at e;cases e⟩
 by_cases k2:o.kind=2
 ·have hd:cF P o=eV P o.a o.coins:=by unfold cF;rw [if_neg k1,if_pos k2]
  by_cases e1:dA P.rows o.a=0
  ·by_cases e2:o.coins=0
   ·exact keep (by rw [hd,eV,if_pos e1,if_pos e2]) (.inl (by rw [hd,eV,if_pos e1,if_pos e2];simp))
   ·by_cases e3:4611686018427387904 -P.sup<o.coins
    ·exact keep (by rw [hd,eV,if_pos e1,if_neg e2,if_pos e3]) (.inl (by rw [hd,eV,if_pos e1,if_neg e2,if_pos e3];simp))
    ·obtain ⟨ha0,hai,hae⟩:=pf e1
     have hca:=dU hb hai;refine good _ (by rw [hd,eV,if_pos e1,if_neg e2,if_neg e3]) ?_ (aC _ _ _) ?_
     ·refine p4 hP rfl (aC _ _ _) (λx hx=> ?_) hP.held ?_ (by show P.sup+o.coins<=_;omega) λk h=>jk h
      ·rcases nd hx with h|h
       ·exact hP.coins x h
       ·omega
      ·show P.held+total (bO P.rows o.a.toNat (bP P.rows o.a.toNat+o.coins))=P.sup+o.coins
       rw [jM hai];omega
     ·have hmv:∀n,gw o n=((if n=o.a then o.coins else 0),0,o.coins):=λn=>by unfold gw;rw [if_pos k2]
      refine ⟨?_,?_,λk hk=>⟨by rw [aC];exact hk,?_,?_⟩⟩
      ·rw [hmv];show P.held=IntKind.u64.wrap (P.held+0);rw [bw (by omega) (by omega)];omega
      ·rw [hmv];show P.sup+o.coins=IntKind.u64.wrap (P.sup+o.coins);rw [bw (by omega) (by omega)]
      ·show ((bO P.rows _ _)[k]'(by rw [aC];exact hk)).name=_
       rw [dN hk];split<;>rfl
      ·show ((bO P.rows _ _)[k]'(by rw [aC];exact hk)).coins=_
       have hck:=dU hb hk;rw [dh hk] at hck;rw [dN hk,hmv]
       by_cases ek:k=o.a.toNat
       ·subst ek
        rw [if_pos rfl];simp only [hae,if_true];rw [dh hai,bw (by omega) (by omega)]
       ·rw [if_neg ek]
        simp only [show¬(k:Int)=o.a from λh=>ek (by omega),if_false];rw [bw (by omega) (by omega)];omega
  ·exact keep (by rw [hd,eV,if_neg e1]) (.inl (by rw [hd,eV,if_neg e1];simp))
 by_cases k3:o.kind=3
 ·have hd:cF P o=gT P o.a o.b o.coins:=by unfold cF;rw [if_neg k1,if_neg k2,if_pos k3]
  by_cases e1:dA P.rows o.a=0/\dA P.rows o.b=0
  ·by_cases e2:o.a=o.b
   ·exact keep (by rw [hd,gT,if_pos e1,if_pos e2]) (.inl (by rw [hd,gT,if_pos e1,if_pos e2];simp))
   ·by_cases e3:o.coins=0
    ·exact keep (by rw [hd,gT,if_pos e1,if_neg e2,if_pos e3]) (.inl (by rw [hd,gT,if_pos e1,if_neg e2,if_pos e3];simp))
    ·by_cases e4:bP P.rows o.a.toNat<o.coins
     ·exact keep (by rw [hd,gT,if_pos e1,if_neg e2,if_neg e3,if_pos e4]) (.inl (by rw [hd,gT,if_pos e1,if_neg e2,if_neg e3,if_pos e4];simp))
     ·obtain ⟨ha0,hai,hae⟩:=pf e1.1
      obtain ⟨hb0,hbi,hbe⟩:=pf e1.2;have hca:=dU hb hai;have hcb:=dU hb hbi;have hne:¬o.b.toNat=o.a.toNat:=λh=>e2 (by omega);have hbi2:o.b.toNat<(bO P.rows o.a.toNat (bP P.rows o.a.toNat -o.coins)).length:=by rw [aC];exact hbi
      have hl2:(bO (bO P.rows o.a.toNat (bP P.rows o.a.toNat -o.coins)) o.b.toNat (bP P.rows o.b.toNat+o.coins)).length=P.rows.length:=by rw [aC,aC]
      refine good _ (by rw [hd,gT,if_pos e1,if_neg e2,if_neg e3,if_neg e4]) ?_ hl2 ?_
      ·refine p4 hP rfl hl2 (λx hx=> ?_) hP.held ?_ hP.sup λk h=> ?_
       ·rcases nd hx with h|h
        ·rcases nd h with h|h
         ·exact hP.coins x h
         ·omega
        ·omega
       ·show P.held+total (bO (bO P.rows o.a.toNat (bP P.rows o.a.toNat -o.coins)) o.b.toNat (bP P.rows o.b.toNat+o.coins))=P.sup
        rw [jM hbi2,jM hai,px hai,if_neg hne];omega
       ·obtain ⟨h1,n1⟩:=jk h
        obtain ⟨h2,n2⟩:=jk h1;exact ⟨h2,n1.trans n2⟩
      ·have hmv:∀n,gw o n=((if n=o.b then IntKind.u64.wrap ((if n=o.a then IntKind.u64.wrap (0 -o.coins) else 0)+o.coins) else if n=o.a then IntKind.u64.wrap (0 -o.coins) else 0),0,0):=λn=>by unfold gw;rw [if_neg k2,if_pos k3]
       refine ⟨?_,?_,λk hk=>⟨by rw [hl2];exact hk,?_,?_⟩⟩
       ·rw [hmv];show P.held=IntKind.u64.wrap (P.held+0);rw [bw (by omega) (by omega)];omega
       ·rw [hmv];show P.sup=IntKind.u64.wrap (P.sup+0);rw [bw (by omega) (by omega)];omega
       ·have hk2:k<(bO P.rows o.a.toNat (bP P.rows o.a.toNat -o.coins)).length:=by rw [aC];exact hk
        show ((bO (bO P.rows _ _) _ _)[k]'(by rw [hl2];exact hk)).name=_;rw [dN hk2,dN hk];split
        ·split<;>rfl
        ·split<;>rfl
       ·have hk2:k<(bO P.rows o.a.toNat (bP P.rows o.a.toNat -o.coins)).length:=by rw [aC];exact hk
        show ((bO (bO P.rows _ _) _ _)[k]'(by rw [hl2];exact hk)).coins=_;have hck:=dU hb hk;rw [dh hk] at hck;rw [dN hk2,dN hk,hmv]
        by_cases eb:k=o.b.toNat
        ·subst eb
         rw [if_pos rfl];simp only [hbe,if_true,show¬o.b=o.a from λh=>e2 h.symm,if_false];rw [dh hbi];rw [dh hbi] at hcb;rw [bw (x:=0+o.coins) (by omega) (by omega),bw (by omega) (by omega)];omega
        ·rw [if_neg eb]
         simp only [show¬(k:Int)=o.b from λh=>eb (by omega),if_false]
         by_cases ea:k=o.a.toNat
         ·subst ea
          rw [if_pos rfl];simp only [hae,if_true];rw [dh hai] at e4⊢;rw [rq ⟨by omega,by omega,by omega⟩]
         ·rw [if_neg ea]
          simp only [show¬(k:Int)=o.a from λh=>ea (by omega),if_false];rw [bw (by omega) (by omega)];omega
  ·exact keep (by rw [hd,gT,if_neg e1]) (.inl (by rw [hd,gT,if_neg e1];simp))
 by_cases k4:o.kind=4
 ·have hd:cF P o=bE P o.a o.coins:=by unfold cF;rw [if_neg k1,if_neg k2,if_neg k3,if_pos k4]
  by_cases e1:dA P.rows o.a=0
  ·by_cases e2:bP P.rows o.a.toNat<o.coins
   ·exact keep (by rw [hd,bE,if_pos e1,if_pos e2]) (.inl (by rw [hd,bE,if_pos e1,if_pos e2];simp))
   ·obtain ⟨ha0,hai,hae⟩:=pf e1
    have hca:=dU hb hai;have hcl:=GC hP.coins hai;rw [<-dh hai] at hcl;refine good _ (by rw [hd,bE,if_pos e1,if_neg e2]) ?_ (aC _ _ _) ?_
    ·refine p4 hP rfl (aC _ _ _) (λx hx=> ?_) (by show 0<=P.held+o.coins;omega) ?_ hP.sup λk h=>jk h
     ·rcases nd hx with h|h
      ·exact hP.coins x h
      ·omega
     ·show P.held+o.coins+total (bO P.rows o.a.toNat (bP P.rows o.a.toNat -o.coins))=P.sup
      rw [jM hai];omega
    ·have hmv:∀n,gw o n=((if n=o.a then IntKind.u64.wrap (0 -o.coins) else 0),o.coins,0):=λn=>by unfold gw;rw [if_neg k2,if_neg k3,if_pos k4]
     refine ⟨?_,?_,λk hk=>⟨by rw [aC];exact hk,?_,?_⟩⟩
     ·rw [hmv];show P.held+o.coins=IntKind.u64.wrap (P.held+o.coins);rw [bw (by omega) (by omega)]
     ·rw [hmv];show P.sup=IntKind.u64.wrap (P.sup+0);rw [bw (by omega) (by omega)];omega
     ·show ((bO P.rows _ _)[k]'(by rw [aC];exact hk)).name=_
      rw [dN hk];split<;>rfl
     ·show ((bO P.rows _ _)[k]'(by rw [aC];exact hk)).coins=_
      have hck:=dU hb hk;rw [dh hk] at hck;rw [dN hk,hmv]
      by_cases ek:k=o.a.toNat
      ·subst ek
       rw [if_pos rfl];simp only [hae,if_true];rw [dh hai] at e2⊢;rw [rq ⟨by omega,by omega,by omega⟩]
      ·rw [if_neg ek]
       simp only [show¬(k:Int)=o.a from λh=>ek (by omega),if_false];rw [bw (by omega) (by omega)];omega
  ·exact keep (by rw [hd,bE,if_neg e1]) (.inl (by rw [hd,bE,if_neg e1];simp))
 by_cases k5:o.kind=5
 ·have hd:cF P o=cd P o.a o.coins:=by unfold cF;rw [if_neg k1,if_neg k2,if_neg k3,if_neg k4,if_pos k5]
  by_cases e1:dA P.rows o.a=0
  ·by_cases e2:P.held<o.coins
   ·exact keep (by rw [hd,cd,if_pos e1,if_pos e2]) (.inl (by rw [hd,cd,if_pos e1,if_pos e2];simp))
   ·obtain ⟨ha0,hai,hae⟩:=pf e1
    have hca:=dU hb hai;refine good _ (by rw [hd,cd,if_pos e1,if_neg e2]) ?_ (aC _ _ _) ?_
    ·refine p4 hP rfl (aC _ _ _) (λx hx=> ?_) (by show 0<=P.held -o.coins;omega) ?_ hP.sup λk h=>jk h
     ·rcases nd hx with h|h
      ·exact hP.coins x h
      ·omega
     ·show P.held -o.coins+total (bO P.rows o.a.toNat (bP P.rows o.a.toNat+o.coins))=P.sup
      rw [jM hai];omega
    ·have hmv:∀n,gw o n=((if n=o.a then o.coins else 0),IntKind.u64.wrap (0 -o.coins),0):=λn=>by unfold gw;rw [if_neg k2,if_neg k3,if_neg k4,if_pos k5]
     refine ⟨?_,?_,λk hk=>⟨by rw [aC];exact hk,?_,?_⟩⟩
     ·rw [hmv];show P.held -o.coins=IntKind.u64.wrap (P.held+IntKind.u64.wrap (0 -o.coins));rw [rq ⟨by omega,by omega,by omega⟩]
     ·rw [hmv];show P.sup=IntKind.u64.wrap (P.sup+0);rw [bw (by omega) (by omega)];omega
     ·show ((bO P.rows _ _)[k]'(by rw [aC];exact hk)).name=_
      rw [dN hk];split<;>rfl
     ·show ((bO P.rows _ _)[k]'(by rw [aC];exact hk)).coins=_
      have hck:=dU hb hk;rw [dh hk] at hck;rw [dN hk,hmv]
      by_cases ek:k=o.a.toNat
      ·subst ek
       rw [if_pos rfl];simp only [hae,if_true];rw [dh hai,bw (by omega) (by omega)]
      ·rw [if_neg ek]
       simp only [show¬(k:Int)=o.a from λh=>ek (by omega),if_false];rw [bw (by omega) (by omega)];omega
  ·exact keep (by rw [hd,cd,if_neg e1]) (.inl (by rw [hd,cd,if_neg e1];simp))
 refine keep ?_ (.inr ⟨k2,k3,k4,k5⟩);unfold cF;rw [if_neg k1,if_neg k2,if_neg k3,if_neg k4,if_neg k5];split<;>rfl
end Go.HL.Pu
namespace Go.HL.Es
open Go.HL Go.Proofs
def kp (l:List Rw):Int:=(l.map (·.2)).sum
theorem gY (r:Rw) (t:List Rw):kp (r::t)=r.2+kp t:=by simp [kp]
theorem DK (k v:Int):∀l:List Rw,kp (ins k v l)=v+kp l
 | []=>by simp [ins,kp]
 |r::t=>by
  simp only [ins];split
  ·rw [gY]
  ·rw [gY,gY,DK k v t];omega
theorem ju {k:Int} {l:List Rw} (h:∀r∈l,r.1≠k):del k l=l:=List.filter_eq_self.2 λr hr=>by simpa using h r hr
theorem qc {k:Int}:∀{l:List Rw},l.Pairwise (λa b=>a.1≠b.1)->kp (del k l)=kp l -ck l k
 | [],_=>by simp [del,kp,ck]
 |r::t,h=>by
  rw [List.pairwise_cons] at h;have ih:=qc (k:=k) h.2
  by_cases e:k=r.1
  ·subst e
   have h0:∀x∈t,x.1≠r.1:=λx hx e=>h.1 x hx e.symm;have e1:del r.1 (r::t)=del r.1 t:=by simp [del]
   rw [e1,ju h0,gY,jr];omega
  ·have e1:del k (r::t)=r::del k t:=by simp [del,Ne.symm e]
   rw [e1,gY,gY,ih];simp only [ck,e,if_false];omega
theorem yD {l:List Rw} (h:fu l) (k v:Int):kp (fy k v l)=kp l -ck l k+v:=by
 unfold fy;split
 ·rename_i hv;rw [qc h.ne,hv];omega
 ·rw [DK,qc h.ne];omega
theorem DL {l:List Rw} (h:∀r∈l,0<r.2):0<=kp l:=by
 induction l with
 |nil=>simp [kp]
 |cons r t ih=>
  rw [gY];have:=ih λx hx=>h x (.tail _ hx);have:=h r (.head _);omega
theorem zj {l:List Rw} (h:fu l) (k:Int):ck l k<=kp l:=by have h1:=qc (k:=k) h.ne;have h2:0<=kp (del k l):=DL λr hr=>(h.2 r (je.1 hr).1).2.2;omega
structure EI (lp lg:Int) (E:cq):Prop where
 P:Pu.PI lp E.P
 G:Gd.GI lg E.ae
 R:fu E.l
 sum:kp E.l=E.P.held
theorem EI.ly {lp lg:Int} {E:cq} (h:EI lp lg E) (k:Int):0<=ck E.l k/\ck E.l k<=4611686018427387904:=by have h1:=uw h.R k;have h2:=zj h.R k;have h3:=h.P.bd.held;have h4:=h.sum;omega
theorem nI {P:Pu.Ps} {n:Int}:(Pu.aJ P n).2=0↔Pu.dA P.rows n=0:=by
 unfold Pu.aJ;split
 ·rename_i h;simp [h]
 ·rename_i h;simp [h]
theorem K9 (P:Pu.Ps) (n:Int):(Pu.aJ P n).2=0\/(Pu.aJ P n).2=142:=by unfold Pu.aJ;split<;>simp
theorem Me {lim:Int} {P:Pu.Ps} (hP:Pu.PI lim P) (n c:Int) (hc:0<=c/\c<18446744073709551616):Pu.PI lim (Pu.cd P n c).2:=by
 have:=(Pu.qC (o:=⟨0,5,n,0,c,[]⟩) hP ⟨hc,by simp⟩).pi
 simpa [Pu.cF] using this
theorem Rm {lim:Int} {P:Pu.Ps} (hP:Pu.PI lim P) (n c:Int) (hc:0<=c/\c<18446744073709551616):Pu.PI lim (Pu.bE P n c).2:=by
 have:=(Pu.qC (o:=⟨0,4,n,0,c,[]⟩) hP ⟨hc,by simp⟩).pi
 simpa [Pu.cF] using this
theorem Jx {l:List Pu.Ac} {i:Nat} (h:i<l.length) (c:Int):Pu.bO (Pu.bO l i c) i (Pu.bP l i)=l:=by
 apply List.ext_getElem
 ·simp [Pu.aC]
 ·intro k h1 h2
  rw [Pu.dN (by rw [Pu.aC];exact h2),Pu.dN h2]
  by_cases e:k=i
  ·subst e
   simp only [if_true];rw [Pu.dh h]
  ·simp [e]
theorem vZ {lim:Int} {P:Pu.Ps} (hP:Pu.PI lim P) {n c:Int} (hn:Pu.dA P.rows n=0) (hc:0<=c/\c<=P.held):
  Pu.cd P n c=(0,{P with held:=P.held -c,rows:=Pu.bO P.rows n.toNat (Pu.bP P.rows n.toNat+c)})/\Pu.bE (Pu.cd P n c).2 n c=(0,P):=by
 obtain ⟨i,rfl,hi⟩:=Pu.iQ hn;have e1:Pu.cd P i c=(0,{P with held:=P.held -c,rows:=Pu.bO P.rows (i:Int).toNat (Pu.bP P.rows (i:Int).toNat+c)}):=by unfold Pu.cd;rw [if_pos hn,if_neg (by omega)]
 refine ⟨e1,?_⟩;rw [e1];have h0:=Pu.dU hP.bd hi;have e0:(i:Int).toNat=i:=by omega
 rw [e0];have hn':Pu.dA (Pu.bO P.rows i (Pu.bP P.rows i+c)) i=0:=by unfold Pu.dA at hn⊢;rw [Pu.aC];exact hn
 have hci:Pu.bP (Pu.bO P.rows i (Pu.bP P.rows i+c)) i=Pu.bP P.rows i+c:=by rw [Pu.px hi,if_pos rfl]
 unfold Pu.bE;simp only [e0];rw [if_pos hn',hci,if_neg (by omega)];have e2:P.held -c+c=P.held:=by omega
 have e3:Pu.bP P.rows i+c -c=Pu.bP P.rows i:=by omega
 rw [e2,e3,Jx hi]
theorem Fc {ae:List Gd.It} {n:Int} (h:(Gd.aJ ae n).2=0):∃i:Nat,n=i+1/\∃hi:i<ae.length,(Gd.aJ ae n).1=ae[i]:=by
 unfold Gd.aJ at h⊢
 split at h
 ·rename_i hr
  refine ⟨n.toNat -1,by omega,by omega,?_⟩;rw [if_pos hr];have:n.toNat -1<ae.length:=by omega
  simp [this]
 ·cases h
theorem IM {lim:Int} {ae:List Gd.It} (hg:Gd.GI lim ae) {n a c:Int} (ha:Gd.oz a=true) (hc:1<=c) (h1:(Gd.aJ ae n).2=0) (h2:(Gd.aJ ae n).1.con=c):
  (Gd.fZ ae n a).1=0/\Gd.gq (Gd.fZ ae n a).2 n c=(0,ae):=by
 obtain ⟨i,rfl,hi,hx⟩:=Fc h1;rw [hx] at h2;have hpl:=hg.place ae[i] (List.getElem_mem hi);have e0:((i:Int)+1).toNat -1=i:=by omega
 have e1:Gd.fZ ae (i+1) a=(0,ae.set i ⟨ae[i].num,ae[i].kind,a,0⟩):=by
  unfold Gd.fZ Gd.cd;rw [if_pos ha,if_pos (by omega),e0];have:ae.getD i ⟨0,0,0,0⟩=ae[i]:=by simp [hi]
  rw [this,if_pos (by simp;omega)]
 rw [e1];refine ⟨rfl,?_⟩;unfold Gd.gq Gd.cd;rw [if_neg (by omega),List.length_set,if_pos (by omega),e0];have:(ae.set i ⟨ae[i].num,ae[i].kind,a,0⟩).getD i ⟨0,0,0,0⟩=⟨ae[i].num,ae[i].kind,a,0⟩:=by simp [hi]
 simp only [this];rw [if_pos (by simp),List.set_set]
 congr 1
 have:(⟨ae[i].num,ae[i].kind,-1,c⟩:Gd.It)=ae[i]:=by
  rcases hpl with ⟨h,_⟩|⟨_,h⟩
  ·omega
  ·rw [<-h,<-h2]
 rw [this,List.set_getElem_self]
theorem GQ {lim:Int} {ae:List Gd.It} (hg:Gd.GI lim ae) (n a:Int):Gd.GI lim (Gd.fZ ae n a).2:=by
 unfold Gd.fZ;split
 ·rename_i h;exact Gd.uY hg (.inl ⟨rfl,(Gd.nt _).1 h⟩)
 ·exact hg
theorem N6 {lim:Int} {ae:List Gd.It} (hg:Gd.GI lim ae) (n c:Int):Gd.GI lim (Gd.gq ae n c).2:=by
 unfold Gd.gq;split
 ·exact hg
 ·rename_i h;exact Gd.uY hg (.inr ⟨by omega,rfl⟩)
def gH (x:Gf) (E:cq):cq:={E with ae:=if x.item≠0 then (Gd.fZ E.ae x.item x.to).2 else E.ae}
structure Bq (c:Int) (x:Gf) (E:cq):Prop where
 acc:(Pu.aJ E.P x.to).2=0
 item:x.item≠0->(Gd.aJ E.ae x.item).2=0/\(Gd.aJ E.ae x.item).1.con=c
 coins:x.coins<=ck E.l c
theorem jA (c:Int) (x:Gf) (E:cq):(Bq c x E/\cO c x E=(0,⟨(Pu.cd E.P x.to x.coins).2,(gH x E).ae,fy c (ck E.l c -x.coins) E.l⟩))\/
  (¬Bq c x E/\(cO c x E).1≠0/\(cO c x E).2=E):=by
 unfold cO;split
 ·rename_i h;exact .inr ⟨λg=>h g.acc,by simp,rfl⟩
 ·rename_i h1
  split
  ·rename_i h
   refine .inr ⟨λg=> ?_,by simp,rfl⟩;obtain ⟨a,b⟩:=g.item h.1;rcases h.2 with h|h
   ·exact h a
   ·exact h b
  ·rename_i h2
   split
   ·rename_i h;exact .inr ⟨λg=>by have:=g.coins;omega,by simp,rfl⟩
   ·rename_i h3
    refine .inl ⟨⟨by simpa using h1,λhi=> ?_,by omega⟩,rfl⟩;constructor
    ·by_cases e:(Gd.aJ E.ae x.item).2=0
     ·exact e
     ·exact absurd ⟨hi,.inl e⟩ h2
    ·by_cases e:(Gd.aJ E.ae x.item).1.con=c
     ·exact e
     ·exact absurd ⟨hi,.inr e⟩ h2
theorem Kc {lp:Int} {P:Pu.Ps} (h:Pu.PI lp P) {n:Int} (ha:Pu.dA P.rows n=0):Gd.oz n=true:=by obtain ⟨i,rfl,hi⟩:=Pu.iQ ha;have:=h.bd.len;rw [Gd.nt];omega
theorem sC {lp lg c:Int} {x:Gf} {E:cq} (h:EI lp lg E) (hc:1<=c/\c<9223372036854775808) (hx:0<=x.coins):EI lp lg (cO c x E).2:=by
 rcases jA c x E with ⟨g,e⟩|⟨_,_,e⟩
 ·rw [e]
  have hb:=h.ly c;have hle:=zj h.R c;have hg:=g.coins;have hp:=(vZ h.P (n:=x.to) (c:=x.coins) (nI.1 g.acc) ⟨hx,by rw [<-h.sum];omega⟩).1;refine ⟨Me h.P _ _ ⟨hx,by omega⟩,?_,nT h.R hc (by omega),?_⟩
  ·show Gd.GI lg (if x.item≠0 then _ else _)
   split
   ·exact GQ h.G _ _
   ·exact h.G
  ·show kp (fy c (ck E.l c -x.coins) E.l)=(Pu.cd E.P x.to x.coins).2.held
   rw [hp,yD h.R];show _=E.P.held -x.coins;rw [<-h.sum];omega
 ·rw [e];exact h
def bf (c:Int):List Gf->cq->Int×cq
 | [],E=>(0,E)
 |x::t,E=>if (cO c x E).1≠0 then ((cO c x E).1,E) else bf c t (cO c x E).2
theorem pJ {lp lg c:Int} (hc:1<=c/\c<9223372036854775808):∀{gs:List Gf} {E:cq},EI lp lg E->(∀x∈gs,0<=x.coins)->EI lp lg (bf c gs E).2
 | [],_,h,_=>h
 |x::t,E,h,hx=>by
  unfold bf;split
  ·exact h
  ·exact pJ hc (sC h hc (hx x (.head _))) λy hy=>hx y (.tail _ hy)
theorem ve (c:Int):∀(gs:List Gf) (E:cq) (i:Nat) (hi:i<gs.length),(bf c (gs.take i) E).1=0->
  bf c (gs.take (i+1)) E=(if (cO c gs[i] (bf c (gs.take i) E).2).1≠0 then ((cO c gs[i] (bf c (gs.take i) E).2).1,(bf c (gs.take i) E).2) else (0,(cO c gs[i] (bf c (gs.take i) E).2).2))
 |x::t,E,0,_,_=>by simp [bf]
 |x::t,E,i+1,hi,h0=>by
  simp only [List.take_succ_cons,bf,List.getElem_cons_succ] at h0⊢
  by_cases hx:(cO c x E).1=0
  ·simp only [hx,ne_eq,not_true_eq_false,if_false] at h0⊢
   have:=ve c t (cO c x E).2 i (by simpa using hi) h0
   simpa using this
  ·simp only [hx,ne_eq,not_false_eq_true,if_true] at h0
theorem xP (c:Int):∀(gs:List Gf) (E:cq) (i:Nat),(bf c (gs.take i) E).1≠0->bf c gs E=bf c (gs.take i) E
 | [],E,i,h=>by simp
 |x::t,E,0,h=>by simp [bf] at h
 |x::t,E,i+1,h=>by
  simp only [List.take_succ_cons,bf] at h⊢
  split
  ·rfl
  ·rename_i hx
   rw [if_neg hx] at h;exact xP c t _ i h
def bo (c:Int) (gs:List Gf) (bes:cq->Int×cq) (E:cq):Int×cq:=
 if c<1 then (2,E)
 else if (bf c gs E).1≠0 then ((bf c gs E).1,E)
 else if (bes (bf c gs E).2).1≠0 then ((bes (bf c gs E).2).1,E)
 else (0,(bes (bf c gs E).2).2)
def mc (c:Int) (E:cq):Int×cq:=(if ck E.l c≠0\/(Gd.fi E.ae c).length≠0 then 170 else 0,E)
theorem re {lp lg c:Int} {x:Et} {E:cq} (h:EI lp lg E) (hc:1<=c/\c<9223372036854775808) (hx:0<=x.coins/\x.coins<18446744073709551616):EI lp lg (aN c x E).2:=by
 unfold aN;split
 ·exact h
 split
 ·exact h
 split
 ·exact h
 ·rename_i h1 h2 h3
  have hb:=h.ly c;have ht:Pu.bE E.P x.acc x.coins=(0,{E.P with held:=E.P.held+x.coins,rows:=Pu.bO E.P.rows x.acc.toNat (Pu.bP E.P.rows x.acc.toNat -x.coins)}):=by
   unfold Pu.bE at h3⊢;split at h3
   ·split at h3
    ·exact absurd (by simp) h3
    ·rename_i e1 e2
     rw [if_pos e1,if_neg e2]
   ·exact absurd (by simp) h3
  refine ⟨Rm h.P _ _ hx,?_,nT h.R hc (by omega),?_⟩
  ·show Gd.GI lg (if x.item≠0 then _ else _)
   split
   ·exact N6 h.G _ _
   ·exact h.G
  ·show kp (fy c (ck E.l c+x.coins) E.l)=(Pu.bE E.P x.acc x.coins).2.held
   rw [ht,yD h.R];show _=E.P.held+x.coins;rw [<-h.sum];omega
theorem AX {c:Int} {x:Et} {E:cq} (h:(aN c x E).1≠0):(aN c x E).2=E:=by
 unfold aN at h⊢
 split
 ·rfl
 split
 ·rfl
 split
 ·rfl
 ·rename_i h1 h2 h3;rw [if_neg h1,if_neg h2,if_neg h3] at h;exact absurd rfl h
def gj (w0:World) (p g s:Nat) (lim:Int) (X:ak) (fs:List Value) (D:Nat->cq):Prop:=
 ∀k,k<fs.length->∃f cs,fs[k]? =some (.func (.func f) #[] cs)/\bT Tryz.prog f=true/\
  ∀(G:ak) (W:World),St w0 (G*X*aI p g s lim (D (k+1))) W->aj Tryz.prog f cs.toList (λ_ W'=>St w0 (G*X*aI p g s lim (D k)) W') W
theorem Ge {w0:World} {p g s:Nat} {lim:Int} {E:cq}:gj w0 p g s lim emp [] (λ_=>E):=λk hk=>absurd hk (by simp)
def CY (D:Nat->cq) (n:Nat) (E:cq):Nat->cq:=λk=>if k=n+1 then E else D k
theorem vN (D:Nat->cq) (n:Nat) (E:cq):CY D n E (n+1)=E:=by simp [CY]
theorem kT (D:Nat->cq) {n k:Nat} (E:cq) (h:k<=n):CY D n E k=D k:=by simp only [CY];rw [if_neg (by omega)]
theorem gj.snoc {w0:World} {p g s:Nat} {lim:Int} {X:ak} {fs:List Value} {D:Nat->cq} (h:gj w0 p g s lim X fs D) {f:Nat} {cs:Array Value} {E:cq} (hb:bT Tryz.prog f=true)
  (hf:∀(G:ak) (W:World),St w0 (G*X*aI p g s lim E) W->aj Tryz.prog f cs.toList (λ_ W'=>St w0 (G*X*aI p g s lim (D fs.length)) W') W):
  gj w0 p g s lim X (fs++ [.func (.func f) #[] cs]) (CY D fs.length E):=by
 intro k hk;simp only [List.length_append,List.length_singleton] at hk
 by_cases e:k<fs.length
 ·obtain ⟨f',cs',h1,h2,h3⟩:=h k e
  refine ⟨f',cs',by rw [List.getElem?_append_left e];exact h1,h2,λG W hs=> ?_⟩;rw [kT D E (by omega:k+1<=fs.length)] at hs;rw [kT D E (by omega:k<=fs.length)];exact h3 G W hs
 ·have:k=fs.length:=by omega
  subst this;refine ⟨f,cs,by simp,hb,λG W hs=> ?_⟩;rw [vN] at hs;rw [kT D E (Nat.le_refl _)];exact hf G W hs
theorem gj.wide {w0:World} {p g s:Nat} {lim:Int} {X Y:ak} {fs:List Value} {D:Nat->cq} (h:gj w0 p g s lim X fs D):gj w0 p g s lim (X*Y) fs D:=by intro k hk;obtain ⟨f',cs',h1,h2,h3⟩:=h k hk;exact ⟨f',cs',h1,h2,λG W hs=>(h3 (G*Y) W (hs.to (by ac_rfl))).mono λ_ W' h=>h.to (by ac_rfl)⟩
abbrev gA (A:ak) (p g s:Nat) (lim:Int) (b4 b5 b6:Nat) (c:Int) (x:Gf) (E:cq):ak:=A*jX b4 b5 b6 s c x*fX s p g E.l*Gd.bN g lim E.ae*Pu.bG p E.P
section
variable {w0 w:World} {A Z:ak} {p g s b4 b5 b6:Nat} {lim c:Int} {x:Gf} {E:cq}
theorem dn (h:St w0 (gA A p g s lim b4 b5 b6 c x E) w):w.cell? ⟨b4,0,none⟩=some (.pointer (some ⟨s,0,none⟩))/\w.cell? ⟨b5,0,none⟩=some (.int .i64 c)/\w.cell? ⟨b6,0,none⟩=some (.int .i64 x.to)/\w.cell? ⟨b6,1,none⟩=some (.int .i64 x.item)/\
  w.cell? ⟨b6,2,none⟩=some (.int .u64 x.coins)/\w.cell? ⟨s,0,none⟩=some (.pointer (some ⟨p,0,none⟩))/\w.cell? ⟨s,1,none⟩=some (.pointer (some ⟨g,0,none⟩)):=
 kH h.drop
theorem Td {lp lg:Int} (hE:EI lp lg E) (n:Int) (h:St w0 (gA A p g s lim b4 b5 b6 c x E) w):aj Tryz.prog 132 [.pointer (some ⟨p,0,none⟩),.int .i64 n]
  (λr w'=>r= .tuple #[.agg (Pu.aJ E.P n).1.cs.toArray,.int .i64 (Pu.aJ E.P n).2]/\St w0 (gA A p g s lim b4 b5 b6 c x E) w') w:=Pu.iv p E.P n w0 w _ hE.P.bd.len h
theorem Tf {lp lg:Int} (hE:EI lp lg E) (n:Int) (h:St w0 (gA A p g s lim b4 b5 b6 c x E) w):aj Tryz.prog 105 [.pointer (some ⟨g,0,none⟩),.int .i64 n]
  (λr w'=>r= .tuple #[.agg (Gd.aJ E.ae n).1.cs.toArray,.int .i64 (Gd.aJ E.ae n).2]/\St w0 (gA A p g s lim b4 b5 b6 c x E) w') w:=
 (Gd.iv g lim E.ae n w0 w _ (by have:=hE.G.len;have:=hE.G.lim;omega) h.swap).mono λr w' ⟨e,h⟩=>⟨e,h.swap⟩
theorem Zz (h:St w0 (gA A p g s lim b4 b5 b6 c x E*Z) w):St w0 (gA (A*Z) p g s lim b4 b5 b6 c x E) w:=h.to (by simp only [gA];ac_rfl)
theorem zu (h:St w0 (gA (A*Z) p g s lim b4 b5 b6 c x E) w):St w0 (gA A p g s lim b4 b5 b6 c x E*Z) w:=h.to (by simp only [gA];ac_rfl)
end
def iw (w0:World) (A:ak) (p g s Br:Nat) (lg c:Int) (x:Gf) (E E0:cq) (n:Nat) (r:Value) (w':World):Prop:=
 r= .int .i64 (cO c x E).1/\∃(X:ak) (fs:List Value) (D:Nat->cq) (v:Value),gj w0 p g s lg X fs D/\D fs.length=(cO c x E).2/\D 0=E0/\fs.length<=n+2/\
  St w0 (A*X*pt Br (.cells #[v] 300 (0,0))*own 1 1 v fs.length fs*aI p g s lg (cO c x E).2) w'
theorem d8a {A X b4 b5 b6 b7 R O P G S:ak}:A*(X*(b4*b5*b6*b7))*R*O*(P*G*S)=A*X*R*O*b7*(b4*b5*b6)*S*G*P:=by ac_rfl
theorem Cs (p g s Br b4 b5 b6 b7 n:Nat) (lp lg c:Int) (x:Gf) (E E0:cq) (v:Value) (fs:List Value) (X:ak) (D:Nat->cq) (w0 w:World) (A:ak) (a0 a1 a2 a7 a8 a9 a10 a13:Value)
  (hE:EI lp lg E) (hc:1<=c/\c<9223372036854775808) (hx:0<=x.coins/\x.coins<18446744073709551616) (gv:Bq c x E) (hn:fs.length<=n+1) (hn2:n<=16777210)
  (hU:gj w0 p g s lg (X*(jX b4 b5 b6 s c x*pt b7 (.cells #[.int .u64 (ck E.l c)] 27 (0,0)))) fs D) (hD:D fs.length=gH x E) (hD0:D 0=E0)
  (h:St w0 (A*(X*(jX b4 b5 b6 s c x*pt b7 (.cells #[.int .u64 (ck E.l c)] 27 (0,0))))*pt Br (.cells #[v] 300 (0,0))*own 1 1 v fs.length fs*aI p g s lg (gH x E)) w):
  HC.wp E1 vo (r9 Tryz.prog [.slot 7] (iw w0 A p g s Br lg c x E E0 n))
   [a0,a1,a2,.func (.func 228) #[] #[.pointer (some ⟨Br,0,none⟩)],.pointer (some ⟨b4,0,none⟩),.pointer (some ⟨b5,0,none⟩),.pointer (some ⟨b6,0,none⟩),a7,a8,a9,a10,.pointer (some ⟨b7,0,none⟩),.int .u64 (ck E.l c -x.coins),a13] w:=by
 have hb:=hE.ly c;have hle:=zj hE.R c;have hsum:=hE.sum;have hgc:=gv.coins;obtain ⟨hput,hback⟩:=vZ hE.P (n:=x.to) (c:=x.coins) (nI.1 gv.acc) ⟨hx.1,by omega⟩;have hok:=(jA c x E).resolve_right λq=>q.1 gv;have h1:St w0 (A*X*pt Br (.cells #[v] 300 (0,0))*own 1 1 v fs.length fs*pt b7 (.cells #[.int .u64 (ck E.l c)] 27 (0,0))*jX b4 b5 b6 s c x*fX s p g E.l*Gd.bN g lg (gH x E).ae*Pu.bG p E.P) w:=h.to d8a;clear h;generalize hA1:A*X*pt Br (.cells #[v] 300 (0,0))*own 1 1 v fs.length fs*pt b7 (.cells #[.int .u64 (ck E.l c)] 27 (0,0))=A1 at h1;have hf:=λ{Z:ak} {w:World} (h:St w0 (A1*jX b4 b5 b6 s c x*fX s p g E.l*Z) w)=>kH h;have hP:=λ{w:World} (h:St w0 (A1*jX b4 b5 b6 s c x*fX s p g E.l*Gd.bN g lg (gH x E).ae*Pu.bG p E.P) w)=>Pu.pe p E.P x.to x.coins w0 w _ hE.P.bd hx h;simp
 refine fK (Pu.rY (St w0 (A1*jX b4 b5 b6 s c x*fX s p g E.l*Gd.bN g lg (gH x E).ae*Pu.bG p E.P)) (St w0 (A1*jX b4 b5 b6 s c x*fX s p g E.l*Gd.bN g lg (gH x E).ae*Pu.bG p (Pu.cd E.P x.to x.coins).2))) h1.drew ?_;have hf2:=λ{P:Pu.Ps} {w:World} (h:St w0 (A1*jX b4 b5 b6 s c x*fX s p g E.l*Gd.bN g lg (gH x E).ae*Pu.bG p P) w)=>hf h.drop;simp;refine al (v:= .pointer (some ⟨s,0,none⟩)) (λvs' w he hw=>Pu.bS (λh=>(hf2 h).1) (λh=>(hf2 h).1) hw) ?_;simp;refine al (v:= .pointer (some ⟨p,0,none⟩)) (λvs' w he hw=>Pu.bS (λh=>(hf2 h).2.2.2.2.2.1) (λh=>(hf2 h).2.2.2.2.2.1) hw) ?_;simp;refine al (v:= .int .i64 x.to) (λvs' w he hw=>Pu.bS (λh=>(hf2 h).2.2.1) (λh=>(hf2 h).2.2.1) hw) ?_;simp;refine al (v:= .int .u64 x.coins) (λvs' w he hw=>Pu.bS (λh=>(hf2 h).2.2.2.2.1) (λh=>(hf2 h).2.2.2.2.1) hw) ?_;simp;refine aO (by rfl) (λw hw=> ?_) (λr hr=> ?_)
 ·rw [Pu.kI] at hw
  refine ab ((hP hw).mono ?_);rintro r w' ⟨_,h⟩;exact h
 simp;intro w2 h2;refine af (hf2 h2).1 ?_;simp;refine af (hf2 h2).2.1 ?_;simp;refine ab ((wk s p g E.l c (ck E.l c -x.coins) w0 w2 (A1*jX b4 b5 b6 s c x*Gd.bN g lg (gH x E).ae*Pu.bG p (Pu.cd E.P x.to x.coins).2) hE.R (h2.to (by ac_rfl))).mono ?_);intro r w3 h3;simp;rw [<-hA1] at h3;have h4:St w0 (A*(X*(jX b4 b5 b6 s c x*pt b7 (.cells #[.int .u64 (ck E.l c)] 27 (0,0))))*aI p g s lg ⟨(Pu.cd E.P x.to x.coins).2,(gH x E).ae,fy c (ck E.l c -x.coins) E.l⟩*pt Br (.cells #[v] 300 (0,0))*own 1 1 v fs.length fs) w3:=h3.to (by simp only [aI];ac_rfl);refine bJ (by kernel_rfl) ((wG Br fs.length v _ fs w0 w3 _ rfl (by omega) h4).mono ?_);rintro r w4 ⟨v',h5⟩;simp;unfold iw
 refine ⟨by rw [hok.2],X*(jX b4 b5 b6 s c x*pt b7 (.cells #[.int .u64 (ck E.l c)] 27 (0,0))),_,_,v',hU.snoc (f:=293) (cs:= #[.pointer (some ⟨b4,0,none⟩),.pointer (some ⟨b6,0,none⟩),.pointer (some ⟨b5,0,none⟩),.pointer (some ⟨b7,0,none⟩)]) (E:=(cO c x E).2) (by kernel_rfl) ?_,?_,?_,?_,?_⟩
 ·intro G W hs
  rw [hok.2] at hs;have hs':St w0 (G*X*Gd.bN g lg (gH x E).ae*pt b7 (.cells #[.int .u64 (ck E.l c)] 27 (0,0))*jX b4 b5 b6 s c x*fX s p g (fy c (ck E.l c -x.coins) E.l)*Pu.bG p (Pu.cd E.P x.to x.coins).2) W:=hs.to (by simp only [aI];ac_rfl);refine (Gc b4 b5 b6 b7 s p g c (ck E.l c) x _ _ w0 W _ (Me hE.P _ _ hx).bd hx (nT hE.R hc (by omega)) hs').mono ?_;intro r W' h6;rw [hback,Jz hE.R hc (by omega)] at h6;rw [hD];exact h6.to (by simp only [aI,gH];ac_rfl)
 ·simp [vN]
 ·rw [kT _ _ (Nat.zero_le _)];exact hD0
 ·simp;omega
 ·simp only [List.length_append,List.length_singleton]
  rw [hok.2];exact h5.to (by ac_rfl)
theorem uZ {w0 w:World} {A X:ak} {p g s Br n:Nat} {lg c k:Int} {x:Gf} {E E0:cq} {v:Value} {fs:List Value} {D:Nat->cq} (hk:cO c x E=(k,E))
  (hU:gj w0 p g s lg X fs D) (hD:D fs.length=E) (hD0:D 0=E0) (hn:fs.length<=n)
  (h:St w0 (A*X*pt Br (.cells #[v] 300 (0,0))*own 1 1 v fs.length fs*aI p g s lg E) w):iw w0 A p g s Br lg c x E E0 n (.int .i64 k) w:=by
 unfold iw;rw [hk];exact ⟨rfl,X,fs,D,v,hU,hD,hD0,by omega,h⟩
abbrev gX (A X:ak) (Br:Nat) (v:Value) (fs:List Value):ak:=A*X*pt Br (.cells #[v] 300 (0,0))*own 1 1 v fs.length fs
theorem Fb {A X:ak} {Br:Nat} {v:Value} {fs:List Value} {p g s b4 b5 b6:Nat} {lim c:Int} {x:Gf} {E:cq} {w0 w:World} (h:St w0 (gA (gX A X Br v fs) p g s lim b4 b5 b6 c x E) w):
  St w0 (A*X*pt Br (.cells #[v] 300 (0,0))*own 1 1 v fs.length fs*aI p g s lim E) w:=h.cut (jX b4 b5 b6 s c x) (by simp only [gA,gX,aI];ac_rfl)
abbrev ZA (a0 a1 a2:Value) (Br b4 b5 b6:Nat) (r:List Value):List Value:=
 [a0,a1,a2,.func (.func 228) #[] #[.pointer (some ⟨Br,0,none⟩)],.pointer (some ⟨b4,0,none⟩),.pointer (some ⟨b5,0,none⟩),.pointer (some ⟨b6,0,none⟩)]++r
section
variable (p g s Br b4 b5 b6 b7 n:Nat) (lp lg c:Int) (x:Gf) (E E0:cq) (v:Value) (fs:List Value) (X:ak) (D:Nat->cq) (w0 w:World) (A:ak) (a0 a1 a2 a7 a8 a9 a10 a11 a12 a13:Value)
  (hE:EI lp lg E) (hc:1<=c/\c<9223372036854775808) (hx:0<=x.coins/\x.coins<18446744073709551616) (hn:fs.length<=n) (hn2:n<=16777210)
  (hU:gj w0 p g s lg X fs D) (hD:D fs.length=E) (hD0:D 0=E0)
include hE hc hx hn hn2 hU hD hD0
theorem Ld (gv:Bq c x E)
  (h:St w0 (gA (gX A X Br v fs*pt b7 (.cells #[.int .u64 (ck E.l c)] 27 (0,0))) p g s lg b4 b5 b6 c x E) w):
  HC.wp E1 vp (r9 Tryz.prog [.slot 7] (iw w0 A p g s Br lg c x E E0 n))
   (ZA a0 a1 a2 Br b4 b5 b6 [a7,a8,a9,a10,.pointer (some ⟨b7,0,none⟩),.int .u64 (ck E.l c -x.coins),a13]) w:=by
 have hU':=hU.wide (Y:=jX b4 b5 b6 s c x*pt b7 (.cells #[.int .u64 (ck E.l c)] 27 (0,0)));have hlen:E.ae.length<=1048576:=by have:=hE.G.len;have:=hE.G.lim;omega
 simp;refine af (dn h).2.2.2.1 ?_;simp;refine aR (λhi=> ?_) (λhi=> ?_)
 ·simp at hi
  have hacc:Gd.oz x.to=true:=Kc hE.P (nI.1 gv.acc);obtain ⟨hf0,hfb⟩:=IM hE.G hacc hc.1 (gv.item hi).1 (gv.item hi).2;have hfi:(gH x E)=⟨E.P,(Gd.fZ E.ae x.item x.to).2,E.l⟩:=by simp [gH,hi]
  generalize hA1:gX A X Br v fs*pt b7 (.cells #[.int .u64 (ck E.l c)] 27 (0,0))=A1 at h;have h1:St w0 (A1*jX b4 b5 b6 s c x*fX s p g E.l*Pu.bG p E.P*Gd.bN g lg E.ae) w:=h.swap;have hf:=λ{ae:List Gd.It} {w:World} (h:St w0 (A1*jX b4 b5 b6 s c x*fX s p g E.l*Pu.bG p E.P*Gd.bN g lg ae) w)=>kH h.drop;simp;refine fK (Pu.rY (St w0 (A1*jX b4 b5 b6 s c x*fX s p g E.l*Pu.bG p E.P*Gd.bN g lg E.ae)) (St w0 (A1*jX b4 b5 b6 s c x*fX s p g E.l*Pu.bG p E.P*Gd.bN g lg (Gd.fZ E.ae x.item x.to).2))) h1.drew ?_;simp;refine al (v:= .pointer (some ⟨s,0,none⟩)) (λvs' w he hw=>Pu.bS (λh=>(hf h).1) (λh=>(hf h).1) hw) ?_;simp;refine al (v:= .pointer (some ⟨g,0,none⟩)) (λvs' w he hw=>Pu.bS (λh=>(hf h).2.2.2.2.2.2) (λh=>(hf h).2.2.2.2.2.2) hw) ?_;simp;refine al (v:= .int .i64 x.item) (λvs' w he hw=>Pu.bS (λh=>(hf h).2.2.2.1) (λh=>(hf h).2.2.2.1) hw) ?_;simp
  refine al (v:= .int .i64 x.to) (λvs' w he hw=>Pu.bS (λh=>(hf h).2.2.1) (λh=>(hf h).2.2.1) hw) ?_;simp;refine aO (by rfl) (λw hw=> ?_) (λr hr=> ?_)
  ·rw [Pu.kI] at hw
   refine ab ((Gd.H5 g lg E.ae x.item x.to w0 w _ hlen hw).mono ?_);rintro r w' ⟨_,h⟩;exact h
  simp;intro w2 h2;rw [<-hA1] at h2;have h3:St w0 (A*(X*(jX b4 b5 b6 s c x*pt b7 (.cells #[.int .u64 (ck E.l c)] 27 (0,0))))*aI p g s lg (gH x E)*pt Br (.cells #[v] 300 (0,0))*own 1 1 v fs.length fs) w2:=by rw [hfi];exact h2.to (by simp only [aI,gX];ac_rfl)
  refine bJ (by kernel_rfl) ((wG Br fs.length v _ fs w0 w2 _ rfl (by omega) h3).mono ?_);rintro r w4 ⟨v',h5⟩;simp;have hU2:=hU'.snoc (f:=291) (cs:= #[.pointer (some ⟨b4,0,none⟩),.pointer (some ⟨b6,0,none⟩),.pointer (some ⟨b5,0,none⟩)]) (E:=gH x E) (by kernel_rfl) (by intro G W hs;rw [hfi] at hs;have hs':St w0 (G*X*Pu.bG p E.P*pt b7 (.cells #[.int .u64 (ck E.l c)] 27 (0,0))*jX b4 b5 b6 s c x*fX s p g E.l*Gd.bN g lg (Gd.fZ E.ae x.item x.to).2) W:=hs.to (by simp only [aI];ac_rfl);refine (Gb b4 b5 b6 s p g c lg x _ E.l w0 W _ (by have:=(GQ hE.G x.item x.to).len;have:=hE.G.lim;omega) hs').mono ?_;intro r W' h6;rw [hfb] at h6;rw [hD];exact h6.to (by simp only [aI];ac_rfl))
  have:=Cs p g s Br b4 b5 b6 b7 n lp lg c x E E0 v' _ X _ w0 w4 A a0 a1 a2 a7 a8 a9 a10 a13 hE hc hx gv (by simp;omega) hn2 hU2 (by simp [vN]) (by rw [kT _ _ (Nat.zero_le _)];exact hD0)
   (by simp only [List.length_append,List.length_singleton];exact h5.to (by ac_rfl))
  simpa using this
 ·simp at hi
  have hfi:gH x E=E:=by simp [gH,hi]
  simp;have:=Cs p g s Br b4 b5 b6 b7 n lp lg c x E E0 v fs X D w0 w A a0 a1 a2 a7 a8 a9 a10 a13 hE hc hx gv (by omega) hn2 hU' (by rw [hfi];exact hD) hD0
   (by rw [hfi];exact h.to (by simp only [aI,gX,gA];ac_rfl))
  simpa using this
theorem xO (hacc:(Pu.aJ E.P x.to).2=0) (hit:x.item≠0->(Gd.aJ E.ae x.item).2=0/\(Gd.aJ E.ae x.item).1.con=c)
  (h:St w0 (gA (gX A X Br v fs) p g s lg b4 b5 b6 c x E) w):
  HC.wp E1 pK (r9 Tryz.prog [.slot 7] (iw w0 A p g s Br lg c x E E0 n))
   (ZA a0 a1 a2 Br b4 b5 b6 [a7,a8,a9,a10,a11,a12,a13]) w:=by
 obtain ⟨m,es,cl,hH,h1⟩:=uM (h.to (B:=gX A X Br v fs*jX b4 b5 b6 s c x*Gd.bN g lg E.ae*Pu.bG p E.P*fX s p g E.l) (by simp only [gA];ac_rfl));have hclose:=λ{b:Nat} {t:TypeId} {o:Obj} {w:World} (h:St w0 (gX A X Br v fs*jX b4 b5 b6 s c x*Gd.bN g lg E.ae*Pu.bG p E.P*lZ s p g m*ao m es cl*pt b o) w)=>
  ki (A:=gX A X Br v fs*jX b4 b5 b6 s c x*Gd.bN g lg E.ae*Pu.bG p E.P*pt b o) hH (h.to (by ac_rfl))
 have hf:=λ{w:World} (h:St w0 (gX A X Br v fs*jX b4 b5 b6 s c x*Gd.bN g lg E.ae*Pu.bG p E.P*lZ s p g m*ao m es cl) w)=>
  kH ((ki hH h).to (B:=gX A X Br v fs*jX b4 b5 b6 s c x*fX s p g E.l*(Gd.bN g lg E.ae*Pu.bG p E.P)) (by ac_rfl))
 have hs2:=λ{w:World} (h:St w0 (gX A X Br v fs*jX b4 b5 b6 s c x*Gd.bN g lg E.ae*Pu.bG p E.P*lZ s p g m*ao m es cl) w)=>(cell_of (off:=2) h.swap.look).trans (rfl:_=some (Value.map (some m)));have hm:=λ{w:World} (h:St w0 (gX A X Br v fs*jX b4 b5 b6 s c x*Gd.bN g lg E.ae*Pu.bG p E.P*lZ s p g m*ao m es cl) w)=>h.look;generalize hB:gX A X Br v fs*jX b4 b5 b6 s c x*Gd.bN g lg E.ae*Pu.bG p E.P*lZ s p g m*ao m es cl=B at h1 hf hs2 hm hclose;simp;refine fK (BX (St w0 B) (λb=>St w0 (B*pt b (.cells #[.int .u64 0] 27 (0,0)))) (λb=>St w0 (B*pt b (.cells #[.int .u64 (ck E.l c)] 27 (0,0))))) h1.drew ?_;simp;refine al (v:= .pointer (some ⟨s,0,none⟩)) (λvs' w he hw=>dx (λh=>(hf h).1) (λb h=>(hf h.drop).1) (λb h=>(hf h.drop).1) hw) ?_;simp;refine al (v:= .map (some m)) (λvs' w he hw=>dx (λh=>hs2 h) (λb h=>hs2 h.drop) (λb h=>hs2 h.drop) hw) ?_;simp
 refine al (v:= .int .i64 c) (λvs' w he hw=>dx (λh=>(hf h).2.1) (λb h=>(hf h.drop).2.1) (λb h=>(hf h.drop).2.1) hw) ?_;simp;refine oI Ck (m:=m) (es:=es) (c:=cl) (λvs' w he hw=>dx (λh=>hm h) (λb h=>hm h.drop) (λb h=>hm h.drop) hw) ?_;rw [(hH.get hE.R c).1];simp;refine aO (by rfl) (λw hw=>bZ (z:= .int .u64 0) (F:=B) hw λb w' h=>⟨b,rfl,h⟩) (λr hr=> ?_);obtain ⟨_,b7,rfl,_⟩:=hr;simp;refine aO (by rfl) (λw hw=> ?_) (λr hr=> ?_)
 ·obtain ⟨b,e,hw⟩:=hw
  cases e;exact cH hw rfl (by simp) λw' h=>⟨b7,rfl,by simpa using h⟩
 simp;rintro w2 ⟨b,e,h2⟩;cases e;have h3:=hclose (t:=0) h2;have h4:St w0 (gA (gX A X Br v fs*pt b7 (.cells #[.int .u64 (ck E.l c)] 27 (0,0))) p g s lg b4 b5 b6 c x E) w2:=h3.to (by simp only [gA];ac_rfl);have hbd:=hE.ly c;refine af (v:= .int .u64 (ck E.l c)) ((cell_of h2.look).trans rfl) ?_;simp;refine af (dn h4).2.2.2.2.1 ?_;simp;refine ab ((Pu.lj (ck E.l c) x.coins w2 (by omega) hx).mono ?_);rintro r w3 ⟨rfl,rfl⟩;simp;refine aR (λhl=> ?_) (λhl=> ?_)
 ·simp at hl
  have hk:cO c x E=(170,E):=by
   unfold cO;rw [if_neg (by simp [hacc]),if_neg (by
    rintro ⟨hi,h|h⟩
    ·exact h (hit hi).1
    ·exact h (hit hi).2),if_pos hl]
  simp;exact uZ hk hU hD hD0 hn (Fb (h4.cut (B:=gA (gX A X Br v fs) p g s lg b4 b5 b6 c x E) (pt b7 (.cells #[.int .u64 (ck E.l c)] 27 (0,0))) (by simp only [gA];ac_rfl)))
 ·simp at hl
  have hl2:¬ck E.l c<x.coins:=by omega
  simp [hl2];have:=Ld p g s Br b4 b5 b6 b7 n lp lg c x E E0 v fs X D w0 w3 A a0 a1 a2 a7 a8 a9 a10 (.int .i64 0) hE hc hx hn hn2 hU hD hD0 ⟨hacc,hit,hl⟩ h4
  simpa using this
end
theorem Cr (ae:List Gd.It) (n:Int):(Gd.aJ ae n).2=0\/(Gd.aJ ae n).2=151:=by unfold Gd.aJ;split<;>simp
theorem IS (p g s Br n:Nat) (lp lg c:Int) (x:Gf) (E E0:cq) (v:Value) (fs:List Value) (X:ak) (D:Nat->cq) (w0 w:World) (A:ak)
  (hE:EI lp lg E) (hc:1<=c/\c<9223372036854775808) (hx:0<=x.coins/\x.coins<18446744073709551616) (hn:fs.length<=n) (hn2:n<=16777210)
  (hU:gj w0 p g s lg X fs D) (hD:D fs.length=E) (hD0:D 0=E0)
  (h:St w0 (A*X*pt Br (.cells #[v] 300 (0,0))*own 1 1 v fs.length fs*aI p g s lg E) w):
  aj Tryz.prog 231 [.pointer (some ⟨s,0,none⟩),.int .i64 c,.agg x.cs.toArray,.func (.func 228) #[] #[.pointer (some ⟨Br,0,none⟩)]]
   (iw w0 A p g s Br lg c x E E0 n) w:=by
 refine cX P7 (by simp [Vc]) ?_;simp [Vc];refine bA h λb4 w1 h1=> ?_;simp;refine bA h1 λb5 w2 h2=> ?_;simp;refine bA h2 λb6 w3 h3=> ?_;simp;have h4:St w0 (gA (gX A X Br v fs) p g s lg b4 b5 b6 c x E) w3:=h3.to (by simp only [gA,gX,jX,aI,qy,Value.cells];ac_rfl);clear h h1 h2 h3;have hcell:∀{Z:ak} {w:World},St w0 (gA (gX A X Br v fs) p g s lg b4 b5 b6 c x E*Z) w->St w0 (gA (gX A X Br v fs*Z) p g s lg b4 b5 b6 c x E) w:=λh=>Zz h;refine HG (BX (St w0 (gA (gX A X Br v fs) p g s lg b4 b5 b6 c x E)) (λb=>St w0 (gA (gX A X Br v fs) p g s lg b4 b5 b6 c x E*pt b (.cells (Pu.Ac.cs ⟨[],0⟩).toArray 119 (0,0))))
  (λb=>St w0 (gA (gX A X Br v fs) p g s lg b4 b5 b6 c x E*pt b (.cells (Pu.aJ E.P x.to).1.cs.toArray 119 (0,0))))) (λ_ _=> .tuple #[.agg (Pu.aJ E.P x.to).1.cs.toArray,.int .i64 (Pu.aJ E.P x.to).2]) h4.drew ?_
 simp;refine al (v:= .pointer (some ⟨s,0,none⟩)) (λvs' w he hw=>dx (λh=>(dn h).1) (λb h=>(dn h.drop).1) (λb h=>(dn h.drop).1) hw) ?_;simp;refine al (v:= .pointer (some ⟨p,0,none⟩)) (λvs' w he hw=>dx (λh=>(dn h).2.2.2.2.2.1) (λb h=>(dn h.drop).2.2.2.2.2.1) (λb h=>(dn h.drop).2.2.2.2.2.1) hw) ?_;simp;refine al (v:= .int .i64 x.to) (λvs' w he hw=>dx (λh=>(dn h).2.2.1) (λb h=>(dn h.drop).2.2.1) (λb h=>(dn h.drop).2.2.1) hw) ?_;simp;refine sx (by kernel_rfl) (by rfl) (by intro h;cases h) (λvs' w he hw=>nw (λh=>Td hE x.to h) (λb h=>(Td hE x.to (hcell h)).mono λr w' ⟨e,h⟩=>⟨e,zu h⟩) (λb h=>(Td hE x.to (hcell h)).mono λr w' ⟨e,h⟩=>⟨e,zu h⟩) hw) ?_;simp;refine aO (by rfl) (λw hw=>bZ (z:= .agg (Pu.Ac.cs ⟨[],0⟩).toArray) hw λb w' h=>⟨b,rfl,h⟩) (λr hr=> ?_);obtain ⟨_,b7,rfl,_⟩:=hr;simp;refine aO (by rfl) (λw hw=> ?_) (λr hr=> ?_)
 ·obtain ⟨b,e,hw⟩:=hw
  cases e;exact dW (vs:=(Pu.aJ E.P x.to).1.cs) hw rfl rfl (Pu.dV _) (by simp [Pu.Ac.cs]) λw' h=>⟨b7,rfl,by simpa [Pu.Ac.cs] using h⟩
 simp;rintro w4 ⟨b,e,h5⟩;cases e;have h6:=h5.drop;refine aR (λhg=> ?_) (λhg=> ?_)
 ·simp at hg
  have hg2:=(K9 E.P x.to).resolve_left hg;simp;rw [hg2];exact uZ (by unfold cO;rw [if_pos hg]) hU hD hD0 hn (Fb h6)
 simp at hg;simp;refine af (dn h6).2.2.2.1 ?_;simp;refine aR (λhi=> ?_) (λhi=> ?_)
 ·simp at hi
  simp;refine HG (BX (St w0 (gA (gX A X Br v fs) p g s lg b4 b5 b6 c x E)) (λb=>St w0 (gA (gX A X Br v fs) p g s lg b4 b5 b6 c x E*pt b (.cells (Gd.It.cs ⟨0,0,0,0⟩).toArray 126 (0,0))))
   (λb=>St w0 (gA (gX A X Br v fs) p g s lg b4 b5 b6 c x E*pt b (.cells (Gd.aJ E.ae x.item).1.cs.toArray 126 (0,0))))) (λ_ _=> .tuple #[.agg (Gd.aJ E.ae x.item).1.cs.toArray,.int .i64 (Gd.aJ E.ae x.item).2]) h6.drew ?_
  simp;refine al (v:= .pointer (some ⟨s,0,none⟩)) (λvs' w he hw=>dx (λh=>(dn h).1) (λb h=>(dn h.drop).1) (λb h=>(dn h.drop).1) hw) ?_;simp;refine al (v:= .pointer (some ⟨g,0,none⟩)) (λvs' w he hw=>dx (λh=>(dn h).2.2.2.2.2.2) (λb h=>(dn h.drop).2.2.2.2.2.2) (λb h=>(dn h.drop).2.2.2.2.2.2) hw) ?_;simp;refine al (v:= .int .i64 x.item) (λvs' w he hw=>dx (λh=>(dn h).2.2.2.1) (λb h=>(dn h.drop).2.2.2.1) (λb h=>(dn h.drop).2.2.2.1) hw) ?_;simp;refine sx (by kernel_rfl) (by rfl) (by intro h;cases h) (λvs' w he hw=>nw (λh=>Tf hE x.item h) (λb h=>(Tf hE x.item (hcell h)).mono λr w' ⟨e,h⟩=>⟨e,zu h⟩) (λb h=>(Tf hE x.item (hcell h)).mono λr w' ⟨e,h⟩=>⟨e,zu h⟩) hw) ?_;simp;refine aO (by rfl) (λw hw=>bZ (z:= .agg (Gd.It.cs ⟨0,0,0,0⟩).toArray) hw λb w' h=>⟨b,rfl,h⟩) (λr hr=> ?_);obtain ⟨_,b8,rfl,_⟩:=hr;simp
  refine aO (by rfl) (λw hw=> ?_) (λr hr=> ?_)
  ·obtain ⟨b,e,hw⟩:=hw
   cases e;exact dW (vs:=(Gd.aJ E.ae x.item).1.cs) hw rfl rfl (Gd.dV _) (by simp [Gd.It.cs]) λw' h=>⟨b8,rfl,by simpa [Gd.It.cs] using h⟩
  simp;rintro w5 ⟨b,e,h7⟩;cases e;have bad:(Gd.aJ E.ae x.item).2≠0\/(Gd.aJ E.ae x.item).1.con≠c->iw w0 A p g s Br lg c x E E0 n (.int .i64 170) w5:=λhb=>
   uZ (by unfold cO;rw [if_neg (by simpa using hg),if_pos ⟨hi,hb⟩]) hU hD hD0 hn (Fb h7.drop)
  rcases Cr E.ae x.item with e1|e1
  ·simp [e1]
   refine af (v:= .int .i64 (Gd.aJ E.ae x.item).1.con) ((cell_of h7.look).trans rfl) ?_;simp;refine af (dn h7.drop).2.1 ?_;simp;refine aR (λhcn=> ?_) (λhcn=> ?_)
   ·simp at hcn
    simp;exact bad (.inr hcn)
   ·simp at hcn
    simp;have:=xO p g s Br b4 b5 b6 n lp lg c x E E0 v fs X D w0 w5 A (.pointer (some ⟨s,0,none⟩)) (.int .i64 c) (.agg x.cs.toArray) (.int .i64 0) (.int .i64 (Pu.aJ E.P x.to).2) (.pointer (some ⟨b8,0,none⟩)) (.int .i64 0) undef undef undef hE hc hx hn hn2 hU hD hD0 hg (λ_=>⟨e1,hcn⟩) h7.drop
    simpa using this
  ·simp [e1]
   exact bad (.inl (by omega))
 ·simp at hi
  simp;have:=xO p g s Br b4 b5 b6 n lp lg c x E E0 v fs X D w0 w4 A (.pointer (some ⟨s,0,none⟩)) (.int .i64 c) (.agg x.cs.toArray) (.int .i64 0) (.int .i64 (Pu.aJ E.P x.to).2) undef undef undef undef undef hE hc hx hn hn2 hU hD hD0 hg (λh=>absurd hi h) h6
  simpa using this
theorem iB {X Y:World->Prop} {vs:List Value} {w:World} (he:era 1 vs=era 1 []) (h:Pu.rY X Y vs w):X w:=by
 cases vs with
 |nil=>exact h
 |cons _ _=>simp [era] at he
def Y8 (X:World->Prop) (r:Value) (Y:World->Prop):List Value->World->Prop
 | [],w=>X w
 |v::_,w=>v=r/\Y w
theorem uv {X Y:World->Prop} {r:Value} {vs:List Value} {w:World} (he:era 1 vs=era 1 []) (h:Y8 X r Y vs w):X w:=by
 cases vs with
 |nil=>exact h
 |cons _ _=>simp [era] at he
def Et.cs (x:Et) (pr:Int) (wv:Value):List Value:= [.int .i64 x.acc,.int .i64 x.item,.int .u64 x.coins,.int .u64 pr,wv]
abbrev pA (A:ak) (p g s:Nat) (lim:Int) (b:Nat) (x:Et) (pr:Int) (wv:Value) (E:cq):ak:=A*pt b (.cells (x.cs pr wv).toArray 30 (0,0))*fX s p g E.l*Gd.bN g lim E.ae*Pu.bG p E.P
section
variable {w0 w:World} {A Z:ak} {p g s b:Nat} {lim pr:Int} {x:Et} {wv:Value} {E:cq}
theorem yn {l:List Rw} (h:St w0 (A*pt b (.cells (x.cs pr wv).toArray 30 (0,0))*fX s p g l*Z) w):w.cell? ⟨b,0,none⟩=some (.int .i64 x.acc)/\w.cell? ⟨b,1,none⟩=some (.int .i64 x.item)/\w.cell? ⟨b,2,none⟩=some (.int .u64 x.coins)/\
  w.cell? ⟨s,0,none⟩=some (.pointer (some ⟨p,0,none⟩))/\w.cell? ⟨s,1,none⟩=some (.pointer (some ⟨g,0,none⟩)):=by
 have h':St w0 (A*pt b (.cells (x.cs pr wv).toArray 30 (0,0))*Z*fX s p g l) w:=h.to (by ac_rfl);obtain ⟨m,es,cl,hE,h'⟩:=uM h';have f4:=h'.drop.drop.drop.look;have fs:=h'.drop.look;exact ⟨(cell_of f4).trans rfl,(cell_of f4).trans rfl,(cell_of f4).trans rfl,(cell_of fs).trans rfl,(cell_of fs).trans rfl⟩
theorem eO (h:St w0 (pA A p g s lim b x pr wv E) w):w.cell? ⟨b,0,none⟩=some (.int .i64 x.acc)/\w.cell? ⟨b,1,none⟩=some (.int .i64 x.item)/\w.cell? ⟨b,2,none⟩=some (.int .u64 x.coins)/\
  w.cell? ⟨s,0,none⟩=some (.pointer (some ⟨p,0,none⟩))/\w.cell? ⟨s,1,none⟩=some (.pointer (some ⟨g,0,none⟩)):=yn h.drop
theorem Wy {lp lg:Int} (hE:EI lp lg E) (n:Int) (h:St w0 (pA A p g s lim b x pr wv E) w):aj Tryz.prog 132 [.pointer (some ⟨p,0,none⟩),.int .i64 n]
  (λr w'=>r= .tuple #[.agg (Pu.aJ E.P n).1.cs.toArray,.int .i64 (Pu.aJ E.P n).2]/\St w0 (pA A p g s lim b x pr wv E) w') w:=Pu.iv p E.P n w0 w _ hE.P.bd.len h
theorem Wz {lp lg:Int} (hE:EI lp lg E) (n:Int) (h:St w0 (pA A p g s lim b x pr wv E) w):aj Tryz.prog 105 [.pointer (some ⟨g,0,none⟩),.int .i64 n]
  (λr w'=>r= .tuple #[.agg (Gd.aJ E.ae n).1.cs.toArray,.int .i64 (Gd.aJ E.ae n).2]/\St w0 (pA A p g s lim b x pr wv E) w') w:=
 (Gd.iv g lim E.ae n w0 w _ (by have:=hE.G.len;have:=hE.G.lim;omega) h.swap).mono λr w' ⟨e,h⟩=>⟨e,h.swap⟩
theorem Hz (h:St w0 (pA A p g s lim b x pr wv E*Z) w):St w0 (pA (A*Z) p g s lim b x pr wv E) w:=h.to (by simp only [pA];ac_rfl)
theorem AM (h:St w0 (pA (A*Z) p g s lim b x pr wv E) w):St w0 (pA A p g s lim b x pr wv E*Z) w:=h.to (by simp only [pA];ac_rfl)
theorem FI (h:St w0 (pA A p g s lim b x pr wv E) w):St w0 (A*aI p g s lim E) w:=h.cut (pt b (.cells (x.cs pr wv).toArray 30 (0,0))) (by simp only [pA,aI];ac_rfl)
end
def pd (w0:World) (A:ak) (p g s:Nat) (lg c:Int) (x:Et) (E:cq) (r:Value) (w':World):Prop:=
 r= .int .i64 (aN c x E).1/\St w0 (A*aI p g s lg (aN c x E).2) w'
section
variable (p g s b:Nat) (lp lg c pr:Int) (x:Et) (wv:Value) (E:cq) (w0 w:World) (A:ak) (a0 a1 a2 a5 a6 a7 a8:Value)
  (hE:EI lp lg E) (hx:0<=x.coins/\x.coins<18446744073709551616)
include hE hx
theorem HB (P:Pu.Ps) (ae:List Gd.It) (hP:(Pu.bE E.P x.acc x.coins).1=0) (hput:aN c x E=(0,⟨P,ae,fy c (ck E.l c+x.coins) E.l⟩)) (h:St w0 (pA A p g s lg b x pr wv ⟨P,ae,E.l⟩) w):
  HC.wp E1 vm (r9 Tryz.prog [.slot 4] (pd w0 A p g s lg c x E)) [.pointer (some ⟨s,0,none⟩),.int .i64 c,a2,.pointer (some ⟨b,0,none⟩),.int .i64 0,a5,a6,a7,a8] w:=by
 have hbd:=hE.ly c;have hcl:x.coins<=4611686018427387904:=by
  unfold Pu.bE at hP;split at hP
  ·rename_i ha
   split at hP
   ·cases hP
   ·rename_i hlt
    obtain ⟨i,hi,hil⟩:=Pu.iQ ha;have e0:x.acc.toNat=i:=by omega
    rw [e0] at hlt;have:=Pu.dU hE.P.bd hil;omega
  ·cases hP
 obtain ⟨m,es,cl,hH,h1⟩:=uM (h.to (B:=A*pt b (.cells (x.cs pr wv).toArray 30 (0,0))*Gd.bN g lg ae*Pu.bG p P*fX s p g E.l) (by simp only [pA];ac_rfl));have hf:=λ{w:World} (h:St w0 (A*pt b (.cells (x.cs pr wv).toArray 30 (0,0))*Gd.bN g lg ae*Pu.bG p P*lZ s p g m*ao m es cl) w)=>
  yn ((ki hH h).to (B:=A*pt b (.cells (x.cs pr wv).toArray 30 (0,0))*fX s p g E.l*(Gd.bN g lg ae*Pu.bG p P)) (by ac_rfl))
 have hs2:=λ{w:World} (h:St w0 (A*pt b (.cells (x.cs pr wv).toArray 30 (0,0))*Gd.bN g lg ae*Pu.bG p P*lZ s p g m*ao m es cl) w)=>(cell_of (off:=2) h.swap.look).trans (rfl:_=some (Value.map (some m)));have hm:=λ{w:World} (h:St w0 (A*pt b (.cells (x.cs pr wv).toArray 30 (0,0))*Gd.bN g lg ae*Pu.bG p P*lZ s p g m*ao m es cl) w)=>h.look;have hset:=λ{w:World} (h:St w0 (A*pt b (.cells (x.cs pr wv).toArray 30 (0,0))*Gd.bN g lg ae*Pu.bG p P*lZ s p g m*ao m es cl) w)=>wk s p g E.l c (ck E.l c+x.coins) w0 w _ hE.R (ki hH h);simp;refine fK (Pu.rY (St w0 (A*pt b (.cells (x.cs pr wv).toArray 30 (0,0))*Gd.bN g lg ae*Pu.bG p P*lZ s p g m*ao m es cl)) (St w0 (A*pt b (.cells (x.cs pr wv).toArray 30 (0,0))*Gd.bN g lg ae*Pu.bG p P*fX s p g (fy c (ck E.l c+x.coins) E.l)))) h1.drew ?_;simp;refine al (v:= .map (some m)) (λvs' w he hw=>hs2 (iB he hw)) ?_;simp
 refine oI Ck (m:=m) (es:=es) (c:=cl) (λvs' w he hw=>hm (iB he hw)) ?_;rw [(hH.get hE.R c).1];simp;refine al (v:= .int .u64 x.coins) (λvs' w he hw=>(hf (iB he hw)).2.2.1) ?_;simp
 try simp (disch:=omega) only [bw]
 refine aO (by rfl) (λw hw=> ?_) (λr hr=> ?_)
 ·rw [Pu.kI] at hw
  refine ab ((hset hw).mono ?_);intro r w' h;exact h
 simp;intro w2 h2;unfold pd;rw [hput];exact ⟨rfl,h2.cut (pt b (.cells (x.cs pr wv).toArray 30 (0,0))) (by simp only [aI];ac_rfl)⟩
theorem HD (ha:(Pu.aJ E.P x.acc).2=0) (hit:x.item≠0->(Gd.aJ E.ae x.item).2=0/\(Gd.aJ E.ae x.item).1.con=0/\(Gd.aJ E.ae x.item).1.acc=x.acc)
  (h:St w0 (pA A p g s lg b x pr wv E) w):
  HC.wp E1 vn (r9 Tryz.prog [.slot 4] (pd w0 A p g s lg c x E)) [.pointer (some ⟨s,0,none⟩),.int .i64 c,a2,.pointer (some ⟨b,0,none⟩),.int .i64 0,a5,a6,a7,a8] w:=by
 have hlen:E.ae.length<=1048576:=by have:=hE.G.len;have:=hE.G.lim;omega
 have n1:¬((Pu.aJ E.P x.acc).2≠0):=by simp [ha]
 have n2:¬(x.item≠0/\((Gd.aJ E.ae x.item).2≠0\/(Gd.aJ E.ae x.item).1.con≠0\/(Gd.aJ E.ae x.item).1.acc≠x.acc)):=by
  rintro ⟨hi,h|h|h⟩
  ·exact h (hit hi).1
  ·exact h (hit hi).2.1
  ·exact h (hit hi).2.2
 have hf:=λ{P:Pu.Ps} {w:World} (h:St w0 (pA A p g s lg b x pr wv ⟨P,E.ae,E.l⟩) w)=>eO h;simp;refine fK (Y8 (St w0 (pA A p g s lg b x pr wv E)) (.int .i64 (Pu.bE E.P x.acc x.coins).1) (St w0 (pA A p g s lg b x pr wv ⟨(Pu.bE E.P x.acc x.coins).2,E.ae,E.l⟩))) h.drew ?_;simp;refine al (v:= .pointer (some ⟨p,0,none⟩)) (λvs' w he hw=>(eO (uv he hw)).2.2.2.1) ?_;simp;refine al (v:= .int .i64 x.acc) (λvs' w he hw=>(eO (uv he hw)).1) ?_;simp;refine al (v:= .int .u64 x.coins) (λvs' w he hw=>(eO (uv he hw)).2.2.1) ?_;simp;refine aO (by rfl) (λw hw=>ab ((Pu.xk p E.P x.acc x.coins w0 w _ hE.P.bd hx hw).mono ?_)) (λr hr=> ?_)
 ·rintro r w' ⟨e,h⟩
  exact ⟨e,h⟩
 obtain ⟨_,rfl,_⟩:=hr;simp;rintro w2 ⟨_,h2⟩;refine aR (λht=> ?_) (λht=> ?_)
 ·simp at ht
  have hk:aN c x E=((Pu.bE E.P x.acc x.coins).1,E):=by unfold aN;rw [if_neg n1,if_neg n2,if_pos ht]
  have hsame:(Pu.bE E.P x.acc x.coins).2=E.P:=by
   unfold Pu.bE at ht⊢;split at ht
   ·rename_i e1
    split at ht
    ·rename_i e2;rw [if_pos e1,if_pos e2]
    ·exact absurd rfl ht
   ·rename_i e1;rw [if_neg e1]
  simp;unfold pd;rw [hk];rw [hsame] at h2;exact ⟨rfl,FI h2⟩
 simp at ht;have hk:aN c x E=(0,⟨(Pu.bE E.P x.acc x.coins).2,if x.item≠0 then (Gd.gq E.ae x.item c).2 else E.ae,fy c (ck E.l c+x.coins) E.l⟩):=by unfold aN;rw [if_neg n1,if_neg n2,if_neg (by simp [ht])]
 simp;refine af (hf h2).2.1 ?_;simp;refine aR (λhi=> ?_) (λhi=> ?_)
 ·simp at hi
  rw [if_pos hi] at hk;simp;refine fK (Pu.rY (St w0 (pA A p g s lg b x pr wv ⟨(Pu.bE E.P x.acc x.coins).2,E.ae,E.l⟩)) (St w0 (pA A p g s lg b x pr wv ⟨(Pu.bE E.P x.acc x.coins).2,(Gd.gq E.ae x.item c).2,E.l⟩))) h2.drew ?_;simp;refine al (v:= .pointer (some ⟨g,0,none⟩)) (λvs' w he hw=>(hf (iB he hw)).2.2.2.2) ?_;simp;refine al (v:= .int .i64 x.item) (λvs' w he hw=>(hf (iB he hw)).2.1) ?_;simp;refine aO (by rfl) (λw hw=>ab ((Gd.xh g lg E.ae x.item c w0 w _ hlen (St.swap hw)).mono ?_)) (λr hr=> ?_)
  ·rintro r w' ⟨e,h⟩
   exact h.swap
  simp;intro w3 h3;have:=HB p g s b lp lg c pr x wv E w0 w3 A a2 a5 a6 a7 (.int .i64 (Pu.bE E.P x.acc x.coins).1) hE hx _ _ ht hk h3
  simpa using this
 ·simp at hi
  rw [if_neg (by simp [hi])] at hk;simp;have:=HB p g s b lp lg c pr x wv E w0 w2 A a2 a5 a6 a7 (.int .i64 (Pu.bE E.P x.acc x.coins).1) hE hx _ _ ht hk h2
  simpa using this
end
theorem jG (p g s:Nat) (lp lg c pr:Int) (x:Et) (wv:Value) (E:cq) (w0 w:World) (A:ak)
  (hE:EI lp lg E) (hc:1<=c/\c<9223372036854775808) (hx:0<=x.coins/\x.coins<18446744073709551616) (h:St w0 (A*aI p g s lg E) w):
  aj Tryz.prog 169 [.pointer (some ⟨s,0,none⟩),.int .i64 c,.agg (x.cs pr wv).toArray]
   (λr w'=>r= .int .i64 (aN c x E).1/\St w0 (A*aI p g s lg (aN c x E).2) w') w:=by
 refine cX Pd (by simp [UJ]) ?_;simp [UJ];refine bA h λb w1 h1=> ?_;simp;have h4:St w0 (pA A p g s lg b x pr wv E) w1:=h1.to (by simp only [pA,aI,qy];ac_rfl);clear h h1;refine HG (BX (St w0 (pA A p g s lg b x pr wv E)) (λq=>St w0 (pA A p g s lg b x pr wv E*pt q (.cells (Pu.Ac.cs ⟨[],0⟩).toArray 119 (0,0))))
  (λq=>St w0 (pA A p g s lg b x pr wv E*pt q (.cells (Pu.aJ E.P x.acc).1.cs.toArray 119 (0,0))))) (λ_ _=> .tuple #[.agg (Pu.aJ E.P x.acc).1.cs.toArray,.int .i64 (Pu.aJ E.P x.acc).2]) h4.drew ?_
 simp;refine al (v:= .pointer (some ⟨p,0,none⟩)) (λvs' w he hw=>dx (λh=>(eO h).2.2.2.1) (λb h=>(eO h.drop).2.2.2.1) (λb h=>(eO h.drop).2.2.2.1) hw) ?_;simp;refine al (v:= .int .i64 x.acc) (λvs' w he hw=>dx (λh=>(eO h).1) (λb h=>(eO h.drop).1) (λb h=>(eO h.drop).1) hw) ?_;simp;refine sx (by kernel_rfl) (by rfl) (by intro h;cases h) (λvs' w he hw=>nw (λh=>Wy hE x.acc h) (λb h=>(Wy hE x.acc (Hz h)).mono λr w' ⟨e,h⟩=>⟨e,AM h⟩) (λb h=>(Wy hE x.acc (Hz h)).mono λr w' ⟨e,h⟩=>⟨e,AM h⟩) hw) ?_;simp;refine aO (by rfl) (λw hw=>bZ (z:= .agg (Pu.Ac.cs ⟨[],0⟩).toArray) hw λb w' h=>⟨b,rfl,h⟩) (λr hr=> ?_);obtain ⟨_,b7,rfl,_⟩:=hr;simp;refine aO (by rfl) (λw hw=> ?_) (λr hr=> ?_)
 ·obtain ⟨b,e,hw⟩:=hw
  cases e;exact dW (vs:=(Pu.aJ E.P x.acc).1.cs) hw rfl rfl (Pu.dV _) (by simp [Pu.Ac.cs]) λw' h=>⟨b7,rfl,by simpa [Pu.Ac.cs] using h⟩
 simp;rintro w4 ⟨_,e,h5⟩;cases e;have h6:=h5.drop;have fin:pd w0 A p g s lg c x E=(λr w'=>r= .int .i64 (aN c x E).1/\St w0 (A*aI p g s lg (aN c x E).2) w'):=rfl;refine aR (λhg=> ?_) (λhg=> ?_)
 ·simp at hg
  have hg2:=(K9 E.P x.acc).resolve_left hg;have hk:aN c x E=(142,E):=by unfold aN;rw [if_pos hg]
  simp;rw [hg2,hk];exact ⟨rfl,FI h6⟩
 simp at hg;simp;refine af (eO h6).2.1 ?_;simp;refine aR (λhi=> ?_) (λhi=> ?_)
 ·simp at hi
  simp;refine HG (BX (St w0 (pA A p g s lg b x pr wv E)) (λq=>St w0 (pA A p g s lg b x pr wv E*pt q (.cells (Gd.It.cs ⟨0,0,0,0⟩).toArray 126 (0,0))))
   (λq=>St w0 (pA A p g s lg b x pr wv E*pt q (.cells (Gd.aJ E.ae x.item).1.cs.toArray 126 (0,0))))) (λ_ _=> .tuple #[.agg (Gd.aJ E.ae x.item).1.cs.toArray,.int .i64 (Gd.aJ E.ae x.item).2]) h6.drew ?_
  simp;refine al (v:= .pointer (some ⟨g,0,none⟩)) (λvs' w he hw=>dx (λh=>(eO h).2.2.2.2) (λb h=>(eO h.drop).2.2.2.2) (λb h=>(eO h.drop).2.2.2.2) hw) ?_;simp;refine al (v:= .int .i64 x.item) (λvs' w he hw=>dx (λh=>(eO h).2.1) (λb h=>(eO h.drop).2.1) (λb h=>(eO h.drop).2.1) hw) ?_;simp;refine sx (by kernel_rfl) (by rfl) (by intro h;cases h) (λvs' w he hw=>nw (λh=>Wz hE x.item h) (λb h=>(Wz hE x.item (Hz h)).mono λr w' ⟨e,h⟩=>⟨e,AM h⟩) (λb h=>(Wz hE x.item (Hz h)).mono λr w' ⟨e,h⟩=>⟨e,AM h⟩) hw) ?_;simp;refine aO (by rfl) (λw hw=>bZ (z:= .agg (Gd.It.cs ⟨0,0,0,0⟩).toArray) hw λb w' h=>⟨b,rfl,h⟩) (λr hr=> ?_);obtain ⟨_,b8,rfl,_⟩:=hr;simp;refine aO (by rfl) (λw hw=> ?_) (λr hr=> ?_)
  ·obtain ⟨b,e,hw⟩:=hw
   cases e;exact dW (vs:=(Gd.aJ E.ae x.item).1.cs) hw rfl rfl (Gd.dV _) (by simp [Gd.It.cs]) λw' h=>⟨b8,rfl,by simpa [Gd.It.cs] using h⟩
  simp;rintro w5 ⟨_,e,h7⟩;cases e;have bad:((Gd.aJ E.ae x.item).2≠0\/(Gd.aJ E.ae x.item).1.con≠0\/(Gd.aJ E.ae x.item).1.acc≠x.acc)->(.int .i64 151=Value.int .i64 (aN c x E).1)/\St w0 (A*aI p g s lg (aN c x E).2) w5:=λhb=>by
   have hk:aN c x E=(151,E):=by unfold aN;rw [if_neg (by simpa using hg),if_pos ⟨hi,hb⟩]
   rw [hk];exact ⟨rfl,FI h7.drop⟩
  rcases Cr E.ae x.item with e1|e1
  ·simp [e1]
   refine af (v:= .int .i64 (Gd.aJ E.ae x.item).1.con) ((cell_of h7.look).trans rfl) ?_;simp
   by_cases e2:(Gd.aJ E.ae x.item).1.con=0
   ·simp [e2]
    refine af (v:= .int .i64 (Gd.aJ E.ae x.item).1.acc) ((cell_of h7.look).trans rfl) ?_;simp;refine af (eO h7.drop).1 ?_;simp;refine aR (λhcn=> ?_) (λhcn=> ?_)
    ·simp at hcn
     simp
     simpa using bad (.inr (.inr hcn))
    ·simp at hcn
     simp;have:=HD p g s b lp lg c pr x wv E w0 w5 A (.agg (x.cs pr wv).toArray) (.int .i64 (Pu.aJ E.P x.acc).2) (.pointer (some ⟨b8,0,none⟩)) (.int .i64 0) undef hE hx hg (λ_=>⟨e1,e2,hcn⟩) h7.drop;rw [fin] at this
     simpa using this
   ·simp [e2]
    simpa using bad (.inr (.inl e2))
  ·simp [e1]
   simpa using bad (.inl (by omega))
 ·simp at hi
  simp;have:=HD p g s b lp lg c pr x wv E w0 w4 A (.agg (x.cs pr wv).toArray) (.int .i64 (Pu.aJ E.P x.acc).2) undef undef undef hE hx hg (λh=>absurd hi h) h6;rw [fin] at this
  simpa using this
theorem wg {P:Program} {env:List Value} {i n:Nat} {a:Addr} {v:Value} {r:List RV} {K:List Value->World->Prop} {w:World} (he:env.getD i undef= .pointer (some a))
  (hc:w.cell? a=some v) (hk:yx P env r (λus w=>K (v::us) w) w):yx P env (.cell i false n::r) K w:=by
 show fV P (dB (tK false n (env.getD i undef))) _ w;rw [he];refine aK (w':=w) (v:=v) ?_ ⟨rfl,hk⟩;simp [tK,Instr.sureAddr,hc]
def iE (gs:List Gf):List Value:=gs.flatMap Gf.cs
theorem La (x:Gf):x.cs.length=3:=rfl
theorem Ff (x:Gf):∀u∈x.cs,u.oneCell'=true:=by intro u hu;simp only [Gf.cs,List.mem_cons,List.not_mem_nil,or_false] at hu;rcases hu with rfl|rfl|rfl<;>rfl
theorem Lb {gs:List Gf} {i:Nat} (h:i<gs.length):∀j u,(gs[i].cs)[j]? =some u->(iE gs)[i*3+j]? =some u:=by
 intro j u hu;have hj:j<3:=by
  have:=(List.getElem?_eq_some_iff.1 hu).1
  rwa [La] at this
 unfold iE;rw [dJ Gf.cs 3 La gs i j h hj];exact hu
structure yO (w0:World) (A:ak) (p g s:Nat) (lp lg:Int) (fb:Nat) (cs:List Value) (bes:cq->Int×cq):Prop where
 body:bT Tryz.prog fb=true
 no:∀E,(bes E).1≠0->(bes E).2=E
 call:∀(G:ak) (E:cq) (W:World),EI lp lg E->St w0 (A*G*aI p g s lg E) W->aj Tryz.prog fb cs (λr W'=>r= .int .i64 (bes E).1/\St w0 (A*G*aI p g s lg (bes E).2) W') W
theorem DV {w0 w:World} {A X:ak} {p g s Be Br:Nat} {lg e:Int} {fs:List Value} {D:Nat->cq} {v:Value} {env:List Value} {E2:cq} {K:Value->World->Prop}
  (hU:gj w0 p g s lg X fs D) (hn:fs.length<=16777216) (henv:env.getD 4 undef= .pointer (some ⟨Be,0,none⟩))
  (hK:∀w',St w0 (A*aI p g s lg (if e=0 then E2 else D 0)) w'->K (.int .i64 e) w') (hE:e≠0->E2=D fs.length)
  (h:St w0 (A*pt Be (.cells #[.int .i64 e] 38 (0,0))*X*pt Br (.cells #[v] 300 (0,0))*own 1 1 v fs.length fs*aI p g s lg E2) w):
  H4 Tryz.prog 229 [.pointer (some ⟨Be,0,none⟩),.pointer (some ⟨Br,0,none⟩)] (λw'=>yx Tryz.prog env [.cell 4 false 1] (λvs w=>K (JI vs) w) w') w:=by
 by_cases he:e=0
 ·subst he
  have h1:St w0 (A*X*pt Br (.cells #[v] 300 (0,0))*own 1 1 v fs.length fs*aI p g s lg E2*pt Be (.cells #[.int .i64 0] 38 (0,0))) w:=h.to (by ac_rfl);refine Rr h1 ?_;refine wg henv ((cell_of h1.look).trans rfl) ?_;simp;refine hK w ?_;rw [if_pos rfl];exact h.cut (pt Be (.cells #[.int .i64 0] 38 (0,0))*X*pt Br (.cells #[v] 300 (0,0))*own 1 1 v fs.length fs) (by ac_rfl)
 ·rw [hE he] at h
  have h1:St w0 (A*pt Be (.cells #[.int .i64 e] 38 (0,0))*pt Br (.cells #[v] 300 (0,0))*own 1 1 v fs.length fs*(X*aI p g s lg (D fs.length))) w:=h.to (by ac_rfl);have hu:=MQ (w0:=w0) (A:=A) (Be:=Be) (Br:=Br) (n:=fs.length) (v:=v) (fs:=fs) he (by omega) (λk=>X*aI p g s lg (D k)) (λG k W hk hW=>by obtain ⟨f,cs,e1,e2,e3⟩:=hU k hk;exact ⟨f,cs,e1,e2,(e3 G W (hW.to (by ac_rfl))).mono λ_ W' h=>h.to (by ac_rfl)⟩) h1
  refine CallsD.mono hu ?_;rintro e' u' w' ⟨hu',v',hv',h2⟩;refine ⟨hu',v',hv',?_⟩;have h3:St w0 (A*(X*aI p g s lg (D 0))*pt Be (.cells #[.int .i64 e] 38 (0,0))) w':=h2.swap;refine wg henv ((cell_of h3.look).trans rfl) ?_;simp;refine hK w' ?_;rw [if_neg he];exact h3.drop.cut X (by ac_rfl)
def zJ:HC:=(.seq (.reg (.eff .callv (.cons (.inp 3) .nil) (.eff (.st 1) (.cons (.inp 4) (.cons (.bv 0) .nil)) (.done [] none)))) .ret)
@[simp] theorem XJ:type_of%(@aF zJ _ zJ.eq_1):=aF zJ.eq_1
def zK:HC:=(.reg (.chk none (.bin .add) (.cons (.inp 12) (.cons (.cst (.int .i64 1)) .nil)) (.done [(12,(.op (.bin .add) (.cons (.inp 12) (.cons (.cst (.int .i64 1)) .nil))))] none)))
@[simp] theorem XK:type_of%(@aF zK _ zK.eq_1):=aF zK.eq_1
def zL:HC:=(.seq (.reg (.eff (.st 1) (.cons (.inp 4) (.cons (.inp 9) .nil)) (.done [] none))) .ret)
@[simp] theorem XL:type_of%(@aF zL _ zL.eq_1):=aF zL.eq_1
def zM:HC:=(.br (.chk none (.bin .neq) (.cons (.inp 9) (.cons (.cst (.int .i64 0)) .nil)) (.done [] (some (.op (.bin .neq) (.cons (.inp 9) (.cons (.cst (.int .i64 0)) .nil)))))) zL .skip)
@[simp] theorem XM:type_of%(@aF zM _ zM.eq_1):=aF zM.eq_1
def zN:HC:=(.seq (.reg (.eff (.ld true 3) (.cons (.inp 8) .nil) (.eff (.call 231) (.cons (.inp 0) (.cons (.inp 1) (.cons (.bv 0) (.cons (.inp 7) .nil)))) (.done [(9,(.bv 1))] none)))) zM)
@[simp] theorem XN:type_of%(@aF zN _ zN.eq_1):=aF zN.eq_1
def zO:HC:=(.seq (.reg (.chk none (.idxL 3) (.cons (.inp 10) (.cons (.inp 12) .nil)) (.eff (.ld true 3) (.cons (.op (.idxL 3) (.cons (.inp 10) (.cons (.inp 12) .nil))) .nil) (.eff (.new 73 (.agg #[(.int .i64 0),(.int .i64 0),(.int .u64 0)])) .nil (.eff (.st 3) (.cons (.bv 1) (.cons (.bv 0) .nil)) (.done [(8,(.bv 1))] none)))))) zN)
@[simp] theorem XO:type_of%(@aF zO _ zO.eq_1):=aF zO.eq_1
def zP:HC:=(.seq (.block 1 zO) zK)
@[simp] theorem XQ:type_of%(@aF zP _ zP.eq_1):=aF zP.eq_1
def zQ:HC:=(.seq (.br (.chk none (.bin .lss) (.cons (.inp 12) (.cons (.inp 11) .nil)) (.done [] (some (.op (.bin .lss) (.cons (.inp 12) (.cons (.inp 11) .nil)))))) .skip (.exit 0)) zP)
@[simp] theorem XR:type_of%(@aF zQ _ zQ.eq_1):=aF zQ.eq_1
def zR:HC:=(.loop zQ)
@[simp] theorem XS:type_of%(@aF zR _ zR.eq_1):=aF zR.eq_1
def zS:HC:=(.seq (.block 0 zR) zJ)
@[simp] theorem XT:type_of%(@aF zS _ zS.eq_1):=aF zS.eq_1
def tn:HC:=(.reg (.chk none (.mkf (.func 228) 0) (.cons (.inp 6) .nil) (.done [(7,(.op (.mkf (.func 228) 0) (.cons (.inp 6) .nil)))] none)))
@[simp] theorem TM:type_of%(@aF tn _ tn.eq_1):=aF tn.eq_1
def tq:HC:=(.seq (.reg (.eff (.new 300 (.slice none 0 0)) .nil (.done [(6,(.bv 0))] none))) tn)
@[simp] theorem TN:type_of%(@aF tq _ tq.eq_1):=aF tq.eq_1
def tr:HC:=(.seq (.reg (.eff (.st 1) (.cons (.inp 4) (.cons (.inp 5) .nil)) (.done [] none))) .ret)
@[simp] theorem TP:type_of%(@aF tr _ tr.eq_1):=aF tr.eq_1
def tt:HC:=(.seq (.br (.chk none (.bin .neq) (.cons (.inp 5) (.cons (.cst (.int .i64 0)) .nil)) (.done [] (some (.op (.bin .neq) (.cons (.inp 5) (.cons (.cst (.int .i64 0)) .nil)))))) tr .skip) tq)
@[simp] theorem TQ:type_of%(@aF tt _ tt.eq_1):=aF tt.eq_1
def tu:HC:=(.seq (.reg (.eff (.call 227) (.cons (.inp 0) (.cons (.inp 1) .nil)) (.done [(5,(.bv 0))] none))) tt)
@[simp] theorem TR:type_of%(@aF tu _ tu.eq_1):=aF tu.eq_1
def tv:HC:=(.seq (.reg (.eff (.new 38 (.int .i64 0)) .nil (.done [(4,(.bv 0))] none))) tu)
@[simp] theorem TS:type_of%(@aF tv _ tv.eq_1):=aF tv.eq_1
def UH:pb:=⟨[0,1,2,3,8,9,10,11,13,14,23,24,25],40,[.cell 4 false 1],tv,229,(.cons (.inp 4) (.cons (.inp 6) .nil)),(.seq (.reg (.chk none .lenL (.cons (.inp 2) .nil) (.done [(10,(.inp 2)),(11,(.op .lenL (.cons (.inp 2) .nil))),(12,(.cst (.int .i64 0)))] none))) zS)⟩
theorem Pb:Lx E0 167 400=some UH:=by kernel_rfl
set_option maxHeartbeats 1000000 in
theorem yG (p g s fb:Nat) (cs:Array Value) (lp lg c:Int) (gs:List Gf) (gv:Value) (bes:cq->Int×cq) (E:cq) (w0 w:World) (A:ak)
  (hE:EI lp lg E) (hc: -9223372036854775808<=c/\c<9223372036854775808) (hx:∀x∈gs,0<=x.coins/\x.coins<18446744073709551616) (hn:gs.length<=4194304)
  (hB:1<=c->yO w0 A p g s lp lg fb cs.toList bes) (hr:Row w0 A gv gs.length 3 (iE gs)) (h:St w0 (A*aI p g s lg E) w):
  aj Tryz.prog 167 [.pointer (some ⟨s,0,none⟩),.int .i64 c,gv,.func (.func fb) #[] cs]
   (λr w'=>r= .int .i64 (bo c gs bes E).1/\St w0 (A*aI p g s lg (bo c gs bes E).2) w') w:=by
 refine uq Pb (by simp [UH]) ?_;simp [UH];refine bZ h λBe w1 h1=> ?_;simp;have h1:St w0 (A*aI p g s lg E*pt Be (.cells #[.int .i64 0] 38 (0,0))) w1:=h1;clear h;refine ab ((Eg s c w1).mono ?_);rintro r w2 ⟨rfl,rfl⟩;simp;refine aR (λha=> ?_) (λha=> ?_)
 ·have hc1:c<1:=by simp [ub] at ha;omega
  have hk:bo c gs bes E=(2,E):=by unfold bo;rw [if_pos hc1]
  simp;refine cH h1 rfl (by simp) λw3 h3=> ?_;have h3:St w0 (A*aI p g s lg E*pt Be (.cells #[.int .i64 2] 38 (0,0))) w3:=by simpa [ub,hc1] using h3
  simp [SM];refine wg (a:=⟨Be,0,none⟩) (v:= .int .i64 2) rfl ((cell_of h3.look).trans rfl) ?_;simp;rw [hk];exact ⟨rfl,h3.drop⟩
 have hc1:1<=c:=by simp [ub] at ha;omega
 have hB:=hB hc1;have hcc:1<=c/\c<9223372036854775808:=⟨hc1,hc.2⟩;simp;refine bZ h1 λBr w3 h3=> ?_;simp;have h3:St w0 (A*aI p g s lg E*pt Be (.cells #[.int .i64 0] 38 (0,0))*pt Br (.cells #[.slice none 0 0] 300 (0,0))) w3:=h3;clear h1;obtain ⟨ga,gcap,rfl⟩:=hr.val;simp only [SM];simp;refine gI (λenv w'=>∃(i:Nat) (o5 o8 o9:Value) (X:ak) (fs:List Value) (D:Nat->cq) (v:Value),
   env= [.pointer (some ⟨s,0,none⟩),.int .i64 c,.slice ga gs.length gcap,.func (.func fb) #[] cs,.pointer (some ⟨Be,0,none⟩),o5,.pointer (some ⟨Br,0,none⟩),.func (.func 228) #[] #[.pointer (some ⟨Br,0,none⟩)],o8,o9,.slice ga gs.length gcap,.int .i64 gs.length,.int .i64 i]/\
   i<=gs.length/\(bf c (gs.take i) E).1=0/\gj w0 p g s lg X fs D/\D fs.length=(bf c (gs.take i) E).2/\D 0=E/\fs.length<=2*i/\
   St w0 (A*pt Be (.cells #[.int .i64 0] 38 (0,0))*X*pt Br (.cells #[v] 300 (0,0))*own 1 1 v fs.length fs*aI p g s lg (bf c (gs.take i) E).2) w')
  (λenv _=>gs.length -aw env 12) ⟨0,_,_,_,emp,[],λ_=>E,.slice none 0 0,rfl,by omega,rfl,Ge,rfl,rfl,by simp,?_⟩ ?_
 ·have:=h3.aD 1 1
  refine this.to ?_;simp only [List.take_zero,bf,List.length_nil];rw [aq];ac_rfl
 rintro LQ env w' ⟨i,o5,o8,o9,X,fs,D,v,rfl,hi,hg0,hU,hD,hD0,hfs,s1⟩ hN hX hR;have hEi:EI lp lg (bf c (gs.take i) E).2:=pJ hcc hE λx hx'=>(hx x (List.mem_of_mem_take hx')).1;simp;refine aR (λh=> ?_) (λh=> ?_)
 ·simp at h
  obtain ⟨g',o',cap',hv,hcell⟩:=hr.at (by omega);cases hv;have htk:=ve c gs E i h hg0;generalize hEE:(bf c (gs.take i) E).2=Ei at*;simp [h];have sA:St w0 A w':=s1.cut (pt Be (.cells #[.int .i64 0] 38 (0,0))*X*pt Br (.cells #[v] 300 (0,0))*own 1 1 v fs.length fs*aI p g s lg Ei) (by ac_rfl);refine aB (vs:=gs[i].cs) (λj u hu=>by rw [Nat.add_assoc];exact hcell w' sA _ _ (Lb h j u hu)) rfl ?_;simp;refine bZ s1 λb w2 s2=> ?_;simp;refine dW (vs:=gs[i].cs) s2 rfl rfl (Ff _) (by simp) λw3 s3=> ?_;simp;have s4:St w0 (A*pt Be (.cells #[.int .i64 0] 38 (0,0))*X*pt Br (.cells #[v] 300 (0,0))*own 1 1 v fs.length fs*aI p g s lg Ei*pt b (.cells gs[i].cs.toArray 73 (0,0))) w3:=by simpa [Gf.cs] using s3
  refine aB (vs:=gs[i].cs) s4.ad rfl ?_;simp;have hxi:=hx gs[i] (List.getElem_mem h);refine ab ((IS p g s Br (2*i) lp lg c gs[i] Ei E v fs X D w0 w3 (A*pt Be (.cells #[.int .i64 0] 38 (0,0))) hEi hcc hxi hfs (by omega) hU hD hD0 s4.drop).mono ?_);rintro r w4 ⟨rfl,X',fs',D',v',hU',hD',hD0',hfs',s5⟩;simp;refine aR (λhg=> ?_) (λhg=> ?_)
  ·simp at hg
   simp;refine cH (s5.to (B:=A*X'*pt Br (.cells #[v'] 300 (0,0))*own 1 1 v' fs'.length fs'*aI p g s lg (cO c gs[i] Ei).2*pt Be (.cells #[.int .i64 0] 38 (0,0))) (by ac_rfl)) rfl (by simp) λw5 s6=> ?_;simp;refine hR _ _ ?_;simp [ES];have hbad:=xP c gs E (i+1) (by rw [htk,if_pos hg];exact hg);rw [htk,if_pos hg] at hbad;have hk:bo c gs bes E=((cO c gs[i] Ei).1,E):=by unfold bo;rw [if_neg (by omega),hbad,if_pos hg]
   refine DV (K:=λr w'=>r= .int .i64 (bo c gs bes E).1/\St w0 (A*aI p g s lg (bo c gs bes E).2) w') (A:=A) (e:=(cO c gs[i] Ei).1) (E2:=(cO c gs[i] Ei).2) hU' (by omega) ?_ (λw' hw=> ?_) (λ_=>hD'.symm) (s6.to (by simp;ac_rfl))
   ·rfl
   rw [if_neg hg,hD0'] at hw;rw [hk];exact ⟨rfl,hw⟩
  ·simp at hg
   simp
   try simp (disch:=omega) only [wrap64]
   rw [if_neg (by simp [hg])] at htk;refine hN _ _ ⟨i+1,_,_,_,X',fs',D',v',by simp;exact ⟨rfl,rfl,rfl⟩,by omega,by rw [htk],hU',by rw [htk];exact hD',hD0',by omega,?_⟩ (by simp [aw];omega);rw [htk];exact s5
 ·simp at h
  simp;have hin:i=gs.length:=by omega
  subst hin;rw [List.take_length] at*;generalize hEE:(bf c gs E).2=Ei at*;refine hX _ _ _ ?_;simp;refine bJ hB.body ?_;simp only [List.nil_append,Array.toList_empty,List.append_nil];refine (hB.call (pt Be (.cells #[.int .i64 0] 38 (0,0))*X*pt Br (.cells #[v] 300 (0,0))*own 1 1 v fs.length fs) Ei w' hEi (s1.to (by ac_rfl))).mono ?_;rintro r w4 ⟨rfl,s5⟩;simp;refine cH (s5.to (B:=A*X*pt Br (.cells #[v] 300 (0,0))*own 1 1 v fs.length fs*aI p g s lg (bes Ei).2*pt Be (.cells #[.int .i64 0] 38 (0,0))) (by ac_rfl)) rfl (by simp) λw5 s6=> ?_;simp [ES];refine DV (K:=λr w'=>r= .int .i64 (bo c gs bes E).1/\St w0 (A*aI p g s lg (bo c gs bes E).2) w') (A:=A) (e:=(bes Ei).1) (E2:=(bes Ei).2) hU (by omega) ?_ (λw' hw=> ?_) (λhne=>by rw [hB.no _ hne,hD]) (s6.to (by simp;ac_rfl))
  ·rfl
  have hk:bo c gs bes E=if (bes Ei).1≠0 then ((bes Ei).1,E) else (0,(bes Ei).2):=by unfold bo;rw [if_neg (by omega),if_neg (by simp [hg0]),hEE]
  rw [hk]
  by_cases hz:(bes Ei).1=0
  ·rw [if_pos hz] at hw
   rw [if_neg (by simp [hz])];exact ⟨by rw [hz],hw⟩
  ·rw [if_neg hz,hD0] at hw
   rw [if_pos hz];exact ⟨rfl,hw⟩
def UI:ag:=⟨[0,1,2,3],8,[.slot 3],aM tG [] 0x39bff8a28a2dd10c3532442e332490b1082c4103c027dd2003⟩
theorem Pc:ai E0 168 400=some UI:=by kernel_rfl
def Un:ag:=⟨[0,1,2,3,4,5,7,8],14,[.slot 7],aM tG [] 0x39bff8a2ef74421d4532554f464054042cf0500b8cca28153d19015010b3c1c450311009e28a2699659d920074421b81731310fac41304f08281⟩
theorem OA:ai E0 113 400=some Un:=by kernel_rfl
def Um:ag:=⟨[0,1,2,5,6],11,[.slot 4],aM tG [] 0x39bff8a2df8114532cd215005000b281c430a789a6764801330f10ba⟩
theorem Oy:ai E0 111 400=some Um:=by kernel_rfl
def Vg:ag:=⟨[0,1,2],20,[.slot 2],aM tG [] 0x2ce6fff74800aabc0b2fff748c2810a273b8a272391f6d209844489cee289c71f6d5d4056647a08a098444d4056647a08a0a647a0b244744628b0b1040d34991140140d26445005991140f004445751910c4d46443132442e0c281c41034d26cc0180d26cc01a6cc0f000e7dd2002⟩
theorem Qb:ai E0 235 400=some Vg:=by kernel_rfl
def UL:ag:=⟨[0,1,2,3,4,6],12,[.slot 5],aM tG [] 0x39bff8a2ef744215453257d1100cf3c1402e3328a07d1100cf3c1c440310c09e289a659d92005e04cc3c41304f08281⟩
theorem Pe:ai E0 170 400=some UL:=by kernel_rfl
abbrev WT (b4 b5 b6 s:Nat) (c:Int) (x:Et) (pr:Int) (wv:Value):ak:=
 pt b4 (.cells #[.pointer (some ⟨s,0,none⟩)] 89 (0,0))*pt b5 (.cells #[.int .i64 c] 3 (0,0))*pt b6 (.cells (x.cs pr wv).toArray 30 (0,0))
theorem Bf (p g s b4 b5 b6:Nat) (lp lg c pr:Int) (x:Et) (wv:Value) (w0:World) (A:ak) (hx:0<=x.coins/\x.coins<18446744073709551616) (hc:c<9223372036854775808) (hc1:1<=c):
  yO w0 (A*WT b4 b5 b6 s c x pr wv) p g s lp lg 168 [.pointer (some ⟨b4,0,none⟩),.pointer (some ⟨b5,0,none⟩),.pointer (some ⟨b6,0,none⟩)] (aN c x) where
 body:=by kernel_rfl
 no:=λE h=>AX h
 call:=by
  intro G E W hE h;have f4:=(h.to (B:=A*G*aI p g s lg E*pt b5 (.cells #[.int .i64 c] 3 (0,0))*pt b6 (.cells (x.cs pr wv).toArray 30 (0,0))*pt b4 (.cells #[.pointer (some ⟨s,0,none⟩)] 89 (0,0))) (by simp only [WT];ac_rfl)).look;have f5:=(h.to (B:=A*G*aI p g s lg E*pt b4 (.cells #[.pointer (some ⟨s,0,none⟩)] 89 (0,0))*pt b6 (.cells (x.cs pr wv).toArray 30 (0,0))*pt b5 (.cells #[.int .i64 c] 3 (0,0))) (by simp only [WT];ac_rfl)).look;have f6:=(h.to (B:=A*G*aI p g s lg E*pt b4 (.cells #[.pointer (some ⟨s,0,none⟩)] 89 (0,0))*pt b5 (.cells #[.int .i64 c] 3 (0,0))*pt b6 (.cells (x.cs pr wv).toArray 30 (0,0))) (by simp only [WT];ac_rfl)).ad;refine aG Pc (by simp [UI]) ?_;simp [UI];refine af (v:= .pointer (some ⟨s,0,none⟩)) ((cell_of f4).trans rfl) ?_;simp;refine af (v:= .int .i64 c) ((cell_of f5).trans rfl) ?_;simp;refine aB (vs:=x.cs pr wv) f6 rfl ?_;simp
  refine ab ((jG p g s lp lg c pr x wv E w0 W _ hE ⟨hc1,hc⟩ hx h).mono ?_);rintro r w2 ⟨rfl,h2⟩;simp;exact h2
theorem xl (p g s:Nat) (lp lg c pr:Int) (gs:List Gf) (gv:Value) (x:Et) (wv:Value) (E:cq) (w0 w:World) (A:ak)
  (hE:EI lp lg E) (hc: -9223372036854775808<=c/\c<9223372036854775808) (hx:∀x∈gs,0<=x.coins/\x.coins<18446744073709551616) (hxe:0<=x.coins/\x.coins<18446744073709551616) (hn:gs.length<=4194304)
  (hr:Row w0 A gv gs.length 3 (iE gs)) (h:St w0 (A*aI p g s lg E) w):
  aj Tryz.prog 113 [.pointer (some ⟨s,0,none⟩),.int .i64 c,gv,.agg (x.cs pr wv).toArray]
   (λr w'=>r= .int .i64 (bo c gs (aN c x) E).1/\St w0 (A*aI p g s lg (bo c gs (aN c x) E).2) w') w:=by
 refine aG OA (by simp [Un]) ?_;simp [Un];refine bA h λb4 w1 h1=> ?_;simp;refine bA h1 λb5 w2 h2=> ?_;simp;refine bA h2 λb6 w3 h3=> ?_;simp;have f6:w3.cell? ⟨b4,0,none⟩=some (.pointer (some ⟨s,0,none⟩)):=(cell_of h3.drop.drop.look).trans rfl;have f5:w3.cell? ⟨b5,0,none⟩=some (.int .i64 c):=(cell_of h3.drop.look).trans rfl;refine af f6 ?_;simp;refine af f5 ?_;simp;have h4:St w0 (A*WT b4 b5 b6 s c x pr wv*aI p g s lg E) w3:=h3.to (by simp only [WT,qy,Value.cells];ac_rfl);refine ab ((yG p g s 168 _ lp lg c gs gv (aN c x) E w0 w3 (A*WT b4 b5 b6 s c x pr wv) hE hc hx hn (λhc1=>Bf p g s b4 b5 b6 lp lg c pr x wv w0 A hxe hc.2 hc1) (hr.mono λw s=>s.drop) h4).mono ?_);rintro r w4 ⟨rfl,h5⟩;simp;exact h5.swap.drop
theorem dG (w0:World) (A:ak) (size:Nat):Row w0 A (.slice none 0 0) 0 size []:=⟨by simp,none,0,rfl,Nat.le_refl _,.inl rfl⟩
theorem pe (p g s:Nat) (lp lg c pr:Int) (x:Et) (wv:Value) (E:cq) (w0 w:World) (A:ak)
  (hE:EI lp lg E) (hc: -9223372036854775808<=c/\c<9223372036854775808) (hxe:0<=x.coins/\x.coins<18446744073709551616) (h:St w0 (A*aI p g s lg E) w):
  aj Tryz.prog 111 [.pointer (some ⟨s,0,none⟩),.int .i64 c,.agg (x.cs pr wv).toArray]
   (λr w'=>r= .int .i64 (bo c [] (aN c x) E).1/\St w0 (A*aI p g s lg (bo c [] (aN c x) E).2) w') w:=by
 refine aG Oy (by simp [Um]) ?_;simp [Um];refine bA h λb w1 h1=> ?_;simp;have h2:St w0 (A*aI p g s lg E*pt b (.cells (x.cs pr wv).toArray 30 (0,0))) w1:=h1;refine aB (vs:=x.cs pr wv) h2.ad rfl ?_;simp;refine ab ((xl p g s lp lg c pr [] (.slice none 0 0) x wv E w0 w1 A hE hc (by simp) hxe (by simp) (dG w0 A 3) h2.drop).mono ?_);rintro r w2 ⟨rfl,h3⟩;simp;exact h3
abbrev AG (b4 b5 s:Nat) (c:Int):ak:=pt b4 (.cells #[.pointer (some ⟨s,0,none⟩)] 89 (0,0))*pt b5 (.cells #[.int .i64 c] 3 (0,0))
theorem Ch (p g s b4 b5:Nat) (lp lg c:Int) (w0:World) (A:ak):
  yO w0 (A*AG b4 b5 s c) p g s lp lg 235 [.pointer (some ⟨b4,0,none⟩),.pointer (some ⟨b5,0,none⟩)] (mc c) where
 body:=by kernel_rfl
 no:=λE h=>rfl
 call:=by
  intro G E W hE h;have hlen:E.ae.length<=1048576:=by have:=hE.G.len;have:=hE.G.lim;omega
  obtain ⟨m,es,cl,hH,h1⟩:=uM (h.to (B:=A*G*AG b4 b5 s c*Gd.bN g lg E.ae*Pu.bG p E.P*fX s p g E.l) (by simp only [aI];ac_rfl));have f4:=λ{w:World} (h:St w0 (A*G*AG b4 b5 s c*Gd.bN g lg E.ae*Pu.bG p E.P*lZ s p g m*ao m es cl) w)=>(cell_of (off:=0) (h.to (B:=A*G*Gd.bN g lg E.ae*Pu.bG p E.P*lZ s p g m*ao m es cl*pt b5 (.cells #[.int .i64 c] 3 (0,0))*pt b4 (.cells #[.pointer (some ⟨s,0,none⟩)] 89 (0,0))) (by simp only [AG];ac_rfl)).look).trans (rfl:_=some (Value.pointer (some ⟨s,0,none⟩)));have f5:=λ{w:World} (h:St w0 (A*G*AG b4 b5 s c*Gd.bN g lg E.ae*Pu.bG p E.P*lZ s p g m*ao m es cl) w)=>(cell_of (off:=0) (h.to (B:=A*G*Gd.bN g lg E.ae*Pu.bG p E.P*lZ s p g m*ao m es cl*pt b4 (.cells #[.pointer (some ⟨s,0,none⟩)] 89 (0,0))*pt b5 (.cells #[.int .i64 c] 3 (0,0))) (by simp only [AG];ac_rfl)).look).trans (rfl:_=some (Value.int .i64 c))
  have s1:=λ{w:World} (h:St w0 (A*G*AG b4 b5 s c*Gd.bN g lg E.ae*Pu.bG p E.P*lZ s p g m*ao m es cl) w)=>(cell_of (off:=1) h.swap.look).trans (rfl:_=some (Value.pointer (some ⟨g,0,none⟩)));have s2:=λ{w:World} (h:St w0 (A*G*AG b4 b5 s c*Gd.bN g lg E.ae*Pu.bG p E.P*lZ s p g m*ao m es cl) w)=>(cell_of (off:=2) h.swap.look).trans (rfl:_=some (Value.map (some m)));have hm:=λ{w:World} (h:St w0 (A*G*AG b4 b5 s c*Gd.bN g lg E.ae*Pu.bG p E.P*lZ s p g m*ao m es cl) w)=>h.look;have hin:=λ{w:World} (h:St w0 (A*G*AG b4 b5 s c*Gd.bN g lg E.ae*Pu.bG p E.P*lZ s p g m*ao m es cl) w)=>Gd.Nh g lg E.ae c w0 w (A*G*AG b4 b5 s c*Pu.bG p E.P*lZ s p g m*ao m es cl) hlen (h.to (by ac_rfl));have hout:=λ{w:World} (h:St w0 (A*G*AG b4 b5 s c*Gd.bN g lg E.ae*Pu.bG p E.P*lZ s p g m*ao m es cl) w)=>(ki hH h).to (B:=A*AG b4 b5 s c*G*aI p g s lg E) (by simp only [aI];ac_rfl)
  have hinZ:=λ{v:Value} {w:World} (h:St w0 (A*G*AG b4 b5 s c*Pu.bG p E.P*lZ s p g m*ao m es cl*Gd.bN g lg E.ae*own 3 1 v (Gd.fi E.ae c).length (Gd.ints (Gd.fi E.ae c))) w)=>h.to (B:=A*G*AG b4 b5 s c*Gd.bN g lg E.ae*Pu.bG p E.P*lZ s p g m*ao m es cl*own 3 1 v (Gd.fi E.ae c).length (Gd.ints (Gd.fi E.ae c))) (by ac_rfl);generalize hBB:A*G*AG b4 b5 s c*Gd.bN g lg E.ae*Pu.bG p E.P*lZ s p g m*ao m es cl=B at h1 f4 f5 s1 s2 hm hin hout hinZ;refine aG Qb (by simp [Vg]) ?_;simp [Vg];refine SB (λvs w=>match vs with
   | []=>St w0 B w
   |v::_=>St w0 (B*own 3 1 v (Gd.fi E.ae c).length (Gd.ints (Gd.fi E.ae c))) w) h1.drew ?_
  have low:∀{vs:List Value} {w:World},(match vs with
   | []=>St w0 B w
   |v::_=>St w0 (B*own 3 1 v (Gd.fi E.ae c).length (Gd.ints (Gd.fi E.ae c))) w)->St w0 B w:=by
   intro vs w h;cases vs with
   |nil=>exact h
   |cons _ _=>exact St.drop h
  simp;refine al (v:= .pointer (some ⟨s,0,none⟩)) (λvs' w he hw=>f4 (low hw)) ?_;simp;refine al (v:= .map (some m)) (λvs' w he hw=>s2 (low hw)) ?_;simp;refine al (v:= .int .i64 c) (λvs' w he hw=>f5 (low hw)) ?_;simp;refine oI Ck (m:=m) (es:=es) (c:=cl) (λvs' w he hw=>hm (low hw)) ?_;rw [(hH.get hE.R c).1];simp
  by_cases hz:ck E.l c=0
  ·simp [hz]
   refine al (v:= .pointer (some ⟨s,0,none⟩)) (λvs' w he hw=>f4 (low hw)) ?_;simp;refine al (v:= .pointer (some ⟨g,0,none⟩)) (λvs' w he hw=>s1 (low hw)) ?_;simp;refine al (v:= .int .i64 c) (λvs' w he hw=>f5 (low hw)) ?_;simp;refine aO (by rfl) (λw hw=>ab ((hin hw).mono ?_)) (λr hr=> ?_)
   ·intro r w' h
    exact hinZ h
   obtain ⟨w',hr⟩:=hr;obtain ⟨a,cap,rfl,_⟩:=St.ax hr;simp;intro w2 h2;refine aR (λhg=> ?_) (λhg=> ?_)
   ·simp at hg
    have hk:mc c E=(170,E):=by unfold mc;rw [if_pos (.inr (by omega))]
    simp;rw [hk];exact ⟨rfl,hout h2.drop⟩
   ·simp at hg
    have hk:mc c E=(0,E):=by unfold mc;rw [if_neg (by simp [hz,hg])]
    simp;rw [hk];exact ⟨rfl,hout h2.drop⟩
  ·simp [hz]
   intro w2 h2;have hk:mc c E=(170,E):=by unfold mc;rw [if_pos (.inl hz)]
   rw [hk];exact ⟨rfl,hout h2⟩
theorem J0 (p g s:Nat) (lp lg c:Int) (gs:List Gf) (gv:Value) (E:cq) (w0 w:World) (A:ak)
  (hE:EI lp lg E) (hc: -9223372036854775808<=c/\c<9223372036854775808) (hx:∀x∈gs,0<=x.coins/\x.coins<18446744073709551616) (hn:gs.length<=4194304)
  (hr:Row w0 A gv gs.length 3 (iE gs)) (h:St w0 (A*aI p g s lg E) w):
  aj Tryz.prog 170 [.pointer (some ⟨s,0,none⟩),.int .i64 c,gv]
   (λr w'=>r= .int .i64 (bo c gs (mc c) E).1/\St w0 (A*aI p g s lg (bo c gs (mc c) E).2) w') w:=by
 refine aG Pe (by simp [UL]) ?_;simp [UL];refine bA h λb4 w1 h1=> ?_;simp;refine bA h1 λb5 w2 h2=> ?_;simp;have f6:w2.cell? ⟨b4,0,none⟩=some (.pointer (some ⟨s,0,none⟩)):=(cell_of h2.drop.look).trans rfl;have f5:w2.cell? ⟨b5,0,none⟩=some (.int .i64 c):=(cell_of h2.look).trans rfl;refine af f6 ?_;simp;refine af f5 ?_;simp;have h4:St w0 (A*AG b4 b5 s c*aI p g s lg E) w2:=h2.to (by simp only [AG,Value.cells];ac_rfl);refine ab ((yG p g s 235 _ lp lg c gs gv (mc c) E w0 w2 (A*AG b4 b5 s c) hE hc hx hn (λhc1=>Ch p g s b4 b5 lp lg c w0 A) (hr.mono λw s=>s.drop) h4).mono ?_);rintro r w4 ⟨rfl,h5⟩;simp;exact h5.swap.drop
def oU (l:List Int):List Value:=l.map (Value.int .u64)
theorem Rp {l:List Int} {i:Nat} (h:i<l.length):(oU l)[i]? =some (.int .u64 l[i]):=by simp [oU,h]
def oT (s:Int):List Int->Int×Int
 | []=>(s,0)
 |x::t=>if s+x<18446744073709551616 then oT (s+x) t else (0,10)
theorem J9 (l:List Int) (v:Value) (w0 w:World) (A:ak) (hn:l.length<=2097152) (hb:∀x∈l,0<=x/\x<18446744073709551616) (hr:Row w0 A v l.length 1 (oU l)) (h:St w0 A w):
  aj Tryz.prog 145 [v] (λr w'=>r= .tuple #[.int .u64 (oT 0 l).1,.int .i64 (oT 0 l).2]/\St w0 A w') w:=by
 refine aG OP (by simp [Uy]) ?_;simp [Uy];obtain ⟨a,cap,rfl⟩:=hr.val;simp;refine gI (λenv w'=>∃(i:Nat) (t:Int) (o1 o2 o4 o5 o6:Value),env= [.slice a l.length cap,o1,o2,.int .u64 t,o4,o5,o6,.slice a l.length cap,.int .i64 l.length,.int .i64 i]/\i<=l.length/\(0<=t/\t<18446744073709551616)/\oT 0 l=oT t (l.drop i)/\St w0 A w')
  (λenv _=>l.length -aw env 9) ⟨0,0,_,_,_,_,_,rfl,by omega,by omega,rfl,h⟩ ?_
 rintro LQ env w' ⟨i,t,o1,o2,o4,o5,o6,rfl,hi,ht,hs,s1⟩ hN hX hR;simp;refine aR (λhc=> ?_) (λhc=> ?_)
 ·simp at hc
  obtain ⟨g,o,cap',hv,hcell⟩:=hr.at (by omega);cases hv;simp [hc];refine af (hcell w' s1 i _ (Rp hc)) ?_;simp;have hx:=hb l[i] (List.getElem_mem hc);refine ab ((JV t l[i] w' ht hx).mono ?_);rintro r w2 ⟨rfl,rfl⟩;simp;rw [List.drop_eq_getElem_cons hc,oT] at hs
  by_cases hf:t+l[i]<18446744073709551616
  ·rw [if_pos hf] at hs
   simp [hf]
   try simp (disch:=omega) only [wrap64]
   exact hN _ _ ⟨i+1,t+l[i],_,_,_,_,_,rfl,by omega,by omega,hs,s1⟩ (by simp [aw];omega)
  ·rw [if_neg hf] at hs
   simp [hf];refine hR _ _ ?_;simp [hs];exact s1
 ·simp at hc
  simp;refine hX _ _ _ ?_;have:i=l.length:=by omega
  subst this;rw [List.drop_length,oT] at hs;simp [hs];exact s1
def Rw.cs (r:Rw):List Value:= [.int .i64 r.1,.int .u64 r.2]
def jH (l:List Rw):List Value:=l.flatMap Rw.cs
theorem Mq (x:Rw):x.cs.length=2:=rfl
theorem Ms (x:Rw):∀u∈x.cs,u.oneCell'=true:=by intro u hu;simp only [Rw.cs,List.mem_cons,List.not_mem_nil,or_false] at hu;rcases hu with rfl|rfl<;>rfl
theorem Ml {l:List Rw} {i:Nat} (h:i<l.length):∀j u,(l[i].cs)[j]? =some u->(jH l)[i*2+j]? =some u:=by
 intro j u hu;have hj:j<2:=by
  have:=(List.getElem?_eq_some_iff.1 hu).1
  rwa [Mq] at this
 unfold jH;rw [dJ Rw.cs 2 Mq l i j h hj];exact hu
instance (l:List Rw):Decidable (fu l):=inferInstanceAs (Decidable (l.Pairwise (λa b=>a.1<b.1)/\∀r∈l,1<=r.1/\r.1<9223372036854775808/\0<r.2))
def oJ (rows:List Rw) (held:Int):Int:=if fu rows then (if kp rows=held then 0 else 170) else 2
theorem CC {k v:Int}:∀{l:List Rw},(∀r∈l,r.1<k)->ins k v l=l++ [(k,v)]
 | [],_=>rfl
 |r::t,h=>by simp only [ins];rw [if_neg (by have:=h r (.head _);omega),CC λx hx=>h x (.tail _ hx)];rfl
theorem Rg {l:List Rw} {r:Rw} (h:fu l) (h1:∀x∈l,x.1<r.1) (h2:1<=r.1/\r.1<9223372036854775808/\0<r.2):fu (l++ [r]):=by
 refine ⟨?_,λx hx=> ?_⟩
 ·rw [List.pairwise_append]
  exact ⟨h.1,by simp,λa ha b hb=>by
   have:b=r:=by simpa using hb
   rw [this];exact h1 a ha⟩
 ·rcases List.mem_append.1 hx with hx|hx
  ·exact h.2 x hx
  ·have:x=r:=by simpa using hx
   rw [this];exact h2
def mP (l:List Rw):Int:=(l.getLast?.map (·.1)).getD 0
theorem lJ (l:List Rw) (r:Rw):mP (l++ [r])=r.1:=by simp [mP]
theorem yb {l:List Rw} (h:fu l):∀r∈l,r.1<=mP l:=by
 intro r hr;rcases List.eq_nil_or_concat l with rfl|⟨t,x,rfl⟩
 ·cases hr
 ·rw [List.concat_eq_append] at*
  rw [lJ];have hp:=(List.pairwise_append.1 h.1).2.2;rcases List.mem_append.1 hr with hr|hr
  ·have:=hp r hr x (by simp);omega
  ·have:r=x:=by simpa using hr
   rw [this];omega
theorem AB {l:List Rw} (h:fu l):0<=mP l:=by
 rcases List.eq_nil_or_concat l with rfl|⟨t,x,rfl⟩
 ·simp [mP]
 ·rw [List.concat_eq_append] at*
  rw [lJ];have:=(h.2 x (by simp)).1;omega
theorem WK {l:List Rw} {i:Nat} (hi:i<l.length) (h:l[i].1<=mP (l.take i)\/l[i].2=0) (hok:fu (l.take i)):¬fu l:=by
 intro ok;rcases h with h|h
 ·rcases Nat.eq_zero_or_pos i with rfl|hp
  ·have:=(ok.2 l[0] (List.getElem_mem hi)).1
   simp [mP] at h;omega
  ·obtain ⟨j,rfl⟩:∃j,i=j+1:=⟨i -1,by omega⟩
   rw [List.take_succ_eq_append_getElem (by omega),lJ] at h;have:=List.pairwise_iff_getElem.1 ok.1 j (j+1) (by omega) hi (by omega);omega
 ·have:=(ok.2 l[i] (List.getElem_mem hi)).2.2
  omega
theorem HR:∀{l:List Int} {s:Int},(∀x∈l,0<=x)->0<=s->((oT s l).2=0/\(oT s l).1=s+l.sum/\(l≠ []->s+l.sum<18446744073709551616))\/((oT s l).2≠0/\18446744073709551616<=s+l.sum)
 | [],s,_,_=> .inl ⟨rfl,by simp [oT],by simp⟩
 |x::t,s,hx,hs=>by
  have h0:=hx x (.head _);have ht:0<=t.sum:=by
   have:∀l:List Int,(∀x∈l,0<=x)->0<=l.sum:=by
    intro l
    induction l with
    |nil=>simp
    |cons a r ih=>intro h;have:=ih λx hx=>h x (.tail _ hx);have:=h a (.head _);simp;omega
   exact this t λx h=>hx x (.tail _ h)
  simp only [oT,List.sum_cons];split
  ·rename_i hf
   rcases HR (l:=t) (s:=s+x) (λx h=>hx x (.tail _ h)) (by omega) with ⟨a,b,c⟩|⟨a,b⟩
   ·refine .inl ⟨a,by rw [b];omega,λ_=> ?_⟩
    by_cases e:t= []
    ·subst e;simp;omega
    ·have:=c e;omega
   ·exact .inr ⟨a,by omega⟩
  ·exact .inr ⟨by simp,by omega⟩
theorem A2 {l:List Rw} {i:Nat} (hi:i<l.length) (h:fu (l.take i)) (h1:mP (l.take i)<l[i].1) (h2:0<l[i].2) (h3:l[i].1<9223372036854775808):fu (l.take (i+1)):=by rw [List.take_succ_eq_append_getElem hi];have:=AB h;exact Rg h (λx hx=>by have:=yb h x hx;omega) ⟨by omega,h3,h2⟩
theorem QL {rows:List Rw} {held:Int} (hok:fu rows) (hh:0<=held/\held<18446744073709551616):
  oJ rows held=if (oT 0 (rows.map (·.2))).2≠0\/(oT 0 (rows.map (·.2))).1≠held then 170 else 0:=by
 unfold oJ;rw [if_pos hok];have hnn:∀x∈rows.map (·.2),0<=x:=by intro x hx;obtain ⟨r,hr,rfl⟩:=List.mem_map.1 hx;have:=(hok.2 r hr).2.2;omega
 have hs:(rows.map (·.2)).sum=kp rows:=rfl;rcases HR hnn (s:=0) (by omega) with ⟨a,b,c⟩|⟨a,b⟩
 ·rw [a,b,hs]
  by_cases e:kp rows=held
  ·rw [if_pos e,if_neg (by simp;omega)]
  ·rw [if_neg e,if_pos (.inr (by simp;omega))]
 ·rw [hs] at b
  rw [if_neg (by omega),if_pos (.inl a)]
def l95:ag:=⟨[0,1,2,6,7,8,9,10,12,13,14,26,27,28],71,[.slot 3,.slot 4],aM tG [] 0x39e79e79bff699d920044050e8bc0b2ffda67648c281112e8372391f6d2098ce271f6d5cb8592110fb3118cf2e1648443ecc4996484400ccf243cd5d4040a044d4040a0449e271c699d959b3381281566ccc07e9b33819b3301c472c90edbb99dcdd5d4340d07e341d4340d07eb79e67ee28b74421f2e101cf1e6cce1f4c7a140c7a16973befb89a614c910b8ccffb4c7a140c7a174c7a040c7a074d31140180d311401b11400e7ef7cc6d31e81031e81a2f02cbff699d921c44ba0fb7237647db48263889c7db575191083638d464420e6592115c7a178038c7a17857d1b3302f46ccc0b4c7a040c7affb8a2df8eb2cf83034cc342d3d34140b04b0cc17d34140b04b0c1a2f0af01c6d5f4c0503411d8f4c0503411c09dc6996764803415710823014022c1c420a7dd21479f74801a78bbdf8174532cd005000b2022cc094cb34014002c80933cb0a8bc0b2ffda676483112e8372375f6d75710491120b3633c41244cd5f0e13c3849da676480112e83⟩
theorem Wc:ai E0 95 400=some l95:=by kernel_rfl
def l35:ag:=⟨[0,1,4,5],11,[.slot 2,.slot 3],aM tG [] 0xe6ffe271c699d959b33810d59b33010a6cce066ccc054d4540140038afda6764800d2e82⟩
theorem VF:ai E0 35 400=some l35:=by kernel_rfl
set_option maxHeartbeats 1000000 in
theorem nq (p g:Nat) (lp lg:Int) (rows:List Rw) (v:Value) (P:Pu.Ps) (ae:List Gd.It) (w0 w:World) (A:ak) (hP:Pu.PI lp P) (hn:rows.length<=2097152)
  (hb:∀r∈rows,(-9223372036854775808<=r.1/\r.1<9223372036854775808)/\0<=r.2/\r.2<18446744073709551616) (hr:Row w0 A v rows.length 2 (jH rows)) (h:St w0 (A*Pu.bG p P*Gd.bN g lg ae) w):
  aj Tryz.prog 95 [.pointer (some ⟨p,0,none⟩),.pointer (some ⟨g,0,none⟩),v]
   (λr w'=>(oJ rows P.held=0/\∃s,r= .tuple #[.pointer (some ⟨s,0,none⟩),.int .i64 0]/\St w0 (A*aI p g s lg ⟨P,ae,rows⟩) w')\/
    (oJ rows P.held≠0/\r= .tuple #[.pointer none,.int .i64 (oJ rows P.held)]/\St w0 (A*Pu.bG p P*Gd.bN g lg ae) w')) w:=by
 have hh:0<=P.held/\P.held<18446744073709551616:=by have:=hP.bd.held;omega
 refine aG Wc (by simp [l95]) ?_;simp [l95];refine iC h λm w1 h1=> ?_;simp [Instr.fill,Value.cells];refine bA h1 λs w2 h2=> ?_;simp;have h2:St w0 (A*Pu.bG p P*Gd.bN g lg ae*ao m [] 0*lZ s p g m) w2:=h2;clear h h1;obtain ⟨a,cap,rfl⟩:=hr.val;simp;refine gI (λenv w'=>∃(i:Nat) (all o3 o4 o8 o9 R9:Value) (es:List En) (cl:Nat),env= [.pointer (some ⟨p,0,none⟩),.pointer (some ⟨g,0,none⟩),.slice a rows.length cap,o3,o4,.pointer (some ⟨s,0,none⟩),.int .i64 (mP (rows.take i)),all,o8,o9,R9,.slice a rows.length cap,.int .i64 rows.length,.int .i64 i]/\
   i<=rows.length/\fu (rows.take i)/\EH es cl (rows.take i)/\St w0 (A*Pu.bG p P*Gd.bN g lg ae*lZ s p g m*ao m es cl*own 27 1 all ((rows.take i).map (·.2)).length (oU ((rows.take i).map (·.2)))) w')
  (λenv _=>rows.length -aw env 13) ⟨0,_,_,_,_,_,_,[],0,rfl,by omega,⟨by simp,by simp⟩,⟨by simp,by simp,by simp,by simp⟩,?_⟩ ?_
 ·exact (h2.aD 27 1).to (by simp [oU];ac_rfl)
 rintro LQ env w' ⟨i,all,o3,o4,o8,o9,R9,es,cl,rfl,hi,hok,hE,s1⟩ hN hX hR;simp;refine aR (λhc=> ?_) (λhc=> ?_)
 ·simp at hc
  obtain ⟨g',o,cap',hv,hcell⟩:=hr.at (by omega);cases hv;have hbi:=hb rows[i] (List.getElem_mem hc);simp [hc];have sA:St w0 A w':=s1.cut (Pu.bG p P*Gd.bN g lg ae*lZ s p g m*ao m es cl*own 27 1 all ((rows.take i).map (·.2)).length (oU ((rows.take i).map (·.2)))) (by ac_rfl);refine aB (vs:=rows[i].cs) (λj u hu=>by rw [Nat.add_assoc];exact hcell w' sA _ _ (Ml hc j u hu)) rfl ?_;simp;refine bZ s1 λb w3 s3=> ?_;simp;refine dW (vs:=rows[i].cs) s3 rfl rfl (Ms _) (by simp) λw4 s4=> ?_;simp;have s5:St w0 (A*Pu.bG p P*Gd.bN g lg ae*lZ s p g m*ao m es cl*own 27 1 all ((rows.take i).map (·.2)).length (oU ((rows.take i).map (·.2)))*pt b (.cells rows[i].cs.toArray 234 (0,0))) w4:=by simpa [Rw.cs] using s4
  refine af (v:= .int .i64 rows[i].1) ((cell_of s5.look).trans rfl) ?_;simp;have bad:(rows[i].1<=mP (rows.take i)\/rows[i].2=0)->oJ rows P.held=2:=λhx=>by unfold oJ;rw [if_neg (WK hc hx hok)]
  have hout:St w0 (A*Pu.bG p P*Gd.bN g lg ae) w4:=s5.drop.drop.drop.drop
  by_cases hl:rows[i].1<=mP (rows.take i)
  ·simp [hl]
   refine hR _ _ ?_;simp;rw [bad (.inl hl)];exact ⟨by decide,rfl,hout⟩
  simp [hl];refine af (v:= .int .u64 rows[i].2) ((cell_of s5.look).trans rfl) ?_;simp;refine aR (λhz=> ?_) (λhz=> ?_)
  ·simp at hz
   simp;refine hR _ _ ?_;simp;rw [bad (.inr hz)];exact ⟨by decide,rfl,hout⟩
  simp at hz;simp;have hok':=A2 hc hok (by omega) (by omega) hbi.1.2;have hk:∀x∈rows.take i,x.1<rows[i].1:=λx hx=>by have:=yb hok x hx;omega
  refine af (v:= .int .i64 rows[i].1) ((cell_of s5.look).trans rfl) ?_;simp;have hget:aZ es rows[i].1=none:=(hE.get hok rows[i].1).2.2 λx hx=>by have:=hk x hx;omega
  have hE':EH (es++ [⟨rows[i].1,.int .u64 rows[i].2,cl⟩]) (cl+1) (rows.take (i+1)):=by
   have h0:∀x∈rows.take i,x.1≠rows[i].1:=λx hx=>by have:=hk x hx;omega
   have:=hE.put (k:=rows[i].1) (v:=rows[i].2) hget h0;rw [ju h0,CC hk] at this;rw [List.take_succ_eq_append_getElem hc];exact this
  generalize hB:A*Pu.bG p P*Gd.bN g lg ae*lZ s p g m*own 27 1 all ((rows.take i).map (·.2)).length (oU ((rows.take i).map (·.2)))*pt b (.cells rows[i].cs.toArray 234 (0,0))=B;have s6:St w0 (B*ao m es cl) w4:=by rw [<-hB];exact s5.to (by ac_rfl)
  have fs:=λ{w:World} {es:List En} {cl:Nat} (h:St w0 (B*ao m es cl) w)=>(cell_of (off:=2) ((h.to (B:=A*Pu.bG p P*Gd.bN g lg ae*own 27 1 all ((rows.take i).map (·.2)).length (oU ((rows.take i).map (·.2)))*pt b (.cells rows[i].cs.toArray 234 (0,0))*ao m es cl*lZ s p g m) (by rw [<-hB];ac_rfl)).look)).trans (rfl:_=some (Value.map (some m)));have fb:=λ{w:World} {es:List En} {cl:Nat} (h:St w0 (B*ao m es cl) w)=>(h.to (B:=A*Pu.bG p P*Gd.bN g lg ae*own 27 1 all ((rows.take i).map (·.2)).length (oU ((rows.take i).map (·.2)))*lZ s p g m*ao m es cl*pt b (.cells rows[i].cs.toArray 234 (0,0))) (by rw [<-hB];ac_rfl)).look;refine fK (Pu.rY (St w0 (B*ao m es cl)) (St w0 (B*ao m (es++ [⟨rows[i].1,.int .u64 rows[i].2,cl⟩]) (cl+1)))) s6.drew ?_;simp;refine al (v:= .map (some m)) (λvs' w he hw=>fs (iB he hw)) ?_;simp
  refine al (v:= .int .i64 rows[i].1) (λvs' w he hw=>(cell_of (off:=0) (fb (iB he hw))).trans rfl) ?_;simp;refine al (v:= .int .u64 rows[i].2) (λvs' w he hw=>(cell_of (off:=1) (fb (iB he hw))).trans rfl) ?_;simp;refine aO (by rfl) (λw hw=>cu Ck hw hget λw' h=>h) (λr hr=> ?_);simp;intro w5 s7;refine af (v:= .int .u64 rows[i].2) ((cell_of (off:=1) (fb s7)).trans rfl) ?_;simp;refine fH s7 rfl λc w6 s8=> ?_;simp;rw [<-hB] at s8;refine bX (m:=1) (news:= [.int .u64 rows[i].2]) (F:=A*Pu.bG p P*Gd.bN g lg ae*lZ s p g m*pt b (.cells rows[i].cs.toArray 234 (0,0))*ao m (es++ [⟨rows[i].1,.int .u64 rows[i].2,cl⟩]) (cl+1)*pt c (.cells #[.int .u64 rows[i].2] 27 (0,0))) (s8.to (by ac_rfl)) rfl s8.aL (by simp [Value.oneCell']) (by decide) rfl (by simp;unfold maxLen;omega) (by simp;omega) λv' w7 s9=> ?_;simp
  try simp (disch:=omega) only [wrap64]
  refine hN _ _ ⟨i+1,v',_,_,_,_,_,es++ [⟨rows[i].1,.int .u64 rows[i].2,cl⟩],cl+1,by simp;refine ⟨rfl,rfl,?_,rfl,rfl,rfl⟩;rw [List.take_succ_eq_append_getElem hc,lJ],by omega,hok',hE',?_⟩ (by simp [aw];omega);refine s9.cut (pt b (.cells rows[i].cs.toArray 234 (0,0))*pt c (.cells #[.int .u64 rows[i].2] 27 (0,0))) ?_;rw [List.take_succ_eq_append_getElem hc];simp only [List.map_append,List.map_cons,List.map_nil,oU,List.length_append,List.length_map,List.length_cons,List.length_nil];ac_rfl
 ·simp at hc
  simp;refine hX _ _ _ ?_;have:i=rows.length:=by omega
  subst this;rw [List.take_length] at*;simp;have hlo:=QL hok hh;refine ab ((J9 (rows.map (·.2)) all w0 w' _ (by simpa using hn) (λx hx=>by obtain ⟨r,hr,rfl⟩:=List.mem_map.1 hx;exact (hb r hr).2) (nR s1) s1).mono ?_)
  rintro r w3 ⟨rfl,s3⟩;simp;have hbadc:oJ rows P.held=170->(oJ rows P.held=0/\∃s,(Value.tuple #[.pointer none,.int .i64 170])= .tuple #[.pointer (some ⟨s,0,none⟩),.int .i64 0]/\St w0 (A*aI p g s lg ⟨P,ae,rows⟩) w3)\/
    (oJ rows P.held≠0/\(Value.tuple #[.pointer none,.int .i64 170])= .tuple #[.pointer none,.int .i64 (oJ rows P.held)]/\St w0 (A*Pu.bG p P*Gd.bN g lg ae) w3):=λe=>by
   rw [e];exact .inr ⟨by decide,rfl,s3.drop.drop.drop⟩
  by_cases hs0:(oT 0 (rows.map (·.2))).2=0
  ·simp [hs0]
   refine ab ((Pu.H6 p P w0 w3 (A*Gd.bN g lg ae*lZ s p g m*ao m es cl*own 27 1 all (rows.map (·.2)).length (oU (rows.map (·.2)))) (s3.to (by ac_rfl))).mono ?_);rintro r w4 ⟨rfl,s4⟩;simp;refine aR (λhz=> ?_) (λhz=> ?_)
   ·simp at hz
    rw [if_pos (.inr hz)] at hlo;simp;rw [hlo];exact ⟨by decide,rfl,s4.cut (lZ s p g m*ao m es cl*own 27 1 all (rows.map (·.2)).length (oU (rows.map (·.2)))) (by ac_rfl)⟩
   ·simp at hz
    rw [if_neg (by simp [hs0,hz])] at hlo;simp;refine ⟨hlo,?_⟩;have:=ki (A:=A*Gd.bN g lg ae*Pu.bG p P*own 27 1 all (rows.map (·.2)).length (oU (rows.map (·.2)))) hE (s4.to (by ac_rfl));exact this.cut (own 27 1 all (rows.map (·.2)).length (oU (rows.map (·.2)))) (by simp only [aI];ac_rfl)
  ·simp [hs0]
   rw [if_pos (.inl hs0)] at hlo
   simpa using hbadc hlo
noncomputable abbrev E2:PF Tryz.prog:=PF.of []
theorem fB (p g:Nat) (lp lg:Int) (P:Pu.Ps) (ae:List Gd.It) (w0 w:World) (A:ak) (hP:Pu.PI lp P) (h0:P.held=0) (h:St w0 (A*Pu.bG p P*Gd.bN g lg ae) w):
  aj Tryz.prog 35 [.pointer (some ⟨p,0,none⟩),.pointer (some ⟨g,0,none⟩)]
   (λr w'=>∃s,r= .tuple #[.pointer (some ⟨s,0,none⟩),.int .i64 0]/\St w0 (A*aI p g s lg ⟨P,ae,[]⟩) w') w:=by
 refine aG VF (by simp [l35]) ?_;simp [l35];have hz:oJ [] P.held=0:=by unfold oJ;rw [h0];decide
 refine ab ((nq p g lp lg [] (.slice none 0 0) P ae w0 w A hP (by simp) (by simp) (dG w0 A 2) h).mono ?_);rintro r w1 (⟨_,s,rfl,h1⟩|⟨hn,_⟩)
 ·simp
  exact h1
 ·exact absurd hz hn
def PG1:Pu.Ps:=⟨3,[⟨Pu.cN,0⟩,⟨[65,110,110],0⟩],0,0⟩
def PG2:Pu.Ps:=⟨3,[⟨Pu.cN,0⟩,⟨[65,110,110],0⟩,⟨[66,111,98],0⟩],0,0⟩
def PG3:Pu.Ps:=⟨3,[⟨Pu.cN,0⟩,⟨[65,110,110],100⟩,⟨[66,111,98],0⟩],100,0⟩
def PG4:Pu.Ps:=⟨3,[⟨Pu.cN,0⟩,⟨[65,110,110],100⟩,⟨[66,111,98],50⟩],150,0⟩
def IG:List Gd.It:= [⟨1,0,1,0⟩,⟨2,0,2,0⟩]
def EG:cq:=⟨PG4,IG,[]⟩
def EA:cq:=⟨⟨3,[⟨Pu.cN,0⟩,⟨[65,110,110],70⟩,⟨[66,111,98],50⟩],150,30⟩,[⟨1,0,-1,7⟩,⟨2,0,2,0⟩],[(7,30)]⟩
def fwa:Et:=⟨1,1,30⟩
end Go.HL.Es
