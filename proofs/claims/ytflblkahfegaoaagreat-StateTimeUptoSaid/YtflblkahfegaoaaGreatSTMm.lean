/- Part 13. -/
import Derived.Test.YtflblkahfegaoaaGreatSTMl
import Derived.Laws.Externs
set_option linter.unusedSimpArgs false
set_option linter.unusedVariables false
set_option maxRecDepth 4000
namespace Go.HL.Es
open Go.HL Go.Proofs
def bda:Nat→PO
 |0=>(.ext 0)
 |1=>(.ext 1)
 |2=>(.bin .neq)
 |3=> .lenL
 |4=>(.bin .lss)
 |5=>(.idxL 1)
 |6=>(.bin .add)
 |7=>(.eqNil false (.pointer 228) (.pointer none))
 |8=>(.bin .eql)
 |9=> .chkp
 |10=>(.fld 2)
 |_=> .same
def Y5:Nat→EO
 |0=>(.cext 323)
 |1=>(.ld false 1)
 |2=>(.call 233)
 |3=>(.bi .delete #[226,3] 0 #[false,false])
 |4=>(.lh 226)
 |_=> .an
def dqa:Nat→Value
 |0=>(.int .u64 0)
 |1=>(.int .i64 0)
 |2=>(.int .i64 10)
 |3=>(.int .i64 1)
 |4=>(.int .i64 2)
 |_=>undef
def Ho:cX:=⟨bda,Y5,dqa⟩
def Ue:ai:=⟨[0,1,4,5,6,7],17,[.slot 2,.slot 3],aP Ho [] 0x39e6ffda6764810d0102a2f02cbff699d9208348009c6d5d40405098d404050a789c71a676566cc11559b30049b3066cc05350100500009da6764810d2002⟩
theorem OK:aj E0 233 400=some Ue:=by kernel_rfl
def TH:ai:=⟨[0,2,3,4,6,7,8,9,10,11],27,[.slot 1,.slot 2],aP Ho [] 0xb39e6ffda6764810900c1b6ee677375750d0f86fb50d0f86b6ce67dd0143a2f02cbff699d9018248005c6d5d41406098d414060a789c71a676566cc11959b30059b3066cc0f444030a7ef7cc4d3df901c507df901c5068bc2bc071b57de90f8463de90f8402771a659d9207e57c0fa4001fc0e7dd20039da676481092001⟩
theorem N7:aj E0 158 400=some TH:=by kernel_rfl
def Um:ai:=⟨[0,1,4],9,[.slot 2],aP Ho [] 0x39e6fff74810a8bc0b2fff748409c6d5d43401118d43401128bc0b2fff748309c6d5f0763c1e7dd2042⟩
theorem Pc:aj E0 302 400=some Um:=by kernel_rfl
def Us:ai:=⟨[0,1,2],19,[],aP Ho [] 0x2c9dcee269853d090073134d3cf8a041d3cf8a07cfa8bc0b2ffdcee2698f41cc3d34f3e281074f3e281f3e71b5750100ba6350100ba⟩
theorem Pk:aj E0 309 400=some Us:=by kernel_rfl
def JM:Array Value→Sem Value:=fun args=>do
  let (x,y,c)←Extern.MathBitsCarry.three "Add64" args
  pure (Extern.MathBitsCarry.pair ((x+y+c) %Extern.MathBitsCarry.m64) ((x+y+c) /Extern.MathBitsCarry.m64))
theorem R6:Extern.find Tryz.f323=some JM:=by kernel_rfl
theorem cDa {P:Program} (x y:Nat) (w:World):(JM #[.int .u64 x,.int .u64 y,.int .u64 0]).run P w=
  .ok (.tuple #[.int .u64 (((x+y+0) %18446744073709551616:Nat):Int),.int .u64 (((x+y+0) /18446744073709551616:Nat):Int)]) w:=rfl
theorem H0 {x y:Int} {K:Value→World→Prop} {w:World} (hx:0≤x∧x<18446744073709551616) (hy:0≤y∧y<18446744073709551616)
  (hk:K (.tuple #[.int .u64 ((x+y) %18446744073709551616),.int .u64 ((x+y) /18446744073709551616)]) w):
  aG Tryz.prog (.cext 323) [.int .u64 x,.int .u64 y,.int .u64 0] K w:=by
 intro _;unfold fS;have h:=run_callFunc_extern (P:=Tryz.prog) (f:=323) (fn:=Tryz.f323) Tryz.func323 (by kernel_rfl) (by kernel_rfl) (by kernel_rfl) R6 #[.int .u64 x,.int .u64 y,.int .u64 0] w;simp only [EO.ma];rw [h];obtain ⟨a,rfl⟩:∃a:Nat,x=a:=⟨x.toNat,by omega⟩;obtain ⟨b,rfl⟩:∃b:Nat,y=b:=⟨y.toNat,by omega⟩;have hr:=cDa (P:=Tryz.prog) a b w;have e1:(((a+b+0) %18446744073709551616:Nat):Int)=((a:Int)+b) %18446744073709551616:=by omega
 have e2:(((a+b+0) /18446744073709551616:Nat):Int)=((a:Int)+b) /18446744073709551616:=by omega
 rw [e1,e2] at hr;rw [hr];exact hk
theorem Jv (x y:Int) (w:World) (hx:0≤x∧x<18446744073709551616) (hy:0≤y∧y<18446744073709551616):
  ak Tryz.prog 233 [.int .u64 x,.int .u64 y] (fun r w'=>r= .tuple #[.int .u64 (if x+y<18446744073709551616 then x+y else 0),.int .i64 (if x+y<18446744073709551616 then 0 else 10)]∧w'=w) w:=by
 refine aB OK (by simp [Ue]) ?_;simp [Ue];refine H0 hx hy ?_;simp
 by_cases h:x+y<18446744073709551616
 ·have e1:(x+y) /18446744073709551616=0:=by omega
  have e2:(x+y) %18446744073709551616=x+y:=by omega
  simp [h,e1,e2]
 ·have e1:(x+y) /18446744073709551616=1:=by omega
  simp [h,e1]
theorem B4:pY Tryz.prog 226 3 31 (.int .u64 0):=⟨by kernel_rfl,by kernel_rfl,by kernel_rfl⟩
abbrev lY (s p g m:Nat):al:=pt s (.cells #[.pointer (some ⟨p,0,none⟩),.pointer (some ⟨g,0,none⟩),.map (some m)] 228 (0,0))
def ft (s p g:Nat) (l:List Rw):al:=Ia fun m=>lY s p g m*S5 m l
theorem tR {w0 w:World} {A:al} {s p g:Nat} {l:List Rw} (h:St w0 (A*ft s p g l) w):∃m es c,EH es c l∧St w0 (A*lY s p g m*ay m es c) w:=by
 obtain ⟨m,h⟩:=mu h;rw [←au] at h;obtain ⟨es,c,hE,h⟩:=Iq h;exact ⟨m,es,c,hE,h⟩
theorem kd {w0 w:World} {A:al} {s p g m:Nat} {l:List Rw} {es:List En} {c:Nat} (hE:EH es c l) (h:St w0 (A*lY s p g m*ay m es c) w):St w0 (A*ft s p g l) w:=by
 refine tT m ?_;rw [←au];exact EV hE h
def sY (c:Int):Int:=if c<1 then 2 else 0
theorem DU (q:Nat) (c:Int) (w:World):ak Tryz.prog 302 [.pointer (some ⟨q,0,none⟩),.int .i64 c] (fun r w'=>r= .int .i64 (sY c)∧w'=w) w:=by
 refine aB Pc (by simp [Um]) ?_;simp [Um,fU,sY]
theorem uX (s p g:Nat) (l:List Rw) (k v:Int) (w0 w:World) (A:al) (ok:fo l) (h:St w0 (A*ft s p g l) w):
  ak Tryz.prog 309 [.pointer (some ⟨s,0,none⟩),.int .i64 k,.int .u64 v] (fun _ w'=>St w0 (A*ft s p g (fw k v l)) w') w:=by
 obtain ⟨m,es,c,hE,h⟩:=tR h;have hm:w.cell? ⟨s,2,none⟩=some (.map (some m)):=(cell_of h.swap.look).trans rfl;refine aB Pk (by simp [Us]) ?_;simp [Us];refine aM (fun hv=> ?_) (fun hv=> ?_)
 ·simp at hv
  simp;refine ae hm ?_;simp;refine BO B4 h fun w1 h1=> ?_;simp;have:=kd (hE.del k) h1
  simpa [fw,hv] using this
 ·simp at hv
  simp;refine ae hm ?_;simp;cases hg:cO es k with
  |none=>
   refine kD B4 h hg fun w1 h1=> ?_;simp;have:=kd (hE.put hg ((hE.get ok k).2.1 hg)) h1
   simpa [fw,hv] using this
  |some u=>
   refine wN B4 h hg fun w1 h1=> ?_;simp;have:=kd (hE.lh hg) h1
   simpa [fw,hv] using this
theorem vp (Br n:Nat) (v f:Value) (fs:List Value) (w0 w:World) (A:al) (h1:f.oneCell'=true) (hn:n≤16777216) (s:St w0 (A*pt Br (.cells #[v] 353 (0,0))*own 1 1 v n fs) w):
  ak Tryz.prog 303 [f,.pointer (some ⟨Br,0,none⟩)] (fun _ w'=>∃v',St w0 (A*pt Br (.cells #[v'] 353 (0,0))*own 1 1 v' (n+1) (fs++ [f])) w') w:=by
 refine aB Pd (by simp [Un]) ?_;simp [Un];refine ae (v:=v) ((cell_of s.swap.look).trans rfl) ?_;simp;refine ch s h1 fun c w1 s1=> ?_;simp;refine bu (m:=1) (news:= [f]) s1.swap rfl s1.aH (by simp [h1]) (by decide) rfl (by unfold maxLen;omega) (by omega) fun v' w2 s2=> ?_;simp;have hv:v'.oneCell'=true:=by obtain ⟨a,cap,rfl,_⟩:=s2.aw;rfl
 have s3:St w0 (A*pt c (.cells #[f] 1 (0,0))*own 1 1 v' (n+1) (fs++ [f])*pt Br (.cells #[v] 353 (0,0))) w2:=s2.to (by ac_rfl);refine aU s3 hv (by simp) fun w3 s4=> ?_;simp;exact ⟨v',s4.cut (pt c (.cells #[f] 1 (0,0))) (by simp;ac_rfl)⟩
structure Gf where
 to:Int
 item:Int
 ab:Int
def Gf.cs (x:Gf):List Value:= [.int .i64 x.to,.int .i64 x.item,.int .u64 x.ab]
abbrev jW (b4 b5 b6 s:Nat) (c:Int) (x:Gf):al:=
 pt b4 (.cells #[.pointer (some ⟨s,0,none⟩)] 105 (0,0))*pt b5 (.cells #[.int .i64 c] 3 (0,0))*pt b6 (.cells x.cs.toArray 90 (0,0))
theorem kr {w0 w:World} {A Z:al} {b4 b5 b6 s p g:Nat} {c:Int} {x:Gf} {l:List Rw} (h:St w0 (A*jW b4 b5 b6 s c x*ft s p g l*Z) w):
  w.cell? ⟨b4,0,none⟩=some (.pointer (some ⟨s,0,none⟩))∧w.cell? ⟨b5,0,none⟩=some (.int .i64 c)∧w.cell? ⟨b6,0,none⟩=some (.int .i64 x.to)∧w.cell? ⟨b6,1,none⟩=some (.int .i64 x.item)∧
  w.cell? ⟨b6,2,none⟩=some (.int .u64 x.ab)∧w.cell? ⟨s,0,none⟩=some (.pointer (some ⟨p,0,none⟩))∧w.cell? ⟨s,1,none⟩=some (.pointer (some ⟨g,0,none⟩)):=by
 have h':St w0 (A*pt b4 (.cells #[.pointer (some ⟨s,0,none⟩)] 105 (0,0))*pt b5 (.cells #[.int .i64 c] 3 (0,0))*pt b6 (.cells x.cs.toArray 90 (0,0))*Z*ft s p g l) w:=h.to (by simp only [jW];ac_rfl);obtain ⟨m,es,cl,hE,h'⟩:=tR h';have f4:=h'.drop.drop.drop.drop.drop.look;have f5:=h'.drop.drop.drop.drop.look;have f6:=h'.drop.drop.drop.look;have fs:=h'.drop.look;exact ⟨(cell_of f4).trans rfl,(cell_of f5).trans rfl,(cell_of f6).trans rfl,(cell_of f6).trans rfl,(cell_of f6).trans rfl,(cell_of fs).trans rfl,(cell_of fs).trans rfl⟩
def bea:Nat→PO
 |0=> .chkp
 |1=>(.fld 1)
 |2=>(.fld 0)
 |3=>(.fld 2)
 |_=> .same
def Y6:Nat→EO
 |0=>(.ld false 1)
 |1=>(.call 308)
 |2=>(.call 307)
 |3=>(.call 309)
 |_=> .an
def dra:Nat→Value
 |_=>undef
def Rk:cX:=⟨bea,Y6,dra⟩
def UC:ai:=⟨[0,1,2],11,[],aP Rk [] 0xa6273bee289a614c910d10b8071080d31041031041d349b30010349b30019b303c003⟩
theorem PH:aj E0 367 400=some UC:=by kernel_rfl
def UE:ai:=⟨[0,1,2,3],17,[],aP Rk [] 0xb278a28a2698532442e330f10c0c4203c02989cefbee2698532443442e02d31043031043d31042031042d349b30020349b30029b303c003⟩
theorem PL:aj E0 369 400=some UE:=by kernel_rfl
theorem FD (b4 b5 b6 s p g:Nat) (c lim:Int) (x:Gf) (af:List Gd.It) (l:List Rw) (w0 w:World) (A:al) (hl:af.length≤1048576) (h:St w0 (A*jW b4 b5 b6 s c x*ft s p g l*Gd.bD g lim af) w):
  ak Tryz.prog 367 [.pointer (some ⟨b4,0,none⟩),.pointer (some ⟨b6,0,none⟩),.pointer (some ⟨b5,0,none⟩)]
   (fun _ w'=>St w0 (A*jW b4 b5 b6 s c x*ft s p g l*Gd.bD g lim (Gd.fC af x.item c).2) w') w:=by
 refine aB PH (by simp [UC]) ?_;simp [UC];have hf:=fun {Z:al} {w:World} (h:St w0 (A*jW b4 b5 b6 s c x*ft s p g l*Z) w)=>kr h;have hH:=fun {w:World} (h:St w0 (A*jW b4 b5 b6 s c x*ft s p g l*Gd.bD g lim af) w)=>Gd.wb g lim af x.item c w0 w _ hl h;generalize A*jW b4 b5 b6 s c x*ft s p g l=B at*;refine jF (Pu.rm (St w0 (B*Gd.bD g lim af)) (St w0 (B*Gd.bD g lim (Gd.fC af x.item c).2))) h.drew ?_;simp;refine aq (v:= .pointer (some ⟨s,0,none⟩)) (fun vs' w he hw=>Pu.bU (fun h=>(hf h).1) (fun h=>(hf h).1) hw) ?_;simp;refine aq (v:= .pointer (some ⟨g,0,none⟩)) (fun vs' w he hw=>Pu.bU (fun h=>(hf h).2.2.2.2.2.2) (fun h=>(hf h).2.2.2.2.2.2) hw) ?_;simp;refine aq (v:= .int .i64 x.item) (fun vs' w he hw=>Pu.bU (fun h=>(hf h).2.2.2.1) (fun h=>(hf h).2.2.2.1) hw) ?_;simp;refine aq (v:= .int .i64 c) (fun vs' w he hw=>Pu.bU (fun h=>(hf h).2.1) (fun h=>(hf h).2.1) hw) ?_;simp
 refine bw (by rfl) (fun w hw=> ?_) (fun r hr=> ?_)
 ·rw [Pu.ku] at hw
  refine ad ((hH hw).mono ?_);rintro r w' ⟨_,h⟩;exact h
 simp
theorem FE (b4 b5 b6 b7 s p g:Nat) (c u:Int) (x:Gf) (P:Pu.Ps) (l:List Rw) (w0 w:World) (A:al) (hP:Pu.Bd P) (hc:0≤x.ab∧x.ab<18446744073709551616) (ok:fo l)
  (h:St w0 (A*pt b7 (.cells #[.int .u64 u] 31 (0,0))*jW b4 b5 b6 s c x*ft s p g l*Pu.bE p P) w):
  ak Tryz.prog 369 [.pointer (some ⟨b4,0,none⟩),.pointer (some ⟨b6,0,none⟩),.pointer (some ⟨b5,0,none⟩),.pointer (some ⟨b7,0,none⟩)]
   (fun _ w'=>St w0 (A*pt b7 (.cells #[.int .u64 u] 31 (0,0))*jW b4 b5 b6 s c x*ft s p g (fw c u l)*Pu.bE p (Pu.bJ P x.to x.ab).2) w') w:=by
 refine aB PL (by simp [UE]) ?_;simp [UE];generalize hA:A*pt b7 (.cells #[.int .u64 u] 31 (0,0))=A1 at h⊢
 have hf:=fun {Z:al} {w:World} (h:St w0 (A1*jW b4 b5 b6 s c x*ft s p g l*Z) w)=>kr h;have hT:=fun {w:World} (h:St w0 (A1*jW b4 b5 b6 s c x*ft s p g l*Pu.bE p P) w)=>Pu.wg p P x.to x.ab w0 w _ hP hc h;refine jF (Pu.rm (St w0 (A1*jW b4 b5 b6 s c x*ft s p g l*Pu.bE p P)) (St w0 (A1*jW b4 b5 b6 s c x*ft s p g l*Pu.bE p (Pu.bJ P x.to x.ab).2))) h.drew ?_;simp;refine aq (v:= .pointer (some ⟨s,0,none⟩)) (fun vs' w he hw=>Pu.bU (fun h=>(hf h).1) (fun h=>(hf h).1) hw) ?_;simp;refine aq (v:= .pointer (some ⟨p,0,none⟩)) (fun vs' w he hw=>Pu.bU (fun h=>(hf h).2.2.2.2.2.1) (fun h=>(hf h).2.2.2.2.2.1) hw) ?_;simp;refine aq (v:= .int .i64 x.to) (fun vs' w he hw=>Pu.bU (fun h=>(hf h).2.2.1) (fun h=>(hf h).2.2.1) hw) ?_;simp;refine aq (v:= .int .u64 x.ab) (fun vs' w he hw=>Pu.bU (fun h=>(hf h).2.2.2.2.1) (fun h=>(hf h).2.2.2.2.1) hw) ?_;simp;refine bw (by rfl) (fun w hw=> ?_) (fun r hr=> ?_)
 ·rw [Pu.ku] at hw
  refine ad ((hT hw).mono ?_);rintro r w' ⟨_,h⟩;exact h
 simp;intro w2 h2;have f7:w2.cell? ⟨b7,0,none⟩=some (.int .u64 u):=by
  rw [←hA] at h2;exact (cell_of (h2.to (B:=A*jW b4 b5 b6 s c x*ft s p g l*Pu.bE p (Pu.bJ P x.to x.ab).2*pt b7 (.cells #[.int .u64 u] 31 (0,0))) (by ac_rfl)).look).trans rfl
 refine ae (hf h2).1 ?_;simp;refine ae (hf h2).2.1 ?_;simp;refine ae f7 ?_;simp;refine ad ((uX s p g l c u w0 w2 _ ok h2.swap).mono ?_);intro r w3 h3;simp;exact h3.swap
structure b9 where
 P:Pu.Ps
 af:List Gd.It
 l:List Rw
deriving DecidableEq
abbrev aI (p g s:Nat) (lim:Int) (E:b9):al:=Pu.bE p E.P*Gd.bD g lim E.af*ft s p g E.l
def cC (c:Int) (x:Gf) (E:b9):Int×b9:=
 if (Pu.aD E.P x.to).2≠0 then (142,E)
 else if x.item≠0∧((Gd.aD E.af x.item).2≠0∨(Gd.aD E.af x.item).1.bA≠c) then (170,E)
 else if bX E.l c<x.ab then (170,E)
 else (0,⟨(Pu.bo E.P x.to x.ab).2,if x.item≠0 then (Gd.fk E.af x.item x.to).2 else E.af,fw c (bX E.l c -x.ab) E.l⟩)
structure Et where
 acc:Int
 item:Int
 ab:Int
def aQ (c:Int) (x:Et) (E:b9):Int×b9:=
 if (Pu.aD E.P x.acc).2≠0 then (142,E)
 else if x.item≠0∧((Gd.aD E.af x.item).2≠0∨(Gd.aD E.af x.item).1.bA≠0∨(Gd.aD E.af x.item).1.acc≠x.acc) then (151,E)
 else if (Pu.bJ E.P x.acc x.ab).1≠0 then ((Pu.bJ E.P x.acc x.ab).1,E)
 else (0,⟨(Pu.bJ E.P x.acc x.ab).2,if x.item≠0 then (Gd.fC E.af x.item c).2 else E.af,fw c (bX E.l c+x.ab) E.l⟩)
def hVa (b4 b5 b6 b7:Nat) (x:Gf):List Value:=
 (if x.item≠0 then [.func (.func 367) #[] #[.pointer (some ⟨b4,0,none⟩),.pointer (some ⟨b6,0,none⟩),.pointer (some ⟨b5,0,none⟩)]] else [])++
  [.func (.func 369) #[] #[.pointer (some ⟨b4,0,none⟩),.pointer (some ⟨b6,0,none⟩),.pointer (some ⟨b5,0,none⟩),.pointer (some ⟨b7,0,none⟩)]]
noncomputable abbrev E1:PF Tryz.prog:=(PF.none _).quiet [169,129]
def zr:HC:=(.seq (.reg (.done [(7,(.cst (.int .i64 0)))] none)) .ret)
@[simp] theorem Xa:type_of%(@aF zr _ zr.eq_1):=aF zr.eq_1
def zt:HC:=(.seq (.reg (.chk none (.mkf (.func 369) 0) (.cons (.inp 4) (.cons (.inp 6) (.cons (.inp 5) (.cons (.inp 11) .nil)))) (.eff .callv (.cons (.inp 3) (.cons (.op (.mkf (.func 369) 0) (.cons (.inp 4) (.cons (.inp 6) (.cons (.inp 5) (.cons (.inp 11) .nil))))) .nil)) (.done [] none)))) zr)
@[simp] theorem Xb:type_of%(@aF zt _ zt.eq_1):=aF zt.eq_1
def zu:HC:=(.seq (.reg (.eff (.ld false 1) (.cons (.inp 4) .nil) (.eff (.ld false 1) (.cons (.inp 5) .nil) (.eff (.call 309) (.cons (.bv 0) (.cons (.bv 1) (.cons (.inp 12) .nil))) (.done [] none))))) zt)
@[simp] theorem Xc:type_of%(@aF zu _ zu.eq_1):=aF zu.eq_1
def um:HC:=(.seq (.regq (.some 1) (.eff (.ld false 1) (.cons (.inp 4) .nil) (.chk none .chkp (.cons (.bv 0) .nil) (.chk none (.fld 0) (.cons (.op .chkp (.cons (.bv 0) .nil)) .nil) (.eff (.ld false 1) (.cons (.op (.fld 0) (.cons (.op .chkp (.cons (.bv 0) .nil)) .nil)) .nil) (.chk none (.fld 0) (.cons (.inp 6) .nil) (.eff (.ld false 1) (.cons (.op (.fld 0) (.cons (.inp 6) .nil)) .nil) (.chk none (.fld 2) (.cons (.inp 6) .nil) (.eff (.ld false 1) (.cons (.op (.fld 2) (.cons (.inp 6) .nil)) .nil) (.eff (.call 368) (.cons (.bv 1) (.cons (.bv 2) (.cons (.bv 3) .nil))) (.done [] none))))))))))) zu)
@[simp] theorem Xd:type_of%(@aF um _ um.eq_1):=aF um.eq_1
def zv:HC:=(.reg (.chk none (.mkf (.func 367) 0) (.cons (.inp 4) (.cons (.inp 6) (.cons (.inp 5) .nil))) (.eff .callv (.cons (.inp 3) (.cons (.op (.mkf (.func 367) 0) (.cons (.inp 4) (.cons (.inp 6) (.cons (.inp 5) .nil)))) .nil)) (.done [] none))))
@[simp] theorem Xe:type_of%(@aF zv _ zv.eq_1):=aF zv.eq_1
def zw:HC:=(.seq (.regq (.some 1) (.eff (.ld false 1) (.cons (.inp 4) .nil) (.chk none .chkp (.cons (.bv 0) .nil) (.chk none (.fld 1) (.cons (.op .chkp (.cons (.bv 0) .nil)) .nil) (.eff (.ld false 1) (.cons (.op (.fld 1) (.cons (.op .chkp (.cons (.bv 0) .nil)) .nil)) .nil) (.chk none (.fld 1) (.cons (.inp 6) .nil) (.eff (.ld false 1) (.cons (.op (.fld 1) (.cons (.inp 6) .nil)) .nil) (.chk none (.fld 0) (.cons (.inp 6) .nil) (.eff (.ld false 1) (.cons (.op (.fld 0) (.cons (.inp 6) .nil)) .nil) (.eff (.call 366) (.cons (.bv 1) (.cons (.bv 2) (.cons (.bv 3) .nil))) (.done [] none))))))))))) zv)
@[simp] theorem Xf:type_of%(@aF zw _ zw.eq_1):=aF zw.eq_1
def uo:HC:=(.seq (.br (.chk none (.fld 1) (.cons (.inp 6) .nil) (.eff (.ld false 1) (.cons (.op (.fld 1) (.cons (.inp 6) .nil)) .nil) (.chk none (.bin .neq) (.cons (.bv 0) (.cons (.cst (.int .i64 0)) .nil)) (.done [] (some (.op (.bin .neq) (.cons (.bv 0) (.cons (.cst (.int .i64 0)) .nil)))))))) zw .skip) um)
@[simp] theorem Xg:type_of%(@aF uo _ uo.eq_1):=aF uo.eq_1
def zx:HC:=(.seq (.reg (.done [(7,(.cst (.int .i64 170)))] none)) .ret)
@[simp] theorem Xh:type_of%(@aF zx _ zx.eq_1):=aF zx.eq_1
def zy:HC:=(.seq (.br (.chk none (.bin .neq) (.cons (.inp 13) (.cons (.cst (.int .i64 0)) .nil)) (.done [] (some (.op (.bin .neq) (.cons (.inp 13) (.cons (.cst (.int .i64 0)) .nil)))))) zx .skip) uo)
@[simp] theorem Xi:type_of%(@aF zy _ zy.eq_1):=aF zy.eq_1
def zz:HC:=(.seq (.reg (.eff (.ld false 1) (.cons (.inp 11) .nil) (.chk none (.fld 2) (.cons (.inp 6) .nil) (.eff (.ld false 1) (.cons (.op (.fld 2) (.cons (.inp 6) .nil)) .nil) (.eff (.call 128) (.cons (.bv 0) (.cons (.bv 1) .nil)) (.chk none (.ext 0) (.cons (.bv 2) .nil) (.chk none (.ext 1) (.cons (.bv 2) .nil) (.done [(12,(.op (.ext 0) (.cons (.bv 2) .nil))),(13,(.op (.ext 1) (.cons (.bv 2) .nil)))] none)))))))) zy)
@[simp] theorem Xj:type_of%(@aF zz _ zz.eq_1):=aF zz.eq_1
def po:HC:=(.seq (.regq (.some 2) (.eff (.ld false 1) (.cons (.inp 4) .nil) (.chk none .chkp (.cons (.bv 0) .nil) (.chk none (.fld 2) (.cons (.op .chkp (.cons (.bv 0) .nil)) .nil) (.eff (.ld false 1) (.cons (.op (.fld 2) (.cons (.op .chkp (.cons (.bv 0) .nil)) .nil)) .nil) (.eff (.ld false 1) (.cons (.inp 5) .nil) (.eff (.look 226 false) (.cons (.bv 1) (.cons (.bv 2) .nil)) (.eff (.new 31 (.int .u64 0)) .nil (.eff (.st 1) (.cons (.bv 4) (.cons (.bv 3) .nil)) (.done [(11,(.bv 4))] none)))))))))) zz)
@[simp] theorem SK:type_of%(@aF po _ po.eq_1):=aF po.eq_1
def sm:HC:=(.seq (.reg (.done [(7,(.cst (.int .i64 170)))] none)) .ret)
@[simp] theorem SL:type_of%(@aF sm _ sm.eq_1):=aF sm.eq_1
def so:HC:=(.br (.chk none (.bin .neq) (.cons (.inp 10) (.cons (.cst (.int .i64 0)) .nil)) (.fL (.op (.bin .neq) (.cons (.inp 10) (.cons (.cst (.int .i64 0)) .nil))) (.chk (some ((.bv 0),false)) (.fld 3) (.cons (.inp 9) .nil) (.ite (.bv 0) false (.eff (.ld false 1) (.cons (.ite (.bv 0) false (.op (.fld 3) (.cons (.inp 9) .nil)) (.cst (.tuple #[]))) .nil) (.eff (.ld false 1) (.cons (.inp 5) .nil) (.chk none (.bin .neq) (.cons (.bv 1) (.cons (.bv 2) .nil)) (.isb none (.bv 0) (.done [] (some (.op (.bin .neq) (.cons (.bv 1) (.cons (.bv 2) .nil))))))))) (.isb none (.bv 0) (.done [] (some (.cst (.bool true))))))))) sm .skip)
@[simp] theorem SM:type_of%(@aF so _ so.eq_1):=aF so.eq_1
def sq:HC:=(.seq (.regq (.some 2) (.eff (.ld false 1) (.cons (.inp 4) .nil) (.chk none .chkp (.cons (.bv 0) .nil) (.chk none (.fld 1) (.cons (.op .chkp (.cons (.bv 0) .nil)) .nil) (.eff (.ld false 1) (.cons (.op (.fld 1) (.cons (.op .chkp (.cons (.bv 0) .nil)) .nil)) .nil) (.chk none (.fld 1) (.cons (.inp 6) .nil) (.eff (.ld false 1) (.cons (.op (.fld 1) (.cons (.inp 6) .nil)) .nil) (.eff (.call 129) (.cons (.bv 1) (.cons (.bv 2) .nil)) (.chk none (.ext 0) (.cons (.bv 3) .nil) (.chk none (.ext 1) (.cons (.bv 3) .nil) (.eff (.new 123 (.agg #[(.int .i64 0),(.int .i64 0),(.int .i64 0),(.int .i64 0)])) .nil (.eff (.st 4) (.cons (.bv 4) (.cons (.op (.ext 0) (.cons (.bv 3) .nil)) .nil)) (.done [(9,(.bv 4)),(10,(.op (.ext 1) (.cons (.bv 3) .nil)))] none))))))))))))) so)
@[simp] theorem SN:type_of%(@aF sq _ sq.eq_1):=aF sq.eq_1
def sr:HC:=(.seq (.br (.chk none (.fld 1) (.cons (.inp 6) .nil) (.eff (.ld false 1) (.cons (.op (.fld 1) (.cons (.inp 6) .nil)) .nil) (.chk none (.bin .neq) (.cons (.bv 0) (.cons (.cst (.int .i64 0)) .nil)) (.done [] (some (.op (.bin .neq) (.cons (.bv 0) (.cons (.cst (.int .i64 0)) .nil)))))))) sq .skip) po)
@[simp] theorem SO:type_of%(@aF sr _ sr.eq_1):=aF sr.eq_1
def su:HC:=(.seq (.reg (.done [(7,(.inp 8))] none)) .ret)
@[simp] theorem SP:type_of%(@aF su _ su.eq_1):=aF su.eq_1
def sx:HC:=(.seq (.br (.chk none (.bin .neq) (.cons (.inp 8) (.cons (.cst (.int .i64 0)) .nil)) (.done [] (some (.op (.bin .neq) (.cons (.inp 8) (.cons (.cst (.int .i64 0)) .nil)))))) su .skip) sr)
@[simp] theorem SQ:type_of%(@aF sx _ sx.eq_1):=aF sx.eq_1
def sy:HC:=(.seq (.regq (.some 2) (.eff (.ld false 1) (.cons (.inp 4) .nil) (.chk none .chkp (.cons (.bv 0) .nil) (.chk none (.fld 0) (.cons (.op .chkp (.cons (.bv 0) .nil)) .nil) (.eff (.ld false 1) (.cons (.op (.fld 0) (.cons (.op .chkp (.cons (.bv 0) .nil)) .nil)) .nil) (.chk none (.fld 0) (.cons (.inp 6) .nil) (.eff (.ld false 1) (.cons (.op (.fld 0) (.cons (.inp 6) .nil)) .nil) (.eff (.call 169) (.cons (.bv 1) (.cons (.bv 2) .nil)) (.chk none (.ext 0) (.cons (.bv 3) .nil) (.chk none (.ext 1) (.cons (.bv 3) .nil) (.eff (.new 139 (.agg #[(.string ⟨#[]⟩),(.int .u64 0)])) .nil (.eff (.st 2) (.cons (.bv 4) (.cons (.op (.ext 0) (.cons (.bv 3) .nil)) .nil)) (.done [(8,(.op (.ext 1) (.cons (.bv 3) .nil)))] none))))))))))))) sx)
@[simp] theorem SR:type_of%(@aF sy _ sy.eq_1):=aF sy.eq_1
def Up:ai:=⟨[0,1,2,3,4,5,6,8,10,11,12,13,14,15],96,[.slot 7],(.seq (.reg (.eff (.box 105) (.cons (.inp 0) .nil) (.eff (.box 3) (.cons (.inp 1) .nil) (.eff (.box 90) (.cons (.inp 2) .nil) (.done [(4,(.bv 0)),(5,(.bv 1)),(6,(.bv 2)),(7,(.cst (.int .i64 0)))] none))))) sy)⟩
theorem Pg:aj E1 306 400=some Up:=by kernel_rfl
def zj:HC:=(.seq (.reg (.done [(4,(.cst (.int .i64 0)))] none)) .ret)
@[simp] theorem WV:type_of%(@aF zj _ zj.eq_1):=aF zj.eq_1
def uj:HC:=(.seq (.regq (.some 1) (.chk none .chkp (.cons (.inp 0) .nil) (.chk none (.fld 2) (.cons (.op .chkp (.cons (.inp 0) .nil)) .nil) (.eff (.ld false 1) (.cons (.op (.fld 2) (.cons (.op .chkp (.cons (.inp 0) .nil)) .nil)) .nil) (.eff (.look 226 false) (.cons (.bv 0) (.cons (.inp 1) .nil)) (.chk none (.fld 2) (.cons (.inp 3) .nil) (.eff (.ld false 1) (.cons (.op (.fld 2) (.cons (.inp 3) .nil)) .nil) (.chk none (.bin .add) (.cons (.bv 1) (.cons (.bv 2) .nil)) (.eff (.call 309) (.cons (.inp 0) (.cons (.inp 1) (.cons (.op (.bin .add) (.cons (.bv 1) (.cons (.bv 2) .nil))) .nil))) (.done [] none)))))))))) zj)
@[simp] theorem WW:type_of%(@aF uj _ uj.eq_1):=aF uj.eq_1
def zk:HC:=(.regq (.some 1) (.chk none .chkp (.cons (.inp 0) .nil) (.chk none (.fld 1) (.cons (.op .chkp (.cons (.inp 0) .nil)) .nil) (.eff (.ld false 1) (.cons (.op (.fld 1) (.cons (.op .chkp (.cons (.inp 0) .nil)) .nil)) .nil) (.chk none (.fld 1) (.cons (.inp 3) .nil) (.eff (.ld false 1) (.cons (.op (.fld 1) (.cons (.inp 3) .nil)) .nil) (.eff (.call 308) (.cons (.bv 0) (.cons (.bv 1) (.cons (.inp 1) .nil))) (.done [] none))))))))
@[simp] theorem WX:type_of%(@aF zk _ zk.eq_1):=aF zk.eq_1
def zl:HC:=(.seq (.br (.chk none (.fld 1) (.cons (.inp 3) .nil) (.eff (.ld false 1) (.cons (.op (.fld 1) (.cons (.inp 3) .nil)) .nil) (.chk none (.bin .neq) (.cons (.bv 0) (.cons (.cst (.int .i64 0)) .nil)) (.done [] (some (.op (.bin .neq) (.cons (.bv 0) (.cons (.cst (.int .i64 0)) .nil)))))))) zk .skip) uj)
@[simp] theorem WY:type_of%(@aF zl _ zl.eq_1):=aF zl.eq_1
def zm:HC:=(.seq (.reg (.done [(4,(.inp 8))] none)) .ret)
@[simp] theorem WZ:type_of%(@aF zm _ zm.eq_1):=aF zm.eq_1
def zn:HC:=(.seq (.br (.chk none (.bin .neq) (.cons (.inp 8) (.cons (.cst (.int .i64 0)) .nil)) (.done [] (some (.op (.bin .neq) (.cons (.inp 8) (.cons (.cst (.int .i64 0)) .nil)))))) zm .skip) zl)
@[simp] theorem W5:type_of%(@aF zn _ zn.eq_1):=aF zn.eq_1
def uk:HC:=(.seq (.regq (.some 1) (.chk none .chkp (.cons (.inp 0) .nil) (.chk none (.fld 0) (.cons (.op .chkp (.cons (.inp 0) .nil)) .nil) (.eff (.ld false 1) (.cons (.op (.fld 0) (.cons (.op .chkp (.cons (.inp 0) .nil)) .nil)) .nil) (.chk none (.fld 0) (.cons (.inp 3) .nil) (.eff (.ld false 1) (.cons (.op (.fld 0) (.cons (.inp 3) .nil)) .nil) (.chk none (.fld 2) (.cons (.inp 3) .nil) (.eff (.ld false 1) (.cons (.op (.fld 2) (.cons (.inp 3) .nil)) .nil) (.eff (.call 307) (.cons (.bv 0) (.cons (.bv 1) (.cons (.bv 2) .nil))) (.done [(8,(.bv 3))] none)))))))))) zn)
@[simp] theorem W6:type_of%(@aF uk _ uk.eq_1):=aF uk.eq_1
def zo:HC:=(.seq (.reg (.done [(4,(.cst (.int .i64 151)))] none)) .ret)
@[simp] theorem W7:type_of%(@aF zo _ zo.eq_1):=aF zo.eq_1
def zp:HC:=(.br (.chk none (.bin .neq) (.cons (.inp 7) (.cons (.cst (.int .i64 0)) .nil)) (.fL (.op (.bin .neq) (.cons (.inp 7) (.cons (.cst (.int .i64 0)) .nil))) (.chk (some ((.bv 0),false)) (.fld 3) (.cons (.inp 6) .nil) (.ite (.bv 0) false (.eff (.ld false 1) (.cons (.ite (.bv 0) false (.op (.fld 3) (.cons (.inp 6) .nil)) (.cst (.tuple #[]))) .nil) (.chk none (.bin .neq) (.cons (.bv 1) (.cons (.cst (.int .i64 0)) .nil)) (.isb none (.bv 0) (.fL (.op (.bin .neq) (.cons (.bv 1) (.cons (.cst (.int .i64 0)) .nil))) (.chk (some ((.bv 2),false)) (.fld 2) (.cons (.inp 6) .nil) (.ite (.bv 2) false (.eff (.ld false 1) (.cons (.ite (.bv 2) false (.op (.fld 2) (.cons (.inp 6) .nil)) (.cst (.tuple #[]))) .nil) (.chk none (.fld 0) (.cons (.inp 3) .nil) (.eff (.ld false 1) (.cons (.op (.fld 0) (.cons (.inp 3) .nil)) .nil) (.chk none (.bin .neq) (.cons (.bv 3) (.cons (.bv 4) .nil)) (.isb none (.bv 2) (.done [] (some (.op (.bin .neq) (.cons (.bv 3) (.cons (.bv 4) .nil)))))))))) (.isb none (.bv 2) (.done [] (some (.cst (.bool true))))))))))) (.isb none (.bv 0) (.isb none (.cst (.bool true)) (.done [] (some (.cst (.bool true)))))))))) zo .skip)
@[simp] theorem W8:type_of%(@aF zp _ zp.eq_1):=aF zp.eq_1
def zq:HC:=(.seq (.regq (.some 2) (.chk none .chkp (.cons (.inp 0) .nil) (.chk none (.fld 1) (.cons (.op .chkp (.cons (.inp 0) .nil)) .nil) (.eff (.ld false 1) (.cons (.op (.fld 1) (.cons (.op .chkp (.cons (.inp 0) .nil)) .nil)) .nil) (.chk none (.fld 1) (.cons (.inp 3) .nil) (.eff (.ld false 1) (.cons (.op (.fld 1) (.cons (.inp 3) .nil)) .nil) (.eff (.call 129) (.cons (.bv 0) (.cons (.bv 1) .nil)) (.chk none (.ext 0) (.cons (.bv 2) .nil) (.chk none (.ext 1) (.cons (.bv 2) .nil) (.eff (.new 123 (.agg #[(.int .i64 0),(.int .i64 0),(.int .i64 0),(.int .i64 0)])) .nil (.eff (.st 4) (.cons (.bv 3) (.cons (.op (.ext 0) (.cons (.bv 2) .nil)) .nil)) (.done [(6,(.bv 3)),(7,(.op (.ext 1) (.cons (.bv 2) .nil)))] none)))))))))))) zp)
@[simp] theorem W9:type_of%(@aF zq _ zq.eq_1):=aF zq.eq_1
def si:HC:=(.seq (.br (.chk none (.fld 1) (.cons (.inp 3) .nil) (.eff (.ld false 1) (.cons (.op (.fld 1) (.cons (.inp 3) .nil)) .nil) (.chk none (.bin .neq) (.cons (.bv 0) (.cons (.cst (.int .i64 0)) .nil)) (.done [] (some (.op (.bin .neq) (.cons (.bv 0) (.cons (.cst (.int .i64 0)) .nil)))))))) zq .skip) uk)
@[simp] theorem SF:type_of%(@aF si _ si.eq_1):=aF si.eq_1
def sj:HC:=(.seq (.reg (.done [(4,(.inp 5))] none)) .ret)
@[simp] theorem SG:type_of%(@aF sj _ sj.eq_1):=aF sj.eq_1
def sk:HC:=(.seq (.br (.chk none (.bin .neq) (.cons (.inp 5) (.cons (.cst (.int .i64 0)) .nil)) (.done [] (some (.op (.bin .neq) (.cons (.inp 5) (.cons (.cst (.int .i64 0)) .nil)))))) sj .skip) si)
@[simp] theorem SH:type_of%(@aF sk _ sk.eq_1):=aF sk.eq_1
def sl:HC:=(.seq (.regq (.some 2) (.chk none .chkp (.cons (.inp 0) .nil) (.chk none (.fld 0) (.cons (.op .chkp (.cons (.inp 0) .nil)) .nil) (.eff (.ld false 1) (.cons (.op (.fld 0) (.cons (.op .chkp (.cons (.inp 0) .nil)) .nil)) .nil) (.chk none (.fld 0) (.cons (.inp 3) .nil) (.eff (.ld false 1) (.cons (.op (.fld 0) (.cons (.inp 3) .nil)) .nil) (.eff (.call 169) (.cons (.bv 0) (.cons (.bv 1) .nil)) (.chk none (.ext 0) (.cons (.bv 2) .nil) (.chk none (.ext 1) (.cons (.bv 2) .nil) (.eff (.new 139 (.agg #[(.string ⟨#[]⟩),(.int .u64 0)])) .nil (.eff (.st 2) (.cons (.bv 3) (.cons (.op (.ext 0) (.cons (.bv 2) .nil)) .nil)) (.done [(5,(.op (.ext 1) (.cons (.bv 2) .nil)))] none)))))))))))) sk)
@[simp] theorem SJ:type_of%(@aF sl _ sl.eq_1):=aF sl.eq_1
def T5:ai:=⟨[0,1,2,5,6,8,9,10,11],87,[.slot 4],(.seq (.reg (.eff (.box 34) (.cons (.inp 2) .nil) (.done [(3,(.bv 0)),(4,(.cst (.int .i64 0)))] none))) sl)⟩
theorem OA:aj E1 220 400=some T5:=by kernel_rfl
def BB (X:World→Prop) (Y Z:Nat→World→Prop):List Value→World→Prop
 | [],w=>X w
 | [v],w=>∃b,v= .pointer (some ⟨b,0,none⟩)∧Y b w
 |v::_::_,w=>∃b,v= .pointer (some ⟨b,0,none⟩)∧Z b w
theorem dt {X:World→Prop} {Y Z:Nat→World→Prop} {R:Prop} {vs:List Value} {w:World} (h1:X w→R) (h2:∀b,Y b w→R) (h3:∀b,Z b w→R) (h:BB X Y Z vs w):R:=by
 match vs,h with
 | [],h=>exact h1 h
 | [_],⟨b,_,h⟩=>exact h2 b h
 |_::_::_,⟨b,_,h⟩=>exact h3 b h
theorem nj {P:Program} {f:FuncId} {args:List Value} {r:Value} {X:World→Prop} {Y Z:Nat→World→Prop} {vs:List Value} {w:World}
  (h1:X w→ak P f args (fun u w'=>u=r∧X w') w) (h2:∀b,Y b w→ak P f args (fun u w'=>u=r∧Y b w') w) (h3:∀b,Z b w→ak P f args (fun u w'=>u=r∧Z b w') w)
  (h:BB X Y Z vs w):ak P f args (fun u w'=>u=r∧BB X Y Z vs w') w:=by
 match vs,h with
 | [],h=>exact h1 h
 | [v],⟨b,hv,h⟩=>exact (h2 b h).mono fun u w' ⟨e,h⟩=>⟨e,b,hv,h⟩
 |v::_::_,⟨b,hv,h⟩=>exact (h3 b h).mono fun u w' ⟨e,h⟩=>⟨e,b,hv,h⟩
end Go.HL.Es
namespace Go.HL
section
variable {P:Program} {K:Value→World→Prop} {w w0:World} {F:al}
def grw (e size:Nat) (v v':Value) (n m:Nat) (xs ys:List Value):al:=fun h=>
 (∃g cap,v= .slice (some ⟨g,0,none⟩) n cap∧v'= .slice (some ⟨g,0,none⟩) (n+m) cap∧xs.length=n*size∧own e size v' (n+m) (xs++ys) h)∨
 (own e size v n xs*own e size v' (n+m) (xs++ys)) h
theorem Lk {e size g n m cap:Nat} {xs ys:List Value} (hl:xs.length=n*size) {h:_} (hh:own e size (.slice (some ⟨g,0,none⟩) (n+m) cap) (n+m) (xs++ys) h):own e size (.slice (some ⟨g,0,none⟩) n cap) n xs h:=by
 refine ⟨hl,.inr ?_⟩;rcases hh.2 with ⟨h1,_⟩|⟨g',cap',cur,h1,h2,h3,h4,h5,h6⟩
 ·cases h1
 ·cases h1
  refine ⟨g,cap,cur,rfl,by omega,h3,h4,?_,h6⟩;have:(cur.toList.take ((n+m)*size)).take (n*size)=(xs++ys).take (n*size):=by rw [h5]
  rw [List.take_take,Nat.min_eq_left (Nat.mul_le_mul_right _ (by omega)),←hl,List.take_left] at this;rw [←hl];exact this
end
def Lr (f:Nat→al):Nat→al
 |0=>emp
 |n+1=>Lr f n*f n
theorem gj (A:al):emp*A=A:=by
 have:emp*A=A*emp:=by ac_rfl
 rw [this,ao]
section
variable {α:Type}
def Yx (F:Nat→α→al) (Y:Nat→α) (n:Nat):al:=Lr (fun j=>F j (Y j)) n
def iTa (F:Nat→α→al) (Y:Nat→α) (i n:Nat):al:=Lr (fun j=>if j=i then emp else F j (Y j)) n
def upF (Y:Nat→α) (i:Nat) (y:α):Nat→α:=fun j=>if j=i then y else Y j
end
theorem wU (o:Nat):∀(vs:List Value) (j:Nat) (c:Array Value),(vs.zipIdx j).foldl (fun (cs:Array Value) x=>cs.setIfInBounds (o+x.2) x.1) c=(vs.zipIdx (o+j)).foldl (fun (cs:Array Value) x=>cs.setIfInBounds x.2 x.1) c
 | [],_,_=>rfl
 |v::vs,j,c=>by
  rw [List.zipIdx_cons,List.zipIdx_cons,List.foldl_cons,List.foldl_cons,wU o vs (j+1)];rfl
theorem QY (size:Nat):∀(vs:List Value) (k:Nat) (c:List Value),(∀v∈vs,v.cells.size=size)→(k+vs.length)*size≤c.length→
  Instr.fill (fun i=>some (i*size,size)) c.toArray ((List.range' k vs.length).zip vs)=some (c.take (k*size)++vs.flatMap (fun v=>v.cells.toList)++c.drop ((k+vs.length)*size)).toArray
 | [],k,c,_,_=>by simp [Instr.fill]
 |v::vs,k,c,hv,hc=>by
  have h0:v.cells.size=size:=hv v (List.mem_cons_self ..);have hle:(k+1+vs.length)*size≤c.length:=by
   have:k+(v::vs).length=k+1+vs.length:=by simp;omega
   rw [this] at hc;exact hc
  have hk1:(k+1)*size=k*size+size:=Nat.succ_mul k size;have hadd:(k+1+vs.length)*size=k*size+size+vs.length*size:=by rw [Nat.add_mul,hk1]
  rw [List.length_cons,List.range'_succ,List.zip_cons_cons];simp only [Instr.fill,h0];rw [if_neg (by simp;omega)];have hsz:v.cells.toList.length=size:=by rw [Array.length_toList,h0]
  have hf:v.cells.zipIdx.foldl (fun (cs:Array Value) (x:Value×Nat)=>cs.setIfInBounds (k*size+x.2) x.1) c.toArray=(c.take (k*size)++v.cells.toList++c.drop (k*size+size)).toArray:=by
   have e:v.cells.zipIdx=(v.cells.toList.zipIdx 0).toArray:=by
    apply Array.ext';simp
   rw [e,List.foldl_toArray']
   ·rw [wU,Nat.add_zero,qj v.cells.toList (k*size) c (by rw [hsz];omega),hsz]
   ·rfl
  rw [hf];have ih:=QY size vs (k+1) (c.take (k*size)++v.cells.toList++c.drop (k*size+size)) (fun u hu=>hv u (List.mem_cons_of_mem _ hu)) (by
   simp only [List.length_append,List.length_take,List.length_drop,hsz];omega)
  rw [ih]
  congr 2
  have l1:(c.take (k*size)).length=k*size:=by rw [List.length_take];omega
  have l2:(c.take (k*size)++v.cells.toList).length=(k+1)*size:=by rw [List.length_append,l1,hsz,hk1]
  have t1:(c.take (k*size)++v.cells.toList++c.drop (k*size+size)).take ((k+1)*size)=c.take (k*size)++v.cells.toList:=by
   rw [←l2];exact List.take_left
  have t2:(c.take (k*size)++v.cells.toList++c.drop (k*size+size)).drop ((k+1+vs.length)*size)=c.drop ((k+(vs.length+1))*size):=by
   have e2:(k+(vs.length+1))*size=(k+1+vs.length)*size:=by congr 1;omega
   rw [List.drop_append,l2,List.drop_of_length_le (by rw [l2,hadd,hk1];omega),List.nil_append,List.drop_drop,e2]
   congr 1
   rw [hadd,hk1];omega
  rw [t1,t2];simp [List.flatMap_cons,List.append_assoc]
theorem tI {P:Program} {K:Value→World→Prop} {w w0:World} {F:al} {e size n:Nat} {z:Array Value} {vs:List Value} {ix:List Nat} (s:St w0 F w) (hv:∀v∈vs,v.cells.size=size) (hn:vs.length=n) (hix:ix=List.range' 0 n) (hm:n≤maxLen)
  (hk:∀v w',St w0 (F*own e size v n (vs.flatMap fun v=>v.cells.toList)) w'→K v w'):aG P (.bsl e n size z ix) vs K w:=by
 subst hix hn;have hl:((Array.range (vs.length*size)).map fun i=>z[i %z.size]!).size=vs.length*size:=by simp
 have hfl:(vs.flatMap fun v=>v.cells.toList).length=vs.length*size:=by
  clear hl s hk hm
  induction vs with
  |nil=>simp
  |cons v vs ih=>
   rw [List.flatMap_cons,List.length_append,ih (fun u hu=>hv u (List.mem_cons_of_mem _ hu)),Array.length_toList,hv v (List.mem_cons_self ..),List.length_cons,Nat.succ_mul];omega
 refine lx (cells:=(vs.flatMap fun v=>v.cells.toList).toArray) s ?_ fun b w' s'=>hk _ w' (s'.uM (Nat.le_refl _) hm (by rw [List.size_toArray,hfl]) (by rw [←hfl];exact List.take_length));have:=QY size vs 0 ((Array.range (vs.length*size)).map fun i=>z[i %z.size]!).toList hv (by simp);rw [Array.toArray_toList] at this;refine this.trans ?_;rw [Nat.zero_mul,List.take_zero,List.nil_append,Nat.zero_add,List.drop_of_length_le (by rw [Array.length_toList,hl];exact Nat.le_refl _),List.append_nil]
theorem iw {P:Program} {K:Value→World→Prop} {w w0:World} {F:al} {e n:Nat} {z:Array Value} {vs:List Value} {ix:List Nat} (s:St w0 F w) (hv:∀v∈vs,v.oneCell'=true) (hn:vs.length=n) (hix:ix=List.range' 0 n) (hm:n≤maxLen)
  (hk:∀v w',St w0 (F*own e 1 v n vs) w'→K v w'):aG P (.bsl e n 1 z ix) vs K w:=by
 have hc:∀v∈vs,v.cells= #[v]:=fun v h=>by
  have:=hv v h;cases v<;>first|rfl|(simp [Value.oneCell'] at this)
 refine tI s (fun v h=>by rw [hc v h];rfl) hn hix hm fun v w' s'=>hk v w' ?_;have e:(vs.flatMap fun v=>v.cells.toList)=vs:=by
  clear s hk hn hix hm s' hv
  induction vs with
  |nil=>rfl
  |cons v vs ih=>rw [List.flatMap_cons,hc v (List.mem_cons_self ..),ih fun u hu=>hc u (List.mem_cons_of_mem _ hu)];rfl
 rw [e] at s';exact s'
end Go.HL
namespace Go.HL.Pu
open Go.HL Go.HL.Nm Go.Proofs
noncomputable abbrev U1:PF Tryz.prog:=PF.of []
def bdB (P:Ps):Bool:=decide (∀x∈P.rows,0≤x.ab∧x.ab≤4611686018427387904)&&decide (0≤P.held∧P.held≤4611686018427387904)&&decide (0≤P.sup∧P.sup≤4611686018427387904)&&decide (P.rows.length≤64)
def fQa:List (List UInt8):= [[65,110,110],[65,78,78],[97,32],[66,111,98],[67,105,100]]
def fRa (x:List UInt8) (r:Ps×List Int):Ps×List Int:=((ck r.1 x).2.2,r.2++ [(ck r.1 x).1,(ck r.1 x).2.1])
def giv:Nat→Ps×List Int
 |0=>(⟨3,[⟨cK,0⟩],0,0⟩,[0])
 |n+1=>fRa (fQa.getD n []) (giv n)
def G5:Ps:=⟨3,[⟨cK,0⟩,⟨[65,110,110],0⟩,⟨[66,111,98],0⟩],0,0⟩
def G6:Ps:=⟨3,[⟨cK,0⟩,⟨[65,110,110],100⟩,⟨[66,111,98],0⟩],100,0⟩
def G7:Ps:=⟨3,[⟨cK,0⟩,⟨[65,110,110],70⟩,⟨[66,111,98],30⟩],100,0⟩
def i0a:List Int:= [0,1,0,0,140,0,40,2,0,0,141,0,2,142,144,0,234,2,143,142]
def Ac.pv (x:Ac):List PV:= [.str x.name,.int .u64 x.ab]
structure Sp where
 who:Int
 kind:Int
 a:Int
 b:Int
 ab:Int
 name:List UInt8
def Sp.cs (x:Sp):List Value:= [.int .i64 x.who,.int .i64 x.kind,.int .i64 x.a,.int .i64 x.b,.int .u64 x.ab,.string (HL.mk x.name)]
def Sp.ok (x:Sp):Prop:=(0≤x.ab∧x.ab<18446744073709551616)∧x.name.length≤1048576
def cH (P:Ps) (o:Sp):Int×Ps:=
 if o.kind=1 then ((ck P o.name).2.1,(ck P o.name).2.2)
 else if o.kind=2 then dH P o.a o.ab
 else if o.kind=3 then fZ P o.a o.b o.ab
 else if o.kind=4 then bJ P o.a o.ab
 else if o.kind=5 then bo P o.a o.ab
 else if o.kind=6 then ((aD P o.a).2,P)
 else (0,P)
def total (l:List Ac):Int:=(l.map Ac.ab).sum
theorem oB (l:List Ac) (a:Ac):total (l++ [a])=total l+a.ab:=by simp [total]
theorem kW:∀{l:List Ac},(∀x∈l,0≤x.ab)→0≤total l
 | [],_=>Int.le_refl _
 |a::l,h=>by
  have h1:=h a (List.mem_cons_self ..);have h2:=kW fun x hx=>h x (List.mem_cons_of_mem _ hx);simp only [total,List.map_cons,List.sum_cons] at h2⊢;omega
theorem oC {l:List Ac} (h:∀x∈l,0≤x.ab) (i:Nat):0≤total (l.take i)∧total (l.take i)≤total l:=by
 have e:total l=total (l.take i)+total (l.drop i):=by
  unfold total;rw [←List.sum_append,←List.map_append,List.take_append_drop]
 have h1:=kW (l:=l.take i) fun x hx=>h x (List.mem_of_mem_take hx);have h2:=kW (l:=l.drop i) fun x hx=>h x (List.mem_of_mem_drop hx);omega
structure PI (lim:Int) (P:Ps):Prop where
 eqlim:P.lim=lim
 lims:1≤lim∧lim≤64
 len:1≤P.rows.length∧(P.rows.length:Int)≤lim
 ab:∀x∈P.rows,0≤x.ab
 held:0≤P.held
 sum:P.held+total P.rows=P.sup
 sup:P.sup≤4611686018427387904
 names:∀i,(h:i<P.rows.length)→P.rows[i].name.length≤1048576
theorem F8 {l:List Ac} (h:∀x∈l,0≤x.ab) {i:Nat} (hi:i<l.length):0≤l[i].ab∧l[i].ab≤total l:=by
 have h0:=h _ (List.getElem_mem hi);have h1:=oC h (i+1);have h2:=oC h i;rw [List.take_succ_eq_append_getElem hi,oB] at h1;omega
theorem PI.bd {lim:Int} {P:Ps} (h:PI lim P):Bd P:=by
 have ht:=kW h.ab;have h1:=h.held;have h2:=h.sum;have h3:=h.sup;have h4:=h.len;have h5:=h.lims;refine ⟨fun i hi=> ?_,by omega,by omega,by omega⟩;have e:P.rows.getD i ⟨[],0⟩=P.rows[i]:=by simp [hi]
 rw [e];have:=F8 h.ab hi;omega
def gr (o:Sp) (n:Int):Int×Int×Int:=
 if o.kind=2 then ((if n=o.a then o.ab else 0),0,o.ab)
 else if o.kind=3 then ((if n=o.b then IntKind.u64.wrap ((if n=o.a then IntKind.u64.wrap (0 -o.ab) else 0)+o.ab) else if n=o.a then IntKind.u64.wrap (0 -o.ab) else 0),0,0)
 else if o.kind=4 then ((if n=o.a then IntKind.u64.wrap (0 -o.ab) else 0),o.ab,0)
 else if o.kind=5 then ((if n=o.a then o.ab else 0),IntKind.u64.wrap (0 -o.ab),0)
 else (0,0,0)
theorem dJ {l:List Ac} {i k:Nat} {c:Int} (hk:k<l.length):(bN l i c)[k]'(by rw [aC];exact hk)=if k=i then ⟨l[k].name,c⟩ else l[k]:=by
 unfold bN;rw [List.getElem_set]
 by_cases e:k=i
 ·subst e;simp [hk]
 ·rw [if_neg e,if_neg (Ne.symm e)]
theorem mQ {l:List Ac} {i:Nat} {c:Int} {x:Ac} (h:x∈bN l i c):x∈l∨x.ab=c:=by
 unfold bN at h;rcases List.mem_or_eq_of_mem_set h with h|h
 ·exact .inl h
 ·exact .inr (by rw [h])
theorem xY:∀(l:List Ac) (i:Nat) (x:Ac) (h:i<l.length),total (l.set i x)=total l -l[i].ab+x.ab
 |a::l,0,x,h=>by simp only [List.set_cons_zero,List.getElem_cons_zero,total,List.map_cons,List.sum_cons];omega
 |a::l,i+1,x,h=>by
  have:=xY l i x (by simpa using h);simp only [List.set_cons_succ,List.getElem_cons_succ];simp only [total,List.map_cons,List.sum_cons] at this⊢;omega
theorem jJ {l:List Ac} {i:Nat} (h:i<l.length) (c:Int):total (bN l i c)=total l -bP l i+c:=by
 unfold bN;rw [xY l i _ h,db h]
theorem qM {a c:Int} (h:0≤c∧c≤a∧a<18446744073709551616):IntKind.u64.wrap (a+IntKind.u64.wrap (0 -c))=a -c:=by
 simp [IntKind.wrap,IntKind.bits,IntKind.signed];omega
structure My (P P':Ps) (o:Sp):Prop where
 held:P'.held=IntKind.u64.wrap (P.held+(gr o (-1)).2.1)
 sup:P'.sup=IntKind.u64.wrap (P.sup+(gr o (-1)).2.2)
 each:∀k,(h:k<P.rows.length)→∃h':k<P'.rows.length,P'.rows[k].name=P.rows[k].name∧P'.rows[k].ab=IntKind.u64.wrap (P.rows[k].ab+(gr o k).1)
def FL:Sp:=⟨0,0,0,0,0,[]⟩
theorem ow {o:Sp} (h:o.kind≠2∧o.kind≠3∧o.kind≠4∧o.kind≠5) (n:Int):gr o n=(0,0,0):=by
 unfold gr;rw [if_neg h.1,if_neg h.2.1,if_neg h.2.2.1,if_neg h.2.2.2]
theorem xZ {lim:Int} {P:Ps} (hP:PI lim P) {o:Sp} (h:o.kind≠2∧o.kind≠3∧o.kind≠4∧o.kind≠5):My P P o:=by
 have hb:=hP.bd;have h1:=hb.held;have h2:=hb.sup;refine ⟨?_,?_,fun k hk=>⟨hk,rfl,?_⟩⟩
 ·rw [ow h];simp only [Int.add_zero];rw [bx (by omega) (by omega)]
 ·rw [ow h];simp only [Int.add_zero];rw [bx (by omega) (by omega)]
 ·rw [ow h];simp only [Int.add_zero]
  have:=hb.ab k hk;have e:P.rows.getD k ⟨[],0⟩=P.rows[k]:=by simp [hk]
  rw [e] at this;rw [bx (by omega) (by omega)]
theorem yb {lim:Int} {P:Ps} (hP:PI lim P):My P P FL:=xZ hP (by decide)
def Wh (P:Ps) (o:Sp):Sp:=if (cH P o).1≠0∨o.kind=1 then FL else o
def more (P:Ps) (o:Sp):Nat:=if o.kind=1∧(cH P o).1=0 then 1 else 0
theorem oL {l:List Ac} {n:Int} (h:de l n=0):0≤n∧n.toNat<l.length∧(n.toNat:Int)=n:=by
 obtain ⟨i,rfl,hi⟩:=iJ h;exact ⟨by omega,by simpa using hi,by simp⟩
theorem pJ {lim:Int} {P:Ps} (hP:PI lim P) {P':Ps} (e1:P'.lim=P.lim) (e2:P'.rows.length=P.rows.length) (hc:∀x∈P'.rows,0≤x.ab) (hh:0≤P'.held) (hs:P'.held+total P'.rows=P'.sup) (hsup:P'.sup≤4611686018427387904)
  (hn:∀k,(h:k<P'.rows.length)→∃h':k<P.rows.length,P'.rows[k].name=P.rows[k].name):PI lim P':=
 ⟨e1.trans hP.eqlim,hP.lims,by rw [e2];exact hP.len,hc,hh,hs,hsup,fun i h=>by
  obtain ⟨h',e⟩:=hn i h;rw [e];exact hP.names i h'⟩
theorem jf {l:List Ac} {i k:Nat} {c:Int} (h:k<(bN l i c).length):∃h':k<l.length,(bN l i c)[k].name=l[k].name:=by
 have h':k<l.length:=by rwa [aC] at h
 refine ⟨h',?_⟩;rw [dJ h'];split<;>rfl
structure Step (lim:Int) (P:Ps) (o:Sp):Prop where
 pi:PI lim (cH P o).2
 len:(cH P o).2.rows.length=P.rows.length+more P o
 vo:My P (cH P o).2 (Wh P o)
 last:more P o=1→(cH P o).2.rows[P.rows.length]?=some ⟨o.name,0⟩
theorem xQ {lim:Int} {P:Ps} (hP:PI lim P) {o:Sp} (h:(cH P o).2=P) (hm:more P o=0) (ht:(cH P o).1≠0∨(o.kind≠2∧o.kind≠3∧o.kind≠4∧o.kind≠5)):Step lim P o:=by
 refine ⟨by rw [h];exact hP,by rw [h,hm,Nat.add_zero],?_,fun e=>by rw [hm] at e;cases e⟩;rw [h];unfold Wh;split
 ·exact yb hP
 ·rename_i hn
  rcases ht with ht|ht
  ·exact absurd (.inl ht) hn
  ·exact xZ hP ht
theorem qe {lim:Int} {P:Ps} {o:Sp} (hP:PI lim P) (ho:o.ok):Step lim P o:=by
 obtain ⟨⟨hc0,hc1⟩,hnm⟩:=ho;have hb:=hP.bd;have hheld:=hb.held;have hsup:=hb.sup;have hsum:=hP.sum;have hlen:=hP.len;have hlims:=hP.lims
 by_cases k1:o.kind=1
 ·-- Open
  have hd:cH P o=((ck P o.name).2.1,(ck P o.name).2.2):=by unfold cH;rw [if_pos k1]
  by_cases h0:(ck P o.name).2.1=0
  ·obtain ⟨hs,hask,hl,hchk⟩:=GM h0
   have hm:more P o=1:=by unfold more;rw [if_pos ⟨k1,by rw [hd];exact h0⟩]
   have ha:Wh P o=FL:=by unfold Wh;rw [if_pos (.inr k1)]
   rw [hP.eqlim] at hl;have hP2:(cH P o).2={P with rows:=P.rows++ [⟨o.name,0⟩]}:=by rw [hd];exact hs
   refine ⟨?_,by rw [hP2,hm];simp,?_,fun _=>by rw [hP2];simp⟩
   ·rw [hP2]
    refine ⟨hP.eqlim,hlims,?_,?_,hP.held,?_,hP.sup,?_⟩
    ·simp only [List.length_append,List.length_singleton];omega
    ·intro x hx
     rcases List.mem_append.1 hx with hx|hx
     ·exact hP.ab x hx
     ·have:x=⟨o.name,0⟩:=by simpa using hx
      rw [this];exact Int.le_refl _
    ·show P.held+total (P.rows++ [⟨o.name,0⟩])=P.sup
     rw [oB];show P.held+(total P.rows+0)=P.sup;omega
    ·intro i h
     simp only [List.length_append,List.length_singleton] at h
     by_cases e:i<P.rows.length
     ·show ((P.rows++ [(⟨o.name,0⟩:Ac)])[i]'(by simp;omega)).name.length≤_
      rw [List.getElem_append_left e];exact hP.names i e
     ·have:i=P.rows.length:=by omega
      subst this;show ((P.rows++ [(⟨o.name,0⟩:Ac)])[P.rows.length]'(by simp)).name.length≤_;simp [hnm]
   ·rw [ha,hP2]
    obtain ⟨t1,t2,t3⟩:=yb hP;refine ⟨t1,t2,fun k hk=> ?_⟩;obtain ⟨_,t4,t5⟩:=t3 k hk;refine ⟨by simp;omega,?_,?_⟩
    ·show ((P.rows++ [(⟨o.name,0⟩:Ac)])[k]'(by simp;omega)).name=_
     rw [List.getElem_append_left hk]
    ·show ((P.rows++ [(⟨o.name,0⟩:Ac)])[k]'(by simp;omega)).ab=_
     rw [List.getElem_append_left hk];exact t5
  ·have hm:more P o=0:=by unfold more;rw [if_neg (by rw [hd];exact fun h=>h0 h.2)]
   exact xQ hP (by rw [hd];exact CJ h0) hm (.inl (by rw [hd];exact h0))
 have hm:more P o=0:=by unfold more;rw [if_neg fun h=>k1 h.1]
 have keep:(cH P o).2=P→((cH P o).1≠0∨(o.kind≠2∧o.kind≠3∧o.kind≠4∧o.kind≠5))→Step lim P o:=fun h ht=>xQ hP h hm ht;have good:∀P':Ps,cH P o=(0,P')→PI lim P'→P'.rows.length=P.rows.length→My P P' o→Step lim P o:=by
  intro P' hd hpi hl ht;have ha:Wh P o=o:=by unfold Wh;rw [if_neg (by rw [hd];exact fun h=>h.elim (fun h=>h rfl) k1)]
  exact ⟨by rw [hd];exact hpi,by rw [hd,hm];exact hl,by rw [ha,hd];exact ht,fun e=>by rw [hm] at e;cases e⟩
 by_cases k2:o.kind=2
 ·have hd:cH P o=dH P o.a o.ab:=by unfold cH;rw [if_neg k1,if_pos k2]
  by_cases e1:de P.rows o.a=0
  ·by_cases e2:o.ab=0
   ·exact keep (by rw [hd,dH,if_pos e1,if_pos e2]) (.inl (by rw [hd,dH,if_pos e1,if_pos e2];simp))
   ·by_cases e3:4611686018427387904 -P.sup<o.ab
    ·exact keep (by rw [hd,dH,if_pos e1,if_neg e2,if_pos e3]) (.inl (by rw [hd,dH,if_pos e1,if_neg e2,if_pos e3];simp))
    ·obtain ⟨ha0,hai,hae⟩:=oL e1
     have hca:=dS hb hai;refine good _ (by rw [hd,dH,if_pos e1,if_neg e2,if_neg e3]) ?_ (aC _ _ _) ?_
     ·refine pJ hP rfl (aC _ _ _) (fun x hx=> ?_) hP.held ?_ (by show P.sup+o.ab≤_;omega) fun k h=>jf h
      ·rcases mQ hx with h|h
       ·exact hP.ab x h
       ·omega
      ·show P.held+total (bN P.rows o.a.toNat (bP P.rows o.a.toNat+o.ab))=P.sup+o.ab
       rw [jJ hai];omega
     ·have hmv:∀n,gr o n=((if n=o.a then o.ab else 0),0,o.ab):=fun n=>by unfold gr;rw [if_pos k2]
      refine ⟨?_,?_,fun k hk=>⟨by rw [aC];exact hk,?_,?_⟩⟩
      ·rw [hmv];show P.held=IntKind.u64.wrap (P.held+0);rw [bx (by omega) (by omega)];omega
      ·rw [hmv];show P.sup+o.ab=IntKind.u64.wrap (P.sup+o.ab);rw [bx (by omega) (by omega)]
      ·show ((bN P.rows _ _)[k]'(by rw [aC];exact hk)).name=_
       rw [dJ hk];split<;>rfl
      ·show ((bN P.rows _ _)[k]'(by rw [aC];exact hk)).ab=_
       have hck:=dS hb hk;rw [db hk] at hck;rw [dJ hk,hmv]
       by_cases ek:k=o.a.toNat
       ·subst ek
        rw [if_pos rfl];simp only [hae,if_true];rw [db hai,bx (by omega) (by omega)]
       ·rw [if_neg ek]
        simp only [show¬(k:Int)=o.a from fun h=>ek (by omega),if_false];rw [bx (by omega) (by omega)];omega
  ·exact keep (by rw [hd,dH,if_neg e1]) (.inl (by rw [hd,dH,if_neg e1];simp))
 by_cases k3:o.kind=3
 ·have hd:cH P o=fZ P o.a o.b o.ab:=by unfold cH;rw [if_neg k1,if_neg k2,if_pos k3]
  by_cases e1:de P.rows o.a=0∧de P.rows o.b=0
  ·by_cases e2:o.a=o.b
   ·exact keep (by rw [hd,fZ,if_pos e1,if_pos e2]) (.inl (by rw [hd,fZ,if_pos e1,if_pos e2];simp))
   ·by_cases e3:o.ab=0
    ·exact keep (by rw [hd,fZ,if_pos e1,if_neg e2,if_pos e3]) (.inl (by rw [hd,fZ,if_pos e1,if_neg e2,if_pos e3];simp))
    ·by_cases e4:bP P.rows o.a.toNat<o.ab
     ·exact keep (by rw [hd,fZ,if_pos e1,if_neg e2,if_neg e3,if_pos e4]) (.inl (by rw [hd,fZ,if_pos e1,if_neg e2,if_neg e3,if_pos e4];simp))
     ·obtain ⟨ha0,hai,hae⟩:=oL e1.1
      obtain ⟨hb0,hbi,hbe⟩:=oL e1.2;have hca:=dS hb hai;have hcb:=dS hb hbi;have hne:¬o.b.toNat=o.a.toNat:=fun h=>e2 (by omega);have hbi2:o.b.toNat<(bN P.rows o.a.toNat (bP P.rows o.a.toNat -o.ab)).length:=by rw [aC];exact hbi
      have hl2:(bN (bN P.rows o.a.toNat (bP P.rows o.a.toNat -o.ab)) o.b.toNat (bP P.rows o.b.toNat+o.ab)).length=P.rows.length:=by rw [aC,aC]
      refine good _ (by rw [hd,fZ,if_pos e1,if_neg e2,if_neg e3,if_neg e4]) ?_ hl2 ?_
      ·refine pJ hP rfl hl2 (fun x hx=> ?_) hP.held ?_ hP.sup fun k h=> ?_
       ·rcases mQ hx with h|h
        ·rcases mQ h with h|h
         ·exact hP.ab x h
         ·omega
        ·omega
       ·show P.held+total (bN (bN P.rows o.a.toNat (bP P.rows o.a.toNat -o.ab)) o.b.toNat (bP P.rows o.b.toNat+o.ab))=P.sup
        rw [jJ hbi2,jJ hai,oV hai,if_neg hne];omega
       ·obtain ⟨h1,n1⟩:=jf h
        obtain ⟨h2,n2⟩:=jf h1;exact ⟨h2,n1.trans n2⟩
      ·have hmv:∀n,gr o n=((if n=o.b then IntKind.u64.wrap ((if n=o.a then IntKind.u64.wrap (0 -o.ab) else 0)+o.ab) else if n=o.a then IntKind.u64.wrap (0 -o.ab) else 0),0,0):=fun n=>by unfold gr;rw [if_neg k2,if_pos k3]
       refine ⟨?_,?_,fun k hk=>⟨by rw [hl2];exact hk,?_,?_⟩⟩
       ·rw [hmv];show P.held=IntKind.u64.wrap (P.held+0);rw [bx (by omega) (by omega)];omega
       ·rw [hmv];show P.sup=IntKind.u64.wrap (P.sup+0);rw [bx (by omega) (by omega)];omega
       ·have hk2:k<(bN P.rows o.a.toNat (bP P.rows o.a.toNat -o.ab)).length:=by rw [aC];exact hk
        show ((bN (bN P.rows _ _) _ _)[k]'(by rw [hl2];exact hk)).name=_;rw [dJ hk2,dJ hk];split
        ·split<;>rfl
        ·split<;>rfl
       ·have hk2:k<(bN P.rows o.a.toNat (bP P.rows o.a.toNat -o.ab)).length:=by rw [aC];exact hk
        show ((bN (bN P.rows _ _) _ _)[k]'(by rw [hl2];exact hk)).ab=_;have hck:=dS hb hk;rw [db hk] at hck;rw [dJ hk2,dJ hk,hmv]
        by_cases eb:k=o.b.toNat
        ·subst eb
         rw [if_pos rfl];simp only [hbe,if_true,show¬o.b=o.a from fun h=>e2 h.symm,if_false];rw [db hbi];rw [db hbi] at hcb;rw [bx (x:=0+o.ab) (by omega) (by omega),bx (by omega) (by omega)];omega
        ·rw [if_neg eb]
         simp only [show¬(k:Int)=o.b from fun h=>eb (by omega),if_false]
         by_cases ea:k=o.a.toNat
         ·subst ea
          rw [if_pos rfl];simp only [hae,if_true];rw [db hai] at e4⊢;rw [qM ⟨by omega,by omega,by omega⟩]
         ·rw [if_neg ea]
          simp only [show¬(k:Int)=o.a from fun h=>ea (by omega),if_false];rw [bx (by omega) (by omega)];omega
  ·exact keep (by rw [hd,fZ,if_neg e1]) (.inl (by rw [hd,fZ,if_neg e1];simp))
 by_cases k4:o.kind=4
 ·have hd:cH P o=bJ P o.a o.ab:=by unfold cH;rw [if_neg k1,if_neg k2,if_neg k3,if_pos k4]
  by_cases e1:de P.rows o.a=0
  ·by_cases e2:bP P.rows o.a.toNat<o.ab
   ·exact keep (by rw [hd,bJ,if_pos e1,if_pos e2]) (.inl (by rw [hd,bJ,if_pos e1,if_pos e2];simp))
   ·obtain ⟨ha0,hai,hae⟩:=oL e1
    have hca:=dS hb hai;have hcl:=F8 hP.ab hai;rw [←db hai] at hcl;refine good _ (by rw [hd,bJ,if_pos e1,if_neg e2]) ?_ (aC _ _ _) ?_
    ·refine pJ hP rfl (aC _ _ _) (fun x hx=> ?_) (by show 0≤P.held+o.ab;omega) ?_ hP.sup fun k h=>jf h
     ·rcases mQ hx with h|h
      ·exact hP.ab x h
      ·omega
     ·show P.held+o.ab+total (bN P.rows o.a.toNat (bP P.rows o.a.toNat -o.ab))=P.sup
      rw [jJ hai];omega
    ·have hmv:∀n,gr o n=((if n=o.a then IntKind.u64.wrap (0 -o.ab) else 0),o.ab,0):=fun n=>by unfold gr;rw [if_neg k2,if_neg k3,if_pos k4]
     refine ⟨?_,?_,fun k hk=>⟨by rw [aC];exact hk,?_,?_⟩⟩
     ·rw [hmv];show P.held+o.ab=IntKind.u64.wrap (P.held+o.ab);rw [bx (by omega) (by omega)]
     ·rw [hmv];show P.sup=IntKind.u64.wrap (P.sup+0);rw [bx (by omega) (by omega)];omega
     ·show ((bN P.rows _ _)[k]'(by rw [aC];exact hk)).name=_
      rw [dJ hk];split<;>rfl
     ·show ((bN P.rows _ _)[k]'(by rw [aC];exact hk)).ab=_
      have hck:=dS hb hk;rw [db hk] at hck;rw [dJ hk,hmv]
      by_cases ek:k=o.a.toNat
      ·subst ek
       rw [if_pos rfl];simp only [hae,if_true];rw [db hai] at e2⊢;rw [qM ⟨by omega,by omega,by omega⟩]
      ·rw [if_neg ek]
       simp only [show¬(k:Int)=o.a from fun h=>ek (by omega),if_false];rw [bx (by omega) (by omega)];omega
  ·exact keep (by rw [hd,bJ,if_neg e1]) (.inl (by rw [hd,bJ,if_neg e1];simp))
 by_cases k5:o.kind=5
 ·have hd:cH P o=bo P o.a o.ab:=by unfold cH;rw [if_neg k1,if_neg k2,if_neg k3,if_neg k4,if_pos k5]
  by_cases e1:de P.rows o.a=0
  ·by_cases e2:P.held<o.ab
   ·exact keep (by rw [hd,bo,if_pos e1,if_pos e2]) (.inl (by rw [hd,bo,if_pos e1,if_pos e2];simp))
   ·obtain ⟨ha0,hai,hae⟩:=oL e1
    have hca:=dS hb hai;refine good _ (by rw [hd,bo,if_pos e1,if_neg e2]) ?_ (aC _ _ _) ?_
    ·refine pJ hP rfl (aC _ _ _) (fun x hx=> ?_) (by show 0≤P.held -o.ab;omega) ?_ hP.sup fun k h=>jf h
     ·rcases mQ hx with h|h
      ·exact hP.ab x h
      ·omega
     ·show P.held -o.ab+total (bN P.rows o.a.toNat (bP P.rows o.a.toNat+o.ab))=P.sup
      rw [jJ hai];omega
    ·have hmv:∀n,gr o n=((if n=o.a then o.ab else 0),IntKind.u64.wrap (0 -o.ab),0):=fun n=>by unfold gr;rw [if_neg k2,if_neg k3,if_neg k4,if_pos k5]
     refine ⟨?_,?_,fun k hk=>⟨by rw [aC];exact hk,?_,?_⟩⟩
     ·rw [hmv];show P.held -o.ab=IntKind.u64.wrap (P.held+IntKind.u64.wrap (0 -o.ab));rw [qM ⟨by omega,by omega,by omega⟩]
     ·rw [hmv];show P.sup=IntKind.u64.wrap (P.sup+0);rw [bx (by omega) (by omega)];omega
     ·show ((bN P.rows _ _)[k]'(by rw [aC];exact hk)).name=_
      rw [dJ hk];split<;>rfl
     ·show ((bN P.rows _ _)[k]'(by rw [aC];exact hk)).ab=_
      have hck:=dS hb hk;rw [db hk] at hck;rw [dJ hk,hmv]
      by_cases ek:k=o.a.toNat
      ·subst ek
       rw [if_pos rfl];simp only [hae,if_true];rw [db hai,bx (by omega) (by omega)]
      ·rw [if_neg ek]
       simp only [show¬(k:Int)=o.a from fun h=>ek (by omega),if_false];rw [bx (by omega) (by omega)];omega
  ·exact keep (by rw [hd,bo,if_neg e1]) (.inl (by rw [hd,bo,if_neg e1];simp))
 refine keep ?_ (.inr ⟨k2,k3,k4,k5⟩);unfold cH;rw [if_neg k1,if_neg k2,if_neg k3,if_neg k4,if_neg k5];split<;>rfl
end Go.HL.Pu
namespace Go.HL.Es
open Go.HL Go.Proofs
def jU (l:List Rw):Int:=(l.map (·.2)).sum
theorem gP (r:Rw) (t:List Rw):jU (r::t)=r.2+jU t:=by simp [jU]
theorem Di (k v:Int):∀l:List Rw,jU (ins k v l)=v+jU l
 | []=>by simp [ins,jU]
 |r::t=>by
  simp only [ins];split
  ·rw [gP]
  ·rw [gP,gP,Di k v t];omega
theorem jt {k:Int} {l:List Rw} (h:∀r∈l,r.1≠k):del k l=l:=List.filter_eq_self.2 fun r hr=>by simpa using h r hr
theorem mR {k:Int}:∀{l:List Rw},l.Pairwise (fun a b=>a.1≠b.1)→jU (del k l)=jU l -bX l k
 | [],_=>by simp [del,jU,bX]
 |r::t,h=>by
  rw [List.pairwise_cons] at h;have ih:=mR (k:=k) h.2
  by_cases e:k=r.1
  ·subst e
   have h0:∀x∈t,x.1≠r.1:=fun x hx e=>h.1 x hx e.symm;have e1:del r.1 (r::t)=del r.1 t:=by simp [del]
   rw [e1,jt h0,gP,jo];omega
  ·have e1:del k (r::t)=r::del k t:=by simp [del,Ne.symm e]
   rw [e1,gP,gP,ih];simp only [bX,e,if_false];omega
theorem xS {l:List Rw} (h:fo l) (k v:Int):jU (fw k v l)=jU l -bX l k+v:=by
 unfold fw;split
 ·rename_i hv;rw [mR h.ne,hv];omega
 ·rw [Di,mR h.ne];omega
theorem Dj {l:List Rw} (h:∀r∈l,0<r.2):0≤jU l:=by
 induction l with
 |nil=>simp [jU]
 |cons r t ih=>
  rw [gP];have:=ih fun x hx=>h x (.tail _ hx);have:=h r (.head _);omega
theorem yE {l:List Rw} (h:fo l) (k:Int):bX l k≤jU l:=by
 have h1:=mR (k:=k) h.ne;have h2:0≤jU (del k l):=Dj fun r hr=>(h.2 r (ja.1 hr).1).2.2;omega
structure EI (lp lg:Int) (E:b9):Prop where
 P:Pu.PI lp E.P
 G:Gd.GI lg E.af
 R:fo E.l
 sum:jU E.l=E.P.held
theorem EI.ln {lp lg:Int} {E:b9} (h:EI lp lg E) (k:Int):0≤bX E.l k∧bX E.l k≤4611686018427387904:=by
 have h1:=tv h.R k;have h2:=yE h.R k;have h3:=h.P.bd.held;have h4:=h.sum;omega
theorem lC {P:Pu.Ps} {n:Int}:(Pu.aD P n).2=0↔Pu.de P.rows n=0:=by
 unfold Pu.aD;split
 ·rename_i h;simp [h]
 ·rename_i h;simp [h]
theorem Kw (P:Pu.Ps) (n:Int):(Pu.aD P n).2=0∨(Pu.aD P n).2=142:=by
 unfold Pu.aD;split<;>simp
theorem Lt {lim:Int} {P:Pu.Ps} (hP:Pu.PI lim P) (n c:Int) (hc:0≤c∧c<18446744073709551616):Pu.PI lim (Pu.bo P n c).2:=by
 have:=(Pu.qe (o:=⟨0,5,n,0,c,[]⟩) hP ⟨hc,by simp⟩).pi
 simpa [Pu.cH] using this
theorem QA {lim:Int} {P:Pu.Ps} (hP:Pu.PI lim P) (n c:Int) (hc:0≤c∧c<18446744073709551616):Pu.PI lim (Pu.bJ P n c).2:=by
 have:=(Pu.qe (o:=⟨0,4,n,0,c,[]⟩) hP ⟨hc,by simp⟩).pi
 simpa [Pu.cH] using this
theorem I5 {l:List Pu.Ac} {i:Nat} (h:i<l.length) (c:Int):Pu.bN (Pu.bN l i c) i (Pu.bP l i)=l:=by
 apply List.ext_getElem
 ·simp [Pu.aC]
 ·intro k h1 h2
  rw [Pu.dJ (by rw [Pu.aC];exact h2),Pu.dJ h2]
  by_cases e:k=i
  ·subst e
   simp only [if_true];rw [Pu.db h]
  ·simp [e]
theorem uR {lim:Int} {P:Pu.Ps} (hP:Pu.PI lim P) {n c:Int} (hn:Pu.de P.rows n=0) (hc:0≤c∧c≤P.held):
  Pu.bo P n c=(0,{P with held:=P.held -c,rows:=Pu.bN P.rows n.toNat (Pu.bP P.rows n.toNat+c)})∧Pu.bJ (Pu.bo P n c).2 n c=(0,P):=by
 obtain ⟨i,rfl,hi⟩:=Pu.iJ hn;have e1:Pu.bo P i c=(0,{P with held:=P.held -c,rows:=Pu.bN P.rows (i:Int).toNat (Pu.bP P.rows (i:Int).toNat+c)}):=by
  unfold Pu.bo;rw [if_pos hn,if_neg (by omega)]
 refine ⟨e1,?_⟩;rw [e1];have h0:=Pu.dS hP.bd hi;have e0:(i:Int).toNat=i:=by omega
 rw [e0];have hn':Pu.de (Pu.bN P.rows i (Pu.bP P.rows i+c)) i=0:=by
  unfold Pu.de at hn⊢;rw [Pu.aC];exact hn
 have hci:Pu.bP (Pu.bN P.rows i (Pu.bP P.rows i+c)) i=Pu.bP P.rows i+c:=by rw [Pu.oV hi,if_pos rfl]
 unfold Pu.bJ;simp only [e0];rw [if_pos hn',hci,if_neg (by omega)];have e2:P.held -c+c=P.held:=by omega
 have e3:Pu.bP P.rows i+c -c=Pu.bP P.rows i:=by omega
 rw [e2,e3,I5 hi]
theorem EP {af:List Gd.It} {n:Int} (h:(Gd.aD af n).2=0):∃i:Nat,n=i+1∧∃hi:i<af.length,(Gd.aD af n).1=af[i]:=by
 unfold Gd.aD at h⊢
 split at h
 ·rename_i hr
  refine ⟨n.toNat -1,by omega,by omega,?_⟩;rw [if_pos hr];have:n.toNat -1<af.length:=by omega
  simp [this]
 ·cases h
theorem Il {lim:Int} {af:List Gd.It} (hg:Gd.GI lim af) {n a c:Int} (ha:Gd.nW a=true) (hc:1≤c) (h1:(Gd.aD af n).2=0) (h2:(Gd.aD af n).1.bA=c):
  (Gd.fk af n a).1=0∧Gd.fC (Gd.fk af n a).2 n c=(0,af):=by
 obtain ⟨i,rfl,hi,hx⟩:=EP h1;rw [hx] at h2;have hpl:=hg.place af[i] (List.getElem_mem hi);have e0:((i:Int)+1).toNat -1=i:=by omega
 have e1:Gd.fk af (i+1) a=(0,af.set i ⟨af[i].num,af[i].kind,a,0⟩):=by
  unfold Gd.fk Gd.bo;rw [if_pos ha,if_pos (by omega),e0];have:af.getD i ⟨0,0,0,0⟩=af[i]:=by simp [hi]
  rw [this,if_pos (by simp;omega)]
 rw [e1];refine ⟨rfl,?_⟩;unfold Gd.fC Gd.bo;rw [if_neg (by omega),List.length_set,if_pos (by omega),e0];have:(af.set i ⟨af[i].num,af[i].kind,a,0⟩).getD i ⟨0,0,0,0⟩=⟨af[i].num,af[i].kind,a,0⟩:=by simp [hi]
 simp only [this];rw [if_pos (by simp),List.set_set]
 congr 1
 have:(⟨af[i].num,af[i].kind,-1,c⟩:Gd.It)=af[i]:=by
  rcases hpl with ⟨h,_⟩|⟨_,h⟩
  ·omega
  ·rw [←h,←h2]
 rw [this,List.set_getElem_self]
theorem Gk {lim:Int} {af:List Gd.It} (hg:Gd.GI lim af) (n a:Int):Gd.GI lim (Gd.fk af n a).2:=by
 unfold Gd.fk;split
 ·rename_i h;exact Gd.ud hg (.inl ⟨rfl,(Gd.nd _).1 h⟩)
 ·exact hg
theorem Ng {lim:Int} {af:List Gd.It} (hg:Gd.GI lim af) (n c:Int):Gd.GI lim (Gd.fC af n c).2:=by
 unfold Gd.fC;split
 ·exact hg
 ·rename_i h;exact Gd.ud hg (.inr ⟨by omega,rfl⟩)
def gF (x:Gf) (E:b9):b9:={E with af:=if x.item≠0 then (Gd.fk E.af x.item x.to).2 else E.af}
structure Ba (c:Int) (x:Gf) (E:b9):Prop where
 acc:(Pu.aD E.P x.to).2=0
 item:x.item≠0→(Gd.aD E.af x.item).2=0∧(Gd.aD E.af x.item).1.bA=c
 ab:x.ab≤bX E.l c
theorem jy (c:Int) (x:Gf) (E:b9):(Ba c x E∧cC c x E=(0,⟨(Pu.bo E.P x.to x.ab).2,(gF x E).af,fw c (bX E.l c -x.ab) E.l⟩))∨
  (¬Ba c x E∧(cC c x E).1≠0∧(cC c x E).2=E):=by
 unfold cC;split
 ·rename_i h;exact .inr ⟨fun g=>h g.acc,by simp,rfl⟩
 ·rename_i h1
  split
  ·rename_i h
   refine .inr ⟨fun g=> ?_,by simp,rfl⟩;obtain ⟨a,b⟩:=g.item h.1;rcases h.2 with h|h
   ·exact h a
   ·exact h b
  ·rename_i h2
   split
   ·rename_i h;exact .inr ⟨fun g=>by have:=g.ab;omega,by simp,rfl⟩
   ·rename_i h3
    refine .inl ⟨⟨by simpa using h1,fun hi=> ?_,by omega⟩,rfl⟩;constructor
    ·by_cases e:(Gd.aD E.af x.item).2=0
     ·exact e
     ·exact absurd ⟨hi,.inl e⟩ h2
    ·by_cases e:(Gd.aD E.af x.item).1.bA=c
     ·exact e
     ·exact absurd ⟨hi,.inr e⟩ h2
theorem JL {lp:Int} {P:Pu.Ps} (h:Pu.PI lp P) {n:Int} (ha:Pu.de P.rows n=0):Gd.nW n=true:=by
 obtain ⟨i,rfl,hi⟩:=Pu.iJ ha;have:=h.bd.len;rw [Gd.nd];omega
theorem rM {lp lg c:Int} {x:Gf} {E:b9} (h:EI lp lg E) (hc:1≤c∧c<9223372036854775808) (hx:0≤x.ab):EI lp lg (cC c x E).2:=by
 rcases jy c x E with ⟨g,e⟩|⟨_,_,e⟩
 ·rw [e]
  have hb:=h.ln c;have hle:=yE h.R c;have hg:=g.ab;have hp:=(uR h.P (n:=x.to) (c:=x.ab) (lC.1 g.acc) ⟨hx,by rw [←h.sum];omega⟩).1;refine ⟨Lt h.P _ _ ⟨hx,by omega⟩,?_,nF h.R hc (by omega),?_⟩
  ·show Gd.GI lg (if x.item≠0 then _ else _)
   split
   ·exact Gk h.G _ _
   ·exact h.G
  ·show jU (fw c (bX E.l c -x.ab) E.l)=(Pu.bo E.P x.to x.ab).2.held
   rw [hp,xS h.R];show _=E.P.held -x.ab;rw [←h.sum];omega
 ·rw [e];exact h
def bb (c:Int):List Gf→b9→Int×b9
 | [],E=>(0,E)
 |x::t,E=>if (cC c x E).1≠0 then ((cC c x E).1,E) else bb c t (cC c x E).2
theorem pk {lp lg c:Int} (hc:1≤c∧c<9223372036854775808):∀{gs:List Gf} {E:b9},EI lp lg E→(∀x∈gs,0≤x.ab)→EI lp lg (bb c gs E).2
 | [],_,h,_=>h
 |x::t,E,h,hx=>by
  unfold bb;split
  ·exact h
  ·exact pk hc (rM h hc (hx x (.head _))) fun y hy=>hx y (.tail _ hy)
theorem ug (c:Int):∀(gs:List Gf) (E:b9) (i:Nat) (hi:i<gs.length),(bb c (gs.take i) E).1=0→
  bb c (gs.take (i+1)) E=(if (cC c gs[i] (bb c (gs.take i) E).2).1≠0 then ((cC c gs[i] (bb c (gs.take i) E).2).1,(bb c (gs.take i) E).2) else (0,(cC c gs[i] (bb c (gs.take i) E).2).2))
 |x::t,E,0,_,_=>by simp [bb]
 |x::t,E,i+1,hi,h0=>by
  simp only [List.take_succ_cons,bb,List.getElem_cons_succ] at h0⊢
  by_cases hx:(cC c x E).1=0
  ·simp only [hx,ne_eq,not_true_eq_false,if_false] at h0⊢
   have:=ug c t (cC c x E).2 i (by simpa using hi) h0
   simpa using this
  ·simp only [hx,ne_eq,not_false_eq_true,if_true] at h0
theorem wX (c:Int):∀(gs:List Gf) (E:b9) (i:Nat),(bb c (gs.take i) E).1≠0→bb c gs E=bb c (gs.take i) E
 | [],E,i,h=>by simp
 |x::t,E,0,h=>by simp [bb] at h
 |x::t,E,i+1,h=>by
  simp only [List.take_succ_cons,bb] at h⊢
  split
  ·rfl
  ·rename_i hx
   rw [if_neg hx] at h;exact wX c t _ i h
def bh (c:Int) (gs:List Gf) (bes:b9→Int×b9) (E:b9):Int×b9:=
 if c<1 then (2,E)
 else if (bb c gs E).1≠0 then ((bb c gs E).1,E)
 else if (bes (bb c gs E).2).1≠0 then ((bes (bb c gs E).2).1,E)
 else (0,(bes (bb c gs E).2).2)
def l6 (c:Int) (E:b9):Int×b9:=(if bX E.l c≠0∨(Gd.dV E.af c).length≠0 then 170 else 0,E)
theorem qF {lp lg c:Int} {x:Et} {E:b9} (h:EI lp lg E) (hc:1≤c∧c<9223372036854775808) (hx:0≤x.ab∧x.ab<18446744073709551616):EI lp lg (aQ c x E).2:=by
 unfold aQ;split
 ·exact h
 split
 ·exact h
 split
 ·exact h
 ·rename_i h1 h2 h3
  have hb:=h.ln c;have ht:Pu.bJ E.P x.acc x.ab=(0,{E.P with held:=E.P.held+x.ab,rows:=Pu.bN E.P.rows x.acc.toNat (Pu.bP E.P.rows x.acc.toNat -x.ab)}):=by
   unfold Pu.bJ at h3⊢;split at h3
   ·split at h3
    ·exact absurd (by simp) h3
    ·rename_i e1 e2
     rw [if_pos e1,if_neg e2]
   ·exact absurd (by simp) h3
  refine ⟨QA h.P _ _ hx,?_,nF h.R hc (by omega),?_⟩
  ·show Gd.GI lg (if x.item≠0 then _ else _)
   split
   ·exact Ng h.G _ _
   ·exact h.G
  ·show jU (fw c (bX E.l c+x.ab) E.l)=(Pu.bJ E.P x.acc x.ab).2.held
   rw [ht,xS h.R];show _=E.P.held+x.ab;rw [←h.sum];omega
theorem Ar {c:Int} {x:Et} {E:b9} (h:(aQ c x E).1≠0):(aQ c x E).2=E:=by
 unfold aQ at h⊢
 split
 ·rfl
 split
 ·rfl
 split
 ·rfl
 ·rename_i h1 h2 h3;rw [if_neg h1,if_neg h2,if_neg h3] at h;exact absurd rfl h
def gg (w0:World) (p g s:Nat) (lim:Int) (X:al) (fs:List Value) (D:Nat→b9):Prop:=
 ∀k,k<fs.length→∃f cs,fs[k]?=some (.func (.func f) #[] cs)∧bW Tryz.prog f=true∧
  ∀(G:al) (W:World),St w0 (G*X*aI p g s lim (D (k+1))) W→ak Tryz.prog f cs.toList (fun _ W'=>St w0 (G*X*aI p g s lim (D k)) W') W
theorem FF {w0:World} {p g s:Nat} {lim:Int} {E:b9}:gg w0 p g s lim emp [] (fun _=>E):=fun k hk=>absurd hk (by simp)
def CG (D:Nat→b9) (n:Nat) (E:b9):Nat→b9:=fun k=>if k=n+1 then E else D k
theorem uF (D:Nat→b9) (n:Nat) (E:b9):CG D n E (n+1)=E:=by simp [CG]
theorem kK (D:Nat→b9) {n k:Nat} (E:b9) (h:k≤n):CG D n E k=D k:=by simp only [CG];rw [if_neg (by omega)]
theorem gg.snoc {w0:World} {p g s:Nat} {lim:Int} {X:al} {fs:List Value} {D:Nat→b9} (h:gg w0 p g s lim X fs D) {f:Nat} {cs:Array Value} {E:b9} (hb:bW Tryz.prog f=true)
  (hf:∀(G:al) (W:World),St w0 (G*X*aI p g s lim E) W→ak Tryz.prog f cs.toList (fun _ W'=>St w0 (G*X*aI p g s lim (D fs.length)) W') W):
  gg w0 p g s lim X (fs++ [.func (.func f) #[] cs]) (CG D fs.length E):=by
 intro k hk;simp only [List.length_append,List.length_singleton] at hk
 by_cases e:k<fs.length
 ·obtain ⟨f',cs',h1,h2,h3⟩:=h k e
  refine ⟨f',cs',by rw [List.getElem?_append_left e];exact h1,h2,fun G W hs=> ?_⟩;rw [kK D E (by omega:k+1≤fs.length)] at hs;rw [kK D E (by omega:k≤fs.length)];exact h3 G W hs
 ·have:k=fs.length:=by omega
  subst this;refine ⟨f,cs,by simp,hb,fun G W hs=> ?_⟩;rw [uF] at hs;rw [kK D E (Nat.le_refl _)];exact hf G W hs
theorem gg.wide {w0:World} {p g s:Nat} {lim:Int} {X Y:al} {fs:List Value} {D:Nat→b9} (h:gg w0 p g s lim X fs D):gg w0 p g s lim (X*Y) fs D:=by
 intro k hk;obtain ⟨f',cs',h1,h2,h3⟩:=h k hk;exact ⟨f',cs',h1,h2,fun G W hs=>(h3 (G*Y) W (hs.to (by ac_rfl))).mono fun _ W' h=>h.to (by ac_rfl)⟩
abbrev gA (A:al) (p g s:Nat) (lim:Int) (b4 b5 b6:Nat) (c:Int) (x:Gf) (E:b9):al:=A*jW b4 b5 b6 s c x*ft s p g E.l*Gd.bD g lim E.af*Pu.bE p E.P
section
variable {w0 w:World} {A Z:al} {p g s b4 b5 b6:Nat} {lim c:Int} {x:Gf} {E:b9}
theorem di (h:St w0 (gA A p g s lim b4 b5 b6 c x E) w):w.cell? ⟨b4,0,none⟩=some (.pointer (some ⟨s,0,none⟩))∧w.cell? ⟨b5,0,none⟩=some (.int .i64 c)∧w.cell? ⟨b6,0,none⟩=some (.int .i64 x.to)∧w.cell? ⟨b6,1,none⟩=some (.int .i64 x.item)∧
  w.cell? ⟨b6,2,none⟩=some (.int .u64 x.ab)∧w.cell? ⟨s,0,none⟩=some (.pointer (some ⟨p,0,none⟩))∧w.cell? ⟨s,1,none⟩=some (.pointer (some ⟨g,0,none⟩)):=
 kr h.drop
theorem Sb {lp lg:Int} (hE:EI lp lg E) (n:Int) (h:St w0 (gA A p g s lim b4 b5 b6 c x E) w):ak Tryz.prog 169 [.pointer (some ⟨p,0,none⟩),.int .i64 n]
  (fun r w'=>r= .tuple #[.agg (Pu.aD E.P n).1.cs.toArray,.int .i64 (Pu.aD E.P n).2]∧St w0 (gA A p g s lim b4 b5 b6 c x E) w') w:=Pu.fy p E.P n w0 w _ hE.P.bd.len h
theorem Sd {lp lg:Int} (hE:EI lp lg E) (n:Int) (h:St w0 (gA A p g s lim b4 b5 b6 c x E) w):ak Tryz.prog 129 [.pointer (some ⟨g,0,none⟩),.int .i64 n]
  (fun r w'=>r= .tuple #[.agg (Gd.aD E.af n).1.cs.toArray,.int .i64 (Gd.aD E.af n).2]∧St w0 (gA A p g s lim b4 b5 b6 c x E) w') w:=
 (Gd.fy g lim E.af n w0 w _ (by have:=hE.G.len;have:=hE.G.lim;omega) h.swap).mono fun r w' ⟨e,h⟩=>⟨e,h.swap⟩
theorem ala (h:St w0 (gA A p g s lim b4 b5 b6 c x E*Z) w):St w0 (gA (A*Z) p g s lim b4 b5 b6 c x E) w:=h.to (by simp only [gA];ac_rfl)
theorem yK (h:St w0 (gA (A*Z) p g s lim b4 b5 b6 c x E) w):St w0 (gA A p g s lim b4 b5 b6 c x E*Z) w:=h.to (by simp only [gA];ac_rfl)
end
def il (w0:World) (A:al) (p g s Br:Nat) (lg c:Int) (x:Gf) (E E0:b9) (n:Nat) (r:Value) (w':World):Prop:=
 r= .int .i64 (cC c x E).1∧∃(X:al) (fs:List Value) (D:Nat→b9) (v:Value),gg w0 p g s lg X fs D∧D fs.length=(cC c x E).2∧D 0=E0∧fs.length≤n+2∧
  St w0 (A*X*pt Br (.cells #[v] 353 (0,0))*own 1 1 v fs.length fs*aI p g s lg (cC c x E).2) w'
theorem hCa {A X b4 b5 b6 b7 R O P G S:al}:A*(X*(b4*b5*b6*b7))*R*O*(P*G*S)=A*X*R*O*b7*(b4*b5*b6)*S*G*P:=by ac_rfl
theorem Cb (p g s Br b4 b5 b6 b7 n:Nat) (lp lg c:Int) (x:Gf) (E E0:b9) (v:Value) (fs:List Value) (X:al) (D:Nat→b9) (w0 w:World) (A:al) (a0 a1 a2 a7 a8 a9 a10 a13:Value)
  (hE:EI lp lg E) (hc:1≤c∧c<9223372036854775808) (hx:0≤x.ab∧x.ab<18446744073709551616) (gv:Ba c x E) (hn:fs.length≤n+1) (hn2:n≤16777210)
  (hU:gg w0 p g s lg (X*(jW b4 b5 b6 s c x*pt b7 (.cells #[.int .u64 (bX E.l c)] 31 (0,0)))) fs D) (hD:D fs.length=gF x E) (hD0:D 0=E0)
  (h:St w0 (A*(X*(jW b4 b5 b6 s c x*pt b7 (.cells #[.int .u64 (bX E.l c)] 31 (0,0))))*pt Br (.cells #[v] 353 (0,0))*own 1 1 v fs.length fs*aI p g s lg (gF x E)) w):
  HC.wp E1 um (tL Tryz.prog [.slot 7] (il w0 A p g s Br lg c x E E0 n))
   [a0,a1,a2,.func (.func 303) #[] #[.pointer (some ⟨Br,0,none⟩)],.pointer (some ⟨b4,0,none⟩),.pointer (some ⟨b5,0,none⟩),.pointer (some ⟨b6,0,none⟩),a7,a8,a9,a10,.pointer (some ⟨b7,0,none⟩),.int .u64 (bX E.l c -x.ab),a13] w:=by
 have hb:=hE.ln c;have hle:=yE hE.R c;have hsum:=hE.sum;have hgc:=gv.ab;obtain ⟨hput,hback⟩:=uR hE.P (n:=x.to) (c:=x.ab) (lC.1 gv.acc) ⟨hx.1,by omega⟩;have hok:=(jy c x E).resolve_right fun q=>q.1 gv;have h1:St w0 (A*X*pt Br (.cells #[v] 353 (0,0))*own 1 1 v fs.length fs*pt b7 (.cells #[.int .u64 (bX E.l c)] 31 (0,0))*jW b4 b5 b6 s c x*ft s p g E.l*Gd.bD g lg (gF x E).af*Pu.bE p E.P) w:=h.to hCa;clear h;generalize hA1:A*X*pt Br (.cells #[v] 353 (0,0))*own 1 1 v fs.length fs*pt b7 (.cells #[.int .u64 (bX E.l c)] 31 (0,0))=A1 at h1;have hf:=fun {Z:al} {w:World} (h:St w0 (A1*jW b4 b5 b6 s c x*ft s p g E.l*Z) w)=>kr h;have hP:=fun {w:World} (h:St w0 (A1*jW b4 b5 b6 s c x*ft s p g E.l*Gd.bD g lg (gF x E).af*Pu.bE p E.P) w)=>Pu.oK p E.P x.to x.ab w0 w _ hE.P.bd hx h;simp
 refine jF (Pu.rm (St w0 (A1*jW b4 b5 b6 s c x*ft s p g E.l*Gd.bD g lg (gF x E).af*Pu.bE p E.P)) (St w0 (A1*jW b4 b5 b6 s c x*ft s p g E.l*Gd.bD g lg (gF x E).af*Pu.bE p (Pu.bo E.P x.to x.ab).2))) h1.drew ?_;have hf2:=fun {P:Pu.Ps} {w:World} (h:St w0 (A1*jW b4 b5 b6 s c x*ft s p g E.l*Gd.bD g lg (gF x E).af*Pu.bE p P) w)=>hf h.drop;simp;refine aq (v:= .pointer (some ⟨s,0,none⟩)) (fun vs' w he hw=>Pu.bU (fun h=>(hf2 h).1) (fun h=>(hf2 h).1) hw) ?_;simp;refine aq (v:= .pointer (some ⟨p,0,none⟩)) (fun vs' w he hw=>Pu.bU (fun h=>(hf2 h).2.2.2.2.2.1) (fun h=>(hf2 h).2.2.2.2.2.1) hw) ?_;simp;refine aq (v:= .int .i64 x.to) (fun vs' w he hw=>Pu.bU (fun h=>(hf2 h).2.2.1) (fun h=>(hf2 h).2.2.1) hw) ?_;simp;refine aq (v:= .int .u64 x.ab) (fun vs' w he hw=>Pu.bU (fun h=>(hf2 h).2.2.2.2.1) (fun h=>(hf2 h).2.2.2.2.1) hw) ?_;simp;refine bw (by rfl) (fun w hw=> ?_) (fun r hr=> ?_)
 ·rw [Pu.ku] at hw
  refine ad ((hP hw).mono ?_);rintro r w' ⟨_,h⟩;exact h
 simp;intro w2 h2;refine ae (hf2 h2).1 ?_;simp;refine ae (hf2 h2).2.1 ?_;simp;refine ad ((uX s p g E.l c (bX E.l c -x.ab) w0 w2 (A1*jW b4 b5 b6 s c x*Gd.bD g lg (gF x E).af*Pu.bE p (Pu.bo E.P x.to x.ab).2) hE.R (h2.to (by ac_rfl))).mono ?_);intro r w3 h3;simp;rw [←hA1] at h3;have h4:St w0 (A*(X*(jW b4 b5 b6 s c x*pt b7 (.cells #[.int .u64 (bX E.l c)] 31 (0,0))))*aI p g s lg ⟨(Pu.bo E.P x.to x.ab).2,(gF x E).af,fw c (bX E.l c -x.ab) E.l⟩*pt Br (.cells #[v] 353 (0,0))*own 1 1 v fs.length fs) w3:=h3.to (by simp only [aI];ac_rfl);refine bM (by kernel_rfl) ((vp Br fs.length v _ fs w0 w3 _ rfl (by omega) h4).mono ?_);rintro r w4 ⟨v',h5⟩;simp;unfold il
 refine ⟨by rw [hok.2],X*(jW b4 b5 b6 s c x*pt b7 (.cells #[.int .u64 (bX E.l c)] 31 (0,0))),_,_,v',hU.snoc (f:=369) (cs:= #[.pointer (some ⟨b4,0,none⟩),.pointer (some ⟨b6,0,none⟩),.pointer (some ⟨b5,0,none⟩),.pointer (some ⟨b7,0,none⟩)]) (E:=(cC c x E).2) (by kernel_rfl) ?_,?_,?_,?_,?_⟩
 ·intro G W hs
  rw [hok.2] at hs;have hs':St w0 (G*X*Gd.bD g lg (gF x E).af*pt b7 (.cells #[.int .u64 (bX E.l c)] 31 (0,0))*jW b4 b5 b6 s c x*ft s p g (fw c (bX E.l c -x.ab) E.l)*Pu.bE p (Pu.bo E.P x.to x.ab).2) W:=hs.to (by simp only [aI];ac_rfl);refine (FE b4 b5 b6 b7 s p g c (bX E.l c) x _ _ w0 W _ (Lt hE.P _ _ hx).bd hx (nF hE.R hc (by omega)) hs').mono ?_;intro r W' h6;rw [hback,I7 hE.R hc (by omega)] at h6;rw [hD];exact h6.to (by simp only [aI,gF];ac_rfl)
 ·simp [uF]
 ·rw [kK _ _ (Nat.zero_le _)];exact hD0
 ·simp;omega
 ·simp only [List.length_append,List.length_singleton]
  rw [hok.2];exact h5.to (by ac_rfl)
theorem ue {w0 w:World} {A X:al} {p g s Br n:Nat} {lg c k:Int} {x:Gf} {E E0:b9} {v:Value} {fs:List Value} {D:Nat→b9} (hk:cC c x E=(k,E))
  (hU:gg w0 p g s lg X fs D) (hD:D fs.length=E) (hD0:D 0=E0) (hn:fs.length≤n)
  (h:St w0 (A*X*pt Br (.cells #[v] 353 (0,0))*own 1 1 v fs.length fs*aI p g s lg E) w):il w0 A p g s Br lg c x E E0 n (.int .i64 k) w:=by
 unfold il;rw [hk];exact ⟨rfl,X,fs,D,v,hU,hD,hD0,by omega,h⟩
abbrev gX (A X:al) (Br:Nat) (v:Value) (fs:List Value):al:=A*X*pt Br (.cells #[v] 353 (0,0))*own 1 1 v fs.length fs
theorem EN {A X:al} {Br:Nat} {v:Value} {fs:List Value} {p g s b4 b5 b6:Nat} {lim c:Int} {x:Gf} {E:b9} {w0 w:World} (h:St w0 (gA (gX A X Br v fs) p g s lim b4 b5 b6 c x E) w):
  St w0 (A*X*pt Br (.cells #[v] 353 (0,0))*own 1 1 v fs.length fs*aI p g s lim E) w:=h.cut (jW b4 b5 b6 s c x) (by simp only [gA,gX,aI];ac_rfl)
abbrev ama (a0 a1 a2:Value) (Br b4 b5 b6:Nat) (r:List Value):List Value:=
 [a0,a1,a2,.func (.func 303) #[] #[.pointer (some ⟨Br,0,none⟩)],.pointer (some ⟨b4,0,none⟩),.pointer (some ⟨b5,0,none⟩),.pointer (some ⟨b6,0,none⟩)]++r
section
variable (p g s Br b4 b5 b6 b7 n:Nat) (lp lg c:Int) (x:Gf) (E E0:b9) (v:Value) (fs:List Value) (X:al) (D:Nat→b9) (w0 w:World) (A:al) (a0 a1 a2 a7 a8 a9 a10 a11 a12 a13:Value)
  (hE:EI lp lg E) (hc:1≤c∧c<9223372036854775808) (hx:0≤x.ab∧x.ab<18446744073709551616) (hn:fs.length≤n) (hn2:n≤16777210)
  (hU:gg w0 p g s lg X fs D) (hD:D fs.length=E) (hD0:D 0=E0)
include hE hc hx hn hn2 hU hD hD0
theorem KA (gv:Ba c x E)
  (h:St w0 (gA (gX A X Br v fs*pt b7 (.cells #[.int .u64 (bX E.l c)] 31 (0,0))) p g s lg b4 b5 b6 c x E) w):
  HC.wp E1 uo (tL Tryz.prog [.slot 7] (il w0 A p g s Br lg c x E E0 n))
   (ama a0 a1 a2 Br b4 b5 b6 [a7,a8,a9,a10,.pointer (some ⟨b7,0,none⟩),.int .u64 (bX E.l c -x.ab),a13]) w:=by
 have hU':=hU.wide (Y:=jW b4 b5 b6 s c x*pt b7 (.cells #[.int .u64 (bX E.l c)] 31 (0,0)));have hlen:E.af.length≤1048576:=by have:=hE.G.len;have:=hE.G.lim;omega
 simp;refine ae (di h).2.2.2.1 ?_;simp;refine aM (fun hi=> ?_) (fun hi=> ?_)
 ·simp at hi
  have hacc:Gd.nW x.to=true:=JL hE.P (lC.1 gv.acc);obtain ⟨hf0,hfb⟩:=Il hE.G hacc hc.1 (gv.item hi).1 (gv.item hi).2;have hfi:(gF x E)=⟨E.P,(Gd.fk E.af x.item x.to).2,E.l⟩:=by simp [gF,hi]
  generalize hA1:gX A X Br v fs*pt b7 (.cells #[.int .u64 (bX E.l c)] 31 (0,0))=A1 at h;have h1:St w0 (A1*jW b4 b5 b6 s c x*ft s p g E.l*Pu.bE p E.P*Gd.bD g lg E.af) w:=h.swap;have hf:=fun {af:List Gd.It} {w:World} (h:St w0 (A1*jW b4 b5 b6 s c x*ft s p g E.l*Pu.bE p E.P*Gd.bD g lg af) w)=>kr h.drop;simp;refine jF (Pu.rm (St w0 (A1*jW b4 b5 b6 s c x*ft s p g E.l*Pu.bE p E.P*Gd.bD g lg E.af)) (St w0 (A1*jW b4 b5 b6 s c x*ft s p g E.l*Pu.bE p E.P*Gd.bD g lg (Gd.fk E.af x.item x.to).2))) h1.drew ?_;simp;refine aq (v:= .pointer (some ⟨s,0,none⟩)) (fun vs' w he hw=>Pu.bU (fun h=>(hf h).1) (fun h=>(hf h).1) hw) ?_;simp;refine aq (v:= .pointer (some ⟨g,0,none⟩)) (fun vs' w he hw=>Pu.bU (fun h=>(hf h).2.2.2.2.2.2) (fun h=>(hf h).2.2.2.2.2.2) hw) ?_;simp;refine aq (v:= .int .i64 x.item) (fun vs' w he hw=>Pu.bU (fun h=>(hf h).2.2.2.1) (fun h=>(hf h).2.2.2.1) hw) ?_;simp
  refine aq (v:= .int .i64 x.to) (fun vs' w he hw=>Pu.bU (fun h=>(hf h).2.2.1) (fun h=>(hf h).2.2.1) hw) ?_;simp;refine bw (by rfl) (fun w hw=> ?_) (fun r hr=> ?_)
  ·rw [Pu.ku] at hw
   refine ad ((Gd.HG g lg E.af x.item x.to w0 w _ hlen hw).mono ?_);rintro r w' ⟨_,h⟩;exact h
  simp;intro w2 h2;rw [←hA1] at h2;have h3:St w0 (A*(X*(jW b4 b5 b6 s c x*pt b7 (.cells #[.int .u64 (bX E.l c)] 31 (0,0))))*aI p g s lg (gF x E)*pt Br (.cells #[v] 353 (0,0))*own 1 1 v fs.length fs) w2:=by
   rw [hfi];exact h2.to (by simp only [aI,gX];ac_rfl)
  refine bM (by kernel_rfl) ((vp Br fs.length v _ fs w0 w2 _ rfl (by omega) h3).mono ?_);rintro r w4 ⟨v',h5⟩;simp;have hU2:=hU'.snoc (f:=367) (cs:= #[.pointer (some ⟨b4,0,none⟩),.pointer (some ⟨b6,0,none⟩),.pointer (some ⟨b5,0,none⟩)]) (E:=gF x E) (by kernel_rfl) (by
   intro G W hs;rw [hfi] at hs;have hs':St w0 (G*X*Pu.bE p E.P*pt b7 (.cells #[.int .u64 (bX E.l c)] 31 (0,0))*jW b4 b5 b6 s c x*ft s p g E.l*Gd.bD g lg (Gd.fk E.af x.item x.to).2) W:=hs.to (by simp only [aI];ac_rfl);refine (FD b4 b5 b6 s p g c lg x _ E.l w0 W _ (by have:=(Gk hE.G x.item x.to).len;have:=hE.G.lim;omega) hs').mono ?_;intro r W' h6;rw [hfb] at h6;rw [hD];exact h6.to (by simp only [aI];ac_rfl))
  have:=Cb p g s Br b4 b5 b6 b7 n lp lg c x E E0 v' _ X _ w0 w4 A a0 a1 a2 a7 a8 a9 a10 a13 hE hc hx gv (by simp;omega) hn2 hU2 (by simp [uF]) (by rw [kK _ _ (Nat.zero_le _)];exact hD0)
   (by simp only [List.length_append,List.length_singleton];exact h5.to (by ac_rfl))
  simpa using this
 ·simp at hi
  have hfi:gF x E=E:=by simp [gF,hi]
  simp;have:=Cb p g s Br b4 b5 b6 b7 n lp lg c x E E0 v fs X D w0 w A a0 a1 a2 a7 a8 a9 a10 a13 hE hc hx gv (by omega) hn2 hU' (by rw [hfi];exact hD) hD0
   (by rw [hfi];exact h.to (by simp only [aI,gX,gA];ac_rfl))
  simpa using this
theorem wW (hacc:(Pu.aD E.P x.to).2=0) (hit:x.item≠0→(Gd.aD E.af x.item).2=0∧(Gd.aD E.af x.item).1.bA=c)
  (h:St w0 (gA (gX A X Br v fs) p g s lg b4 b5 b6 c x E) w):
  HC.wp E1 po (tL Tryz.prog [.slot 7] (il w0 A p g s Br lg c x E E0 n))
   (ama a0 a1 a2 Br b4 b5 b6 [a7,a8,a9,a10,a11,a12,a13]) w:=by
 obtain ⟨m,es,cl,hH,h1⟩:=tR (h.to (B:=gX A X Br v fs*jW b4 b5 b6 s c x*Gd.bD g lg E.af*Pu.bE p E.P*ft s p g E.l) (by simp only [gA];ac_rfl));have hclose:=fun {b:Nat} {t:TypeId} {o:Obj} {w:World} (h:St w0 (gX A X Br v fs*jW b4 b5 b6 s c x*Gd.bD g lg E.af*Pu.bE p E.P*lY s p g m*ay m es cl*pt b o) w)=>
  kd (A:=gX A X Br v fs*jW b4 b5 b6 s c x*Gd.bD g lg E.af*Pu.bE p E.P*pt b o) hH (h.to (by ac_rfl))
 have hf:=fun {w:World} (h:St w0 (gX A X Br v fs*jW b4 b5 b6 s c x*Gd.bD g lg E.af*Pu.bE p E.P*lY s p g m*ay m es cl) w)=>
  kr ((kd hH h).to (B:=gX A X Br v fs*jW b4 b5 b6 s c x*ft s p g E.l*(Gd.bD g lg E.af*Pu.bE p E.P)) (by ac_rfl))
 have hs2:=fun {w:World} (h:St w0 (gX A X Br v fs*jW b4 b5 b6 s c x*Gd.bD g lg E.af*Pu.bE p E.P*lY s p g m*ay m es cl) w)=>(cell_of (off:=2) h.swap.look).trans (rfl:_=some (Value.map (some m)));have hm:=fun {w:World} (h:St w0 (gX A X Br v fs*jW b4 b5 b6 s c x*Gd.bD g lg E.af*Pu.bE p E.P*lY s p g m*ay m es cl) w)=>h.look;generalize hB:gX A X Br v fs*jW b4 b5 b6 s c x*Gd.bD g lg E.af*Pu.bE p E.P*lY s p g m*ay m es cl=B at h1 hf hs2 hm hclose;simp;refine jF (BB (St w0 B) (fun b=>St w0 (B*pt b (.cells #[.int .u64 0] 31 (0,0)))) (fun b=>St w0 (B*pt b (.cells #[.int .u64 (bX E.l c)] 31 (0,0))))) h1.drew ?_;simp;refine aq (v:= .pointer (some ⟨s,0,none⟩)) (fun vs' w he hw=>dt (fun h=>(hf h).1) (fun b h=>(hf h.drop).1) (fun b h=>(hf h.drop).1) hw) ?_;simp;refine aq (v:= .map (some m)) (fun vs' w he hw=>dt (fun h=>hs2 h) (fun b h=>hs2 h.drop) (fun b h=>hs2 h.drop) hw) ?_;simp
 refine aq (v:= .int .i64 c) (fun vs' w he hw=>dt (fun h=>(hf h).2.1) (fun b h=>(hf h.drop).2.1) (fun b h=>(hf h.drop).2.1) hw) ?_;simp;refine od B4 (m:=m) (es:=es) (c:=cl) (fun vs' w he hw=>dt (fun h=>hm h) (fun b h=>hm h.drop) (fun b h=>hm h.drop) hw) ?_;rw [(hH.get hE.R c).1];simp;refine bw (by rfl) (fun w hw=>bO (z:= .int .u64 0) (F:=B) hw fun b w' h=>⟨b,rfl,h⟩) (fun r hr=> ?_);obtain ⟨_,b7,rfl,_⟩:=hr;simp;refine bw (by rfl) (fun w hw=> ?_) (fun r hr=> ?_)
 ·obtain ⟨b,e,hw⟩:=hw
  cases e;exact aU hw rfl (by simp) fun w' h=>⟨b7,rfl,by simpa using h⟩
 simp;rintro w2 ⟨b,e,h2⟩;cases e;have h3:=hclose (t:=0) h2;have h4:St w0 (gA (gX A X Br v fs*pt b7 (.cells #[.int .u64 (bX E.l c)] 31 (0,0))) p g s lg b4 b5 b6 c x E) w2:=h3.to (by simp only [gA];ac_rfl);have hbd:=hE.ln c;refine ae (v:= .int .u64 (bX E.l c)) ((cell_of h2.look).trans rfl) ?_;simp;refine ae (di h4).2.2.2.2.1 ?_;simp;refine ad ((Pu.kV (bX E.l c) x.ab w2 (by omega) hx).mono ?_);rintro r w3 ⟨rfl,rfl⟩;simp;refine aM (fun hl=> ?_) (fun hl=> ?_)
 ·simp at hl
  have hk:cC c x E=(170,E):=by
   unfold cC;rw [if_neg (by simp [hacc]),if_neg (by
    rintro ⟨hi,h|h⟩
    ·exact h (hit hi).1
    ·exact h (hit hi).2),if_pos hl]
  simp;exact ue hk hU hD hD0 hn (EN (h4.cut (B:=gA (gX A X Br v fs) p g s lg b4 b5 b6 c x E) (pt b7 (.cells #[.int .u64 (bX E.l c)] 31 (0,0))) (by simp only [gA];ac_rfl)))
 ·simp at hl
  have hl2:¬bX E.l c<x.ab:=by omega
  simp [hl2];have:=KA p g s Br b4 b5 b6 b7 n lp lg c x E E0 v fs X D w0 w3 A a0 a1 a2 a7 a8 a9 a10 (.int .i64 0) hE hc hx hn hn2 hU hD hD0 ⟨hacc,hit,hl⟩ h4
  simpa using this
end
theorem Ca (af:List Gd.It) (n:Int):(Gd.aD af n).2=0∨(Gd.aD af n).2=151:=by
 unfold Gd.aD;split<;>simp
theorem Im (p g s Br n:Nat) (lp lg c:Int) (x:Gf) (E E0:b9) (v:Value) (fs:List Value) (X:al) (D:Nat→b9) (w0 w:World) (A:al)
  (hE:EI lp lg E) (hc:1≤c∧c<9223372036854775808) (hx:0≤x.ab∧x.ab<18446744073709551616) (hn:fs.length≤n) (hn2:n≤16777210)
  (hU:gg w0 p g s lg X fs D) (hD:D fs.length=E) (hD0:D 0=E0)
  (h:St w0 (A*X*pt Br (.cells #[v] 353 (0,0))*own 1 1 v fs.length fs*aI p g s lg E) w):
  ak Tryz.prog 306 [.pointer (some ⟨s,0,none⟩),.int .i64 c,.agg x.cs.toArray,.func (.func 303) #[] #[.pointer (some ⟨Br,0,none⟩)]]
   (il w0 A p g s Br lg c x E E0 n) w:=by
 refine dx Pg (by simp [Up]) ?_;simp [Up];refine bj h fun b4 w1 h1=> ?_;simp;refine bj h1 fun b5 w2 h2=> ?_;simp;refine bj h2 fun b6 w3 h3=> ?_;simp;have h4:St w0 (gA (gX A X Br v fs) p g s lg b4 b5 b6 c x E) w3:=h3.to (by simp only [gA,gX,jW,aI,p6,Value.cells];ac_rfl);clear h h1 h2 h3;have hcell:∀{Z:al} {w:World},St w0 (gA (gX A X Br v fs) p g s lg b4 b5 b6 c x E*Z) w→St w0 (gA (gX A X Br v fs*Z) p g s lg b4 b5 b6 c x E) w:=fun h=>ala h;refine He (BB (St w0 (gA (gX A X Br v fs) p g s lg b4 b5 b6 c x E)) (fun b=>St w0 (gA (gX A X Br v fs) p g s lg b4 b5 b6 c x E*pt b (.cells (Pu.Ac.cs ⟨[],0⟩).toArray 139 (0,0))))
  (fun b=>St w0 (gA (gX A X Br v fs) p g s lg b4 b5 b6 c x E*pt b (.cells (Pu.aD E.P x.to).1.cs.toArray 139 (0,0))))) (fun _ _=> .tuple #[.agg (Pu.aD E.P x.to).1.cs.toArray,.int .i64 (Pu.aD E.P x.to).2]) h4.drew ?_
 simp;refine aq (v:= .pointer (some ⟨s,0,none⟩)) (fun vs' w he hw=>dt (fun h=>(di h).1) (fun b h=>(di h.drop).1) (fun b h=>(di h.drop).1) hw) ?_;simp;refine aq (v:= .pointer (some ⟨p,0,none⟩)) (fun vs' w he hw=>dt (fun h=>(di h).2.2.2.2.2.1) (fun b h=>(di h.drop).2.2.2.2.2.1) (fun b h=>(di h.drop).2.2.2.2.2.1) hw) ?_;simp;refine aq (v:= .int .i64 x.to) (fun vs' w he hw=>dt (fun h=>(di h).2.2.1) (fun b h=>(di h.drop).2.2.1) (fun b h=>(di h.drop).2.2.1) hw) ?_;simp;refine rJ (by kernel_rfl) (by rfl) (by intro h;cases h) (fun vs' w he hw=>nj (fun h=>Sb hE x.to h) (fun b h=>(Sb hE x.to (hcell h)).mono fun r w' ⟨e,h⟩=>⟨e,yK h⟩) (fun b h=>(Sb hE x.to (hcell h)).mono fun r w' ⟨e,h⟩=>⟨e,yK h⟩) hw) ?_;simp;refine bw (by rfl) (fun w hw=>bO (z:= .agg (Pu.Ac.cs ⟨[],0⟩).toArray) hw fun b w' h=>⟨b,rfl,h⟩) (fun r hr=> ?_);obtain ⟨_,b7,rfl,_⟩:=hr;simp;refine bw (by rfl) (fun w hw=> ?_) (fun r hr=> ?_)
 ·obtain ⟨b,e,hw⟩:=hw
  cases e;exact cJ (vs:=(Pu.aD E.P x.to).1.cs) hw rfl rfl (Pu.cr _) (by simp [Pu.Ac.cs]) fun w' h=>⟨b7,rfl,by simpa [Pu.Ac.cs] using h⟩
 simp;rintro w4 ⟨b,e,h5⟩;cases e;have h6:=h5.drop;refine aM (fun hg=> ?_) (fun hg=> ?_)
 ·simp at hg
  have hg2:=(Kw E.P x.to).resolve_left hg;simp;rw [hg2];exact ue (by unfold cC;rw [if_pos hg]) hU hD hD0 hn (EN h6)
 simp at hg;simp;refine ae (di h6).2.2.2.1 ?_;simp;refine aM (fun hi=> ?_) (fun hi=> ?_)
 ·simp at hi
  simp;refine He (BB (St w0 (gA (gX A X Br v fs) p g s lg b4 b5 b6 c x E)) (fun b=>St w0 (gA (gX A X Br v fs) p g s lg b4 b5 b6 c x E*pt b (.cells (Gd.It.cs ⟨0,0,0,0⟩).toArray 123 (0,0))))
   (fun b=>St w0 (gA (gX A X Br v fs) p g s lg b4 b5 b6 c x E*pt b (.cells (Gd.aD E.af x.item).1.cs.toArray 123 (0,0))))) (fun _ _=> .tuple #[.agg (Gd.aD E.af x.item).1.cs.toArray,.int .i64 (Gd.aD E.af x.item).2]) h6.drew ?_
  simp;refine aq (v:= .pointer (some ⟨s,0,none⟩)) (fun vs' w he hw=>dt (fun h=>(di h).1) (fun b h=>(di h.drop).1) (fun b h=>(di h.drop).1) hw) ?_;simp;refine aq (v:= .pointer (some ⟨g,0,none⟩)) (fun vs' w he hw=>dt (fun h=>(di h).2.2.2.2.2.2) (fun b h=>(di h.drop).2.2.2.2.2.2) (fun b h=>(di h.drop).2.2.2.2.2.2) hw) ?_;simp;refine aq (v:= .int .i64 x.item) (fun vs' w he hw=>dt (fun h=>(di h).2.2.2.1) (fun b h=>(di h.drop).2.2.2.1) (fun b h=>(di h.drop).2.2.2.1) hw) ?_;simp;refine rJ (by kernel_rfl) (by rfl) (by intro h;cases h) (fun vs' w he hw=>nj (fun h=>Sd hE x.item h) (fun b h=>(Sd hE x.item (hcell h)).mono fun r w' ⟨e,h⟩=>⟨e,yK h⟩) (fun b h=>(Sd hE x.item (hcell h)).mono fun r w' ⟨e,h⟩=>⟨e,yK h⟩) hw) ?_;simp;refine bw (by rfl) (fun w hw=>bO (z:= .agg (Gd.It.cs ⟨0,0,0,0⟩).toArray) hw fun b w' h=>⟨b,rfl,h⟩) (fun r hr=> ?_);obtain ⟨_,b8,rfl,_⟩:=hr;simp
  refine bw (by rfl) (fun w hw=> ?_) (fun r hr=> ?_)
  ·obtain ⟨b,e,hw⟩:=hw
   cases e;exact cJ (vs:=(Gd.aD E.af x.item).1.cs) hw rfl rfl (Gd.cr _) (by simp [Gd.It.cs]) fun w' h=>⟨b8,rfl,by simpa [Gd.It.cs] using h⟩
  simp;rintro w5 ⟨b,e,h7⟩;cases e;have bad:(Gd.aD E.af x.item).2≠0∨(Gd.aD E.af x.item).1.bA≠c→il w0 A p g s Br lg c x E E0 n (.int .i64 170) w5:=fun hb=>
   ue (by unfold cC;rw [if_neg (by simpa using hg),if_pos ⟨hi,hb⟩]) hU hD hD0 hn (EN h7.drop)
  rcases Ca E.af x.item with e1|e1
  ·simp [e1]
   refine ae (v:= .int .i64 (Gd.aD E.af x.item).1.bA) ((cell_of h7.look).trans rfl) ?_;simp;refine ae (di h7.drop).2.1 ?_;simp;refine aM (fun hcn=> ?_) (fun hcn=> ?_)
   ·simp at hcn
    simp;exact bad (.inr hcn)
   ·simp at hcn
    simp;have:=wW p g s Br b4 b5 b6 n lp lg c x E E0 v fs X D w0 w5 A (.pointer (some ⟨s,0,none⟩)) (.int .i64 c) (.agg x.cs.toArray) (.int .i64 0) (.int .i64 (Pu.aD E.P x.to).2) (.pointer (some ⟨b8,0,none⟩)) (.int .i64 0) undef undef undef hE hc hx hn hn2 hU hD hD0 hg (fun _=>⟨e1,hcn⟩) h7.drop
    simpa using this
  ·simp [e1]
   exact bad (.inl (by omega))
 ·simp at hi
  simp;have:=wW p g s Br b4 b5 b6 n lp lg c x E E0 v fs X D w0 w4 A (.pointer (some ⟨s,0,none⟩)) (.int .i64 c) (.agg x.cs.toArray) (.int .i64 0) (.int .i64 (Pu.aD E.P x.to).2) undef undef undef undef undef hE hc hx hn hn2 hU hD hD0 hg (fun h=>absurd hi h) h6
  simpa using this
theorem iv {X Y:World→Prop} {vs:List Value} {w:World} (he:era 1 vs=era 1 []) (h:Pu.rm X Y vs w):X w:=by
 cases vs with
 |nil=>exact h
 |cons _ _=>simp [era] at he
def YF (X:World→Prop) (r:Value) (Y:World→Prop):List Value→World→Prop
 | [],w=>X w
 |v::_,w=>v=r∧Y w
theorem tu {X Y:World→Prop} {r:Value} {vs:List Value} {w:World} (he:era 1 vs=era 1 []) (h:YF X r Y vs w):X w:=by
 cases vs with
 |nil=>exact h
 |cons _ _=>simp [era] at he
def Et.cs (x:Et) (pr:Int) (wv:Value):List Value:= [.int .i64 x.acc,.int .i64 x.item,.int .u64 x.ab,.int .u64 pr,wv]
abbrev pA (A:al) (p g s:Nat) (lim:Int) (b:Nat) (x:Et) (pr:Int) (wv:Value) (E:b9):al:=A*pt b (.cells (x.cs pr wv).toArray 34 (0,0))*ft s p g E.l*Gd.bD g lim E.af*Pu.bE p E.P
section
variable {w0 w:World} {A Z:al} {p g s b:Nat} {lim pr:Int} {x:Et} {wv:Value} {E:b9}
theorem xB {l:List Rw} (h:St w0 (A*pt b (.cells (x.cs pr wv).toArray 34 (0,0))*ft s p g l*Z) w):w.cell? ⟨b,0,none⟩=some (.int .i64 x.acc)∧w.cell? ⟨b,1,none⟩=some (.int .i64 x.item)∧w.cell? ⟨b,2,none⟩=some (.int .u64 x.ab)∧
  w.cell? ⟨s,0,none⟩=some (.pointer (some ⟨p,0,none⟩))∧w.cell? ⟨s,1,none⟩=some (.pointer (some ⟨g,0,none⟩)):=by
 have h':St w0 (A*pt b (.cells (x.cs pr wv).toArray 34 (0,0))*Z*ft s p g l) w:=h.to (by ac_rfl);obtain ⟨m,es,cl,hE,h'⟩:=tR h';have f4:=h'.drop.drop.drop.look;have fs:=h'.drop.look;exact ⟨(cell_of f4).trans rfl,(cell_of f4).trans rfl,(cell_of f4).trans rfl,(cell_of fs).trans rfl,(cell_of fs).trans rfl⟩
theorem eC (h:St w0 (pA A p g s lim b x pr wv E) w):w.cell? ⟨b,0,none⟩=some (.int .i64 x.acc)∧w.cell? ⟨b,1,none⟩=some (.int .i64 x.item)∧w.cell? ⟨b,2,none⟩=some (.int .u64 x.ab)∧
  w.cell? ⟨s,0,none⟩=some (.pointer (some ⟨p,0,none⟩))∧w.cell? ⟨s,1,none⟩=some (.pointer (some ⟨g,0,none⟩)):=xB h.drop
theorem VF {lp lg:Int} (hE:EI lp lg E) (n:Int) (h:St w0 (pA A p g s lim b x pr wv E) w):ak Tryz.prog 169 [.pointer (some ⟨p,0,none⟩),.int .i64 n]
  (fun r w'=>r= .tuple #[.agg (Pu.aD E.P n).1.cs.toArray,.int .i64 (Pu.aD E.P n).2]∧St w0 (pA A p g s lim b x pr wv E) w') w:=Pu.fy p E.P n w0 w _ hE.P.bd.len h
theorem VG {lp lg:Int} (hE:EI lp lg E) (n:Int) (h:St w0 (pA A p g s lim b x pr wv E) w):ak Tryz.prog 129 [.pointer (some ⟨g,0,none⟩),.int .i64 n]
  (fun r w'=>r= .tuple #[.agg (Gd.aD E.af n).1.cs.toArray,.int .i64 (Gd.aD E.af n).2]∧St w0 (pA A p g s lim b x pr wv E) w') w:=
 (Gd.fy g lim E.af n w0 w _ (by have:=hE.G.len;have:=hE.G.lim;omega) h.swap).mono fun r w' ⟨e,h⟩=>⟨e,h.swap⟩
theorem GP (h:St w0 (pA A p g s lim b x pr wv E*Z) w):St w0 (pA (A*Z) p g s lim b x pr wv E) w:=h.to (by simp only [pA];ac_rfl)
theorem Ai (h:St w0 (pA (A*Z) p g s lim b x pr wv E) w):St w0 (pA A p g s lim b x pr wv E*Z) w:=h.to (by simp only [pA];ac_rfl)
theorem Fi (h:St w0 (pA A p g s lim b x pr wv E) w):St w0 (A*aI p g s lim E) w:=h.cut (pt b (.cells (x.cs pr wv).toArray 34 (0,0))) (by simp only [pA,aI];ac_rfl)
end
def oJ (w0:World) (A:al) (p g s:Nat) (lg c:Int) (x:Et) (E:b9) (r:Value) (w':World):Prop:=
 r= .int .i64 (aQ c x E).1∧St w0 (A*aI p g s lg (aQ c x E).2) w'
section
variable (p g s b:Nat) (lp lg c pr:Int) (x:Et) (wv:Value) (E:b9) (w0 w:World) (A:al) (a0 a1 a2 a5 a6 a7 a8:Value)
  (hE:EI lp lg E) (hx:0≤x.ab∧x.ab<18446744073709551616)
include hE hx
theorem GU (P:Pu.Ps) (af:List Gd.It) (hP:(Pu.bJ E.P x.acc x.ab).1=0) (hput:aQ c x E=(0,⟨P,af,fw c (bX E.l c+x.ab) E.l⟩)) (h:St w0 (pA A p g s lg b x pr wv ⟨P,af,E.l⟩) w):
  HC.wp E1 uj (tL Tryz.prog [.slot 4] (oJ w0 A p g s lg c x E)) [.pointer (some ⟨s,0,none⟩),.int .i64 c,a2,.pointer (some ⟨b,0,none⟩),.int .i64 0,a5,a6,a7,a8] w:=by
 have hbd:=hE.ln c;have hcl:x.ab≤4611686018427387904:=by
  unfold Pu.bJ at hP;split at hP
  ·rename_i ha
   split at hP
   ·cases hP
   ·rename_i hlt
    obtain ⟨i,hi,hil⟩:=Pu.iJ ha;have e0:x.acc.toNat=i:=by omega
    rw [e0] at hlt;have:=Pu.dS hE.P.bd hil;omega
  ·cases hP
 obtain ⟨m,es,cl,hH,h1⟩:=tR (h.to (B:=A*pt b (.cells (x.cs pr wv).toArray 34 (0,0))*Gd.bD g lg af*Pu.bE p P*ft s p g E.l) (by simp only [pA];ac_rfl));have hf:=fun {w:World} (h:St w0 (A*pt b (.cells (x.cs pr wv).toArray 34 (0,0))*Gd.bD g lg af*Pu.bE p P*lY s p g m*ay m es cl) w)=>
  xB ((kd hH h).to (B:=A*pt b (.cells (x.cs pr wv).toArray 34 (0,0))*ft s p g E.l*(Gd.bD g lg af*Pu.bE p P)) (by ac_rfl))
 have hs2:=fun {w:World} (h:St w0 (A*pt b (.cells (x.cs pr wv).toArray 34 (0,0))*Gd.bD g lg af*Pu.bE p P*lY s p g m*ay m es cl) w)=>(cell_of (off:=2) h.swap.look).trans (rfl:_=some (Value.map (some m)));have hm:=fun {w:World} (h:St w0 (A*pt b (.cells (x.cs pr wv).toArray 34 (0,0))*Gd.bD g lg af*Pu.bE p P*lY s p g m*ay m es cl) w)=>h.look;have hset:=fun {w:World} (h:St w0 (A*pt b (.cells (x.cs pr wv).toArray 34 (0,0))*Gd.bD g lg af*Pu.bE p P*lY s p g m*ay m es cl) w)=>uX s p g E.l c (bX E.l c+x.ab) w0 w _ hE.R (kd hH h);simp;refine jF (Pu.rm (St w0 (A*pt b (.cells (x.cs pr wv).toArray 34 (0,0))*Gd.bD g lg af*Pu.bE p P*lY s p g m*ay m es cl)) (St w0 (A*pt b (.cells (x.cs pr wv).toArray 34 (0,0))*Gd.bD g lg af*Pu.bE p P*ft s p g (fw c (bX E.l c+x.ab) E.l)))) h1.drew ?_;simp;refine aq (v:= .map (some m)) (fun vs' w he hw=>hs2 (iv he hw)) ?_;simp
 refine od B4 (m:=m) (es:=es) (c:=cl) (fun vs' w he hw=>hm (iv he hw)) ?_;rw [(hH.get hE.R c).1];simp;refine aq (v:= .int .u64 x.ab) (fun vs' w he hw=>(hf (iv he hw)).2.2.1) ?_;simp
 try simp (disch:=omega) only [bx]
 refine bw (by rfl) (fun w hw=> ?_) (fun r hr=> ?_)
 ·rw [Pu.ku] at hw
  refine ad ((hset hw).mono ?_);intro r w' h;exact h
 simp;intro w2 h2;unfold oJ;rw [hput];exact ⟨rfl,h2.cut (pt b (.cells (x.cs pr wv).toArray 34 (0,0))) (by simp only [aI];ac_rfl)⟩
theorem GV (ha:(Pu.aD E.P x.acc).2=0) (hit:x.item≠0→(Gd.aD E.af x.item).2=0∧(Gd.aD E.af x.item).1.bA=0∧(Gd.aD E.af x.item).1.acc=x.acc)
  (h:St w0 (pA A p g s lg b x pr wv E) w):
  HC.wp E1 uk (tL Tryz.prog [.slot 4] (oJ w0 A p g s lg c x E)) [.pointer (some ⟨s,0,none⟩),.int .i64 c,a2,.pointer (some ⟨b,0,none⟩),.int .i64 0,a5,a6,a7,a8] w:=by
 have hlen:E.af.length≤1048576:=by have:=hE.G.len;have:=hE.G.lim;omega
 have n1:¬((Pu.aD E.P x.acc).2≠0):=by simp [ha]
 have n2:¬(x.item≠0∧((Gd.aD E.af x.item).2≠0∨(Gd.aD E.af x.item).1.bA≠0∨(Gd.aD E.af x.item).1.acc≠x.acc)):=by
  rintro ⟨hi,h|h|h⟩
  ·exact h (hit hi).1
  ·exact h (hit hi).2.1
  ·exact h (hit hi).2.2
 have hf:=fun {P:Pu.Ps} {w:World} (h:St w0 (pA A p g s lg b x pr wv ⟨P,E.af,E.l⟩) w)=>eC h;simp;refine jF (YF (St w0 (pA A p g s lg b x pr wv E)) (.int .i64 (Pu.bJ E.P x.acc x.ab).1) (St w0 (pA A p g s lg b x pr wv ⟨(Pu.bJ E.P x.acc x.ab).2,E.af,E.l⟩))) h.drew ?_;simp;refine aq (v:= .pointer (some ⟨p,0,none⟩)) (fun vs' w he hw=>(eC (tu he hw)).2.2.2.1) ?_;simp;refine aq (v:= .int .i64 x.acc) (fun vs' w he hw=>(eC (tu he hw)).1) ?_;simp;refine aq (v:= .int .u64 x.ab) (fun vs' w he hw=>(eC (tu he hw)).2.2.1) ?_;simp;refine bw (by rfl) (fun w hw=>ad ((Pu.wg p E.P x.acc x.ab w0 w _ hE.P.bd hx hw).mono ?_)) (fun r hr=> ?_)
 ·rintro r w' ⟨e,h⟩
  exact ⟨e,h⟩
 obtain ⟨_,rfl,_⟩:=hr;simp;rintro w2 ⟨_,h2⟩;refine aM (fun ht=> ?_) (fun ht=> ?_)
 ·simp at ht
  have hk:aQ c x E=((Pu.bJ E.P x.acc x.ab).1,E):=by
   unfold aQ;rw [if_neg n1,if_neg n2,if_pos ht]
  have hsame:(Pu.bJ E.P x.acc x.ab).2=E.P:=by
   unfold Pu.bJ at ht⊢;split at ht
   ·rename_i e1
    split at ht
    ·rename_i e2;rw [if_pos e1,if_pos e2]
    ·exact absurd rfl ht
   ·rename_i e1;rw [if_neg e1]
  simp;unfold oJ;rw [hk];rw [hsame] at h2;exact ⟨rfl,Fi h2⟩
 simp at ht;have hk:aQ c x E=(0,⟨(Pu.bJ E.P x.acc x.ab).2,if x.item≠0 then (Gd.fC E.af x.item c).2 else E.af,fw c (bX E.l c+x.ab) E.l⟩):=by
  unfold aQ;rw [if_neg n1,if_neg n2,if_neg (by simp [ht])]
 simp;refine ae (hf h2).2.1 ?_;simp;refine aM (fun hi=> ?_) (fun hi=> ?_)
 ·simp at hi
  rw [if_pos hi] at hk;simp;refine jF (Pu.rm (St w0 (pA A p g s lg b x pr wv ⟨(Pu.bJ E.P x.acc x.ab).2,E.af,E.l⟩)) (St w0 (pA A p g s lg b x pr wv ⟨(Pu.bJ E.P x.acc x.ab).2,(Gd.fC E.af x.item c).2,E.l⟩))) h2.drew ?_;simp;refine aq (v:= .pointer (some ⟨g,0,none⟩)) (fun vs' w he hw=>(hf (iv he hw)).2.2.2.2) ?_;simp;refine aq (v:= .int .i64 x.item) (fun vs' w he hw=>(hf (iv he hw)).2.1) ?_;simp;refine bw (by rfl) (fun w hw=>ad ((Gd.wb g lg E.af x.item c w0 w _ hlen (St.swap hw)).mono ?_)) (fun r hr=> ?_)
  ·rintro r w' ⟨e,h⟩
   exact h.swap
  simp;intro w3 h3;have:=GU p g s b lp lg c pr x wv E w0 w3 A a2 a5 a6 a7 (.int .i64 (Pu.bJ E.P x.acc x.ab).1) hE hx _ _ ht hk h3
  simpa using this
 ·simp at hi
  rw [if_neg (by simp [hi])] at hk;simp;have:=GU p g s b lp lg c pr x wv E w0 w2 A a2 a5 a6 a7 (.int .i64 (Pu.bJ E.P x.acc x.ab).1) hE hx _ _ ht hk h2
  simpa using this
end
theorem eX (p g s:Nat) (lp lg c pr:Int) (x:Et) (wv:Value) (E:b9) (w0 w:World) (A:al)
  (hE:EI lp lg E) (hc:1≤c∧c<9223372036854775808) (hx:0≤x.ab∧x.ab<18446744073709551616) (h:St w0 (A*aI p g s lg E) w):
  ak Tryz.prog 220 [.pointer (some ⟨s,0,none⟩),.int .i64 c,.agg (x.cs pr wv).toArray]
   (fun r w'=>r= .int .i64 (aQ c x E).1∧St w0 (A*aI p g s lg (aQ c x E).2) w') w:=by
 refine dx OA (by simp [T5]) ?_;simp [T5];refine bj h fun b w1 h1=> ?_;simp;have h4:St w0 (pA A p g s lg b x pr wv E) w1:=h1.to (by simp only [pA,aI,p6];ac_rfl);clear h h1;refine He (BB (St w0 (pA A p g s lg b x pr wv E)) (fun q=>St w0 (pA A p g s lg b x pr wv E*pt q (.cells (Pu.Ac.cs ⟨[],0⟩).toArray 139 (0,0))))
  (fun q=>St w0 (pA A p g s lg b x pr wv E*pt q (.cells (Pu.aD E.P x.acc).1.cs.toArray 139 (0,0))))) (fun _ _=> .tuple #[.agg (Pu.aD E.P x.acc).1.cs.toArray,.int .i64 (Pu.aD E.P x.acc).2]) h4.drew ?_
 simp;refine aq (v:= .pointer (some ⟨p,0,none⟩)) (fun vs' w he hw=>dt (fun h=>(eC h).2.2.2.1) (fun b h=>(eC h.drop).2.2.2.1) (fun b h=>(eC h.drop).2.2.2.1) hw) ?_;simp;refine aq (v:= .int .i64 x.acc) (fun vs' w he hw=>dt (fun h=>(eC h).1) (fun b h=>(eC h.drop).1) (fun b h=>(eC h.drop).1) hw) ?_;simp;refine rJ (by kernel_rfl) (by rfl) (by intro h;cases h) (fun vs' w he hw=>nj (fun h=>VF hE x.acc h) (fun b h=>(VF hE x.acc (GP h)).mono fun r w' ⟨e,h⟩=>⟨e,Ai h⟩) (fun b h=>(VF hE x.acc (GP h)).mono fun r w' ⟨e,h⟩=>⟨e,Ai h⟩) hw) ?_;simp;refine bw (by rfl) (fun w hw=>bO (z:= .agg (Pu.Ac.cs ⟨[],0⟩).toArray) hw fun b w' h=>⟨b,rfl,h⟩) (fun r hr=> ?_);obtain ⟨_,b7,rfl,_⟩:=hr;simp;refine bw (by rfl) (fun w hw=> ?_) (fun r hr=> ?_)
 ·obtain ⟨b,e,hw⟩:=hw
  cases e;exact cJ (vs:=(Pu.aD E.P x.acc).1.cs) hw rfl rfl (Pu.cr _) (by simp [Pu.Ac.cs]) fun w' h=>⟨b7,rfl,by simpa [Pu.Ac.cs] using h⟩
 simp;rintro w4 ⟨_,e,h5⟩;cases e;have h6:=h5.drop;have fin:oJ w0 A p g s lg c x E=(fun r w'=>r= .int .i64 (aQ c x E).1∧St w0 (A*aI p g s lg (aQ c x E).2) w'):=rfl;refine aM (fun hg=> ?_) (fun hg=> ?_)
 ·simp at hg
  have hg2:=(Kw E.P x.acc).resolve_left hg;have hk:aQ c x E=(142,E):=by unfold aQ;rw [if_pos hg]
  simp;rw [hg2,hk];exact ⟨rfl,Fi h6⟩
 simp at hg;simp;refine ae (eC h6).2.1 ?_;simp;refine aM (fun hi=> ?_) (fun hi=> ?_)
 ·simp at hi
  simp;refine He (BB (St w0 (pA A p g s lg b x pr wv E)) (fun q=>St w0 (pA A p g s lg b x pr wv E*pt q (.cells (Gd.It.cs ⟨0,0,0,0⟩).toArray 123 (0,0))))
   (fun q=>St w0 (pA A p g s lg b x pr wv E*pt q (.cells (Gd.aD E.af x.item).1.cs.toArray 123 (0,0))))) (fun _ _=> .tuple #[.agg (Gd.aD E.af x.item).1.cs.toArray,.int .i64 (Gd.aD E.af x.item).2]) h6.drew ?_
  simp;refine aq (v:= .pointer (some ⟨g,0,none⟩)) (fun vs' w he hw=>dt (fun h=>(eC h).2.2.2.2) (fun b h=>(eC h.drop).2.2.2.2) (fun b h=>(eC h.drop).2.2.2.2) hw) ?_;simp;refine aq (v:= .int .i64 x.item) (fun vs' w he hw=>dt (fun h=>(eC h).2.1) (fun b h=>(eC h.drop).2.1) (fun b h=>(eC h.drop).2.1) hw) ?_;simp;refine rJ (by kernel_rfl) (by rfl) (by intro h;cases h) (fun vs' w he hw=>nj (fun h=>VG hE x.item h) (fun b h=>(VG hE x.item (GP h)).mono fun r w' ⟨e,h⟩=>⟨e,Ai h⟩) (fun b h=>(VG hE x.item (GP h)).mono fun r w' ⟨e,h⟩=>⟨e,Ai h⟩) hw) ?_;simp;refine bw (by rfl) (fun w hw=>bO (z:= .agg (Gd.It.cs ⟨0,0,0,0⟩).toArray) hw fun b w' h=>⟨b,rfl,h⟩) (fun r hr=> ?_);obtain ⟨_,b8,rfl,_⟩:=hr;simp;refine bw (by rfl) (fun w hw=> ?_) (fun r hr=> ?_)
  ·obtain ⟨b,e,hw⟩:=hw
   cases e;exact cJ (vs:=(Gd.aD E.af x.item).1.cs) hw rfl rfl (Gd.cr _) (by simp [Gd.It.cs]) fun w' h=>⟨b8,rfl,by simpa [Gd.It.cs] using h⟩
  simp;rintro w5 ⟨_,e,h7⟩;cases e;have bad:((Gd.aD E.af x.item).2≠0∨(Gd.aD E.af x.item).1.bA≠0∨(Gd.aD E.af x.item).1.acc≠x.acc)→(.int .i64 151=Value.int .i64 (aQ c x E).1)∧St w0 (A*aI p g s lg (aQ c x E).2) w5:=fun hb=>by
   have hk:aQ c x E=(151,E):=by unfold aQ;rw [if_neg (by simpa using hg),if_pos ⟨hi,hb⟩]
   rw [hk];exact ⟨rfl,Fi h7.drop⟩
  rcases Ca E.af x.item with e1|e1
  ·simp [e1]
   refine ae (v:= .int .i64 (Gd.aD E.af x.item).1.bA) ((cell_of h7.look).trans rfl) ?_;simp
   by_cases e2:(Gd.aD E.af x.item).1.bA=0
   ·simp [e2]
    refine ae (v:= .int .i64 (Gd.aD E.af x.item).1.acc) ((cell_of h7.look).trans rfl) ?_;simp;refine ae (eC h7.drop).1 ?_;simp;refine aM (fun hcn=> ?_) (fun hcn=> ?_)
    ·simp at hcn
     simp
     simpa using bad (.inr (.inr hcn))
    ·simp at hcn
     simp;have:=GV p g s b lp lg c pr x wv E w0 w5 A (.agg (x.cs pr wv).toArray) (.int .i64 (Pu.aD E.P x.acc).2) (.pointer (some ⟨b8,0,none⟩)) (.int .i64 0) undef hE hx hg (fun _=>⟨e1,e2,hcn⟩) h7.drop;rw [fin] at this
     simpa using this
   ·simp [e2]
    simpa using bad (.inr (.inl e2))
  ·simp [e1]
   simpa using bad (.inl (by omega))
 ·simp at hi
  simp;have:=GV p g s b lp lg c pr x wv E w0 w4 A (.agg (x.cs pr wv).toArray) (.int .i64 (Pu.aD E.P x.acc).2) undef undef undef hE hx hg (fun h=>absurd hi h) h6;rw [fin] at this
  simpa using this
theorem uV {P:Program} {env:List Value} {i n:Nat} {a:Addr} {v:Value} {r:List RV} {K:List Value→World→Prop} {w:World} (he:env.getD i undef= .pointer (some a))
  (hc:w.cell? a=some v) (hk:xJ P env r (fun us w=>K (v::us) w) w):xJ P env (.cell i false n::r) K w:=by
 show fS P (dC (sK false n (env.getD i undef))) _ w;rw [he];refine aN (w':=w) (v:=v) ?_ ⟨rfl,hk⟩;simp [sK,Instr.sureAddr,hc]
def iz (gs:List Gf):List Value:=gs.flatMap Gf.cs
theorem Kx (x:Gf):x.cs.length=3:=rfl
theorem ER (x:Gf):∀u∈x.cs,u.oneCell'=true:=by
 intro u hu;simp only [Gf.cs,List.mem_cons,List.not_mem_nil,or_false] at hu;rcases hu with rfl|rfl|rfl<;>rfl
theorem Ky {gs:List Gf} {i:Nat} (h:i<gs.length):∀j u,(gs[i].cs)[j]?=some u→(iz gs)[i*3+j]?=some u:=by
 intro j u hu;have hj:j<3:=by
  have:=(List.getElem?_eq_some_iff.1 hu).1
  rwa [Kx] at this
 unfold iz;rw [fB Gf.cs 3 Kx gs i j h hj];exact hu
structure yh (w0:World) (A:al) (p g s:Nat) (lp lg:Int) (fb:Nat) (cs:List Value) (bes:b9→Int×b9):Prop where
 body:bW Tryz.prog fb=true
 no:∀E,(bes E).1≠0→(bes E).2=E
 call:∀(G:al) (E:b9) (W:World),EI lp lg E→St w0 (A*G*aI p g s lg E) W→ak Tryz.prog fb cs (fun r W'=>r= .int .i64 (bes E).1∧St w0 (A*G*aI p g s lg (bes E).2) W') W
theorem Dy {w0 w:World} {A X:al} {p g s Be Br:Nat} {lg e:Int} {fs:List Value} {D:Nat→b9} {v:Value} {env:List Value} {E2:b9} {K:Value→World→Prop}
  (hU:gg w0 p g s lg X fs D) (hn:fs.length≤16777216) (henv:env.getD 4 undef= .pointer (some ⟨Be,0,none⟩))
  (hK:∀w',St w0 (A*aI p g s lg (if e=0 then E2 else D 0)) w'→K (.int .i64 e) w') (hE:e≠0→E2=D fs.length)
  (h:St w0 (A*pt Be (.cells #[.int .i64 e] 47 (0,0))*X*pt Br (.cells #[v] 353 (0,0))*own 1 1 v fs.length fs*aI p g s lg E2) w):
  HF Tryz.prog 304 [.pointer (some ⟨Be,0,none⟩),.pointer (some ⟨Br,0,none⟩)] (fun w'=>xJ Tryz.prog env [.cell 4 false 1] (fun vs w=>K (Jj vs) w) w') w:=by
 by_cases he:e=0
 ·subst he
  have h1:St w0 (A*X*pt Br (.cells #[v] 353 (0,0))*own 1 1 v fs.length fs*aI p g s lg E2*pt Be (.cells #[.int .i64 0] 47 (0,0))) w:=h.to (by ac_rfl);refine QF h1 ?_;refine uV henv ((cell_of h1.look).trans rfl) ?_;simp;refine hK w ?_;rw [if_pos rfl];exact h.cut (pt Be (.cells #[.int .i64 0] 47 (0,0))*X*pt Br (.cells #[v] 353 (0,0))*own 1 1 v fs.length fs) (by ac_rfl)
 ·rw [hE he] at h
  have h1:St w0 (A*pt Be (.cells #[.int .i64 e] 47 (0,0))*pt Br (.cells #[v] 353 (0,0))*own 1 1 v fs.length fs*(X*aI p g s lg (D fs.length))) w:=h.to (by ac_rfl);have hu:=Md (w0:=w0) (A:=A) (Be:=Be) (Br:=Br) (n:=fs.length) (v:=v) (fs:=fs) he (by omega) (fun k=>X*aI p g s lg (D k)) (fun G k W hk hW=>by
   obtain ⟨f,cs,e1,e2,e3⟩:=hU k hk;exact ⟨f,cs,e1,e2,(e3 G W (hW.to (by ac_rfl))).mono fun _ W' h=>h.to (by ac_rfl)⟩) h1
  refine CallsD.mono hu ?_;rintro e' u' w' ⟨hu',v',hv',h2⟩;refine ⟨hu',v',hv',?_⟩;have h3:St w0 (A*(X*aI p g s lg (D 0))*pt Be (.cells #[.int .i64 e] 47 (0,0))) w':=h2.swap;refine uV henv ((cell_of h3.look).trans rfl) ?_;simp;refine hK w' ?_;rw [if_neg he];exact h3.drop.cut X (by ac_rfl)
def yZ:HC:=(.seq (.reg (.eff .callv (.cons (.inp 3) .nil) (.eff (.st 1) (.cons (.inp 4) (.cons (.bv 0) .nil)) (.done [] none)))) .ret)
@[simp] theorem WI:type_of%(@aF yZ _ yZ.eq_1):=aF yZ.eq_1
def za:HC:=(.reg (.chk none (.bin .add) (.cons (.inp 12) (.cons (.cst (.int .i64 1)) .nil)) (.done [(12,(.op (.bin .add) (.cons (.inp 12) (.cons (.cst (.int .i64 1)) .nil))))] none)))
@[simp] theorem WJ:type_of%(@aF za _ za.eq_1):=aF za.eq_1
def zb:HC:=(.seq (.reg (.eff (.st 1) (.cons (.inp 4) (.cons (.inp 9) .nil)) (.done [] none))) .ret)
@[simp] theorem WK:type_of%(@aF zb _ zb.eq_1):=aF zb.eq_1
def zc:HC:=(.br (.chk none (.bin .neq) (.cons (.inp 9) (.cons (.cst (.int .i64 0)) .nil)) (.done [] (some (.op (.bin .neq) (.cons (.inp 9) (.cons (.cst (.int .i64 0)) .nil)))))) zb .skip)
@[simp] theorem WL:type_of%(@aF zc _ zc.eq_1):=aF zc.eq_1
def zd:HC:=(.seq (.reg (.eff (.ld true 3) (.cons (.inp 8) .nil) (.eff (.call 306) (.cons (.inp 0) (.cons (.inp 1) (.cons (.bv 0) (.cons (.inp 7) .nil)))) (.done [(9,(.bv 1))] none)))) zc)
@[simp] theorem WM:type_of%(@aF zd _ zd.eq_1):=aF zd.eq_1
def ze:HC:=(.seq (.reg (.chk none (.idxL 3) (.cons (.inp 10) (.cons (.inp 12) .nil)) (.eff (.ld true 3) (.cons (.op (.idxL 3) (.cons (.inp 10) (.cons (.inp 12) .nil))) .nil) (.eff (.new 90 (.agg #[(.int .i64 0),(.int .i64 0),(.int .u64 0)])) .nil (.eff (.st 3) (.cons (.bv 1) (.cons (.bv 0) .nil)) (.done [(8,(.bv 1))] none)))))) zd)
@[simp] theorem WN:type_of%(@aF ze _ ze.eq_1):=aF ze.eq_1
def zf:HC:=(.seq (.block 1 ze) za)
@[simp] theorem WO:type_of%(@aF zf _ zf.eq_1):=aF zf.eq_1
def zg:HC:=(.seq (.br (.chk none (.bin .lss) (.cons (.inp 12) (.cons (.inp 11) .nil)) (.done [] (some (.op (.bin .lss) (.cons (.inp 12) (.cons (.inp 11) .nil)))))) .skip (.exit 0)) zf)
@[simp] theorem WQ:type_of%(@aF zg _ zg.eq_1):=aF zg.eq_1
def zh:HC:=(.loop zg)
@[simp] theorem WT:type_of%(@aF zh _ zh.eq_1):=aF zh.eq_1
def zi:HC:=(.seq (.block 0 zh) yZ)
@[simp] theorem WU:type_of%(@aF zi _ zi.eq_1):=aF zi.eq_1
def sc:HC:=(.reg (.chk none (.mkf (.func 303) 0) (.cons (.inp 6) .nil) (.done [(7,(.op (.mkf (.func 303) 0) (.cons (.inp 6) .nil)))] none)))
@[simp] theorem Sy:type_of%(@aF sc _ sc.eq_1):=aF sc.eq_1
def sd:HC:=(.seq (.reg (.eff (.new 353 (.slice none 0 0)) .nil (.done [(6,(.bv 0))] none))) sc)
@[simp] theorem Sz:type_of%(@aF sd _ sd.eq_1):=aF sd.eq_1
def se:HC:=(.seq (.reg (.eff (.st 1) (.cons (.inp 4) (.cons (.inp 5) .nil)) (.done [] none))) .ret)
@[simp] theorem SA:type_of%(@aF se _ se.eq_1):=aF se.eq_1
def sf:HC:=(.seq (.br (.chk none (.bin .neq) (.cons (.inp 5) (.cons (.cst (.int .i64 0)) .nil)) (.done [] (some (.op (.bin .neq) (.cons (.inp 5) (.cons (.cst (.int .i64 0)) .nil)))))) se .skip) sd)
@[simp] theorem SB:type_of%(@aF sf _ sf.eq_1):=aF sf.eq_1
def sg:HC:=(.seq (.reg (.eff (.call 302) (.cons (.inp 0) (.cons (.inp 1) .nil)) (.done [(5,(.bv 0))] none))) sf)
@[simp] theorem SC:type_of%(@aF sg _ sg.eq_1):=aF sg.eq_1
def sh:HC:=(.seq (.reg (.eff (.new 47 (.int .i64 0)) .nil (.done [(4,(.bv 0))] none))) sg)
@[simp] theorem SD:type_of%(@aF sh _ sh.eq_1):=aF sh.eq_1
def TY:oI:=⟨[0,1,2,3,8,9,10,11,13,14,23,24,25],40,[.cell 4 false 1],sh,304,(.cons (.inp 4) (.cons (.inp 6) .nil)),(.seq (.reg (.chk none .lenL (.cons (.inp 2) .nil) (.done [(10,(.inp 2)),(11,(.op .lenL (.cons (.inp 2) .nil))),(12,(.cst (.int .i64 0)))] none))) zi)⟩
theorem Oy:KR E0 218 400=some TY:=by kernel_rfl
set_option maxHeartbeats 1000000 in
theorem ya (p g s fb:Nat) (cs:Array Value) (lp lg c:Int) (gs:List Gf) (gv:Value) (bes:b9→Int×b9) (E:b9) (w0 w:World) (A:al)
  (hE:EI lp lg E) (hc: -9223372036854775808≤c∧c<9223372036854775808) (hx:∀x∈gs,0≤x.ab∧x.ab<18446744073709551616) (hn:gs.length≤4194304)
  (hB:1≤c→yh w0 A p g s lp lg fb cs.toList bes) (hr:Row w0 A gv gs.length 3 (iz gs)) (h:St w0 (A*aI p g s lg E) w):
  ak Tryz.prog 218 [.pointer (some ⟨s,0,none⟩),.int .i64 c,gv,.func (.func fb) #[] cs]
   (fun r w'=>r= .int .i64 (bh c gs bes E).1∧St w0 (A*aI p g s lg (bh c gs bes E).2) w') w:=by
 refine tp Oy (by simp [TY]) ?_;simp [TY];refine bO h fun Be w1 h1=> ?_;simp;have h1:St w0 (A*aI p g s lg E*pt Be (.cells #[.int .i64 0] 47 (0,0))) w1:=h1;clear h;refine ad ((DU s c w1).mono ?_);rintro r w2 ⟨rfl,rfl⟩;simp;refine aM (fun ha=> ?_) (fun ha=> ?_)
 ·have hc1:c<1:=by
   simp [sY] at ha;omega
  have hk:bh c gs bes E=(2,E):=by unfold bh;rw [if_pos hc1]
  simp;refine aU h1 rfl (by simp) fun w3 h3=> ?_;have h3:St w0 (A*aI p g s lg E*pt Be (.cells #[.int .i64 2] 47 (0,0))) w3:=by simpa [sY,hc1] using h3
  simp [RY];refine uV (a:=⟨Be,0,none⟩) (v:= .int .i64 2) rfl ((cell_of h3.look).trans rfl) ?_;simp;rw [hk];exact ⟨rfl,h3.drop⟩
 have hc1:1≤c:=by
  simp [sY] at ha;omega
 have hB:=hB hc1;have hcc:1≤c∧c<9223372036854775808:=⟨hc1,hc.2⟩;simp;refine bO h1 fun Br w3 h3=> ?_;simp;have h3:St w0 (A*aI p g s lg E*pt Be (.cells #[.int .i64 0] 47 (0,0))*pt Br (.cells #[.slice none 0 0] 353 (0,0))) w3:=h3;clear h1;obtain ⟨ga,gcap,rfl⟩:=hr.val;simp only [RY];simp;refine dg (fun env w'=>∃(i:Nat) (o5 o8 o9:Value) (X:al) (fs:List Value) (D:Nat→b9) (v:Value),
   env= [.pointer (some ⟨s,0,none⟩),.int .i64 c,.slice ga gs.length gcap,.func (.func fb) #[] cs,.pointer (some ⟨Be,0,none⟩),o5,.pointer (some ⟨Br,0,none⟩),.func (.func 303) #[] #[.pointer (some ⟨Br,0,none⟩)],o8,o9,.slice ga gs.length gcap,.int .i64 gs.length,.int .i64 i]∧
   i≤gs.length∧(bb c (gs.take i) E).1=0∧gg w0 p g s lg X fs D∧D fs.length=(bb c (gs.take i) E).2∧D 0=E∧fs.length≤2*i∧
   St w0 (A*pt Be (.cells #[.int .i64 0] 47 (0,0))*X*pt Br (.cells #[v] 353 (0,0))*own 1 1 v fs.length fs*aI p g s lg (bb c (gs.take i) E).2) w')
  (fun env _=>gs.length -ax env 12) ⟨0,_,_,_,emp,[],fun _=>E,.slice none 0 0,rfl,by omega,rfl,FF,rfl,rfl,by simp,?_⟩ ?_
 ·have:=h3.aE 1 1
  refine this.to ?_;simp only [List.take_zero,bb,List.length_nil];rw [ao];ac_rfl
 rintro LQ env w' ⟨i,o5,o8,o9,X,fs,D,v,rfl,hi,hg0,hU,hD,hD0,hfs,s1⟩ hN hX hR;have hEi:EI lp lg (bb c (gs.take i) E).2:=pk hcc hE fun x hx'=>(hx x (List.mem_of_mem_take hx')).1;simp;refine aM (fun h=> ?_) (fun h=> ?_)
 ·simp at h
  obtain ⟨g',o',cap',hv,hcell⟩:=hr.at (by omega);cases hv;have htk:=ug c gs E i h hg0;generalize hEE:(bb c (gs.take i) E).2=Ei at*;simp [h];have sA:St w0 A w':=s1.cut (pt Be (.cells #[.int .i64 0] 47 (0,0))*X*pt Br (.cells #[v] 353 (0,0))*own 1 1 v fs.length fs*aI p g s lg Ei) (by ac_rfl);refine az (vs:=gs[i].cs) (fun j u hu=>by rw [Nat.add_assoc];exact hcell w' sA _ _ (Ky h j u hu)) rfl ?_;simp;refine bO s1 fun b w2 s2=> ?_;simp;refine cJ (vs:=gs[i].cs) s2 rfl rfl (ER _) (by simp) fun w3 s3=> ?_;simp;have s4:St w0 (A*pt Be (.cells #[.int .i64 0] 47 (0,0))*X*pt Br (.cells #[v] 353 (0,0))*own 1 1 v fs.length fs*aI p g s lg Ei*pt b (.cells gs[i].cs.toArray 90 (0,0))) w3:=by simpa [Gf.cs] using s3
  refine az (vs:=gs[i].cs) s4.ah rfl ?_;simp;have hxi:=hx gs[i] (List.getElem_mem h);refine ad ((Im p g s Br (2*i) lp lg c gs[i] Ei E v fs X D w0 w3 (A*pt Be (.cells #[.int .i64 0] 47 (0,0))) hEi hcc hxi hfs (by omega) hU hD hD0 s4.drop).mono ?_);rintro r w4 ⟨rfl,X',fs',D',v',hU',hD',hD0',hfs',s5⟩;simp;refine aM (fun hg=> ?_) (fun hg=> ?_)
  ·simp at hg
   simp;refine aU (s5.to (B:=A*X'*pt Br (.cells #[v'] 353 (0,0))*own 1 1 v' fs'.length fs'*aI p g s lg (cC c gs[i] Ei).2*pt Be (.cells #[.int .i64 0] 47 (0,0))) (by ac_rfl)) rfl (by simp) fun w5 s6=> ?_;simp;refine hR _ _ ?_;simp [Ey];have hbad:=wX c gs E (i+1) (by rw [htk,if_pos hg];exact hg);rw [htk,if_pos hg] at hbad;have hk:bh c gs bes E=((cC c gs[i] Ei).1,E):=by
    unfold bh;rw [if_neg (by omega),hbad,if_pos hg]
   refine Dy (K:=fun r w'=>r= .int .i64 (bh c gs bes E).1∧St w0 (A*aI p g s lg (bh c gs bes E).2) w') (A:=A) (e:=(cC c gs[i] Ei).1) (E2:=(cC c gs[i] Ei).2) hU' (by omega) ?_ (fun w' hw=> ?_) (fun _=>hD'.symm) (s6.to (by simp;ac_rfl))
   ·rfl
   rw [if_neg hg,hD0'] at hw;rw [hk];exact ⟨rfl,hw⟩
  ·simp at hg
   simp
   try simp (disch:=omega) only [wrap64]
   rw [if_neg (by simp [hg])] at htk;refine hN _ _ ⟨i+1,_,_,_,X',fs',D',v',by simp;exact ⟨rfl,rfl,rfl⟩,by omega,by rw [htk],hU',by rw [htk];exact hD',hD0',by omega,?_⟩ (by simp [ax];omega);rw [htk];exact s5
 ·simp at h
  simp;have hin:i=gs.length:=by omega
  subst hin;rw [List.take_length] at*;generalize hEE:(bb c gs E).2=Ei at*;refine hX _ _ _ ?_;simp;refine bM hB.body ?_;simp only [List.nil_append,Array.toList_empty,List.append_nil];refine (hB.call (pt Be (.cells #[.int .i64 0] 47 (0,0))*X*pt Br (.cells #[v] 353 (0,0))*own 1 1 v fs.length fs) Ei w' hEi (s1.to (by ac_rfl))).mono ?_;rintro r w4 ⟨rfl,s5⟩;simp;refine aU (s5.to (B:=A*X*pt Br (.cells #[v] 353 (0,0))*own 1 1 v fs.length fs*aI p g s lg (bes Ei).2*pt Be (.cells #[.int .i64 0] 47 (0,0))) (by ac_rfl)) rfl (by simp) fun w5 s6=> ?_;simp [Ey];refine Dy (K:=fun r w'=>r= .int .i64 (bh c gs bes E).1∧St w0 (A*aI p g s lg (bh c gs bes E).2) w') (A:=A) (e:=(bes Ei).1) (E2:=(bes Ei).2) hU (by omega) ?_ (fun w' hw=> ?_) (fun hne=>by rw [hB.no _ hne,hD]) (s6.to (by simp;ac_rfl))
  ·rfl
  have hk:bh c gs bes E=if (bes Ei).1≠0 then ((bes Ei).1,E) else (0,(bes Ei).2):=by
   unfold bh;rw [if_neg (by omega),if_neg (by simp [hg0]),hEE]
  rw [hk]
  by_cases hz:(bes Ei).1=0
  ·rw [if_pos hz] at hw
   rw [if_neg (by simp [hz])];exact ⟨by rw [hz],hw⟩
  ·rw [if_neg hz,hD0] at hw
   rw [if_pos hz];exact ⟨rfl,hw⟩
def bfa:Nat→PO
 |0=>(.mkf (.func 219) 0)
 |1=> .chkp
 |2=>(.fld 2)
 |3=>(.bin .neq)
 |4=>(.fld 1)
 |5=> .lenL
 |6=>(.bin .gtr)
 |7=>(.mkf (.func 310) 0)
 |_=> .same
def Y7:Nat→EO
 |0=>(.ld false 1)
 |1=>(.ld true 5)
 |2=>(.call 220)
 |3=>(.box 105)
 |4=>(.box 3)
 |5=>(.box 34)
 |6=>(.call 218)
 |7=>(.call 136)
 |8=>(.look 226 false)
 |9=>(.call 311)
 |_=> .an
def dsa:Nat→Value
 |0=>(.int .i64 0)
 |1=>(.slice none 0 0)
 |2=>(.int .u64 0)
 |3=>(.bool true)
 |4=>(.int .i64 170)
 |_=>undef
def Dp:cX:=⟨bfa,Y7,dsa⟩
def TZ:ai:=⟨[0,1,2,3],8,[.slot 3],aP Dp [] 0x39bff8a28a2dd10c3532442e330b1081c4103c027dd2003⟩
theorem Oz:aj E0 219 400=some TZ:=by kernel_rfl
def Tt:ai:=⟨[0,1,2,3,4,5,7,8],14,[.slot 7],aP Dp [] 0xe6ffe28bbdd1087514c9553d190150100402e33194f46405404031140c440278a289a6596764801d1086e05cc4c43171044f03⟩
theorem NO:aj E0 136 400=some Tt:=by kernel_rfl
def Ts:ai:=⟨[0,1,2,5,6],11,[.slot 4],aP Dp [] 0xe6ffe28b7e04514cb34814014001f10ff89a6764801330f1085⟩
theorem NM:aj E0 134 400=some Ts:=by kernel_rfl
def Uu:ai:=⟨[0,1,2],20,[.slot 2],aP Dp [] 0x2ce6fff74800aabc0b2fff74840a273b8a272391f6d20d844489cee289c71f6d5d4056647a146611135015991e851a647a172447446fb1040d34991141100d26445044991141f004445750910c3d424430f2442e3ac41034d26cc1080d26cc10a6cc1f000e7dd2002⟩
theorem Pm:aj E0 310 400=some Uu:=by kernel_rfl
def T6:ai:=⟨[0,1,2,3,4,6],12,[.slot 5],aP Dp [] 0xe6ffe28bbdd1085514c95f444031d00b8cc6f444031f1100c430278a26996764801781330f1044f03⟩
theorem OB:aj E0 221 400=some T6:=by kernel_rfl
abbrev VU (b4 b5 b6 s:Nat) (c:Int) (x:Et) (pr:Int) (wv:Value):al:=
 pt b4 (.cells #[.pointer (some ⟨s,0,none⟩)] 105 (0,0))*pt b5 (.cells #[.int .i64 c] 3 (0,0))*pt b6 (.cells (x.cs pr wv).toArray 34 (0,0))
theorem AY (p g s b4 b5 b6:Nat) (lp lg c pr:Int) (x:Et) (wv:Value) (w0:World) (A:al) (hx:0≤x.ab∧x.ab<18446744073709551616) (hc:c<9223372036854775808) (hc1:1≤c):
  yh w0 (A*VU b4 b5 b6 s c x pr wv) p g s lp lg 219 [.pointer (some ⟨b4,0,none⟩),.pointer (some ⟨b5,0,none⟩),.pointer (some ⟨b6,0,none⟩)] (aQ c x) where
 body:=by kernel_rfl
 no:=fun E h=>Ar h
 call:=by
  intro G E W hE h;have f4:=(h.to (B:=A*G*aI p g s lg E*pt b5 (.cells #[.int .i64 c] 3 (0,0))*pt b6 (.cells (x.cs pr wv).toArray 34 (0,0))*pt b4 (.cells #[.pointer (some ⟨s,0,none⟩)] 105 (0,0))) (by simp only [VU];ac_rfl)).look;have f5:=(h.to (B:=A*G*aI p g s lg E*pt b4 (.cells #[.pointer (some ⟨s,0,none⟩)] 105 (0,0))*pt b6 (.cells (x.cs pr wv).toArray 34 (0,0))*pt b5 (.cells #[.int .i64 c] 3 (0,0))) (by simp only [VU];ac_rfl)).look;have f6:=(h.to (B:=A*G*aI p g s lg E*pt b4 (.cells #[.pointer (some ⟨s,0,none⟩)] 105 (0,0))*pt b5 (.cells #[.int .i64 c] 3 (0,0))*pt b6 (.cells (x.cs pr wv).toArray 34 (0,0))) (by simp only [VU];ac_rfl)).ah;refine aB Oz (by simp [TZ]) ?_;simp [TZ];refine ae (v:= .pointer (some ⟨s,0,none⟩)) ((cell_of f4).trans rfl) ?_;simp;refine ae (v:= .int .i64 c) ((cell_of f5).trans rfl) ?_;simp;refine az (vs:=x.cs pr wv) f6 rfl ?_;simp
  refine ad ((eX p g s lp lg c pr x wv E w0 W _ hE ⟨hc1,hc⟩ hx h).mono ?_);rintro r w2 ⟨rfl,h2⟩;simp;exact h2
theorem wh (p g s:Nat) (lp lg c pr:Int) (gs:List Gf) (gv:Value) (x:Et) (wv:Value) (E:b9) (w0 w:World) (A:al)
  (hE:EI lp lg E) (hc: -9223372036854775808≤c∧c<9223372036854775808) (hx:∀x∈gs,0≤x.ab∧x.ab<18446744073709551616) (hxe:0≤x.ab∧x.ab<18446744073709551616) (hn:gs.length≤4194304)
  (hr:Row w0 A gv gs.length 3 (iz gs)) (h:St w0 (A*aI p g s lg E) w):
  ak Tryz.prog 136 [.pointer (some ⟨s,0,none⟩),.int .i64 c,gv,.agg (x.cs pr wv).toArray]
   (fun r w'=>r= .int .i64 (bh c gs (aQ c x) E).1∧St w0 (A*aI p g s lg (bh c gs (aQ c x) E).2) w') w:=by
 refine aB NO (by simp [Tt]) ?_;simp [Tt];refine bj h fun b4 w1 h1=> ?_;simp;refine bj h1 fun b5 w2 h2=> ?_;simp;refine bj h2 fun b6 w3 h3=> ?_;simp;have f6:w3.cell? ⟨b4,0,none⟩=some (.pointer (some ⟨s,0,none⟩)):=(cell_of h3.drop.drop.look).trans rfl;have f5:w3.cell? ⟨b5,0,none⟩=some (.int .i64 c):=(cell_of h3.drop.look).trans rfl;refine ae f6 ?_;simp;refine ae f5 ?_;simp;have h4:St w0 (A*VU b4 b5 b6 s c x pr wv*aI p g s lg E) w3:=h3.to (by simp only [VU,p6,Value.cells];ac_rfl);refine ad ((ya p g s 219 _ lp lg c gs gv (aQ c x) E w0 w3 (A*VU b4 b5 b6 s c x pr wv) hE hc hx hn (fun hc1=>AY p g s b4 b5 b6 lp lg c pr x wv w0 A hxe hc.2 hc1) (hr.mono fun w s=>s.drop) h4).mono ?_);rintro r w4 ⟨rfl,h5⟩;simp;exact h5.swap.drop
theorem hZ (w0:World) (A:al) (size:Nat):Row w0 A (.slice none 0 0) 0 size []:=⟨by simp,none,0,rfl,Nat.le_refl _,.inl rfl⟩
theorem oK (p g s:Nat) (lp lg c pr:Int) (x:Et) (wv:Value) (E:b9) (w0 w:World) (A:al)
  (hE:EI lp lg E) (hc: -9223372036854775808≤c∧c<9223372036854775808) (hxe:0≤x.ab∧x.ab<18446744073709551616) (h:St w0 (A*aI p g s lg E) w):
  ak Tryz.prog 134 [.pointer (some ⟨s,0,none⟩),.int .i64 c,.agg (x.cs pr wv).toArray]
   (fun r w'=>r= .int .i64 (bh c [] (aQ c x) E).1∧St w0 (A*aI p g s lg (bh c [] (aQ c x) E).2) w') w:=by
 refine aB NM (by simp [Ts]) ?_;simp [Ts];refine bj h fun b w1 h1=> ?_;simp;have h2:St w0 (A*aI p g s lg E*pt b (.cells (x.cs pr wv).toArray 34 (0,0))) w1:=h1;refine az (vs:=x.cs pr wv) h2.ah rfl ?_;simp;refine ad ((wh p g s lp lg c pr [] (.slice none 0 0) x wv E w0 w1 A hE hc (by simp) hxe (by simp) (hZ w0 A 3) h2.drop).mono ?_);rintro r w2 ⟨rfl,h3⟩;simp;exact h3
abbrev Ae (b4 b5 s:Nat) (c:Int):al:=pt b4 (.cells #[.pointer (some ⟨s,0,none⟩)] 105 (0,0))*pt b5 (.cells #[.int .i64 c] 3 (0,0))
theorem BW (p g s b4 b5:Nat) (lp lg c:Int) (w0:World) (A:al):
  yh w0 (A*Ae b4 b5 s c) p g s lp lg 310 [.pointer (some ⟨b4,0,none⟩),.pointer (some ⟨b5,0,none⟩)] (l6 c) where
 body:=by kernel_rfl
 no:=fun E h=>rfl
 call:=by
  intro G E W hE h;have hlen:E.af.length≤1048576:=by have:=hE.G.len;have:=hE.G.lim;omega
  obtain ⟨m,es,cl,hH,h1⟩:=tR (h.to (B:=A*G*Ae b4 b5 s c*Gd.bD g lg E.af*Pu.bE p E.P*ft s p g E.l) (by simp only [aI];ac_rfl));have f4:=fun {w:World} (h:St w0 (A*G*Ae b4 b5 s c*Gd.bD g lg E.af*Pu.bE p E.P*lY s p g m*ay m es cl) w)=>(cell_of (off:=0) (h.to (B:=A*G*Gd.bD g lg E.af*Pu.bE p E.P*lY s p g m*ay m es cl*pt b5 (.cells #[.int .i64 c] 3 (0,0))*pt b4 (.cells #[.pointer (some ⟨s,0,none⟩)] 105 (0,0))) (by simp only [Ae];ac_rfl)).look).trans (rfl:_=some (Value.pointer (some ⟨s,0,none⟩)));have f5:=fun {w:World} (h:St w0 (A*G*Ae b4 b5 s c*Gd.bD g lg E.af*Pu.bE p E.P*lY s p g m*ay m es cl) w)=>(cell_of (off:=0) (h.to (B:=A*G*Gd.bD g lg E.af*Pu.bE p E.P*lY s p g m*ay m es cl*pt b4 (.cells #[.pointer (some ⟨s,0,none⟩)] 105 (0,0))*pt b5 (.cells #[.int .i64 c] 3 (0,0))) (by simp only [Ae];ac_rfl)).look).trans (rfl:_=some (Value.int .i64 c))
  have s1:=fun {w:World} (h:St w0 (A*G*Ae b4 b5 s c*Gd.bD g lg E.af*Pu.bE p E.P*lY s p g m*ay m es cl) w)=>(cell_of (off:=1) h.swap.look).trans (rfl:_=some (Value.pointer (some ⟨g,0,none⟩)));have s2:=fun {w:World} (h:St w0 (A*G*Ae b4 b5 s c*Gd.bD g lg E.af*Pu.bE p E.P*lY s p g m*ay m es cl) w)=>(cell_of (off:=2) h.swap.look).trans (rfl:_=some (Value.map (some m)));have hm:=fun {w:World} (h:St w0 (A*G*Ae b4 b5 s c*Gd.bD g lg E.af*Pu.bE p E.P*lY s p g m*ay m es cl) w)=>h.look;have hin:=fun {w:World} (h:St w0 (A*G*Ae b4 b5 s c*Gd.bD g lg E.af*Pu.bE p E.P*lY s p g m*ay m es cl) w)=>Gd.Mt g lg E.af c w0 w (A*G*Ae b4 b5 s c*Pu.bE p E.P*lY s p g m*ay m es cl) hlen (h.to (by ac_rfl));have hout:=fun {w:World} (h:St w0 (A*G*Ae b4 b5 s c*Gd.bD g lg E.af*Pu.bE p E.P*lY s p g m*ay m es cl) w)=>(kd hH h).to (B:=A*Ae b4 b5 s c*G*aI p g s lg E) (by simp only [aI];ac_rfl)
  have hinZ:=fun {v:Value} {w:World} (h:St w0 (A*G*Ae b4 b5 s c*Pu.bE p E.P*lY s p g m*ay m es cl*Gd.bD g lg E.af*own 3 1 v (Gd.dV E.af c).length (Gd.ints (Gd.dV E.af c))) w)=>h.to (B:=A*G*Ae b4 b5 s c*Gd.bD g lg E.af*Pu.bE p E.P*lY s p g m*ay m es cl*own 3 1 v (Gd.dV E.af c).length (Gd.ints (Gd.dV E.af c))) (by ac_rfl);generalize hBB:A*G*Ae b4 b5 s c*Gd.bD g lg E.af*Pu.bE p E.P*lY s p g m*ay m es cl=B at h1 f4 f5 s1 s2 hm hin hout hinZ;refine aB Pm (by simp [Uu]) ?_;simp [Uu];refine RM (fun vs w=>match vs with
   | []=>St w0 B w
   |v::_=>St w0 (B*own 3 1 v (Gd.dV E.af c).length (Gd.ints (Gd.dV E.af c))) w) h1.drew ?_
  have low:∀{vs:List Value} {w:World},(match vs with
   | []=>St w0 B w
   |v::_=>St w0 (B*own 3 1 v (Gd.dV E.af c).length (Gd.ints (Gd.dV E.af c))) w)→St w0 B w:=by
   intro vs w h;cases vs with
   |nil=>exact h
   |cons _ _=>exact St.drop h
  simp;refine aq (v:= .pointer (some ⟨s,0,none⟩)) (fun vs' w he hw=>f4 (low hw)) ?_;simp;refine aq (v:= .map (some m)) (fun vs' w he hw=>s2 (low hw)) ?_;simp;refine aq (v:= .int .i64 c) (fun vs' w he hw=>f5 (low hw)) ?_;simp;refine od B4 (m:=m) (es:=es) (c:=cl) (fun vs' w he hw=>hm (low hw)) ?_;rw [(hH.get hE.R c).1];simp
  by_cases hz:bX E.l c=0
  ·simp [hz]
   refine aq (v:= .pointer (some ⟨s,0,none⟩)) (fun vs' w he hw=>f4 (low hw)) ?_;simp;refine aq (v:= .pointer (some ⟨g,0,none⟩)) (fun vs' w he hw=>s1 (low hw)) ?_;simp;refine aq (v:= .int .i64 c) (fun vs' w he hw=>f5 (low hw)) ?_;simp;refine bw (by rfl) (fun w hw=>ad ((hin hw).mono ?_)) (fun r hr=> ?_)
   ·intro r w' h
    exact hinZ h
   obtain ⟨w',hr⟩:=hr;obtain ⟨a,cap,rfl,_⟩:=St.aw hr;simp;intro w2 h2;refine aM (fun hg=> ?_) (fun hg=> ?_)
   ·simp at hg
    have hk:l6 c E=(170,E):=by unfold l6;rw [if_pos (.inr (by omega))]
    simp;rw [hk];exact ⟨rfl,hout h2.drop⟩
   ·simp at hg
    have hk:l6 c E=(0,E):=by unfold l6;rw [if_neg (by simp [hz,hg])]
    simp;rw [hk];exact ⟨rfl,hout h2.drop⟩
  ·simp [hz]
   intro w2 h2;have hk:l6 c E=(170,E):=by unfold l6;rw [if_pos (.inl hz)]
   rw [hk];exact ⟨rfl,hout h2⟩
theorem Jy (p g s:Nat) (lp lg c:Int) (gs:List Gf) (gv:Value) (E:b9) (w0 w:World) (A:al)
  (hE:EI lp lg E) (hc: -9223372036854775808≤c∧c<9223372036854775808) (hx:∀x∈gs,0≤x.ab∧x.ab<18446744073709551616) (hn:gs.length≤4194304)
  (hr:Row w0 A gv gs.length 3 (iz gs)) (h:St w0 (A*aI p g s lg E) w):
  ak Tryz.prog 221 [.pointer (some ⟨s,0,none⟩),.int .i64 c,gv]
   (fun r w'=>r= .int .i64 (bh c gs (l6 c) E).1∧St w0 (A*aI p g s lg (bh c gs (l6 c) E).2) w') w:=by
 refine aB OB (by simp [T6]) ?_;simp [T6];refine bj h fun b4 w1 h1=> ?_;simp;refine bj h1 fun b5 w2 h2=> ?_;simp;have f6:w2.cell? ⟨b4,0,none⟩=some (.pointer (some ⟨s,0,none⟩)):=(cell_of h2.drop.look).trans rfl;have f5:w2.cell? ⟨b5,0,none⟩=some (.int .i64 c):=(cell_of h2.look).trans rfl;refine ae f6 ?_;simp;refine ae f5 ?_;simp;have h4:St w0 (A*Ae b4 b5 s c*aI p g s lg E) w2:=h2.to (by simp only [Ae,Value.cells];ac_rfl);refine ad ((ya p g s 310 _ lp lg c gs gv (l6 c) E w0 w2 (A*Ae b4 b5 s c) hE hc hx hn (fun hc1=>BW p g s b4 b5 lp lg c w0 A) (hr.mono fun w s=>s.drop) h4).mono ?_);rintro r w4 ⟨rfl,h5⟩;simp;exact h5.swap.drop
def oD (l:List Int):List Value:=l.map (Value.int .u64)
theorem QD {l:List Int} {i:Nat} (h:i<l.length):(oD l)[i]?=some (.int .u64 l[i]):=by simp [oD,h]
def oA (s:Int):List Int→Int×Int
 | []=>(s,0)
 |x::t=>if s+x<18446744073709551616 then oA (s+x) t else (0,10)
theorem JI (l:List Int) (v:Value) (w0 w:World) (A:al) (hn:l.length≤2097152) (hb:∀x∈l,0≤x∧x<18446744073709551616) (hr:Row w0 A v l.length 1 (oD l)) (h:St w0 A w):
  ak Tryz.prog 158 [v] (fun r w'=>r= .tuple #[.int .u64 (oA 0 l).1,.int .i64 (oA 0 l).2]∧St w0 A w') w:=by
 refine aB N7 (by simp [TH]) ?_;simp [TH];obtain ⟨a,cap,rfl⟩:=hr.val;simp;refine dg (fun env w'=>∃(i:Nat) (t:Int) (o1 o2 o4 o5 o6:Value),env= [.slice a l.length cap,o1,o2,.int .u64 t,o4,o5,o6,.slice a l.length cap,.int .i64 l.length,.int .i64 i]∧i≤l.length∧(0≤t∧t<18446744073709551616)∧oA 0 l=oA t (l.drop i)∧St w0 A w')
  (fun env _=>l.length -ax env 9) ⟨0,0,_,_,_,_,_,rfl,by omega,by omega,rfl,h⟩ ?_
 rintro LQ env w' ⟨i,t,o1,o2,o4,o5,o6,rfl,hi,ht,hs,s1⟩ hN hX hR;simp;refine aM (fun hc=> ?_) (fun hc=> ?_)
 ·simp at hc
  obtain ⟨g,o,cap',hv,hcell⟩:=hr.at (by omega);cases hv;simp [hc];refine ae (hcell w' s1 i _ (QD hc)) ?_;simp;have hx:=hb l[i] (List.getElem_mem hc);refine ad ((Jv t l[i] w' ht hx).mono ?_);rintro r w2 ⟨rfl,rfl⟩;simp;rw [List.drop_eq_getElem_cons hc,oA] at hs
  by_cases hf:t+l[i]<18446744073709551616
  ·rw [if_pos hf] at hs
   simp [hf]
   try simp (disch:=omega) only [wrap64]
   exact hN _ _ ⟨i+1,t+l[i],_,_,_,_,_,rfl,by omega,by omega,hs,s1⟩ (by simp [ax];omega)
  ·rw [if_neg hf] at hs
   simp [hf];refine hR _ _ ?_;simp [hs];exact s1
 ·simp at hc
  simp;refine hX _ _ _ ?_;have:i=l.length:=by omega
  subst this;rw [List.drop_length,oA] at hs;simp [hs];exact s1
def Rw.cs (r:Rw):List Value:= [.int .i64 r.1,.int .u64 r.2]
def jG (l:List Rw):List Value:=l.flatMap Rw.cs
theorem LF (x:Rw):x.cs.length=2:=rfl
theorem LG (x:Rw):∀u∈x.cs,u.oneCell'=true:=by
 intro u hu;simp only [Rw.cs,List.mem_cons,List.not_mem_nil,or_false] at hu;rcases hu with rfl|rfl<;>rfl
theorem Ly {l:List Rw} {i:Nat} (h:i<l.length):∀j u,(l[i].cs)[j]?=some u→(jG l)[i*2+j]?=some u:=by
 intro j u hu;have hj:j<2:=by
  have:=(List.getElem?_eq_some_iff.1 hu).1
  rwa [LF] at this
 unfold jG;rw [fB Rw.cs 2 LF l i j h hj];exact hu
instance (l:List Rw):Decidable (fo l):=inferInstanceAs (Decidable (l.Pairwise (fun a b=>a.1<b.1)∧∀r∈l,1≤r.1∧r.1<9223372036854775808∧0<r.2))
def og (rows:List Rw) (held:Int):Int:=if fo rows then (if jU rows=held then 0 else 170) else 2
theorem Cm {k v:Int}:∀{l:List Rw},(∀r∈l,r.1<k)→ins k v l=l++ [(k,v)]
 | [],_=>rfl
 |r::t,h=>by
  simp only [ins];rw [if_neg (by have:=h r (.head _);omega),Cm fun x hx=>h x (.tail _ hx)];rfl
theorem Qv {l:List Rw} {r:Rw} (h:fo l) (h1:∀x∈l,x.1<r.1) (h2:1≤r.1∧r.1<9223372036854775808∧0<r.2):fo (l++ [r]):=by
 refine ⟨?_,fun x hx=> ?_⟩
 ·rw [List.pairwise_append]
  exact ⟨h.1,by simp,fun a ha b hb=>by
   have:b=r:=by simpa using hb
   rw [this];exact h1 a ha⟩
 ·rcases List.mem_append.1 hx with hx|hx
  ·exact h.2 x hx
  ·have:x=r:=by simpa using hx
   rw [this];exact h2
def mF (l:List Rw):Int:=(l.getLast?.map (·.1)).getD 0
theorem lH (l:List Rw) (r:Rw):mF (l++ [r])=r.1:=by simp [mF]
theorem xk {l:List Rw} (h:fo l):∀r∈l,r.1≤mF l:=by
 intro r hr;rcases List.eq_nil_or_concat l with rfl|⟨t,x,rfl⟩
 ·cases hr
 ·rw [List.concat_eq_append] at*
  rw [lH];have hp:=(List.pairwise_append.1 h.1).2.2;rcases List.mem_append.1 hr with hr|hr
  ·have:=hp r hr x (by simp);omega
  ·have:r=x:=by simpa using hr
   rw [this];omega
theorem Aa {l:List Rw} (h:fo l):0≤mF l:=by
 rcases List.eq_nil_or_concat l with rfl|⟨t,x,rfl⟩
 ·simp [mF]
 ·rw [List.concat_eq_append] at*
  rw [lH];have:=(h.2 x (by simp)).1;omega
theorem VO {l:List Rw} {i:Nat} (hi:i<l.length) (h:l[i].1≤mF (l.take i)∨l[i].2=0) (hok:fo (l.take i)):¬fo l:=by
 intro ok;rcases h with h|h
 ·rcases Nat.eq_zero_or_pos i with rfl|hp
  ·have:=(ok.2 l[0] (List.getElem_mem hi)).1
   simp [mF] at h;omega
  ·obtain ⟨j,rfl⟩:∃j,i=j+1:=⟨i -1,by omega⟩
   rw [List.take_succ_eq_append_getElem (by omega),lH] at h;have:=List.pairwise_iff_getElem.1 ok.1 j (j+1) (by omega) hi (by omega);omega
 ·have:=(ok.2 l[i] (List.getElem_mem hi)).2.2
  omega
theorem Hn:∀{l:List Int} {s:Int},(∀x∈l,0≤x)→0≤s→((oA s l).2=0∧(oA s l).1=s+l.sum∧(l≠ []→s+l.sum<18446744073709551616))∨((oA s l).2≠0∧18446744073709551616≤s+l.sum)
 | [],s,_,_=> .inl ⟨rfl,by simp [oA],by simp⟩
 |x::t,s,hx,hs=>by
  have h0:=hx x (.head _);have ht:0≤t.sum:=by
   have:∀l:List Int,(∀x∈l,0≤x)→0≤l.sum:=by
    intro l
    induction l with
    |nil=>simp
    |cons a r ih=>intro h;have:=ih fun x hx=>h x (.tail _ hx);have:=h a (.head _);simp;omega
   exact this t fun x h=>hx x (.tail _ h)
  simp only [oA,List.sum_cons];split
  ·rename_i hf
   rcases Hn (l:=t) (s:=s+x) (fun x h=>hx x (.tail _ h)) (by omega) with ⟨a,b,c⟩|⟨a,b⟩
   ·refine .inl ⟨a,by rw [b];omega,fun _=> ?_⟩
    by_cases e:t= []
    ·subst e;simp;omega
    ·have:=c e;omega
   ·exact .inr ⟨a,by omega⟩
  ·exact .inr ⟨by simp,by omega⟩
theorem AO {l:List Rw} {i:Nat} (hi:i<l.length) (h:fo (l.take i)) (h1:mF (l.take i)<l[i].1) (h2:0<l[i].2) (h3:l[i].1<9223372036854775808):fo (l.take (i+1)):=by
 rw [List.take_succ_eq_append_getElem hi];have:=Aa h;exact Qv h (fun x hx=>by have:=xk h x hx;omega) ⟨by omega,h3,h2⟩
theorem Qa {rows:List Rw} {held:Int} (hok:fo rows) (hh:0≤held∧held<18446744073709551616):
  og rows held=if (oA 0 (rows.map (·.2))).2≠0∨(oA 0 (rows.map (·.2))).1≠held then 170 else 0:=by
 unfold og;rw [if_pos hok];have hnn:∀x∈rows.map (·.2),0≤x:=by
  intro x hx;obtain ⟨r,hr,rfl⟩:=List.mem_map.1 hx;have:=(hok.2 r hr).2.2;omega
 have hs:(rows.map (·.2)).sum=jU rows:=rfl;rcases Hn hnn (s:=0) (by omega) with ⟨a,b,c⟩|⟨a,b⟩
 ·rw [a,b,hs]
  by_cases e:jU rows=held
  ·rw [if_pos e,if_neg (by simp;omega)]
  ·rw [if_neg e,if_pos (.inr (by simp;omega))]
 ·rw [hs] at b
  rw [if_neg (by omega),if_pos (.inl a)]
def bga:Nat→PO
 |0=>(.eqNil false (.pointer 195) (.pointer none))
 |1=>(.eqNil false (.pointer 198) (.pointer none))
 |2=>(.build #[(.pointer none),(.pointer none),(.map none)] [(0,1),(1,1),(2,1)] [0,1,2])
 |3=> .lenL
 |4=>(.bin .lss)
 |5=>(.idxL 2)
 |6=>(.fld 0)
 |7=>(.bin .leq)
 |8=>(.fld 1)
 |9=>(.bin .eql)
 |10=> .chkp
 |11=>(.fld 2)
 |12=>(.bin .add)
 |13=>(.ext 0)
 |14=>(.ext 1)
 |15=>(.bin .neq)
 |_=> .same
def Y8:Nat→EO
 |0=>(.mkm 226 false)
 |1=>(.box 228)
 |2=>(.ld true 2)
 |3=>(.new 231 (.agg #[(.int .i64 0),(.int .u64 0)]))
 |4=>(.st 2)
 |5=>(.ld false 1)
 |6=>(.lh 226)
 |7=>(.bsl 31 1 1 #[(.int .u64 0)] [0])
 |8=>(.app 229 229 31 1 8 (.int .u64 0))
 |9=>(.call 158)
 |10=>(.call 142)
 |11=>(.call 89)
 |_=> .an
def dta:Nat→Value
 |0=>(.pointer none)
 |1=>(.int .i64 0)
 |2=>(.bool true)
 |3=>(.int .i64 1)
 |4=>(.slice none 0 0)
 |5=>(.tuple #[])
 |6=>(.int .u64 0)
 |7=>(.int .i64 2)
 |8=>(.int .i64 170)
 |_=>undef
def Rl:cX:=⟨bga,Y8,dta⟩
def l89:ai:=⟨[0,1,2,6,7,8,9,10,12,13,14,26,27,28],71,[.slot 3,.slot 4],aP Rl [] 0xe79e79e6ffda676481110143a2f02cbff699d92e844800dc8e47db48263389c7db572e1648543eccf058cf2e1648543eccf066592150033281cd5d4140a04f0750502813ff89c71a676566cce04a0559b3341fa6cce066ccd0711feb6ee677375750d0341301341d4340d04c06de799fb8a2dd1087cb8407ea6cc7d31eba171ebaa5cefbee2698532442e331b4c7ae85c7aeb4c7a185c7a1b4d3114a04b045d3114a04b07114a0439fbdf31b4c7a185c7a1a8bc0b2ffda676487112003edc8dd91f6d2098e2271f6d5d46442f98e351910be996485571ebae05e31ebae15f46cc7f46cc7d31e86171e869fb8a2df8eb2cf81130f4f4d0502c1142f4d0502c1141a2f0af01c6d5f4c050341118f4c0503411009dc6996764813415710833014022c1c420e7dd21079f74811a78bbdf8174532cd0050002054cb3401400093028bc0b2ffda67648311200372375f6d7571041482cd8cf1041cd5f00f009da676481112003⟩
theorem Vs:aj E0 89 400=some l89:=by kernel_rfl
def Td:ai:=⟨[0,1,4,5],11,[.slot 2,.slot 3],aP Rl [] 0x39bff89c71a676566cce043566ccd0429b33819b334153511005000bfda6764810d2002⟩
theorem Nw:aj E0 107 400=some Td:=by kernel_rfl
set_option maxHeartbeats 1000000 in
theorem mY (p g:Nat) (lp lg:Int) (rows:List Rw) (v:Value) (P:Pu.Ps) (af:List Gd.It) (w0 w:World) (A:al) (hP:Pu.PI lp P) (hn:rows.length≤2097152)
  (hb:∀r∈rows,(-9223372036854775808≤r.1∧r.1<9223372036854775808)∧0≤r.2∧r.2<18446744073709551616) (hr:Row w0 A v rows.length 2 (jG rows)) (h:St w0 (A*Pu.bE p P*Gd.bD g lg af) w):
  ak Tryz.prog 89 [.pointer (some ⟨p,0,none⟩),.pointer (some ⟨g,0,none⟩),v]
   (fun r w'=>(og rows P.held=0∧∃s,r= .tuple #[.pointer (some ⟨s,0,none⟩),.int .i64 0]∧St w0 (A*aI p g s lg ⟨P,af,rows⟩) w')∨
    (og rows P.held≠0∧r= .tuple #[.pointer none,.int .i64 (og rows P.held)]∧St w0 (A*Pu.bE p P*Gd.bD g lg af) w')) w:=by
 have hh:0≤P.held∧P.held<18446744073709551616:=by have:=hP.bd.held;omega
 refine aB Vs (by simp [l89]) ?_;simp [l89];refine pd h fun m w1 h1=> ?_;simp [Instr.fill,Value.cells];refine bj h1 fun s w2 h2=> ?_;simp;have h2:St w0 (A*Pu.bE p P*Gd.bD g lg af*ay m [] 0*lY s p g m) w2:=h2;clear h h1;obtain ⟨a,cap,rfl⟩:=hr.val;simp;refine dg (fun env w'=>∃(i:Nat) (all o3 o4 o8 o9 vC:Value) (es:List En) (cl:Nat),env= [.pointer (some ⟨p,0,none⟩),.pointer (some ⟨g,0,none⟩),.slice a rows.length cap,o3,o4,.pointer (some ⟨s,0,none⟩),.int .i64 (mF (rows.take i)),all,o8,o9,vC,.slice a rows.length cap,.int .i64 rows.length,.int .i64 i]∧
   i≤rows.length∧fo (rows.take i)∧EH es cl (rows.take i)∧St w0 (A*Pu.bE p P*Gd.bD g lg af*lY s p g m*ay m es cl*own 31 1 all ((rows.take i).map (·.2)).length (oD ((rows.take i).map (·.2)))) w')
  (fun env _=>rows.length -ax env 13) ⟨0,_,_,_,_,_,_,[],0,rfl,by omega,⟨by simp,by simp⟩,⟨by simp,by simp,by simp,by simp⟩,?_⟩ ?_
 ·exact (h2.aE 31 1).to (by simp [oD];ac_rfl)
 rintro LQ env w' ⟨i,all,o3,o4,o8,o9,vC,es,cl,rfl,hi,hok,hE,s1⟩ hN hX hR;simp;refine aM (fun hc=> ?_) (fun hc=> ?_)
 ·simp at hc
  obtain ⟨g',o,cap',hv,hcell⟩:=hr.at (by omega);cases hv;have hbi:=hb rows[i] (List.getElem_mem hc);simp [hc];have sA:St w0 A w':=s1.cut (Pu.bE p P*Gd.bD g lg af*lY s p g m*ay m es cl*own 31 1 all ((rows.take i).map (·.2)).length (oD ((rows.take i).map (·.2)))) (by ac_rfl);refine az (vs:=rows[i].cs) (fun j u hu=>by rw [Nat.add_assoc];exact hcell w' sA _ _ (Ly hc j u hu)) rfl ?_;simp;refine bO s1 fun b w3 s3=> ?_;simp;refine cJ (vs:=rows[i].cs) s3 rfl rfl (LG _) (by simp) fun w4 s4=> ?_;simp;have s5:St w0 (A*Pu.bE p P*Gd.bD g lg af*lY s p g m*ay m es cl*own 31 1 all ((rows.take i).map (·.2)).length (oD ((rows.take i).map (·.2)))*pt b (.cells rows[i].cs.toArray 231 (0,0))) w4:=by simpa [Rw.cs] using s4
  refine ae (v:= .int .i64 rows[i].1) ((cell_of s5.look).trans rfl) ?_;simp;have bad:(rows[i].1≤mF (rows.take i)∨rows[i].2=0)→og rows P.held=2:=fun hx=>by
   unfold og;rw [if_neg (VO hc hx hok)]
  have hout:St w0 (A*Pu.bE p P*Gd.bD g lg af) w4:=s5.drop.drop.drop.drop
  by_cases hl:rows[i].1≤mF (rows.take i)
  ·simp [hl]
   refine hR _ _ ?_;simp;rw [bad (.inl hl)];exact ⟨by decide,rfl,hout⟩
  simp [hl];refine ae (v:= .int .u64 rows[i].2) ((cell_of s5.look).trans rfl) ?_;simp;refine aM (fun hz=> ?_) (fun hz=> ?_)
  ·simp at hz
   simp;refine hR _ _ ?_;simp;rw [bad (.inr hz)];exact ⟨by decide,rfl,hout⟩
  simp at hz;simp;have hok':=AO hc hok (by omega) (by omega) hbi.1.2;have hk:∀x∈rows.take i,x.1<rows[i].1:=fun x hx=>by have:=xk hok x hx;omega
  refine ae (v:= .int .i64 rows[i].1) ((cell_of s5.look).trans rfl) ?_;simp;have hget:cO es rows[i].1=none:=(hE.get hok rows[i].1).2.2 fun x hx=>by have:=hk x hx;omega
  have hE':EH (es++ [⟨rows[i].1,.int .u64 rows[i].2,cl⟩]) (cl+1) (rows.take (i+1)):=by
   have h0:∀x∈rows.take i,x.1≠rows[i].1:=fun x hx=>by have:=hk x hx;omega
   have:=hE.put (k:=rows[i].1) (v:=rows[i].2) hget h0;rw [jt h0,Cm hk] at this;rw [List.take_succ_eq_append_getElem hc];exact this
  generalize hB:A*Pu.bE p P*Gd.bD g lg af*lY s p g m*own 31 1 all ((rows.take i).map (·.2)).length (oD ((rows.take i).map (·.2)))*pt b (.cells rows[i].cs.toArray 231 (0,0))=B;have s6:St w0 (B*ay m es cl) w4:=by rw [←hB];exact s5.to (by ac_rfl)
  have fs:=fun {w:World} {es:List En} {cl:Nat} (h:St w0 (B*ay m es cl) w)=>(cell_of (off:=2) ((h.to (B:=A*Pu.bE p P*Gd.bD g lg af*own 31 1 all ((rows.take i).map (·.2)).length (oD ((rows.take i).map (·.2)))*pt b (.cells rows[i].cs.toArray 231 (0,0))*ay m es cl*lY s p g m) (by rw [←hB];ac_rfl)).look)).trans (rfl:_=some (Value.map (some m)));have fb:=fun {w:World} {es:List En} {cl:Nat} (h:St w0 (B*ay m es cl) w)=>(h.to (B:=A*Pu.bE p P*Gd.bD g lg af*own 31 1 all ((rows.take i).map (·.2)).length (oD ((rows.take i).map (·.2)))*lY s p g m*ay m es cl*pt b (.cells rows[i].cs.toArray 231 (0,0))) (by rw [←hB];ac_rfl)).look;refine jF (Pu.rm (St w0 (B*ay m es cl)) (St w0 (B*ay m (es++ [⟨rows[i].1,.int .u64 rows[i].2,cl⟩]) (cl+1)))) s6.drew ?_;simp;refine aq (v:= .map (some m)) (fun vs' w he hw=>fs (iv he hw)) ?_;simp
  refine aq (v:= .int .i64 rows[i].1) (fun vs' w he hw=>(cell_of (off:=0) (fb (iv he hw))).trans rfl) ?_;simp;refine aq (v:= .int .u64 rows[i].2) (fun vs' w he hw=>(cell_of (off:=1) (fb (iv he hw))).trans rfl) ?_;simp;refine bw (by rfl) (fun w hw=>kD B4 hw hget fun w' h=>h) (fun r hr=> ?_);simp;intro w5 s7;refine ae (v:= .int .u64 rows[i].2) ((cell_of (off:=1) (fb s7)).trans rfl) ?_;simp;refine ch s7 rfl fun c w6 s8=> ?_;simp;rw [←hB] at s8;refine bu (m:=1) (news:= [.int .u64 rows[i].2]) (F:=A*Pu.bE p P*Gd.bD g lg af*lY s p g m*pt b (.cells rows[i].cs.toArray 231 (0,0))*ay m (es++ [⟨rows[i].1,.int .u64 rows[i].2,cl⟩]) (cl+1)*pt c (.cells #[.int .u64 rows[i].2] 31 (0,0))) (s8.to (by ac_rfl)) rfl s8.aH (by simp [Value.oneCell']) (by decide) rfl (by simp;unfold maxLen;omega) (by simp;omega) fun v' w7 s9=> ?_;simp
  try simp (disch:=omega) only [wrap64]
  refine hN _ _ ⟨i+1,v',_,_,_,_,_,es++ [⟨rows[i].1,.int .u64 rows[i].2,cl⟩],cl+1,by simp;refine ⟨rfl,rfl,?_,rfl,rfl,rfl⟩;rw [List.take_succ_eq_append_getElem hc,lH],by omega,hok',hE',?_⟩ (by simp [ax];omega);refine s9.cut (pt b (.cells rows[i].cs.toArray 231 (0,0))*pt c (.cells #[.int .u64 rows[i].2] 31 (0,0))) ?_;rw [List.take_succ_eq_append_getElem hc];simp only [List.map_append,List.map_cons,List.map_nil,oD,List.length_append,List.length_map,List.length_cons,List.length_nil];ac_rfl
 ·simp at hc
  simp;refine hX _ _ _ ?_;have:i=rows.length:=by omega
  subst this;rw [List.take_length] at*;simp;have hlo:=Qa hok hh;refine ad ((JI (rows.map (·.2)) all w0 w' _ (by simpa using hn) (fun x hx=>by
   obtain ⟨r,hr,rfl⟩:=List.mem_map.1 hx;exact (hb r hr).2) (bF s1) s1).mono ?_)
  rintro r w3 ⟨rfl,s3⟩;simp;have hbadc:og rows P.held=170→(og rows P.held=0∧∃s,(Value.tuple #[.pointer none,.int .i64 170])= .tuple #[.pointer (some ⟨s,0,none⟩),.int .i64 0]∧St w0 (A*aI p g s lg ⟨P,af,rows⟩) w3)∨
    (og rows P.held≠0∧(Value.tuple #[.pointer none,.int .i64 170])= .tuple #[.pointer none,.int .i64 (og rows P.held)]∧St w0 (A*Pu.bE p P*Gd.bD g lg af) w3):=fun e=>by
   rw [e];exact .inr ⟨by decide,rfl,s3.drop.drop.drop⟩
  by_cases hs0:(oA 0 (rows.map (·.2))).2=0
  ·simp [hs0]
   refine ad ((Pu.vZ p P w0 w3 (A*Gd.bD g lg af*lY s p g m*ay m es cl*own 31 1 all (rows.map (·.2)).length (oD (rows.map (·.2)))) (s3.to (by ac_rfl))).mono ?_);rintro r w4 ⟨rfl,s4⟩;simp;refine aM (fun hz=> ?_) (fun hz=> ?_)
   ·simp at hz
    rw [if_pos (.inr hz)] at hlo;simp;rw [hlo];exact ⟨by decide,rfl,s4.cut (lY s p g m*ay m es cl*own 31 1 all (rows.map (·.2)).length (oD (rows.map (·.2)))) (by ac_rfl)⟩
   ·simp at hz
    rw [if_neg (by simp [hs0,hz])] at hlo;simp;refine ⟨hlo,?_⟩;have:=kd (A:=A*Gd.bD g lg af*Pu.bE p P*own 31 1 all (rows.map (·.2)).length (oD (rows.map (·.2)))) hE (s4.to (by ac_rfl));exact this.cut (own 31 1 all (rows.map (·.2)).length (oD (rows.map (·.2)))) (by simp only [aI];ac_rfl)
  ·simp [hs0]
   rw [if_pos (.inl hs0)] at hlo
   simpa using hbadc hlo
noncomputable abbrev E2:PF Tryz.prog:=PF.of []
theorem im (p g:Nat) (lp lg:Int) (P:Pu.Ps) (af:List Gd.It) (w0 w:World) (A:al) (hP:Pu.PI lp P) (h0:P.held=0) (h:St w0 (A*Pu.bE p P*Gd.bD g lg af) w):
  ak Tryz.prog 107 [.pointer (some ⟨p,0,none⟩),.pointer (some ⟨g,0,none⟩)]
   (fun r w'=>∃s,r= .tuple #[.pointer (some ⟨s,0,none⟩),.int .i64 0]∧St w0 (A*aI p g s lg ⟨P,af,[]⟩) w') w:=by
 refine aB Nw (by simp [Td]) ?_;simp [Td];have hz:og [] P.held=0:=by unfold og;rw [h0];decide
 refine ad ((mY p g lp lg [] (.slice none 0 0) P af w0 w A hP (by simp) (by simp) (hZ w0 A 2) h).mono ?_);rintro r w1 (⟨_,s,rfl,h1⟩|⟨hn,_⟩)
 ·simp
  exact h1
 ·exact absurd hz hn
def PG1:Pu.Ps:=⟨3,[⟨Pu.cK,0⟩,⟨[65,110,110],0⟩],0,0⟩
def PG2:Pu.Ps:=⟨3,[⟨Pu.cK,0⟩,⟨[65,110,110],0⟩,⟨[66,111,98],0⟩],0,0⟩
def PG3:Pu.Ps:=⟨3,[⟨Pu.cK,0⟩,⟨[65,110,110],100⟩,⟨[66,111,98],0⟩],100,0⟩
def PG4:Pu.Ps:=⟨3,[⟨Pu.cK,0⟩,⟨[65,110,110],100⟩,⟨[66,111,98],50⟩],150,0⟩
def IG:List Gd.It:= [⟨1,0,1,0⟩,⟨2,0,2,0⟩]
def EG:b9:=⟨PG4,IG,[]⟩
def EA:b9:=⟨⟨3,[⟨Pu.cK,0⟩,⟨[65,110,110],70⟩,⟨[66,111,98],50⟩],150,30⟩,[⟨1,0,-1,7⟩,⟨2,0,2,0⟩],[(7,30)]⟩
def iXa:Et:=⟨1,1,30⟩
end Go.HL.Es
