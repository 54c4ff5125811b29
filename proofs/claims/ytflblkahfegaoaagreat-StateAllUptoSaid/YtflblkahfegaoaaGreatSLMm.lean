/- Part 13. -/
import Derived.Test.YtflblkahfegaoaaGreatSLMl
import Derived.Laws.Externs
set_option linter.unusedSimpArgs false
set_option linter.unusedVariables false
set_option maxRecDepth 4000
namespace Go.HL.Es
open Go.HL Go.Proofs
def bMa:Nat->PO
 |0=>(.ext 0)
 |1=>(.ext 1)
 |2=>(.bin .neq)
 |3=> .lenL
 |4=>(.bin .lss)
 |5=>(.idxL 1)
 |6=>(.bin .add)
 |7=>(.eqNil false (.pointer 228) (.pointer none))
 |8=>(.bin .eql)
 |9=> .chkp
 |10=>(.fld 2)
 |_=> .same
def ZG:Nat->EO
 |0=>(.cext 323)
 |1=>(.ld false 1)
 |2=>(.call 233)
 |3=>(.bi .delete #[226,3] 0 #[false,false])
 |4=>(.lK 226)
 |_=> .an
def dYa:Nat->Value
 |0=>(.int .u64 0)
 |1=>(.int .i64 0)
 |2=>(.int .i64 10)
 |3=>(.int .i64 1)
 |4=>(.int .i64 2)
 |_=>undef
def HS:dk:=⟨bMa,ZG,dYa⟩
def UN:ai:=⟨[0,1,4,5,6,7],17,[.slot 2,.slot 3],aW HS [] 0x39e6ffda6764810d0102a2f02cbff699d9208348009c6d5d40405098d404050a789c71a676566cc11559b30049b3066cc05350100500009da6764810d2002⟩
theorem Pk:aj E0 233 400=some UN:=by kernel_rfl
def Un:ai:=⟨[0,2,3,4,6,7,8,9,10,11],27,[.slot 1,.slot 2],aW HS [] 0xb39e6ffda6764810900c1b6ee677375750d0f86fb50d0f86b6ce67dd0143a2f02cbff699d9018248005c6d5d41406098d414060a789c71a676566cc11959b30059b3066cc0f444030a7ef7cc4d3df901c507df901c5068bc2bc071b57de90f8463de90f8402771a659d9207e57c0fa4001fc0e7dd20039da676481092001⟩
theorem OL:aj E0 158 400=some Un:=by kernel_rfl
def UY:ai:=⟨[0,1,4],9,[.slot 2],aW HS [] 0x39e6fff74810a8bc0b2fff748409c6d5d43401118d43401128bc0b2fff748309c6d5f0763c1e7dd2042⟩
theorem PY:aj E0 302 400=some UY:=by kernel_rfl
def U6:ai:=⟨[0,1,2],19,[],aW HS [] 0x2c9dcee269853d090073134d3cf8a041d3cf8a07cfa8bc0b2ffdcee2698f41cc3d34f3e281074f3e281f3e71b5750100ba6350100ba⟩
theorem P5:aj E0 309 400=some U6:=by kernel_rfl
def Ku:Array Value->Sem Value:=λargs=>do
  let (x,y,c)<-Extern.MathBitsCarry.three "Add64" args
  pure (Extern.MathBitsCarry.pair ((x+y+c) %Extern.MathBitsCarry.m64) ((x+y+c) /Extern.MathBitsCarry.m64))
theorem SL:Extern.find Tryz.f323=some Ku:=by kernel_rfl
theorem dea {P:Program} (x y:Nat) (w:World):(Ku #[.int .u64 x,.int .u64 y,.int .u64 0]).run P w=
  .ok (.tuple #[.int .u64 (((x+y+0) %18446744073709551616:Nat):Int),.int .u64 (((x+y+0) /18446744073709551616:Nat):Int)]) w:=rfl
theorem IB {x y:Int} {K:Value->World->Prop} {w:World} (hx:0<=x/\x<18446744073709551616) (hy:0<=y/\y<18446744073709551616)
  (hk:K (.tuple #[.int .u64 ((x+y) %18446744073709551616),.int .u64 ((x+y) /18446744073709551616)]) w):
  aI Tryz.prog (.cext 323) [.int .u64 x,.int .u64 y,.int .u64 0] K w:=by
 intro _;unfold gC;have h:=run_callFunc_extern (P:=Tryz.prog) (f:=323) (fn:=Tryz.f323) Tryz.func323 (by kernel_rfl) (by kernel_rfl) (by kernel_rfl) SL #[.int .u64 x,.int .u64 y,.int .u64 0] w;simp only [EO.mv];rw [h];obtain ⟨a,rfl⟩:∃a:Nat,x=a:=⟨x.toNat,by omega⟩;obtain ⟨b,rfl⟩:∃b:Nat,y=b:=⟨y.toNat,by omega⟩;have hr:=dea (P:=Tryz.prog) a b w;have e1:(((a+b+0) %18446744073709551616:Nat):Int)=((a:Int)+b) %18446744073709551616:=by omega
 have e2:(((a+b+0) /18446744073709551616:Nat):Int)=((a:Int)+b) /18446744073709551616:=by omega
 rw [e1,e2] at hr;rw [hr];exact hk
theorem J9 (x y:Int) (w:World) (hx:0<=x/\x<18446744073709551616) (hy:0<=y/\y<18446744073709551616):
  ak Tryz.prog 233 [.int .u64 x,.int .u64 y] (λr w'=>r= .tuple #[.int .u64 (if x+y<18446744073709551616 then x+y else 0),.int .i64 (if x+y<18446744073709551616 then 0 else 10)]/\w'=w) w:=by
 refine aE Pk (by simp [UN]) ?_;simp [UN];refine IB hx hy ?_;simp
 by_cases h:x+y<18446744073709551616
 ·have e1:(x+y) /18446744073709551616=0:=by omega
  have e2:(x+y) %18446744073709551616=x+y:=by omega
  simp [h,e1,e2]
 ·have e1:(x+y) /18446744073709551616=1:=by omega
  simp [h,e1]
theorem Fg:qw Tryz.prog 226 3 31 (.int .u64 0):=⟨by kernel_rfl,by kernel_rfl,by kernel_rfl⟩
abbrev mu (s p g m:Nat):al:=pt s (.cells #[.pointer (some ⟨p,0,none⟩),.pointer (some ⟨g,0,none⟩),.map (some m)] 228 (0,0))
def iG (s p g:Nat) (l:List Rw):al:=IQ λm=>mu s p g m*TI m l
theorem xu {w0 w:World} {A:al} {s p g:Nat} {l:List Rw} (h:St w0 (A*iG s p g l) w):∃m es c,EH es c l/\St w0 (A*mu s p g m*aF m es c) w:=by obtain ⟨m,h⟩:=K6 h;rw [<-aw] at h;obtain ⟨es,c,hE,h⟩:=I7 h;exact ⟨m,es,c,hE,h⟩
theorem lO {w0 w:World} {A:al} {s p g m:Nat} {l:List Rw} {es:List En} {c:Nat} (hE:EH es c l) (h:St w0 (A*mu s p g m*aF m es c) w):St w0 (A*iG s p g l) w:=by refine SJ m ?_;rw [<-aw];exact Fw hE h
def tJ (c:Int):Int:=if c<1 then 2 else 0
theorem Ep (q:Nat) (c:Int) (w:World):ak Tryz.prog 302 [.pointer (some ⟨q,0,none⟩),.int .i64 c] (λr w'=>r= .int .i64 (tJ c)/\w'=w) w:=by refine aE PY (by simp [UY]) ?_;simp [UY,gr,tJ]
theorem vG (s p g:Nat) (l:List Rw) (k v:Int) (w0 w:World) (A:al) (ok:gy l) (h:St w0 (A*iG s p g l) w):
  ak Tryz.prog 309 [.pointer (some ⟨s,0,none⟩),.int .i64 k,.int .u64 v] (λ_ w'=>St w0 (A*iG s p g (fR k v l)) w') w:=by
 obtain ⟨m,es,c,hE,h⟩:=xu h;have hm:w.cell? ⟨s,2,none⟩=some (.map (some m)):=(cell_of h.swap.look).trans rfl;refine aE P5 (by simp [U6]) ?_;simp [U6];refine aN (λhv=> ?_) (λhv=> ?_)
 ·simp at hv
  simp;refine af hm ?_;simp;refine Co Fg h λw1 h1=> ?_;simp;have:=lO (hE.del k) h1
  simpa [fR,hv] using this
 ·simp at hv
  simp;refine af hm ?_;simp;cases hg:dp es k with
  |none=>
   refine mK Fg h hg λw1 h1=> ?_;simp;have:=lO (hE.put hg ((hE.get ok k).2.1 hg)) h1
   simpa [fR,hv] using this
  |some u=>
   refine xp Fg h hg λw1 h1=> ?_;simp;have:=lO (hE.lK hg) h1
   simpa [fR,hv] using this
theorem vU (Br n:Nat) (v f:Value) (fs:List Value) (w0 w:World) (A:al) (h1:f.oneCell'=true) (hn:n<=16777216) (s:St w0 (A*pt Br (.cells #[v] 353 (0,0))*own 1 1 v n fs) w):
  ak Tryz.prog 303 [f,.pointer (some ⟨Br,0,none⟩)] (λ_ w'=>∃v',St w0 (A*pt Br (.cells #[v'] 353 (0,0))*own 1 1 v' (n+1) (fs++ [f])) w') w:=by
 refine aE PZ (by simp [UZ]) ?_;simp [UZ];refine af (v:=v) ((cell_of s.swap.look).trans rfl) ?_;simp;refine cw s h1 λc w1 s1=> ?_;simp;refine bE (m:=1) (news:= [f]) s1.swap rfl s1.aJ (by simp [h1]) (by decide) rfl (by unfold maxLen;omega) (by omega) λv' w2 s2=> ?_;simp;have hv:v'.oneCell'=true:=by obtain ⟨a,cap,rfl,_⟩:=s2.ay;rfl
 have s3:St w0 (A*pt c (.cells #[f] 1 (0,0))*own 1 1 v' (n+1) (fs++ [f])*pt Br (.cells #[v] 353 (0,0))) w2:=s2.to (by ac_rfl);refine bj s3 hv (by simp) λw3 s4=> ?_;simp;exact ⟨v',s4.cut (pt c (.cells #[f] 1 (0,0))) (by simp;ac_rfl)⟩
structure Gf where
 to:Int
 item:Int
 ab:Int
def Gf.cs (x:Gf):List Value:= [.int .i64 x.to,.int .i64 x.item,.int .u64 x.ab]
abbrev kq (b4 b5 b6 s:Nat) (c:Int) (x:Gf):al:=
 pt b4 (.cells #[.pointer (some ⟨s,0,none⟩)] 105 (0,0))*pt b5 (.cells #[.int .i64 c] 3 (0,0))*pt b6 (.cells x.cs.toArray 90 (0,0))
theorem kT {w0 w:World} {A Z:al} {b4 b5 b6 s p g:Nat} {c:Int} {x:Gf} {l:List Rw} (h:St w0 (A*kq b4 b5 b6 s c x*iG s p g l*Z) w):
  w.cell? ⟨b4,0,none⟩=some (.pointer (some ⟨s,0,none⟩))/\w.cell? ⟨b5,0,none⟩=some (.int .i64 c)/\w.cell? ⟨b6,0,none⟩=some (.int .i64 x.to)/\w.cell? ⟨b6,1,none⟩=some (.int .i64 x.item)/\
  w.cell? ⟨b6,2,none⟩=some (.int .u64 x.ab)/\w.cell? ⟨s,0,none⟩=some (.pointer (some ⟨p,0,none⟩))/\w.cell? ⟨s,1,none⟩=some (.pointer (some ⟨g,0,none⟩)):=by
 have h':St w0 (A*pt b4 (.cells #[.pointer (some ⟨s,0,none⟩)] 105 (0,0))*pt b5 (.cells #[.int .i64 c] 3 (0,0))*pt b6 (.cells x.cs.toArray 90 (0,0))*Z*iG s p g l) w:=h.to (by simp only [kq];ac_rfl);obtain ⟨m,es,cl,hE,h'⟩:=xu h';have f4:=h'.drop.drop.drop.drop.drop.look;have f5:=h'.drop.drop.drop.drop.look;have f6:=h'.drop.drop.drop.look;have fs:=h'.drop.look;exact ⟨(cell_of f4).trans rfl,(cell_of f5).trans rfl,(cell_of f6).trans rfl,(cell_of f6).trans rfl,(cell_of f6).trans rfl,(cell_of fs).trans rfl,(cell_of fs).trans rfl⟩
def bNa:Nat->PO
 |0=> .chkp
 |1=>(.fld 1)
 |2=>(.fld 0)
 |3=>(.fld 2)
 |_=> .same
def ZH:Nat->EO
 |0=>(.ld false 1)
 |1=>(.call 308)
 |2=>(.call 307)
 |3=>(.call 309)
 |_=> .an
def dZa:Nat->Value
 |_=>undef
def RX:dk:=⟨bNa,ZH,dZa⟩
def Vf:ai:=⟨[0,1,2],11,[],aW RX [] 0xa6273bee289a614c910d10b8071080d31041031041d349b30010349b30019b303c003⟩
theorem Qm:aj E0 367 400=some Vf:=by kernel_rfl
def Vh:ai:=⟨[0,1,2,3],17,[],aW RX [] 0xb278a28a2698532442e330f10c0c4203c02989cefbee2698532443442e02d31043031043d31042031042d349b30020349b30029b303c003⟩
theorem Qo:aj E0 369 400=some Vh:=by kernel_rfl
theorem Gc (b4 b5 b6 s p g:Nat) (c lim:Int) (x:Gf) (ae:List Gd.It) (l:List Rw) (w0 w:World) (A:al) (hl:ae.length<=1048576) (h:St w0 (A*kq b4 b5 b6 s c x*iG s p g l*Gd.cf g lim ae) w):
  ak Tryz.prog 367 [.pointer (some ⟨b4,0,none⟩),.pointer (some ⟨b6,0,none⟩),.pointer (some ⟨b5,0,none⟩)]
   (λ_ w'=>St w0 (A*kq b4 b5 b6 s c x*iG s p g l*Gd.cf g lim (Gd.ff ae x.item c).2) w') w:=by
 refine aE Qm (by simp [Vf]) ?_;simp [Vf];have hf:=λ{Z:al} {w:World} (h:St w0 (A*kq b4 b5 b6 s c x*iG s p g l*Z) w)=>kT h;have hH:=λ{w:World} (h:St w0 (A*kq b4 b5 b6 s c x*iG s p g l*Gd.cf g lim ae) w)=>Gd.wS g lim ae x.item c w0 w _ hl h;generalize A*kq b4 b5 b6 s c x*iG s p g l=B at*;refine kG (Pu.rX (St w0 (B*Gd.cf g lim ae)) (St w0 (B*Gd.cf g lim (Gd.ff ae x.item c).2))) h.drew ?_;simp;refine au (v:= .pointer (some ⟨s,0,none⟩)) (λvs' w he hw=>Pu.bW (λh=>(hf h).1) (λh=>(hf h).1) hw) ?_;simp;refine au (v:= .pointer (some ⟨g,0,none⟩)) (λvs' w he hw=>Pu.bW (λh=>(hf h).2.2.2.2.2.2) (λh=>(hf h).2.2.2.2.2.2) hw) ?_;simp;refine au (v:= .int .i64 x.item) (λvs' w he hw=>Pu.bW (λh=>(hf h).2.2.2.1) (λh=>(hf h).2.2.2.1) hw) ?_;simp;refine au (v:= .int .i64 c) (λvs' w he hw=>Pu.bW (λh=>(hf h).2.1) (λh=>(hf h).2.1) hw) ?_;simp
 refine bG (by rfl) (λw hw=> ?_) (λr hr=> ?_)
 ·rw [Pu.kU] at hw
  refine ad ((hH hw).mono ?_);rintro r w' ⟨_,h⟩;exact h
 simp
theorem Ge (b4 b5 b6 b7 s p g:Nat) (c u:Int) (x:Gf) (P:Pu.Ps) (l:List Rw) (w0 w:World) (A:al) (hP:Pu.Bd P) (hc:0<=x.ab/\x.ab<18446744073709551616) (ok:gy l)
  (h:St w0 (A*pt b7 (.cells #[.int .u64 u] 31 (0,0))*kq b4 b5 b6 s c x*iG s p g l*Pu.cr p P) w):
  ak Tryz.prog 369 [.pointer (some ⟨b4,0,none⟩),.pointer (some ⟨b6,0,none⟩),.pointer (some ⟨b5,0,none⟩),.pointer (some ⟨b7,0,none⟩)]
   (λ_ w'=>St w0 (A*pt b7 (.cells #[.int .u64 u] 31 (0,0))*kq b4 b5 b6 s c x*iG s p g (fR c u l)*Pu.cr p (Pu.bz P x.to x.ab).2) w') w:=by
 refine aE Qo (by simp [Vh]) ?_;simp [Vh];generalize hA:A*pt b7 (.cells #[.int .u64 u] 31 (0,0))=A1 at h⊢
 have hf:=λ{Z:al} {w:World} (h:St w0 (A1*kq b4 b5 b6 s c x*iG s p g l*Z) w)=>kT h;have hT:=λ{w:World} (h:St w0 (A1*kq b4 b5 b6 s c x*iG s p g l*Pu.cr p P) w)=>Pu.wU p P x.to x.ab w0 w _ hP hc h;refine kG (Pu.rX (St w0 (A1*kq b4 b5 b6 s c x*iG s p g l*Pu.cr p P)) (St w0 (A1*kq b4 b5 b6 s c x*iG s p g l*Pu.cr p (Pu.bz P x.to x.ab).2))) h.drew ?_;simp;refine au (v:= .pointer (some ⟨s,0,none⟩)) (λvs' w he hw=>Pu.bW (λh=>(hf h).1) (λh=>(hf h).1) hw) ?_;simp;refine au (v:= .pointer (some ⟨p,0,none⟩)) (λvs' w he hw=>Pu.bW (λh=>(hf h).2.2.2.2.2.1) (λh=>(hf h).2.2.2.2.2.1) hw) ?_;simp;refine au (v:= .int .i64 x.to) (λvs' w he hw=>Pu.bW (λh=>(hf h).2.2.1) (λh=>(hf h).2.2.1) hw) ?_;simp;refine au (v:= .int .u64 x.ab) (λvs' w he hw=>Pu.bW (λh=>(hf h).2.2.2.2.1) (λh=>(hf h).2.2.2.2.1) hw) ?_;simp;refine bG (by rfl) (λw hw=> ?_) (λr hr=> ?_)
 ·rw [Pu.kU] at hw
  refine ad ((hT hw).mono ?_);rintro r w' ⟨_,h⟩;exact h
 simp;intro w2 h2;have f7:w2.cell? ⟨b7,0,none⟩=some (.int .u64 u):=by rw [<-hA] at h2;exact (cell_of (h2.to (B:=A*kq b4 b5 b6 s c x*iG s p g l*Pu.cr p (Pu.bz P x.to x.ab).2*pt b7 (.cells #[.int .u64 u] 31 (0,0))) (by ac_rfl)).look).trans rfl
 refine af (hf h2).1 ?_;simp;refine af (hf h2).2.1 ?_;simp;refine af f7 ?_;simp;refine ad ((vG s p g l c u w0 w2 _ ok h2.swap).mono ?_);intro r w3 h3;simp;exact h3.swap
structure bD where
 P:Pu.Ps
 ae:List Gd.It
 l:List Rw
deriving DecidableEq
abbrev aV (p g s:Nat) (lim:Int) (E:bD):al:=Pu.cr p E.P*Gd.cf g lim E.ae*iG s p g E.l
def bP (c:Int) (x:Gf) (E:bD):Int×bD:=
 if (Pu.aA E.P x.to).2≠0 then (142,E)
 else if x.item≠0/\((Gd.aA E.ae x.item).2≠0\/(Gd.aA E.ae x.item).1.bp≠c) then (170,E)
 else if ck E.l c<x.ab then (170,E)
 else (0,⟨(Pu.aP E.P x.to x.ab).2,if x.item≠0 then (Gd.eH E.ae x.item x.to).2 else E.ae,fR c (ck E.l c -x.ab) E.l⟩)
structure Et where
 acc:Int
 item:Int
 ab:Int
def aK (c:Int) (x:Et) (E:bD):Int×bD:=
 if (Pu.aA E.P x.acc).2≠0 then (142,E)
 else if x.item≠0/\((Gd.aA E.ae x.item).2≠0\/(Gd.aA E.ae x.item).1.bp≠0\/(Gd.aA E.ae x.item).1.acc≠x.acc) then (151,E)
 else if (Pu.bz E.P x.acc x.ab).1≠0 then ((Pu.bz E.P x.acc x.ab).1,E)
 else (0,⟨(Pu.bz E.P x.acc x.ab).2,if x.item≠0 then (Gd.ff E.ae x.item c).2 else E.ae,fR c (ck E.l c+x.ab) E.l⟩)
def iua (b4 b5 b6 b7:Nat) (x:Gf):List Value:=
 (if x.item≠0 then [.func (.func 367) #[] #[.pointer (some ⟨b4,0,none⟩),.pointer (some ⟨b6,0,none⟩),.pointer (some ⟨b5,0,none⟩)]] else [])++
  [.func (.func 369) #[] #[.pointer (some ⟨b4,0,none⟩),.pointer (some ⟨b6,0,none⟩),.pointer (some ⟨b5,0,none⟩),.pointer (some ⟨b7,0,none⟩)]]
noncomputable abbrev E1:PF Tryz.prog:=(PF.none _).quiet [169,129]
def zS:HC:=(.seq (.reg (.done [(7,(.cst (.int .i64 0)))] none)) .ret)
@[simp] theorem XK:type_of%(@aH zS _ zS.eq_1):=aH zS.eq_1
def zT:HC:=(.seq (.reg (.chk none (.mkf (.func 369) 0) (.cons (.inp 4) (.cons (.inp 6) (.cons (.inp 5) (.cons (.inp 11) .nil)))) (.eff .callv (.cons (.inp 3) (.cons (.op (.mkf (.func 369) 0) (.cons (.inp 4) (.cons (.inp 6) (.cons (.inp 5) (.cons (.inp 11) .nil))))) .nil)) (.done [] none)))) zS)
@[simp] theorem XL:type_of%(@aH zT _ zT.eq_1):=aH zT.eq_1
def zU:HC:=(.seq (.reg (.eff (.ld false 1) (.cons (.inp 4) .nil) (.eff (.ld false 1) (.cons (.inp 5) .nil) (.eff (.call 309) (.cons (.bv 0) (.cons (.bv 1) (.cons (.inp 12) .nil))) (.done [] none))))) zT)
@[simp] theorem XM:type_of%(@aH zU _ zU.eq_1):=aH zU.eq_1
def uM:HC:=(.seq (.regq (.some 1) (.eff (.ld false 1) (.cons (.inp 4) .nil) (.chk none .chkp (.cons (.bv 0) .nil) (.chk none (.fld 0) (.cons (.op .chkp (.cons (.bv 0) .nil)) .nil) (.eff (.ld false 1) (.cons (.op (.fld 0) (.cons (.op .chkp (.cons (.bv 0) .nil)) .nil)) .nil) (.chk none (.fld 0) (.cons (.inp 6) .nil) (.eff (.ld false 1) (.cons (.op (.fld 0) (.cons (.inp 6) .nil)) .nil) (.chk none (.fld 2) (.cons (.inp 6) .nil) (.eff (.ld false 1) (.cons (.op (.fld 2) (.cons (.inp 6) .nil)) .nil) (.eff (.call 368) (.cons (.bv 1) (.cons (.bv 2) (.cons (.bv 3) .nil))) (.done [] none))))))))))) zU)
@[simp] theorem XN:type_of%(@aH uM _ uM.eq_1):=aH uM.eq_1
def zV:HC:=(.reg (.chk none (.mkf (.func 367) 0) (.cons (.inp 4) (.cons (.inp 6) (.cons (.inp 5) .nil))) (.eff .callv (.cons (.inp 3) (.cons (.op (.mkf (.func 367) 0) (.cons (.inp 4) (.cons (.inp 6) (.cons (.inp 5) .nil)))) .nil)) (.done [] none))))
@[simp] theorem XO:type_of%(@aH zV _ zV.eq_1):=aH zV.eq_1
def zW:HC:=(.seq (.regq (.some 1) (.eff (.ld false 1) (.cons (.inp 4) .nil) (.chk none .chkp (.cons (.bv 0) .nil) (.chk none (.fld 1) (.cons (.op .chkp (.cons (.bv 0) .nil)) .nil) (.eff (.ld false 1) (.cons (.op (.fld 1) (.cons (.op .chkp (.cons (.bv 0) .nil)) .nil)) .nil) (.chk none (.fld 1) (.cons (.inp 6) .nil) (.eff (.ld false 1) (.cons (.op (.fld 1) (.cons (.inp 6) .nil)) .nil) (.chk none (.fld 0) (.cons (.inp 6) .nil) (.eff (.ld false 1) (.cons (.op (.fld 0) (.cons (.inp 6) .nil)) .nil) (.eff (.call 366) (.cons (.bv 1) (.cons (.bv 2) (.cons (.bv 3) .nil))) (.done [] none))))))))))) zV)
@[simp] theorem XQ:type_of%(@aH zW _ zW.eq_1):=aH zW.eq_1
def uN:HC:=(.seq (.br (.chk none (.fld 1) (.cons (.inp 6) .nil) (.eff (.ld false 1) (.cons (.op (.fld 1) (.cons (.inp 6) .nil)) .nil) (.chk none (.bin .neq) (.cons (.bv 0) (.cons (.cst (.int .i64 0)) .nil)) (.done [] (some (.op (.bin .neq) (.cons (.bv 0) (.cons (.cst (.int .i64 0)) .nil)))))))) zW .skip) uM)
@[simp] theorem XR:type_of%(@aH uN _ uN.eq_1):=aH uN.eq_1
def zX:HC:=(.seq (.reg (.done [(7,(.cst (.int .i64 170)))] none)) .ret)
@[simp] theorem XS:type_of%(@aH zX _ zX.eq_1):=aH zX.eq_1
def zY:HC:=(.seq (.br (.chk none (.bin .neq) (.cons (.inp 13) (.cons (.cst (.int .i64 0)) .nil)) (.done [] (some (.op (.bin .neq) (.cons (.inp 13) (.cons (.cst (.int .i64 0)) .nil)))))) zX .skip) uN)
@[simp] theorem XT:type_of%(@aH zY _ zY.eq_1):=aH zY.eq_1
def zZ:HC:=(.seq (.reg (.eff (.ld false 1) (.cons (.inp 11) .nil) (.chk none (.fld 2) (.cons (.inp 6) .nil) (.eff (.ld false 1) (.cons (.op (.fld 2) (.cons (.inp 6) .nil)) .nil) (.eff (.call 128) (.cons (.bv 0) (.cons (.bv 1) .nil)) (.chk none (.ext 0) (.cons (.bv 2) .nil) (.chk none (.ext 1) (.cons (.bv 2) .nil) (.done [(12,(.op (.ext 0) (.cons (.bv 2) .nil))),(13,(.op (.ext 1) (.cons (.bv 2) .nil)))] none)))))))) zY)
@[simp] theorem XU:type_of%(@aH zZ _ zZ.eq_1):=aH zZ.eq_1
def pN:HC:=(.seq (.regq (.some 2) (.eff (.ld false 1) (.cons (.inp 4) .nil) (.chk none .chkp (.cons (.bv 0) .nil) (.chk none (.fld 2) (.cons (.op .chkp (.cons (.bv 0) .nil)) .nil) (.eff (.ld false 1) (.cons (.op (.fld 2) (.cons (.op .chkp (.cons (.bv 0) .nil)) .nil)) .nil) (.eff (.ld false 1) (.cons (.inp 5) .nil) (.eff (.look 226 false) (.cons (.bv 1) (.cons (.bv 2) .nil)) (.eff (.new 31 (.int .u64 0)) .nil (.eff (.st 1) (.cons (.bv 4) (.cons (.bv 3) .nil)) (.done [(11,(.bv 4))] none)))))))))) zZ)
@[simp] theorem Tu:type_of%(@aH pN _ pN.eq_1):=aH pN.eq_1
def sY:HC:=(.seq (.reg (.done [(7,(.cst (.int .i64 170)))] none)) .ret)
@[simp] theorem Tv:type_of%(@aH sY _ sY.eq_1):=aH sY.eq_1
def sZ:HC:=(.br (.chk none (.bin .neq) (.cons (.inp 10) (.cons (.cst (.int .i64 0)) .nil)) (.gh (.op (.bin .neq) (.cons (.inp 10) (.cons (.cst (.int .i64 0)) .nil))) (.chk (some ((.bv 0),false)) (.fld 3) (.cons (.inp 9) .nil) (.ite (.bv 0) false (.eff (.ld false 1) (.cons (.ite (.bv 0) false (.op (.fld 3) (.cons (.inp 9) .nil)) (.cst (.tuple #[]))) .nil) (.eff (.ld false 1) (.cons (.inp 5) .nil) (.chk none (.bin .neq) (.cons (.bv 1) (.cons (.bv 2) .nil)) (.isb none (.bv 0) (.done [] (some (.op (.bin .neq) (.cons (.bv 1) (.cons (.bv 2) .nil))))))))) (.isb none (.bv 0) (.done [] (some (.cst (.bool true))))))))) sY .skip)
@[simp] theorem Tw:type_of%(@aH sZ _ sZ.eq_1):=aH sZ.eq_1
def tc:HC:=(.seq (.regq (.some 2) (.eff (.ld false 1) (.cons (.inp 4) .nil) (.chk none .chkp (.cons (.bv 0) .nil) (.chk none (.fld 1) (.cons (.op .chkp (.cons (.bv 0) .nil)) .nil) (.eff (.ld false 1) (.cons (.op (.fld 1) (.cons (.op .chkp (.cons (.bv 0) .nil)) .nil)) .nil) (.chk none (.fld 1) (.cons (.inp 6) .nil) (.eff (.ld false 1) (.cons (.op (.fld 1) (.cons (.inp 6) .nil)) .nil) (.eff (.call 129) (.cons (.bv 1) (.cons (.bv 2) .nil)) (.chk none (.ext 0) (.cons (.bv 3) .nil) (.chk none (.ext 1) (.cons (.bv 3) .nil) (.eff (.new 123 (.agg #[(.int .i64 0),(.int .i64 0),(.int .i64 0),(.int .i64 0)])) .nil (.eff (.st 4) (.cons (.bv 4) (.cons (.op (.ext 0) (.cons (.bv 3) .nil)) .nil)) (.done [(9,(.bv 4)),(10,(.op (.ext 1) (.cons (.bv 3) .nil)))] none))))))))))))) sZ)
@[simp] theorem Tx:type_of%(@aH tc _ tc.eq_1):=aH tc.eq_1
def td:HC:=(.seq (.br (.chk none (.fld 1) (.cons (.inp 6) .nil) (.eff (.ld false 1) (.cons (.op (.fld 1) (.cons (.inp 6) .nil)) .nil) (.chk none (.bin .neq) (.cons (.bv 0) (.cons (.cst (.int .i64 0)) .nil)) (.done [] (some (.op (.bin .neq) (.cons (.bv 0) (.cons (.cst (.int .i64 0)) .nil)))))))) tc .skip) pN)
@[simp] theorem Ty:type_of%(@aH td _ td.eq_1):=aH td.eq_1
def te:HC:=(.seq (.reg (.done [(7,(.inp 8))] none)) .ret)
@[simp] theorem Tz:type_of%(@aH te _ te.eq_1):=aH te.eq_1
def tf:HC:=(.seq (.br (.chk none (.bin .neq) (.cons (.inp 8) (.cons (.cst (.int .i64 0)) .nil)) (.done [] (some (.op (.bin .neq) (.cons (.inp 8) (.cons (.cst (.int .i64 0)) .nil)))))) te .skip) td)
@[simp] theorem TA:type_of%(@aH tf _ tf.eq_1):=aH tf.eq_1
def tg:HC:=(.seq (.regq (.some 2) (.eff (.ld false 1) (.cons (.inp 4) .nil) (.chk none .chkp (.cons (.bv 0) .nil) (.chk none (.fld 0) (.cons (.op .chkp (.cons (.bv 0) .nil)) .nil) (.eff (.ld false 1) (.cons (.op (.fld 0) (.cons (.op .chkp (.cons (.bv 0) .nil)) .nil)) .nil) (.chk none (.fld 0) (.cons (.inp 6) .nil) (.eff (.ld false 1) (.cons (.op (.fld 0) (.cons (.inp 6) .nil)) .nil) (.eff (.call 169) (.cons (.bv 1) (.cons (.bv 2) .nil)) (.chk none (.ext 0) (.cons (.bv 3) .nil) (.chk none (.ext 1) (.cons (.bv 3) .nil) (.eff (.new 139 (.agg #[(.string ⟨#[]⟩),(.int .u64 0)])) .nil (.eff (.st 2) (.cons (.bv 4) (.cons (.op (.ext 0) (.cons (.bv 3) .nil)) .nil)) (.done [(8,(.op (.ext 1) (.cons (.bv 3) .nil)))] none))))))))))))) tf)
@[simp] theorem TB:type_of%(@aH tg _ tg.eq_1):=aH tg.eq_1
def U3:ai:=⟨[0,1,2,3,4,5,6,8,10,11,12,13,14,15],96,[.slot 7],(.seq (.reg (.eff (.box 105) (.cons (.inp 0) .nil) (.eff (.box 3) (.cons (.inp 1) .nil) (.eff (.box 90) (.cons (.inp 2) .nil) (.done [(4,(.bv 0)),(5,(.bv 1)),(6,(.bv 2)),(7,(.cst (.int .i64 0)))] none))))) tg)⟩
theorem P2:aj E1 306 400=some U3:=by kernel_rfl
def zK:HC:=(.seq (.reg (.done [(4,(.cst (.int .i64 0)))] none)) .ret)
@[simp] theorem Xz:type_of%(@aH zK _ zK.eq_1):=aH zK.eq_1
def uK:HC:=(.seq (.regq (.some 1) (.chk none .chkp (.cons (.inp 0) .nil) (.chk none (.fld 2) (.cons (.op .chkp (.cons (.inp 0) .nil)) .nil) (.eff (.ld false 1) (.cons (.op (.fld 2) (.cons (.op .chkp (.cons (.inp 0) .nil)) .nil)) .nil) (.eff (.look 226 false) (.cons (.bv 0) (.cons (.inp 1) .nil)) (.chk none (.fld 2) (.cons (.inp 3) .nil) (.eff (.ld false 1) (.cons (.op (.fld 2) (.cons (.inp 3) .nil)) .nil) (.chk none (.bin .add) (.cons (.bv 1) (.cons (.bv 2) .nil)) (.eff (.call 309) (.cons (.inp 0) (.cons (.inp 1) (.cons (.op (.bin .add) (.cons (.bv 1) (.cons (.bv 2) .nil))) .nil))) (.done [] none)))))))))) zK)
@[simp] theorem XA:type_of%(@aH uK _ uK.eq_1):=aH uK.eq_1
def zL:HC:=(.regq (.some 1) (.chk none .chkp (.cons (.inp 0) .nil) (.chk none (.fld 1) (.cons (.op .chkp (.cons (.inp 0) .nil)) .nil) (.eff (.ld false 1) (.cons (.op (.fld 1) (.cons (.op .chkp (.cons (.inp 0) .nil)) .nil)) .nil) (.chk none (.fld 1) (.cons (.inp 3) .nil) (.eff (.ld false 1) (.cons (.op (.fld 1) (.cons (.inp 3) .nil)) .nil) (.eff (.call 308) (.cons (.bv 0) (.cons (.bv 1) (.cons (.inp 1) .nil))) (.done [] none))))))))
@[simp] theorem XB:type_of%(@aH zL _ zL.eq_1):=aH zL.eq_1
def zM:HC:=(.seq (.br (.chk none (.fld 1) (.cons (.inp 3) .nil) (.eff (.ld false 1) (.cons (.op (.fld 1) (.cons (.inp 3) .nil)) .nil) (.chk none (.bin .neq) (.cons (.bv 0) (.cons (.cst (.int .i64 0)) .nil)) (.done [] (some (.op (.bin .neq) (.cons (.bv 0) (.cons (.cst (.int .i64 0)) .nil)))))))) zL .skip) uK)
@[simp] theorem XC:type_of%(@aH zM _ zM.eq_1):=aH zM.eq_1
def zN:HC:=(.seq (.reg (.done [(4,(.inp 8))] none)) .ret)
@[simp] theorem XD:type_of%(@aH zN _ zN.eq_1):=aH zN.eq_1
def zO:HC:=(.seq (.br (.chk none (.bin .neq) (.cons (.inp 8) (.cons (.cst (.int .i64 0)) .nil)) (.done [] (some (.op (.bin .neq) (.cons (.inp 8) (.cons (.cst (.int .i64 0)) .nil)))))) zN .skip) zM)
@[simp] theorem XE:type_of%(@aH zO _ zO.eq_1):=aH zO.eq_1
def uL:HC:=(.seq (.regq (.some 1) (.chk none .chkp (.cons (.inp 0) .nil) (.chk none (.fld 0) (.cons (.op .chkp (.cons (.inp 0) .nil)) .nil) (.eff (.ld false 1) (.cons (.op (.fld 0) (.cons (.op .chkp (.cons (.inp 0) .nil)) .nil)) .nil) (.chk none (.fld 0) (.cons (.inp 3) .nil) (.eff (.ld false 1) (.cons (.op (.fld 0) (.cons (.inp 3) .nil)) .nil) (.chk none (.fld 2) (.cons (.inp 3) .nil) (.eff (.ld false 1) (.cons (.op (.fld 2) (.cons (.inp 3) .nil)) .nil) (.eff (.call 307) (.cons (.bv 0) (.cons (.bv 1) (.cons (.bv 2) .nil))) (.done [(8,(.bv 3))] none)))))))))) zO)
@[simp] theorem XF:type_of%(@aH uL _ uL.eq_1):=aH uL.eq_1
def zP:HC:=(.seq (.reg (.done [(4,(.cst (.int .i64 151)))] none)) .ret)
@[simp] theorem XH:type_of%(@aH zP _ zP.eq_1):=aH zP.eq_1
def zQ:HC:=(.br (.chk none (.bin .neq) (.cons (.inp 7) (.cons (.cst (.int .i64 0)) .nil)) (.gh (.op (.bin .neq) (.cons (.inp 7) (.cons (.cst (.int .i64 0)) .nil))) (.chk (some ((.bv 0),false)) (.fld 3) (.cons (.inp 6) .nil) (.ite (.bv 0) false (.eff (.ld false 1) (.cons (.ite (.bv 0) false (.op (.fld 3) (.cons (.inp 6) .nil)) (.cst (.tuple #[]))) .nil) (.chk none (.bin .neq) (.cons (.bv 1) (.cons (.cst (.int .i64 0)) .nil)) (.isb none (.bv 0) (.gh (.op (.bin .neq) (.cons (.bv 1) (.cons (.cst (.int .i64 0)) .nil))) (.chk (some ((.bv 2),false)) (.fld 2) (.cons (.inp 6) .nil) (.ite (.bv 2) false (.eff (.ld false 1) (.cons (.ite (.bv 2) false (.op (.fld 2) (.cons (.inp 6) .nil)) (.cst (.tuple #[]))) .nil) (.chk none (.fld 0) (.cons (.inp 3) .nil) (.eff (.ld false 1) (.cons (.op (.fld 0) (.cons (.inp 3) .nil)) .nil) (.chk none (.bin .neq) (.cons (.bv 3) (.cons (.bv 4) .nil)) (.isb none (.bv 2) (.done [] (some (.op (.bin .neq) (.cons (.bv 3) (.cons (.bv 4) .nil)))))))))) (.isb none (.bv 2) (.done [] (some (.cst (.bool true))))))))))) (.isb none (.bv 0) (.isb none (.cst (.bool true)) (.done [] (some (.cst (.bool true)))))))))) zP .skip)
@[simp] theorem XI:type_of%(@aH zQ _ zQ.eq_1):=aH zQ.eq_1
def zR:HC:=(.seq (.regq (.some 2) (.chk none .chkp (.cons (.inp 0) .nil) (.chk none (.fld 1) (.cons (.op .chkp (.cons (.inp 0) .nil)) .nil) (.eff (.ld false 1) (.cons (.op (.fld 1) (.cons (.op .chkp (.cons (.inp 0) .nil)) .nil)) .nil) (.chk none (.fld 1) (.cons (.inp 3) .nil) (.eff (.ld false 1) (.cons (.op (.fld 1) (.cons (.inp 3) .nil)) .nil) (.eff (.call 129) (.cons (.bv 0) (.cons (.bv 1) .nil)) (.chk none (.ext 0) (.cons (.bv 2) .nil) (.chk none (.ext 1) (.cons (.bv 2) .nil) (.eff (.new 123 (.agg #[(.int .i64 0),(.int .i64 0),(.int .i64 0),(.int .i64 0)])) .nil (.eff (.st 4) (.cons (.bv 3) (.cons (.op (.ext 0) (.cons (.bv 2) .nil)) .nil)) (.done [(6,(.bv 3)),(7,(.op (.ext 1) (.cons (.bv 2) .nil)))] none)))))))))))) zQ)
@[simp] theorem XJ:type_of%(@aH zR _ zR.eq_1):=aH zR.eq_1
def sS:HC:=(.seq (.br (.chk none (.fld 1) (.cons (.inp 3) .nil) (.eff (.ld false 1) (.cons (.op (.fld 1) (.cons (.inp 3) .nil)) .nil) (.chk none (.bin .neq) (.cons (.bv 0) (.cons (.cst (.int .i64 0)) .nil)) (.done [] (some (.op (.bin .neq) (.cons (.bv 0) (.cons (.cst (.int .i64 0)) .nil)))))))) zR .skip) uL)
@[simp] theorem Tq:type_of%(@aH sS _ sS.eq_1):=aH sS.eq_1
def sU:HC:=(.seq (.reg (.done [(4,(.inp 5))] none)) .ret)
@[simp] theorem Tr:type_of%(@aH sU _ sU.eq_1):=aH sU.eq_1
def sV:HC:=(.seq (.br (.chk none (.bin .neq) (.cons (.inp 5) (.cons (.cst (.int .i64 0)) .nil)) (.done [] (some (.op (.bin .neq) (.cons (.inp 5) (.cons (.cst (.int .i64 0)) .nil)))))) sU .skip) sS)
@[simp] theorem Ts:type_of%(@aH sV _ sV.eq_1):=aH sV.eq_1
def sX:HC:=(.seq (.regq (.some 2) (.chk none .chkp (.cons (.inp 0) .nil) (.chk none (.fld 0) (.cons (.op .chkp (.cons (.inp 0) .nil)) .nil) (.eff (.ld false 1) (.cons (.op (.fld 0) (.cons (.op .chkp (.cons (.inp 0) .nil)) .nil)) .nil) (.chk none (.fld 0) (.cons (.inp 3) .nil) (.eff (.ld false 1) (.cons (.op (.fld 0) (.cons (.inp 3) .nil)) .nil) (.eff (.call 169) (.cons (.bv 0) (.cons (.bv 1) .nil)) (.chk none (.ext 0) (.cons (.bv 2) .nil) (.chk none (.ext 1) (.cons (.bv 2) .nil) (.eff (.new 139 (.agg #[(.string ⟨#[]⟩),(.int .u64 0)])) .nil (.eff (.st 2) (.cons (.bv 3) (.cons (.op (.ext 0) (.cons (.bv 2) .nil)) .nil)) (.done [(5,(.op (.ext 1) (.cons (.bv 2) .nil)))] none)))))))))))) sV)
@[simp] theorem Tt:type_of%(@aH sX _ sX.eq_1):=aH sX.eq_1
def UE:ai:=⟨[0,1,2,5,6,8,9,10,11],87,[.slot 4],(.seq (.reg (.eff (.box 34) (.cons (.inp 2) .nil) (.done [(3,(.bv 0)),(4,(.cst (.int .i64 0)))] none))) sX)⟩
theorem O9:aj E1 220 400=some UE:=by kernel_rfl
def Cc (X:World->Prop) (Y Z:Nat->World->Prop):List Value->World->Prop
 | [],w=>X w
 | [v],w=>∃b,v= .pointer (some ⟨b,0,none⟩)/\Y b w
 |v::_::_,w=>∃b,v= .pointer (some ⟨b,0,none⟩)/\Z b w
theorem dK {X:World->Prop} {Y Z:Nat->World->Prop} {R:Prop} {vs:List Value} {w:World} (h1:X w->R) (h2:∀b,Y b w->R) (h3:∀b,Z b w->R) (h:Cc X Y Z vs w):R:=by
 match vs,h with
 | [],h=>exact h1 h
 | [_],⟨b,_,h⟩=>exact h2 b h
 |_::_::_,⟨b,_,h⟩=>exact h3 b h
theorem nD {P:Program} {f:FuncId} {args:List Value} {r:Value} {X:World->Prop} {Y Z:Nat->World->Prop} {vs:List Value} {w:World}
  (h1:X w->ak P f args (λu w'=>u=r/\X w') w) (h2:∀b,Y b w->ak P f args (λu w'=>u=r/\Y b w') w) (h3:∀b,Z b w->ak P f args (λu w'=>u=r/\Z b w') w)
  (h:Cc X Y Z vs w):ak P f args (λu w'=>u=r/\Cc X Y Z vs w') w:=by
 match vs,h with
 | [],h=>exact h1 h
 | [v],⟨b,hv,h⟩=>exact (h2 b h).mono λu w' ⟨e,h⟩=>⟨e,b,hv,h⟩
 |v::_::_,⟨b,hv,h⟩=>exact (h3 b h).mono λu w' ⟨e,h⟩=>⟨e,b,hv,h⟩
end Go.HL.Es
namespace Go.HL
section
variable {P:Program} {K:Value->World->Prop} {w w0:World} {F:al}
def grw (e size:Nat) (v v':Value) (n m:Nat) (xs ys:List Value):al:=λh=>
 (∃g cap,v= .slice (some ⟨g,0,none⟩) n cap/\v'= .slice (some ⟨g,0,none⟩) (n+m) cap/\xs.length=n*size/\own e size v' (n+m) (xs++ys) h)\/
 (own e size v n xs*own e size v' (n+m) (xs++ys)) h
theorem L6 {e size g n m cap:Nat} {xs ys:List Value} (hl:xs.length=n*size) {h:_} (hh:own e size (.slice (some ⟨g,0,none⟩) (n+m) cap) (n+m) (xs++ys) h):own e size (.slice (some ⟨g,0,none⟩) n cap) n xs h:=by
 refine ⟨hl,.inr ?_⟩;rcases hh.2 with ⟨h1,_⟩|⟨g',cap',cur,h1,h2,h3,h4,h5,h6⟩
 ·cases h1
 ·cases h1
  refine ⟨g,cap,cur,rfl,by omega,h3,h4,?_,h6⟩;have:(cur.toList.take ((n+m)*size)).take (n*size)=(xs++ys).take (n*size):=by rw [h5]
  rw [List.take_take,Nat.min_eq_left (Nat.mul_le_mul_right _ (by omega)),<-hl,List.take_left] at this;rw [<-hl];exact this
end
def Mc (f:Nat->al):Nat->al
 |0=>emp
 |n+1=>Mc f n*f n
theorem gE (A:al):emp*A=A:=by
 have:emp*A=A*emp:=by ac_rfl
 rw [this,aq]
section
variable {α:Type}
def Y9 (F:Nat->α->al) (Y:Nat->α) (n:Nat):al:=Mc (λj=>F j (Y j)) n
def jya (F:Nat->α->al) (Y:Nat->α) (i n:Nat):al:=Mc (λj=>if j=i then emp else F j (Y j)) n
def upF (Y:Nat->α) (i:Nat) (y:α):Nat->α:=λj=>if j=i then y else Y j
end
theorem xB (o:Nat):∀(vs:List Value) (j:Nat) (c:Array Value),(vs.zipIdx j).foldl (λ(cs:Array Value) x=>cs.setIfInBounds (o+x.2) x.1) c=(vs.zipIdx (o+j)).foldl (λ(cs:Array Value) x=>cs.setIfInBounds x.2 x.1) c
 | [],_,_=>rfl
 |v::vs,j,c=>by rw [List.zipIdx_cons,List.zipIdx_cons,List.foldl_cons,List.foldl_cons,xB o vs (j+1)];rfl
theorem RB (size:Nat):∀(vs:List Value) (k:Nat) (c:List Value),(∀v∈vs,v.cells.size=size)->(k+vs.length)*size<=c.length->
  Instr.fill (λi=>some (i*size,size)) c.toArray ((List.range' k vs.length).zip vs)=some (c.take (k*size)++vs.flatMap (λv=>v.cells.toList)++c.drop ((k+vs.length)*size)).toArray
 | [],k,c,_,_=>by simp [Instr.fill]
 |v::vs,k,c,hv,hc=>by
  have h0:v.cells.size=size:=hv v (List.mem_cons_self ..);have hle:(k+1+vs.length)*size<=c.length:=by
   have:k+(v::vs).length=k+1+vs.length:=by simp;omega
   rw [this] at hc;exact hc
  have hk1:(k+1)*size=k*size+size:=Nat.succ_mul k size;have hadd:(k+1+vs.length)*size=k*size+size+vs.length*size:=by rw [Nat.add_mul,hk1]
  rw [List.length_cons,List.range'_succ,List.zip_cons_cons];simp only [Instr.fill,h0];rw [if_neg (by simp;omega)];have hsz:v.cells.toList.length=size:=by rw [Array.length_toList,h0]
  have hf:v.cells.zipIdx.foldl (λ(cs:Array Value) (x:Value×Nat)=>cs.setIfInBounds (k*size+x.2) x.1) c.toArray=(c.take (k*size)++v.cells.toList++c.drop (k*size+size)).toArray:=by
   have e:v.cells.zipIdx=(v.cells.toList.zipIdx 0).toArray:=by apply Array.ext';simp
   rw [e,List.foldl_toArray']
   ·rw [xB,Nat.add_zero,qK v.cells.toList (k*size) c (by rw [hsz];omega),hsz]
   ·rfl
  rw [hf];have ih:=RB size vs (k+1) (c.take (k*size)++v.cells.toList++c.drop (k*size+size)) (λu hu=>hv u (List.mem_cons_of_mem _ hu)) (by simp only [List.length_append,List.length_take,List.length_drop,hsz];omega)
  rw [ih]
  congr 2
  have l1:(c.take (k*size)).length=k*size:=by rw [List.length_take];omega
  have l2:(c.take (k*size)++v.cells.toList).length=(k+1)*size:=by rw [List.length_append,l1,hsz,hk1]
  have t1:(c.take (k*size)++v.cells.toList++c.drop (k*size+size)).take ((k+1)*size)=c.take (k*size)++v.cells.toList:=by rw [<-l2];exact List.take_left
  have t2:(c.take (k*size)++v.cells.toList++c.drop (k*size+size)).drop ((k+1+vs.length)*size)=c.drop ((k+(vs.length+1))*size):=by
   have e2:(k+(vs.length+1))*size=(k+1+vs.length)*size:=by congr 1;omega
   rw [List.drop_append,l2,List.drop_of_length_le (by rw [l2,hadd,hk1];omega),List.nil_append,List.drop_drop,e2]
   congr 1
   rw [hadd,hk1];omega
  rw [t1,t2];simp [List.flatMap_cons,List.append_assoc]
theorem uk {P:Program} {K:Value->World->Prop} {w w0:World} {F:al} {e size n:Nat} {z:Array Value} {vs:List Value} {ix:List Nat} (s:St w0 F w) (hv:∀v∈vs,v.cells.size=size) (hn:vs.length=n) (hix:ix=List.range' 0 n) (hm:n<=maxLen)
  (hk:∀v w',St w0 (F*own e size v n (vs.flatMap λv=>v.cells.toList)) w'->K v w'):aI P (.bsl e n size z ix) vs K w:=by
 subst hix hn;have hl:((Array.range (vs.length*size)).map λi=>z[i %z.size]!).size=vs.length*size:=by simp
 have hfl:(vs.flatMap λv=>v.cells.toList).length=vs.length*size:=by
  clear hl s hk hm
  induction vs with
  |nil=>simp
  |cons v vs ih=>
   rw [List.flatMap_cons,List.length_append,ih (λu hu=>hv u (List.mem_cons_of_mem _ hu)),Array.length_toList,hv v (List.mem_cons_self ..),List.length_cons,Nat.succ_mul];omega
 refine lP (cells:=(vs.flatMap λv=>v.cells.toList).toArray) s ?_ λb w' s'=>hk _ w' (s'.vo (Nat.le_refl _) hm (by rw [List.size_toArray,hfl]) (by rw [<-hfl];exact List.take_length));have:=RB size vs 0 ((Array.range (vs.length*size)).map λi=>z[i %z.size]!).toList hv (by simp);rw [Array.toArray_toList] at this;refine this.trans ?_;rw [Nat.zero_mul,List.take_zero,List.nil_append,Nat.zero_add,List.drop_of_length_le (by rw [Array.length_toList,hl];exact Nat.le_refl _),List.append_nil]
theorem iX {P:Program} {K:Value->World->Prop} {w w0:World} {F:al} {e n:Nat} {z:Array Value} {vs:List Value} {ix:List Nat} (s:St w0 F w) (hv:∀v∈vs,v.oneCell'=true) (hn:vs.length=n) (hix:ix=List.range' 0 n) (hm:n<=maxLen)
  (hk:∀v w',St w0 (F*own e 1 v n vs) w'->K v w'):aI P (.bsl e n 1 z ix) vs K w:=by
 have hc:∀v∈vs,v.cells= #[v]:=λv h=>by have:=hv v h;cases v<;>first|rfl|(simp [Value.oneCell'] at this)
 refine uk s (λv h=>by rw [hc v h];rfl) hn hix hm λv w' s'=>hk v w' ?_;have e:(vs.flatMap λv=>v.cells.toList)=vs:=by
  clear s hk hn hix hm s' hv
  induction vs with
  |nil=>rfl
  |cons v vs ih=>rw [List.flatMap_cons,hc v (List.mem_cons_self ..),ih λu hu=>hc u (List.mem_cons_of_mem _ hu)];rfl
 rw [e] at s';exact s'
end Go.HL
namespace Go.HL.Pu
open Go.HL Go.HL.Nm Go.Proofs
noncomputable abbrev U1:PF Tryz.prog:=PF.of []
def bdB (P:Ps):Bool:=decide (∀x∈P.rows,0<=x.ab/\x.ab<=4611686018427387904)&&decide (0<=P.held/\P.held<=4611686018427387904)&&decide (0<=P.sup/\P.sup<=4611686018427387904)&&decide (P.rows.length<=64)
def gqa:List (List UInt8):= [[65,110,110],[65,78,78],[97,32],[66,111,98],[67,105,100]]
def gra (x:List UInt8) (r:Ps×List Int):Ps×List Int:=((bq r.1 x).2.2,r.2++ [(bq r.1 x).1,(bq r.1 x).2.1])
def giv:Nat->Ps×List Int
 |0=>(⟨3,[⟨cK,0⟩],0,0⟩,[0])
 |n+1=>gra (gqa.getD n []) (giv n)
def G5:Ps:=⟨3,[⟨cK,0⟩,⟨[65,110,110],0⟩,⟨[66,111,98],0⟩],0,0⟩
def G6:Ps:=⟨3,[⟨cK,0⟩,⟨[65,110,110],100⟩,⟨[66,111,98],0⟩],100,0⟩
def G7:Ps:=⟨3,[⟨cK,0⟩,⟨[65,110,110],70⟩,⟨[66,111,98],30⟩],100,0⟩
def jFa:List Int:= [0,1,0,0,140,0,40,2,0,0,141,0,2,142,144,0,234,2,143,142]
def Ac.pv (x:Ac):List PV:= [.str x.name,.int .u64 x.ab]
structure Sp where
 who:Int
 kind:Int
 a:Int
 b:Int
 ab:Int
 name:List UInt8
def Sp.cs (x:Sp):List Value:= [.int .i64 x.who,.int .i64 x.kind,.int .i64 x.a,.int .i64 x.b,.int .u64 x.ab,.string (HL.mk x.name)]
def Sp.ok (x:Sp):Prop:=(0<=x.ab/\x.ab<18446744073709551616)/\x.name.length<=1048576
def cZ (P:Ps) (o:Sp):Int×Ps:=
 if o.kind=1 then ((bq P o.name).2.1,(bq P o.name).2.2)
 else if o.kind=2 then cQ P o.a o.ab
 else if o.kind=3 then fg P o.a o.b o.ab
 else if o.kind=4 then bz P o.a o.ab
 else if o.kind=5 then aP P o.a o.ab
 else if o.kind=6 then ((aA P o.a).2,P)
 else (0,P)
def total (l:List Ac):Int:=(l.map Ac.ab).sum
theorem oR (l:List Ac) (a:Ac):total (l++ [a])=total l+a.ab:=by simp [total]
theorem lE:∀{l:List Ac},(∀x∈l,0<=x.ab)->0<=total l
 | [],_=>Int.le_refl _
 |a::l,h=>by have h1:=h a (List.mem_cons_self ..);have h2:=lE λx hx=>h x (List.mem_cons_of_mem _ hx);simp only [total,List.map_cons,List.sum_cons] at h2⊢;omega
theorem oS {l:List Ac} (h:∀x∈l,0<=x.ab) (i:Nat):0<=total (l.take i)/\total (l.take i)<=total l:=by
 have e:total l=total (l.take i)+total (l.drop i):=by unfold total;rw [<-List.sum_append,<-List.map_append,List.take_append_drop]
 have h1:=lE (l:=l.take i) λx hx=>h x (List.mem_of_mem_take hx);have h2:=lE (l:=l.drop i) λx hx=>h x (List.mem_of_mem_drop hx);omega
structure PI (lim:Int) (P:Ps):Prop where
 eqlim:P.lim=lim
 lims:1<=lim/\lim<=64
 len:1<=P.rows.length/\(P.rows.length:Int)<=lim
 ab:∀x∈P.rows,0<=x.ab
 held:0<=P.held
 sum:P.held+total P.rows=P.sup
 sup:P.sup<=4611686018427387904
 names:∀i,(h:i<P.rows.length)->P.rows[i].name.length<=1048576
theorem ze {l:List Ac} (h:∀x∈l,0<=x.ab) {i:Nat} (hi:i<l.length):0<=l[i].ab/\l[i].ab<=total l:=by have h0:=h _ (List.getElem_mem hi);have h1:=oS h (i+1);have h2:=oS h i;rw [List.take_succ_eq_append_getElem hi,oR] at h1;omega
theorem PI.bd {lim:Int} {P:Ps} (h:PI lim P):Bd P:=by
 have ht:=lE h.ab;have h1:=h.held;have h2:=h.sum;have h3:=h.sup;have h4:=h.len;have h5:=h.lims;refine ⟨λi hi=> ?_,by omega,by omega,by omega⟩;have e:P.rows.getD i ⟨[],0⟩=P.rows[i]:=by simp [hi]
 rw [e];have:=ze h.ab hi;omega
def gK (o:Sp) (n:Int):Int×Int×Int:=
 if o.kind=2 then ((if n=o.a then o.ab else 0),0,o.ab)
 else if o.kind=3 then ((if n=o.b then IntKind.u64.wrap ((if n=o.a then IntKind.u64.wrap (0 -o.ab) else 0)+o.ab) else if n=o.a then IntKind.u64.wrap (0 -o.ab) else 0),0,0)
 else if o.kind=4 then ((if n=o.a then IntKind.u64.wrap (0 -o.ab) else 0),o.ab,0)
 else if o.kind=5 then ((if n=o.a then o.ab else 0),IntKind.u64.wrap (0 -o.ab),0)
 else (0,0,0)
theorem eB {l:List Ac} {i k:Nat} {c:Int} (hk:k<l.length):(bM l i c)[k]'(by rw [aC];exact hk)=if k=i then ⟨l[k].name,c⟩ else l[k]:=by
 unfold bM;rw [List.getElem_set]
 by_cases e:k=i
 ·subst e;simp [hk]
 ·rw [if_neg e,if_neg (Ne.symm e)]
theorem nn {l:List Ac} {i:Nat} {c:Int} {x:Ac} (h:x∈bM l i c):x∈l\/x.ab=c:=by
 unfold bM at h;rcases List.mem_or_eq_of_mem_set h with h|h
 ·exact .inl h
 ·exact .inr (by rw [h])
theorem yC:∀(l:List Ac) (i:Nat) (x:Ac) (h:i<l.length),total (l.set i x)=total l -l[i].ab+x.ab
 |a::l,0,x,h=>by simp only [List.set_cons_zero,List.getElem_cons_zero,total,List.map_cons,List.sum_cons];omega
 |a::l,i+1,x,h=>by have:=yC l i x (by simpa using h);simp only [List.set_cons_succ,List.getElem_cons_succ];simp only [total,List.map_cons,List.sum_cons] at this⊢;omega
theorem kb {l:List Ac} {i:Nat} (h:i<l.length) (c:Int):total (bM l i c)=total l -bR l i+c:=by unfold bM;rw [yC l i _ h,dy h]
theorem rp {a c:Int} (h:0<=c/\c<=a/\a<18446744073709551616):IntKind.u64.wrap (a+IntKind.u64.wrap (0 -c))=a -c:=by simp [IntKind.wrap,IntKind.bits,IntKind.signed];omega
structure Nf (P P':Ps) (o:Sp):Prop where
 held:P'.held=IntKind.u64.wrap (P.held+(gK o (-1)).2.1)
 sup:P'.sup=IntKind.u64.wrap (P.sup+(gK o (-1)).2.2)
 each:∀k,(h:k<P.rows.length)->∃h':k<P'.rows.length,P'.rows[k].name=P.rows[k].name/\P'.rows[k].ab=IntKind.u64.wrap (P.rows[k].ab+(gK o k).1)
def Gn:Sp:=⟨0,0,0,0,0,[]⟩
theorem oL {o:Sp} (h:o.kind≠2/\o.kind≠3/\o.kind≠4/\o.kind≠5) (n:Int):gK o n=(0,0,0):=by unfold gK;rw [if_neg h.1,if_neg h.2.1,if_neg h.2.2.1,if_neg h.2.2.2]
theorem yD {lim:Int} {P:Ps} (hP:PI lim P) {o:Sp} (h:o.kind≠2/\o.kind≠3/\o.kind≠4/\o.kind≠5):Nf P P o:=by
 have hb:=hP.bd;have h1:=hb.held;have h2:=hb.sup;refine ⟨?_,?_,λk hk=>⟨hk,rfl,?_⟩⟩
 ·rw [oL h];simp only [Int.add_zero];rw [bB (by omega) (by omega)]
 ·rw [oL h];simp only [Int.add_zero];rw [bB (by omega) (by omega)]
 ·rw [oL h];simp only [Int.add_zero]
  have:=hb.ab k hk;have e:P.rows.getD k ⟨[],0⟩=P.rows[k]:=by simp [hk]
  rw [e] at this;rw [bB (by omega) (by omega)]
theorem yF {lim:Int} {P:Ps} (hP:PI lim P):Nf P P Gn:=yD hP (by decide)
def WV (P:Ps) (o:Sp):Sp:=if (cZ P o).1≠0\/o.kind=1 then Gn else o
def more (P:Ps) (o:Sp):Nat:=if o.kind=1/\(cZ P o).1=0 then 1 else 0
theorem pd {l:List Ac} {n:Int} (h:dz l n=0):0<=n/\n.toNat<l.length/\(n.toNat:Int)=n:=by obtain ⟨i,rfl,hi⟩:=jk h;exact ⟨by omega,by simpa using hi,by simp⟩
theorem qf {lim:Int} {P:Ps} (hP:PI lim P) {P':Ps} (e1:P'.lim=P.lim) (e2:P'.rows.length=P.rows.length) (hc:∀x∈P'.rows,0<=x.ab) (hh:0<=P'.held) (hs:P'.held+total P'.rows=P'.sup) (hsup:P'.sup<=4611686018427387904)
  (hn:∀k,(h:k<P'.rows.length)->∃h':k<P.rows.length,P'.rows[k].name=P.rows[k].name):PI lim P':=
 ⟨e1.trans hP.eqlim,hP.lims,by rw [e2];exact hP.len,hc,hh,hs,hsup,λi h=>by obtain ⟨h',e⟩:=hn i h;rw [e];exact hP.names i h'⟩
theorem jM {l:List Ac} {i k:Nat} {c:Int} (h:k<(bM l i c).length):∃h':k<l.length,(bM l i c)[k].name=l[k].name:=by
 have h':k<l.length:=by rwa [aC] at h
 refine ⟨h',?_⟩;rw [eB h'];split<;>rfl
structure Step (lim:Int) (P:Ps) (o:Sp):Prop where
 pi:PI lim (cZ P o).2
 len:(cZ P o).2.rows.length=P.rows.length+more P o
 oe:Nf P (cZ P o).2 (WV P o)
 last:more P o=1->(cZ P o).2.rows[P.rows.length]?=some ⟨o.name,0⟩
theorem yu {lim:Int} {P:Ps} (hP:PI lim P) {o:Sp} (h:(cZ P o).2=P) (hm:more P o=0) (ht:(cZ P o).1≠0\/(o.kind≠2/\o.kind≠3/\o.kind≠4/\o.kind≠5)):Step lim P o:=by
 refine ⟨by rw [h];exact hP,by rw [h,hm,Nat.add_zero],?_,λe=>by rw [hm] at e;cases e⟩;rw [h];unfold WV;split
 ·exact yF hP
 ·rename_i hn
  rcases ht with ht|ht
  ·exact absurd (.inl ht) hn
  ·exact yD hP ht
theorem qE {lim:Int} {P:Ps} {o:Sp} (hP:PI lim P) (ho:o.ok):Step lim P o:=by
 obtain ⟨⟨hc0,hc1⟩,hnm⟩:=ho;have hb:=hP.bd;have hheld:=hb.held;have hsup:=hb.sup;have hsum:=hP.sum;have hlen:=hP.len;have hlims:=hP.lims
 by_cases k1:o.kind=1
 ·-- Open
  have hd:cZ P o=((bq P o.name).2.1,(bq P o.name).2.2):=by unfold cZ;rw [if_pos k1]
  by_cases h0:(bq P o.name).2.1=0
  ·obtain ⟨hs,hask,hl,hchk⟩:=AK h0
   have hm:more P o=1:=by unfold more;rw [if_pos ⟨k1,by rw [hd];exact h0⟩]
   have ha:WV P o=Gn:=by unfold WV;rw [if_pos (.inr k1)]
   rw [hP.eqlim] at hl;have hP2:(cZ P o).2={P with rows:=P.rows++ [⟨o.name,0⟩]}:=by rw [hd];exact hs
   refine ⟨?_,by rw [hP2,hm];simp,?_,λ_=>by rw [hP2];simp⟩
   ·rw [hP2]
    refine ⟨hP.eqlim,hlims,?_,?_,hP.held,?_,hP.sup,?_⟩
    ·simp only [List.length_append,List.length_singleton];omega
    ·intro x hx
     rcases List.mem_append.1 hx with hx|hx
     ·exact hP.ab x hx
     ·have:x=⟨o.name,0⟩:=by simpa using hx
      rw [this];exact Int.le_refl _
    ·show P.held+total (P.rows++ [⟨o.name,0⟩])=P.sup
     rw [oR];show P.held+(total P.rows+0)=P.sup;omega
    ·intro i h
     simp only [List.length_append,List.length_singleton] at h
     by_cases e:i<P.rows.length
     ·show ((P.rows++ [(⟨o.name,0⟩:Ac)])[i]'(by simp;omega)).name.length<=_
      rw [List.getElem_append_left e];exact hP.names i e
     ·have:i=P.rows.length:=by omega
      subst this;show ((P.rows++ [(⟨o.name,0⟩:Ac)])[P.rows.length]'(by simp)).name.length<=_;simp [hnm]
   ·rw [ha,hP2]
    obtain ⟨t1,t2,t3⟩:=yF hP;refine ⟨t1,t2,λk hk=> ?_⟩;obtain ⟨_,t4,t5⟩:=t3 k hk;refine ⟨by simp;omega,?_,?_⟩
    ·show ((P.rows++ [(⟨o.name,0⟩:Ac)])[k]'(by simp;omega)).name=_
     rw [List.getElem_append_left hk]
    ·show ((P.rows++ [(⟨o.name,0⟩:Ac)])[k]'(by simp;omega)).ab=_
     rw [List.getElem_append_left hk];exact t5
  ·have hm:more P o=0:=by unfold more;rw [if_neg (by rw [hd];exact λh=>h0 h.2)]
   exact yu hP (by rw [hd];exact Dj h0) hm (.inl (by rw [hd];exact h0))
 have hm:more P o=0:=by unfold more;rw [if_neg λh=>k1 h.1]
 have keep:(cZ P o).2=P->((cZ P o).1≠0\/(o.kind≠2/\o.kind≠3/\o.kind≠4/\o.kind≠5))->Step lim P o:=λh ht=>yu hP h hm ht;have good:∀P':Ps,cZ P o=(0,P')->PI lim P'->P'.rows.length=P.rows.length->Nf P P' o->Step lim P o:=by
  intro P' hd hpi hl ht;have ha:WV P o=o:=by unfold WV;rw [if_neg (by rw [hd];exact λh=>h.elim (λh=>h rfl) k1)]
  exact ⟨by rw [hd];exact hpi,by rw [hd,hm];exact hl,by rw [ha,hd];exact ht,λe=>by rw [hm] at e;cases e⟩
 by_cases k2:o.kind=2
 ·have hd:cZ P o=cQ P o.a o.ab:=by unfold cZ;rw [if_neg k1,if_pos k2]
  by_cases e1:dz P.rows o.a=0
  ·by_cases e2:o.ab=0
   ·exact keep (by rw [hd,cQ,if_pos e1,if_pos e2]) (.inl (by rw [hd,cQ,if_pos e1,if_pos e2];simp))
   ·by_cases e3:4611686018427387904 -P.sup<o.ab
    ·exact keep (by rw [hd,cQ,if_pos e1,if_neg e2,if_pos e3]) (.inl (by rw [hd,cQ,if_pos e1,if_neg e2,if_pos e3];simp))
    ·obtain ⟨ha0,hai,hae⟩:=pd e1
     have hca:=eL hb hai;refine good _ (by rw [hd,cQ,if_pos e1,if_neg e2,if_neg e3]) ?_ (aC _ _ _) ?_
     ·refine qf hP rfl (aC _ _ _) (λx hx=> ?_) hP.held ?_ (by show P.sup+o.ab<=_;omega) λk h=>jM h
      ·rcases nn hx with h|h
       ·exact hP.ab x h
       ·omega
      ·show P.held+total (bM P.rows o.a.toNat (bR P.rows o.a.toNat+o.ab))=P.sup+o.ab
       rw [kb hai];omega
     ·have hmv:∀n,gK o n=((if n=o.a then o.ab else 0),0,o.ab):=λn=>by unfold gK;rw [if_pos k2]
      refine ⟨?_,?_,λk hk=>⟨by rw [aC];exact hk,?_,?_⟩⟩
      ·rw [hmv];show P.held=IntKind.u64.wrap (P.held+0);rw [bB (by omega) (by omega)];omega
      ·rw [hmv];show P.sup+o.ab=IntKind.u64.wrap (P.sup+o.ab);rw [bB (by omega) (by omega)]
      ·show ((bM P.rows _ _)[k]'(by rw [aC];exact hk)).name=_
       rw [eB hk];split<;>rfl
      ·show ((bM P.rows _ _)[k]'(by rw [aC];exact hk)).ab=_
       have hck:=eL hb hk;rw [dy hk] at hck;rw [eB hk,hmv]
       by_cases ek:k=o.a.toNat
       ·subst ek
        rw [if_pos rfl];simp only [hae,if_true];rw [dy hai,bB (by omega) (by omega)]
       ·rw [if_neg ek]
        simp only [show¬(k:Int)=o.a from λh=>ek (by omega),if_false];rw [bB (by omega) (by omega)];omega
  ·exact keep (by rw [hd,cQ,if_neg e1]) (.inl (by rw [hd,cQ,if_neg e1];simp))
 by_cases k3:o.kind=3
 ·have hd:cZ P o=fg P o.a o.b o.ab:=by unfold cZ;rw [if_neg k1,if_neg k2,if_pos k3]
  by_cases e1:dz P.rows o.a=0/\dz P.rows o.b=0
  ·by_cases e2:o.a=o.b
   ·exact keep (by rw [hd,fg,if_pos e1,if_pos e2]) (.inl (by rw [hd,fg,if_pos e1,if_pos e2];simp))
   ·by_cases e3:o.ab=0
    ·exact keep (by rw [hd,fg,if_pos e1,if_neg e2,if_pos e3]) (.inl (by rw [hd,fg,if_pos e1,if_neg e2,if_pos e3];simp))
    ·by_cases e4:bR P.rows o.a.toNat<o.ab
     ·exact keep (by rw [hd,fg,if_pos e1,if_neg e2,if_neg e3,if_pos e4]) (.inl (by rw [hd,fg,if_pos e1,if_neg e2,if_neg e3,if_pos e4];simp))
     ·obtain ⟨ha0,hai,hae⟩:=pd e1.1
      obtain ⟨hb0,hbi,hbe⟩:=pd e1.2;have hca:=eL hb hai;have hcb:=eL hb hbi;have hne:¬o.b.toNat=o.a.toNat:=λh=>e2 (by omega);have hbi2:o.b.toNat<(bM P.rows o.a.toNat (bR P.rows o.a.toNat -o.ab)).length:=by rw [aC];exact hbi
      have hl2:(bM (bM P.rows o.a.toNat (bR P.rows o.a.toNat -o.ab)) o.b.toNat (bR P.rows o.b.toNat+o.ab)).length=P.rows.length:=by rw [aC,aC]
      refine good _ (by rw [hd,fg,if_pos e1,if_neg e2,if_neg e3,if_neg e4]) ?_ hl2 ?_
      ·refine qf hP rfl hl2 (λx hx=> ?_) hP.held ?_ hP.sup λk h=> ?_
       ·rcases nn hx with h|h
        ·rcases nn h with h|h
         ·exact hP.ab x h
         ·omega
        ·omega
       ·show P.held+total (bM (bM P.rows o.a.toNat (bR P.rows o.a.toNat -o.ab)) o.b.toNat (bR P.rows o.b.toNat+o.ab))=P.sup
        rw [kb hbi2,kb hai,pq hai,if_neg hne];omega
       ·obtain ⟨h1,n1⟩:=jM h
        obtain ⟨h2,n2⟩:=jM h1;exact ⟨h2,n1.trans n2⟩
      ·have hmv:∀n,gK o n=((if n=o.b then IntKind.u64.wrap ((if n=o.a then IntKind.u64.wrap (0 -o.ab) else 0)+o.ab) else if n=o.a then IntKind.u64.wrap (0 -o.ab) else 0),0,0):=λn=>by unfold gK;rw [if_neg k2,if_pos k3]
       refine ⟨?_,?_,λk hk=>⟨by rw [hl2];exact hk,?_,?_⟩⟩
       ·rw [hmv];show P.held=IntKind.u64.wrap (P.held+0);rw [bB (by omega) (by omega)];omega
       ·rw [hmv];show P.sup=IntKind.u64.wrap (P.sup+0);rw [bB (by omega) (by omega)];omega
       ·have hk2:k<(bM P.rows o.a.toNat (bR P.rows o.a.toNat -o.ab)).length:=by rw [aC];exact hk
        show ((bM (bM P.rows _ _) _ _)[k]'(by rw [hl2];exact hk)).name=_;rw [eB hk2,eB hk];split
        ·split<;>rfl
        ·split<;>rfl
       ·have hk2:k<(bM P.rows o.a.toNat (bR P.rows o.a.toNat -o.ab)).length:=by rw [aC];exact hk
        show ((bM (bM P.rows _ _) _ _)[k]'(by rw [hl2];exact hk)).ab=_;have hck:=eL hb hk;rw [dy hk] at hck;rw [eB hk2,eB hk,hmv]
        by_cases eb:k=o.b.toNat
        ·subst eb
         rw [if_pos rfl];simp only [hbe,if_true,show¬o.b=o.a from λh=>e2 h.symm,if_false];rw [dy hbi];rw [dy hbi] at hcb;rw [bB (x:=0+o.ab) (by omega) (by omega),bB (by omega) (by omega)];omega
        ·rw [if_neg eb]
         simp only [show¬(k:Int)=o.b from λh=>eb (by omega),if_false]
         by_cases ea:k=o.a.toNat
         ·subst ea
          rw [if_pos rfl];simp only [hae,if_true];rw [dy hai] at e4⊢;rw [rp ⟨by omega,by omega,by omega⟩]
         ·rw [if_neg ea]
          simp only [show¬(k:Int)=o.a from λh=>ea (by omega),if_false];rw [bB (by omega) (by omega)];omega
  ·exact keep (by rw [hd,fg,if_neg e1]) (.inl (by rw [hd,fg,if_neg e1];simp))
 by_cases k4:o.kind=4
 ·have hd:cZ P o=bz P o.a o.ab:=by unfold cZ;rw [if_neg k1,if_neg k2,if_neg k3,if_pos k4]
  by_cases e1:dz P.rows o.a=0
  ·by_cases e2:bR P.rows o.a.toNat<o.ab
   ·exact keep (by rw [hd,bz,if_pos e1,if_pos e2]) (.inl (by rw [hd,bz,if_pos e1,if_pos e2];simp))
   ·obtain ⟨ha0,hai,hae⟩:=pd e1
    have hca:=eL hb hai;have hcl:=ze hP.ab hai;rw [<-dy hai] at hcl;refine good _ (by rw [hd,bz,if_pos e1,if_neg e2]) ?_ (aC _ _ _) ?_
    ·refine qf hP rfl (aC _ _ _) (λx hx=> ?_) (by show 0<=P.held+o.ab;omega) ?_ hP.sup λk h=>jM h
     ·rcases nn hx with h|h
      ·exact hP.ab x h
      ·omega
     ·show P.held+o.ab+total (bM P.rows o.a.toNat (bR P.rows o.a.toNat -o.ab))=P.sup
      rw [kb hai];omega
    ·have hmv:∀n,gK o n=((if n=o.a then IntKind.u64.wrap (0 -o.ab) else 0),o.ab,0):=λn=>by unfold gK;rw [if_neg k2,if_neg k3,if_pos k4]
     refine ⟨?_,?_,λk hk=>⟨by rw [aC];exact hk,?_,?_⟩⟩
     ·rw [hmv];show P.held+o.ab=IntKind.u64.wrap (P.held+o.ab);rw [bB (by omega) (by omega)]
     ·rw [hmv];show P.sup=IntKind.u64.wrap (P.sup+0);rw [bB (by omega) (by omega)];omega
     ·show ((bM P.rows _ _)[k]'(by rw [aC];exact hk)).name=_
      rw [eB hk];split<;>rfl
     ·show ((bM P.rows _ _)[k]'(by rw [aC];exact hk)).ab=_
      have hck:=eL hb hk;rw [dy hk] at hck;rw [eB hk,hmv]
      by_cases ek:k=o.a.toNat
      ·subst ek
       rw [if_pos rfl];simp only [hae,if_true];rw [dy hai] at e2⊢;rw [rp ⟨by omega,by omega,by omega⟩]
      ·rw [if_neg ek]
       simp only [show¬(k:Int)=o.a from λh=>ek (by omega),if_false];rw [bB (by omega) (by omega)];omega
  ·exact keep (by rw [hd,bz,if_neg e1]) (.inl (by rw [hd,bz,if_neg e1];simp))
 by_cases k5:o.kind=5
 ·have hd:cZ P o=aP P o.a o.ab:=by unfold cZ;rw [if_neg k1,if_neg k2,if_neg k3,if_neg k4,if_pos k5]
  by_cases e1:dz P.rows o.a=0
  ·by_cases e2:P.held<o.ab
   ·exact keep (by rw [hd,aP,if_pos e1,if_pos e2]) (.inl (by rw [hd,aP,if_pos e1,if_pos e2];simp))
   ·obtain ⟨ha0,hai,hae⟩:=pd e1
    have hca:=eL hb hai;refine good _ (by rw [hd,aP,if_pos e1,if_neg e2]) ?_ (aC _ _ _) ?_
    ·refine qf hP rfl (aC _ _ _) (λx hx=> ?_) (by show 0<=P.held -o.ab;omega) ?_ hP.sup λk h=>jM h
     ·rcases nn hx with h|h
      ·exact hP.ab x h
      ·omega
     ·show P.held -o.ab+total (bM P.rows o.a.toNat (bR P.rows o.a.toNat+o.ab))=P.sup
      rw [kb hai];omega
    ·have hmv:∀n,gK o n=((if n=o.a then o.ab else 0),IntKind.u64.wrap (0 -o.ab),0):=λn=>by unfold gK;rw [if_neg k2,if_neg k3,if_neg k4,if_pos k5]
     refine ⟨?_,?_,λk hk=>⟨by rw [aC];exact hk,?_,?_⟩⟩
     ·rw [hmv];show P.held -o.ab=IntKind.u64.wrap (P.held+IntKind.u64.wrap (0 -o.ab));rw [rp ⟨by omega,by omega,by omega⟩]
     ·rw [hmv];show P.sup=IntKind.u64.wrap (P.sup+0);rw [bB (by omega) (by omega)];omega
     ·show ((bM P.rows _ _)[k]'(by rw [aC];exact hk)).name=_
      rw [eB hk];split<;>rfl
     ·show ((bM P.rows _ _)[k]'(by rw [aC];exact hk)).ab=_
      have hck:=eL hb hk;rw [dy hk] at hck;rw [eB hk,hmv]
      by_cases ek:k=o.a.toNat
      ·subst ek
       rw [if_pos rfl];simp only [hae,if_true];rw [dy hai,bB (by omega) (by omega)]
      ·rw [if_neg ek]
       simp only [show¬(k:Int)=o.a from λh=>ek (by omega),if_false];rw [bB (by omega) (by omega)];omega
  ·exact keep (by rw [hd,aP,if_neg e1]) (.inl (by rw [hd,aP,if_neg e1];simp))
 refine keep ?_ (.inr ⟨k2,k3,k4,k5⟩);unfold cZ;rw [if_neg k1,if_neg k2,if_neg k3,if_neg k4,if_neg k5];split<;>rfl
end Go.HL.Pu
namespace Go.HL.Es
open Go.HL Go.Proofs
def kl (l:List Rw):Int:=(l.map (·.2)).sum
theorem iz (r:Rw) (t:List Rw):kl (r::t)=r.2+kl t:=by simp [kl]
theorem DP (k v:Int):∀l:List Rw,kl (ins k v l)=v+kl l
 | []=>by simp [ins,kl]
 |r::t=>by
  simp only [ins];split
  ·rw [iz]
  ·rw [iz,iz,DP k v t];omega
theorem jY {k:Int} {l:List Rw} (h:∀r∈l,r.1≠k):del k l=l:=List.filter_eq_self.2 λr hr=>by simpa using h r hr
theorem np {k:Int}:∀{l:List Rw},l.Pairwise (λa b=>a.1≠b.1)->kl (del k l)=kl l -ck l k
 | [],_=>by simp [del,kl,ck]
 |r::t,h=>by
  rw [List.pairwise_cons] at h;have ih:=np (k:=k) h.2
  by_cases e:k=r.1
  ·subst e
   have h0:∀x∈t,x.1≠r.1:=λx hx e=>h.1 x hx e.symm;have e1:del r.1 (r::t)=del r.1 t:=by simp [del]
   rw [e1,jY h0,iz,jU];omega
  ·have e1:del k (r::t)=r::del k t:=by simp [del,Ne.symm e]
   rw [e1,iz,iz,ih];simp only [ck,e,if_false];omega
theorem yx {l:List Rw} (h:gy l) (k v:Int):kl (fR k v l)=kl l -ck l k+v:=by
 unfold fR;split
 ·rename_i hv;rw [np h.ne,hv];omega
 ·rw [DP,np h.ne];omega
theorem DQ {l:List Rw} (h:∀r∈l,0<r.2):0<=kl l:=by
 induction l with
 |nil=>simp [kl]
 |cons r t ih=>
  rw [iz];have:=ih λx hx=>h x (.tail _ hx);have:=h r (.head _);omega
theorem zd {l:List Rw} (h:gy l) (k:Int):ck l k<=kl l:=by have h1:=np (k:=k) h.ne;have h2:0<=kl (del k l):=DQ λr hr=>(h.2 r (jD.1 hr).1).2.2;omega
structure EI (lp lg:Int) (E:bD):Prop where
 P:Pu.PI lp E.P
 G:Gd.GI lg E.ae
 R:gy E.l
 sum:kl E.l=E.P.held
theorem EI.mG {lp lg:Int} {E:bD} (h:EI lp lg E) (k:Int):0<=ck E.l k/\ck E.l k<=4611686018427387904:=by have h1:=tY h.R k;have h2:=zd h.R k;have h3:=h.P.bd.held;have h4:=h.sum;omega
theorem lW {P:Pu.Ps} {n:Int}:(Pu.aA P n).2=0↔Pu.dz P.rows n=0:=by
 unfold Pu.aA;split
 ·rename_i h;simp [h]
 ·rename_i h;simp [h]
theorem Le (P:Pu.Ps) (n:Int):(Pu.aA P n).2=0\/(Pu.aA P n).2=142:=by unfold Pu.aA;split<;>simp
theorem Me {lim:Int} {P:Pu.Ps} (hP:Pu.PI lim P) (n c:Int) (hc:0<=c/\c<18446744073709551616):Pu.PI lim (Pu.aP P n c).2:=by
 have:=(Pu.qE (o:=⟨0,5,n,0,c,[]⟩) hP ⟨hc,by simp⟩).pi
 simpa [Pu.cZ] using this
theorem Rb {lim:Int} {P:Pu.Ps} (hP:Pu.PI lim P) (n c:Int) (hc:0<=c/\c<18446744073709551616):Pu.PI lim (Pu.bz P n c).2:=by
 have:=(Pu.qE (o:=⟨0,4,n,0,c,[]⟩) hP ⟨hc,by simp⟩).pi
 simpa [Pu.cZ] using this
theorem JG {l:List Pu.Ac} {i:Nat} (h:i<l.length) (c:Int):Pu.bM (Pu.bM l i c) i (Pu.bR l i)=l:=by
 apply List.ext_getElem
 ·simp [Pu.aC]
 ·intro k h1 h2
  rw [Pu.eB (by rw [Pu.aC];exact h2),Pu.eB h2]
  by_cases e:k=i
  ·subst e
   simp only [if_true];rw [Pu.dy h]
  ·simp [e]
theorem vw {lim:Int} {P:Pu.Ps} (hP:Pu.PI lim P) {n c:Int} (hn:Pu.dz P.rows n=0) (hc:0<=c/\c<=P.held):
  Pu.aP P n c=(0,{P with held:=P.held -c,rows:=Pu.bM P.rows n.toNat (Pu.bR P.rows n.toNat+c)})/\Pu.bz (Pu.aP P n c).2 n c=(0,P):=by
 obtain ⟨i,rfl,hi⟩:=Pu.jk hn;have e1:Pu.aP P i c=(0,{P with held:=P.held -c,rows:=Pu.bM P.rows (i:Int).toNat (Pu.bR P.rows (i:Int).toNat+c)}):=by unfold Pu.aP;rw [if_pos hn,if_neg (by omega)]
 refine ⟨e1,?_⟩;rw [e1];have h0:=Pu.eL hP.bd hi;have e0:(i:Int).toNat=i:=by omega
 rw [e0];have hn':Pu.dz (Pu.bM P.rows i (Pu.bR P.rows i+c)) i=0:=by unfold Pu.dz at hn⊢;rw [Pu.aC];exact hn
 have hci:Pu.bR (Pu.bM P.rows i (Pu.bR P.rows i+c)) i=Pu.bR P.rows i+c:=by rw [Pu.pq hi,if_pos rfl]
 unfold Pu.bz;simp only [e0];rw [if_pos hn',hci,if_neg (by omega)];have e2:P.held -c+c=P.held:=by omega
 have e3:Pu.bR P.rows i+c -c=Pu.bR P.rows i:=by omega
 rw [e2,e3,JG hi]
theorem Fp {ae:List Gd.It} {n:Int} (h:(Gd.aA ae n).2=0):∃i:Nat,n=i+1/\∃hi:i<ae.length,(Gd.aA ae n).1=ae[i]:=by
 unfold Gd.aA at h⊢
 split at h
 ·rename_i hr
  refine ⟨n.toNat -1,by omega,by omega,?_⟩;rw [if_pos hr];have:n.toNat -1<ae.length:=by omega
  simp [this]
 ·cases h
theorem I4 {lim:Int} {ae:List Gd.It} (hg:Gd.GI lim ae) {n a c:Int} (ha:Gd.om a=true) (hc:1<=c) (h1:(Gd.aA ae n).2=0) (h2:(Gd.aA ae n).1.bp=c):
  (Gd.eH ae n a).1=0/\Gd.ff (Gd.eH ae n a).2 n c=(0,ae):=by
 obtain ⟨i,rfl,hi,hx⟩:=Fp h1;rw [hx] at h2;have hpl:=hg.place ae[i] (List.getElem_mem hi);have e0:((i:Int)+1).toNat -1=i:=by omega
 have e1:Gd.eH ae (i+1) a=(0,ae.set i ⟨ae[i].num,ae[i].kind,a,0⟩):=by
  unfold Gd.eH Gd.aP;rw [if_pos ha,if_pos (by omega),e0];have:ae.getD i ⟨0,0,0,0⟩=ae[i]:=by simp [hi]
  rw [this,if_pos (by simp;omega)]
 rw [e1];refine ⟨rfl,?_⟩;unfold Gd.ff Gd.aP;rw [if_neg (by omega),List.length_set,if_pos (by omega),e0];have:(ae.set i ⟨ae[i].num,ae[i].kind,a,0⟩).getD i ⟨0,0,0,0⟩=⟨ae[i].num,ae[i].kind,a,0⟩:=by simp [hi]
 simp only [this];rw [if_pos (by simp),List.set_set]
 congr 1
 have:(⟨ae[i].num,ae[i].kind,-1,c⟩:Gd.It)=ae[i]:=by
  rcases hpl with ⟨h,_⟩|⟨_,h⟩
  ·omega
  ·rw [<-h,<-h2]
 rw [this,List.set_getElem_self]
theorem GR {lim:Int} {ae:List Gd.It} (hg:Gd.GI lim ae) (n a:Int):Gd.GI lim (Gd.eH ae n a).2:=by
 unfold Gd.eH;split
 ·rename_i h;exact Gd.uF hg (.inl ⟨rfl,(Gd.nz _).1 h⟩)
 ·exact hg
theorem NV {lim:Int} {ae:List Gd.It} (hg:Gd.GI lim ae) (n c:Int):Gd.GI lim (Gd.ff ae n c).2:=by
 unfold Gd.ff;split
 ·exact hg
 ·rename_i h;exact Gd.uF hg (.inr ⟨by omega,rfl⟩)
def hZ (x:Gf) (E:bD):bD:={E with ae:=if x.item≠0 then (Gd.eH E.ae x.item x.to).2 else E.ae}
structure BH (c:Int) (x:Gf) (E:bD):Prop where
 acc:(Pu.aA E.P x.to).2=0
 item:x.item≠0->(Gd.aA E.ae x.item).2=0/\(Gd.aA E.ae x.item).1.bp=c
 ab:x.ab<=ck E.l c
theorem j1 (c:Int) (x:Gf) (E:bD):(BH c x E/\bP c x E=(0,⟨(Pu.aP E.P x.to x.ab).2,(hZ x E).ae,fR c (ck E.l c -x.ab) E.l⟩))\/
  (¬BH c x E/\(bP c x E).1≠0/\(bP c x E).2=E):=by
 unfold bP;split
 ·rename_i h;exact .inr ⟨λg=>h g.acc,by simp,rfl⟩
 ·rename_i h1
  split
  ·rename_i h
   refine .inr ⟨λg=> ?_,by simp,rfl⟩;obtain ⟨a,b⟩:=g.item h.1;rcases h.2 with h|h
   ·exact h a
   ·exact h b
  ·rename_i h2
   split
   ·rename_i h;exact .inr ⟨λg=>by have:=g.ab;omega,by simp,rfl⟩
   ·rename_i h3
    refine .inl ⟨⟨by simpa using h1,λhi=> ?_,by omega⟩,rfl⟩;constructor
    ·by_cases e:(Gd.aA E.ae x.item).2=0
     ·exact e
     ·exact absurd ⟨hi,.inl e⟩ h2
    ·by_cases e:(Gd.aA E.ae x.item).1.bp=c
     ·exact e
     ·exact absurd ⟨hi,.inr e⟩ h2
theorem Ks {lp:Int} {P:Pu.Ps} (h:Pu.PI lp P) {n:Int} (ha:Pu.dz P.rows n=0):Gd.om n=true:=by obtain ⟨i,rfl,hi⟩:=Pu.jk ha;have:=h.bd.len;rw [Gd.nz];omega
theorem sj {lp lg c:Int} {x:Gf} {E:bD} (h:EI lp lg E) (hc:1<=c/\c<9223372036854775808) (hx:0<=x.ab):EI lp lg (bP c x E).2:=by
 rcases j1 c x E with ⟨g,e⟩|⟨_,_,e⟩
 ·rw [e]
  have hb:=h.mG c;have hle:=zd h.R c;have hg:=g.ab;have hp:=(vw h.P (n:=x.to) (c:=x.ab) (lW.1 g.acc) ⟨hx,by rw [<-h.sum];omega⟩).1;refine ⟨Me h.P _ _ ⟨hx,by omega⟩,?_,nV h.R hc (by omega),?_⟩
  ·show Gd.GI lg (if x.item≠0 then _ else _)
   split
   ·exact GR h.G _ _
   ·exact h.G
  ·show kl (fR c (ck E.l c -x.ab) E.l)=(Pu.aP E.P x.to x.ab).2.held
   rw [hp,yx h.R];show _=E.P.held -x.ab;rw [<-h.sum];omega
 ·rw [e];exact h
def aR (c:Int):List Gf->bD->Int×bD
 | [],E=>(0,E)
 |x::t,E=>if (bP c x E).1≠0 then ((bP c x E).1,E) else aR c t (bP c x E).2
theorem pL {lp lg c:Int} (hc:1<=c/\c<9223372036854775808):∀{gs:List Gf} {E:bD},EI lp lg E->(∀x∈gs,0<=x.ab)->EI lp lg (aR c gs E).2
 | [],_,h,_=>h
 |x::t,E,h,hx=>by
  unfold aR;split
  ·exact h
  ·exact pL hc (sj h hc (hx x (.head _))) λy hy=>hx y (.tail _ hy)
theorem uI (c:Int):∀(gs:List Gf) (E:bD) (i:Nat) (hi:i<gs.length),(aR c (gs.take i) E).1=0->
  aR c (gs.take (i+1)) E=(if (bP c gs[i] (aR c (gs.take i) E).2).1≠0 then ((bP c gs[i] (aR c (gs.take i) E).2).1,(aR c (gs.take i) E).2) else (0,(bP c gs[i] (aR c (gs.take i) E).2).2))
 |x::t,E,0,_,_=>by simp [aR]
 |x::t,E,i+1,hi,h0=>by
  simp only [List.take_succ_cons,aR,List.getElem_cons_succ] at h0⊢
  by_cases hx:(bP c x E).1=0
  ·simp only [hx,ne_eq,not_true_eq_false,if_false] at h0⊢
   have:=uI c t (bP c x E).2 i (by simpa using hi) h0
   simpa using this
  ·simp only [hx,ne_eq,not_false_eq_true,if_true] at h0
theorem xF (c:Int):∀(gs:List Gf) (E:bD) (i:Nat),(aR c (gs.take i) E).1≠0->aR c gs E=aR c (gs.take i) E
 | [],E,i,h=>by simp
 |x::t,E,0,h=>by simp [aR] at h
 |x::t,E,i+1,h=>by
  simp only [List.take_succ_cons,aR] at h⊢
  split
  ·rfl
  ·rename_i hx
   rw [if_neg hx] at h;exact xF c t _ i h
def aY (c:Int) (gs:List Gf) (bes:bD->Int×bD) (E:bD):Int×bD:=
 if c<1 then (2,E)
 else if (aR c gs E).1≠0 then ((aR c gs E).1,E)
 else if (bes (aR c gs E).2).1≠0 then ((bes (aR c gs E).2).1,E)
 else (0,(bes (aR c gs E).2).2)
def mq (c:Int) (E:bD):Int×bD:=(if ck E.l c≠0\/(Gd.eD E.ae c).length≠0 then 170 else 0,E)
theorem re {lp lg c:Int} {x:Et} {E:bD} (h:EI lp lg E) (hc:1<=c/\c<9223372036854775808) (hx:0<=x.ab/\x.ab<18446744073709551616):EI lp lg (aK c x E).2:=by
 unfold aK;split
 ·exact h
 split
 ·exact h
 split
 ·exact h
 ·rename_i h1 h2 h3
  have hb:=h.mG c;have ht:Pu.bz E.P x.acc x.ab=(0,{E.P with held:=E.P.held+x.ab,rows:=Pu.bM E.P.rows x.acc.toNat (Pu.bR E.P.rows x.acc.toNat -x.ab)}):=by
   unfold Pu.bz at h3⊢;split at h3
   ·split at h3
    ·exact absurd (by simp) h3
    ·rename_i e1 e2
     rw [if_pos e1,if_neg e2]
   ·exact absurd (by simp) h3
  refine ⟨Rb h.P _ _ hx,?_,nV h.R hc (by omega),?_⟩
  ·show Gd.GI lg (if x.item≠0 then _ else _)
   split
   ·exact NV h.G _ _
   ·exact h.G
  ·show kl (fR c (ck E.l c+x.ab) E.l)=(Pu.bz E.P x.acc x.ab).2.held
   rw [ht,yx h.R];show _=E.P.held+x.ab;rw [<-h.sum];omega
theorem AY {c:Int} {x:Et} {E:bD} (h:(aK c x E).1≠0):(aK c x E).2=E:=by
 unfold aK at h⊢
 split
 ·rfl
 split
 ·rfl
 split
 ·rfl
 ·rename_i h1 h2 h3;rw [if_neg h1,if_neg h2,if_neg h3] at h;exact absurd rfl h
def gB (w0:World) (p g s:Nat) (lim:Int) (X:al) (fs:List Value) (D:Nat->bD):Prop:=
 ∀k,k<fs.length->∃f cs,fs[k]?=some (.func (.func f) #[] cs)/\bZ Tryz.prog f=true/\
  ∀(G:al) (W:World),St w0 (G*X*aV p g s lim (D (k+1))) W->ak Tryz.prog f cs.toList (λ_ W'=>St w0 (G*X*aV p g s lim (D k)) W') W
theorem Gg {w0:World} {p g s:Nat} {lim:Int} {E:bD}:gB w0 p g s lim emp [] (λ_=>E):=λk hk=>absurd hk (by simp)
def Df (D:Nat->bD) (n:Nat) (E:bD):Nat->bD:=λk=>if k=n+1 then E else D k
theorem vg (D:Nat->bD) (n:Nat) (E:bD):Df D n E (n+1)=E:=by simp [Df]
theorem lq (D:Nat->bD) {n k:Nat} (E:bD) (h:k<=n):Df D n E k=D k:=by simp only [Df];rw [if_neg (by omega)]
theorem gB.snoc {w0:World} {p g s:Nat} {lim:Int} {X:al} {fs:List Value} {D:Nat->bD} (h:gB w0 p g s lim X fs D) {f:Nat} {cs:Array Value} {E:bD} (hb:bZ Tryz.prog f=true)
  (hf:∀(G:al) (W:World),St w0 (G*X*aV p g s lim E) W->ak Tryz.prog f cs.toList (λ_ W'=>St w0 (G*X*aV p g s lim (D fs.length)) W') W):
  gB w0 p g s lim X (fs++ [.func (.func f) #[] cs]) (Df D fs.length E):=by
 intro k hk;simp only [List.length_append,List.length_singleton] at hk
 by_cases e:k<fs.length
 ·obtain ⟨f',cs',h1,h2,h3⟩:=h k e
  refine ⟨f',cs',by rw [List.getElem?_append_left e];exact h1,h2,λG W hs=> ?_⟩;rw [lq D E (by omega:k+1<=fs.length)] at hs;rw [lq D E (by omega:k<=fs.length)];exact h3 G W hs
 ·have:k=fs.length:=by omega
  subst this;refine ⟨f,cs,by simp,hb,λG W hs=> ?_⟩;rw [vg] at hs;rw [lq D E (Nat.le_refl _)];exact hf G W hs
theorem gB.wide {w0:World} {p g s:Nat} {lim:Int} {X Y:al} {fs:List Value} {D:Nat->bD} (h:gB w0 p g s lim X fs D):gB w0 p g s lim (X*Y) fs D:=by intro k hk;obtain ⟨f',cs',h1,h2,h3⟩:=h k hk;exact ⟨f',cs',h1,h2,λG W hs=>(h3 (G*Y) W (hs.to (by ac_rfl))).mono λ_ W' h=>h.to (by ac_rfl)⟩
abbrev gA (A:al) (p g s:Nat) (lim:Int) (b4 b5 b6:Nat) (c:Int) (x:Gf) (E:bD):al:=A*kq b4 b5 b6 s c x*iG s p g E.l*Gd.cf g lim E.ae*Pu.cr p E.P
section
variable {w0 w:World} {A Z:al} {p g s b4 b5 b6:Nat} {lim c:Int} {x:Gf} {E:bD}
theorem dD (h:St w0 (gA A p g s lim b4 b5 b6 c x E) w):w.cell? ⟨b4,0,none⟩=some (.pointer (some ⟨s,0,none⟩))/\w.cell? ⟨b5,0,none⟩=some (.int .i64 c)/\w.cell? ⟨b6,0,none⟩=some (.int .i64 x.to)/\w.cell? ⟨b6,1,none⟩=some (.int .i64 x.item)/\
  w.cell? ⟨b6,2,none⟩=some (.int .u64 x.ab)/\w.cell? ⟨s,0,none⟩=some (.pointer (some ⟨p,0,none⟩))/\w.cell? ⟨s,1,none⟩=some (.pointer (some ⟨g,0,none⟩)):=
 kT h.drop
theorem SQ {lp lg:Int} (hE:EI lp lg E) (n:Int) (h:St w0 (gA A p g s lim b4 b5 b6 c x E) w):ak Tryz.prog 169 [.pointer (some ⟨p,0,none⟩),.int .i64 n]
  (λr w'=>r= .tuple #[.agg (Pu.aA E.P n).1.cs.toArray,.int .i64 (Pu.aA E.P n).2]/\St w0 (gA A p g s lim b4 b5 b6 c x E) w') w:=Pu.fU p E.P n w0 w _ hE.P.bd.len h
theorem SV {lp lg:Int} (hE:EI lp lg E) (n:Int) (h:St w0 (gA A p g s lim b4 b5 b6 c x E) w):ak Tryz.prog 129 [.pointer (some ⟨g,0,none⟩),.int .i64 n]
  (λr w'=>r= .tuple #[.agg (Gd.aA E.ae n).1.cs.toArray,.int .i64 (Gd.aA E.ae n).2]/\St w0 (gA A p g s lim b4 b5 b6 c x E) w') w:=
 (Gd.fU g lim E.ae n w0 w _ (by have:=hE.G.len;have:=hE.G.lim;omega) h.swap).mono λr w' ⟨e,h⟩=>⟨e,h.swap⟩
theorem aWa (h:St w0 (gA A p g s lim b4 b5 b6 c x E*Z) w):St w0 (gA (A*Z) p g s lim b4 b5 b6 c x E) w:=h.to (by simp only [gA];ac_rfl)
theorem zk (h:St w0 (gA (A*Z) p g s lim b4 b5 b6 c x E) w):St w0 (gA A p g s lim b4 b5 b6 c x E*Z) w:=h.to (by simp only [gA];ac_rfl)
end
def iS (w0:World) (A:al) (p g s Br:Nat) (lg c:Int) (x:Gf) (E E0:bD) (n:Nat) (r:Value) (w':World):Prop:=
 r= .int .i64 (bP c x E).1/\∃(X:al) (fs:List Value) (D:Nat->bD) (v:Value),gB w0 p g s lg X fs D/\D fs.length=(bP c x E).2/\D 0=E0/\fs.length<=n+2/\
  St w0 (A*X*pt Br (.cells #[v] 353 (0,0))*own 1 1 v fs.length fs*aV p g s lg (bP c x E).2) w'
theorem iaa {A X b4 b5 b6 b7 R O P G S:al}:A*(X*(b4*b5*b6*b7))*R*O*(P*G*S)=A*X*R*O*b7*(b4*b5*b6)*S*G*P:=by ac_rfl
theorem CB (p g s Br b4 b5 b6 b7 n:Nat) (lp lg c:Int) (x:Gf) (E E0:bD) (v:Value) (fs:List Value) (X:al) (D:Nat->bD) (w0 w:World) (A:al) (a0 a1 a2 a7 a8 a9 a10 a13:Value)
  (hE:EI lp lg E) (hc:1<=c/\c<9223372036854775808) (hx:0<=x.ab/\x.ab<18446744073709551616) (gv:BH c x E) (hn:fs.length<=n+1) (hn2:n<=16777210)
  (hU:gB w0 p g s lg (X*(kq b4 b5 b6 s c x*pt b7 (.cells #[.int .u64 (ck E.l c)] 31 (0,0)))) fs D) (hD:D fs.length=hZ x E) (hD0:D 0=E0)
  (h:St w0 (A*(X*(kq b4 b5 b6 s c x*pt b7 (.cells #[.int .u64 (ck E.l c)] 31 (0,0))))*pt Br (.cells #[v] 353 (0,0))*own 1 1 v fs.length fs*aV p g s lg (hZ x E)) w):
  HC.wp E1 uM (uq Tryz.prog [.slot 7] (iS w0 A p g s Br lg c x E E0 n))
   [a0,a1,a2,.func (.func 303) #[] #[.pointer (some ⟨Br,0,none⟩)],.pointer (some ⟨b4,0,none⟩),.pointer (some ⟨b5,0,none⟩),.pointer (some ⟨b6,0,none⟩),a7,a8,a9,a10,.pointer (some ⟨b7,0,none⟩),.int .u64 (ck E.l c -x.ab),a13] w:=by
 have hb:=hE.mG c;have hle:=zd hE.R c;have hsum:=hE.sum;have hgc:=gv.ab;obtain ⟨hput,hback⟩:=vw hE.P (n:=x.to) (c:=x.ab) (lW.1 gv.acc) ⟨hx.1,by omega⟩;have hok:=(j1 c x E).resolve_right λq=>q.1 gv;have h1:St w0 (A*X*pt Br (.cells #[v] 353 (0,0))*own 1 1 v fs.length fs*pt b7 (.cells #[.int .u64 (ck E.l c)] 31 (0,0))*kq b4 b5 b6 s c x*iG s p g E.l*Gd.cf g lg (hZ x E).ae*Pu.cr p E.P) w:=h.to iaa;clear h;generalize hA1:A*X*pt Br (.cells #[v] 353 (0,0))*own 1 1 v fs.length fs*pt b7 (.cells #[.int .u64 (ck E.l c)] 31 (0,0))=A1 at h1;have hf:=λ{Z:al} {w:World} (h:St w0 (A1*kq b4 b5 b6 s c x*iG s p g E.l*Z) w)=>kT h;have hP:=λ{w:World} (h:St w0 (A1*kq b4 b5 b6 s c x*iG s p g E.l*Gd.cf g lg (hZ x E).ae*Pu.cr p E.P) w)=>Pu.pb p E.P x.to x.ab w0 w _ hE.P.bd hx h;simp
 refine kG (Pu.rX (St w0 (A1*kq b4 b5 b6 s c x*iG s p g E.l*Gd.cf g lg (hZ x E).ae*Pu.cr p E.P)) (St w0 (A1*kq b4 b5 b6 s c x*iG s p g E.l*Gd.cf g lg (hZ x E).ae*Pu.cr p (Pu.aP E.P x.to x.ab).2))) h1.drew ?_;have hf2:=λ{P:Pu.Ps} {w:World} (h:St w0 (A1*kq b4 b5 b6 s c x*iG s p g E.l*Gd.cf g lg (hZ x E).ae*Pu.cr p P) w)=>hf h.drop;simp;refine au (v:= .pointer (some ⟨s,0,none⟩)) (λvs' w he hw=>Pu.bW (λh=>(hf2 h).1) (λh=>(hf2 h).1) hw) ?_;simp;refine au (v:= .pointer (some ⟨p,0,none⟩)) (λvs' w he hw=>Pu.bW (λh=>(hf2 h).2.2.2.2.2.1) (λh=>(hf2 h).2.2.2.2.2.1) hw) ?_;simp;refine au (v:= .int .i64 x.to) (λvs' w he hw=>Pu.bW (λh=>(hf2 h).2.2.1) (λh=>(hf2 h).2.2.1) hw) ?_;simp;refine au (v:= .int .u64 x.ab) (λvs' w he hw=>Pu.bW (λh=>(hf2 h).2.2.2.2.1) (λh=>(hf2 h).2.2.2.2.1) hw) ?_;simp;refine bG (by rfl) (λw hw=> ?_) (λr hr=> ?_)
 ·rw [Pu.kU] at hw
  refine ad ((hP hw).mono ?_);rintro r w' ⟨_,h⟩;exact h
 simp;intro w2 h2;refine af (hf2 h2).1 ?_;simp;refine af (hf2 h2).2.1 ?_;simp;refine ad ((vG s p g E.l c (ck E.l c -x.ab) w0 w2 (A1*kq b4 b5 b6 s c x*Gd.cf g lg (hZ x E).ae*Pu.cr p (Pu.aP E.P x.to x.ab).2) hE.R (h2.to (by ac_rfl))).mono ?_);intro r w3 h3;simp;rw [<-hA1] at h3;have h4:St w0 (A*(X*(kq b4 b5 b6 s c x*pt b7 (.cells #[.int .u64 (ck E.l c)] 31 (0,0))))*aV p g s lg ⟨(Pu.aP E.P x.to x.ab).2,(hZ x E).ae,fR c (ck E.l c -x.ab) E.l⟩*pt Br (.cells #[v] 353 (0,0))*own 1 1 v fs.length fs) w3:=h3.to (by simp only [aV];ac_rfl);refine bO (by kernel_rfl) ((vU Br fs.length v _ fs w0 w3 _ rfl (by omega) h4).mono ?_);rintro r w4 ⟨v',h5⟩;simp;unfold iS
 refine ⟨by rw [hok.2],X*(kq b4 b5 b6 s c x*pt b7 (.cells #[.int .u64 (ck E.l c)] 31 (0,0))),_,_,v',hU.snoc (f:=369) (cs:= #[.pointer (some ⟨b4,0,none⟩),.pointer (some ⟨b6,0,none⟩),.pointer (some ⟨b5,0,none⟩),.pointer (some ⟨b7,0,none⟩)]) (E:=(bP c x E).2) (by kernel_rfl) ?_,?_,?_,?_,?_⟩
 ·intro G W hs
  rw [hok.2] at hs;have hs':St w0 (G*X*Gd.cf g lg (hZ x E).ae*pt b7 (.cells #[.int .u64 (ck E.l c)] 31 (0,0))*kq b4 b5 b6 s c x*iG s p g (fR c (ck E.l c -x.ab) E.l)*Pu.cr p (Pu.aP E.P x.to x.ab).2) W:=hs.to (by simp only [aV];ac_rfl);refine (Ge b4 b5 b6 b7 s p g c (ck E.l c) x _ _ w0 W _ (Me hE.P _ _ hx).bd hx (nV hE.R hc (by omega)) hs').mono ?_;intro r W' h6;rw [hback,JI hE.R hc (by omega)] at h6;rw [hD];exact h6.to (by simp only [aV,hZ];ac_rfl)
 ·simp [vg]
 ·rw [lq _ _ (Nat.zero_le _)];exact hD0
 ·simp;omega
 ·simp only [List.length_append,List.length_singleton]
  rw [hok.2];exact h5.to (by ac_rfl)
theorem uG {w0 w:World} {A X:al} {p g s Br n:Nat} {lg c k:Int} {x:Gf} {E E0:bD} {v:Value} {fs:List Value} {D:Nat->bD} (hk:bP c x E=(k,E))
  (hU:gB w0 p g s lg X fs D) (hD:D fs.length=E) (hD0:D 0=E0) (hn:fs.length<=n)
  (h:St w0 (A*X*pt Br (.cells #[v] 353 (0,0))*own 1 1 v fs.length fs*aV p g s lg E) w):iS w0 A p g s Br lg c x E E0 n (.int .i64 k) w:=by
 unfold iS;rw [hk];exact ⟨rfl,X,fs,D,v,hU,hD,hD0,by omega,h⟩
abbrev gX (A X:al) (Br:Nat) (v:Value) (fs:List Value):al:=A*X*pt Br (.cells #[v] 353 (0,0))*own 1 1 v fs.length fs
theorem Fo {A X:al} {Br:Nat} {v:Value} {fs:List Value} {p g s b4 b5 b6:Nat} {lim c:Int} {x:Gf} {E:bD} {w0 w:World} (h:St w0 (gA (gX A X Br v fs) p g s lim b4 b5 b6 c x E) w):
  St w0 (A*X*pt Br (.cells #[v] 353 (0,0))*own 1 1 v fs.length fs*aV p g s lim E) w:=h.cut (kq b4 b5 b6 s c x) (by simp only [gA,gX,aV];ac_rfl)
abbrev aXa (a0 a1 a2:Value) (Br b4 b5 b6:Nat) (r:List Value):List Value:=
 [a0,a1,a2,.func (.func 303) #[] #[.pointer (some ⟨Br,0,none⟩)],.pointer (some ⟨b4,0,none⟩),.pointer (some ⟨b5,0,none⟩),.pointer (some ⟨b6,0,none⟩)]++r
section
variable (p g s Br b4 b5 b6 b7 n:Nat) (lp lg c:Int) (x:Gf) (E E0:bD) (v:Value) (fs:List Value) (X:al) (D:Nat->bD) (w0 w:World) (A:al) (a0 a1 a2 a7 a8 a9 a10 a11 a12 a13:Value)
  (hE:EI lp lg E) (hc:1<=c/\c<9223372036854775808) (hx:0<=x.ab/\x.ab<18446744073709551616) (hn:fs.length<=n) (hn2:n<=16777210)
  (hU:gB w0 p g s lg X fs D) (hD:D fs.length=E) (hD0:D 0=E0)
include hE hc hx hn hn2 hU hD hD0
theorem Lh (gv:BH c x E)
  (h:St w0 (gA (gX A X Br v fs*pt b7 (.cells #[.int .u64 (ck E.l c)] 31 (0,0))) p g s lg b4 b5 b6 c x E) w):
  HC.wp E1 uN (uq Tryz.prog [.slot 7] (iS w0 A p g s Br lg c x E E0 n))
   (aXa a0 a1 a2 Br b4 b5 b6 [a7,a8,a9,a10,.pointer (some ⟨b7,0,none⟩),.int .u64 (ck E.l c -x.ab),a13]) w:=by
 have hU':=hU.wide (Y:=kq b4 b5 b6 s c x*pt b7 (.cells #[.int .u64 (ck E.l c)] 31 (0,0)));have hlen:E.ae.length<=1048576:=by have:=hE.G.len;have:=hE.G.lim;omega
 simp;refine af (dD h).2.2.2.1 ?_;simp;refine aN (λhi=> ?_) (λhi=> ?_)
 ·simp at hi
  have hacc:Gd.om x.to=true:=Ks hE.P (lW.1 gv.acc);obtain ⟨hf0,hfb⟩:=I4 hE.G hacc hc.1 (gv.item hi).1 (gv.item hi).2;have hfi:(hZ x E)=⟨E.P,(Gd.eH E.ae x.item x.to).2,E.l⟩:=by simp [hZ,hi]
  generalize hA1:gX A X Br v fs*pt b7 (.cells #[.int .u64 (ck E.l c)] 31 (0,0))=A1 at h;have h1:St w0 (A1*kq b4 b5 b6 s c x*iG s p g E.l*Pu.cr p E.P*Gd.cf g lg E.ae) w:=h.swap;have hf:=λ{ae:List Gd.It} {w:World} (h:St w0 (A1*kq b4 b5 b6 s c x*iG s p g E.l*Pu.cr p E.P*Gd.cf g lg ae) w)=>kT h.drop;simp;refine kG (Pu.rX (St w0 (A1*kq b4 b5 b6 s c x*iG s p g E.l*Pu.cr p E.P*Gd.cf g lg E.ae)) (St w0 (A1*kq b4 b5 b6 s c x*iG s p g E.l*Pu.cr p E.P*Gd.cf g lg (Gd.eH E.ae x.item x.to).2))) h1.drew ?_;simp;refine au (v:= .pointer (some ⟨s,0,none⟩)) (λvs' w he hw=>Pu.bW (λh=>(hf h).1) (λh=>(hf h).1) hw) ?_;simp;refine au (v:= .pointer (some ⟨g,0,none⟩)) (λvs' w he hw=>Pu.bW (λh=>(hf h).2.2.2.2.2.2) (λh=>(hf h).2.2.2.2.2.2) hw) ?_;simp;refine au (v:= .int .i64 x.item) (λvs' w he hw=>Pu.bW (λh=>(hf h).2.2.2.1) (λh=>(hf h).2.2.2.1) hw) ?_;simp
  refine au (v:= .int .i64 x.to) (λvs' w he hw=>Pu.bW (λh=>(hf h).2.2.1) (λh=>(hf h).2.2.1) hw) ?_;simp;refine bG (by rfl) (λw hw=> ?_) (λr hr=> ?_)
  ·rw [Pu.kU] at hw
   refine ad ((Gd.Ia g lg E.ae x.item x.to w0 w _ hlen hw).mono ?_);rintro r w' ⟨_,h⟩;exact h
  simp;intro w2 h2;rw [<-hA1] at h2;have h3:St w0 (A*(X*(kq b4 b5 b6 s c x*pt b7 (.cells #[.int .u64 (ck E.l c)] 31 (0,0))))*aV p g s lg (hZ x E)*pt Br (.cells #[v] 353 (0,0))*own 1 1 v fs.length fs) w2:=by rw [hfi];exact h2.to (by simp only [aV,gX];ac_rfl)
  refine bO (by kernel_rfl) ((vU Br fs.length v _ fs w0 w2 _ rfl (by omega) h3).mono ?_);rintro r w4 ⟨v',h5⟩;simp;have hU2:=hU'.snoc (f:=367) (cs:= #[.pointer (some ⟨b4,0,none⟩),.pointer (some ⟨b6,0,none⟩),.pointer (some ⟨b5,0,none⟩)]) (E:=hZ x E) (by kernel_rfl) (by intro G W hs;rw [hfi] at hs;have hs':St w0 (G*X*Pu.cr p E.P*pt b7 (.cells #[.int .u64 (ck E.l c)] 31 (0,0))*kq b4 b5 b6 s c x*iG s p g E.l*Gd.cf g lg (Gd.eH E.ae x.item x.to).2) W:=hs.to (by simp only [aV];ac_rfl);refine (Gc b4 b5 b6 s p g c lg x _ E.l w0 W _ (by have:=(GR hE.G x.item x.to).len;have:=hE.G.lim;omega) hs').mono ?_;intro r W' h6;rw [hfb] at h6;rw [hD];exact h6.to (by simp only [aV];ac_rfl))
  have:=CB p g s Br b4 b5 b6 b7 n lp lg c x E E0 v' _ X _ w0 w4 A a0 a1 a2 a7 a8 a9 a10 a13 hE hc hx gv (by simp;omega) hn2 hU2 (by simp [vg]) (by rw [lq _ _ (Nat.zero_le _)];exact hD0)
   (by simp only [List.length_append,List.length_singleton];exact h5.to (by ac_rfl))
  simpa using this
 ·simp at hi
  have hfi:hZ x E=E:=by simp [hZ,hi]
  simp;have:=CB p g s Br b4 b5 b6 b7 n lp lg c x E E0 v fs X D w0 w A a0 a1 a2 a7 a8 a9 a10 a13 hE hc hx gv (by omega) hn2 hU' (by rw [hfi];exact hD) hD0
   (by rw [hfi];exact h.to (by simp only [aV,gX,gA];ac_rfl))
  simpa using this
theorem xE (hacc:(Pu.aA E.P x.to).2=0) (hit:x.item≠0->(Gd.aA E.ae x.item).2=0/\(Gd.aA E.ae x.item).1.bp=c)
  (h:St w0 (gA (gX A X Br v fs) p g s lg b4 b5 b6 c x E) w):
  HC.wp E1 pN (uq Tryz.prog [.slot 7] (iS w0 A p g s Br lg c x E E0 n))
   (aXa a0 a1 a2 Br b4 b5 b6 [a7,a8,a9,a10,a11,a12,a13]) w:=by
 obtain ⟨m,es,cl,hH,h1⟩:=xu (h.to (B:=gX A X Br v fs*kq b4 b5 b6 s c x*Gd.cf g lg E.ae*Pu.cr p E.P*iG s p g E.l) (by simp only [gA];ac_rfl));have hclose:=λ{b:Nat} {t:TypeId} {o:Obj} {w:World} (h:St w0 (gX A X Br v fs*kq b4 b5 b6 s c x*Gd.cf g lg E.ae*Pu.cr p E.P*mu s p g m*aF m es cl*pt b o) w)=>
  lO (A:=gX A X Br v fs*kq b4 b5 b6 s c x*Gd.cf g lg E.ae*Pu.cr p E.P*pt b o) hH (h.to (by ac_rfl))
 have hf:=λ{w:World} (h:St w0 (gX A X Br v fs*kq b4 b5 b6 s c x*Gd.cf g lg E.ae*Pu.cr p E.P*mu s p g m*aF m es cl) w)=>
  kT ((lO hH h).to (B:=gX A X Br v fs*kq b4 b5 b6 s c x*iG s p g E.l*(Gd.cf g lg E.ae*Pu.cr p E.P)) (by ac_rfl))
 have hs2:=λ{w:World} (h:St w0 (gX A X Br v fs*kq b4 b5 b6 s c x*Gd.cf g lg E.ae*Pu.cr p E.P*mu s p g m*aF m es cl) w)=>(cell_of (off:=2) h.swap.look).trans (rfl:_=some (Value.map (some m)));have hm:=λ{w:World} (h:St w0 (gX A X Br v fs*kq b4 b5 b6 s c x*Gd.cf g lg E.ae*Pu.cr p E.P*mu s p g m*aF m es cl) w)=>h.look;generalize hB:gX A X Br v fs*kq b4 b5 b6 s c x*Gd.cf g lg E.ae*Pu.cr p E.P*mu s p g m*aF m es cl=B at h1 hf hs2 hm hclose;simp;refine kG (Cc (St w0 B) (λb=>St w0 (B*pt b (.cells #[.int .u64 0] 31 (0,0)))) (λb=>St w0 (B*pt b (.cells #[.int .u64 (ck E.l c)] 31 (0,0))))) h1.drew ?_;simp;refine au (v:= .pointer (some ⟨s,0,none⟩)) (λvs' w he hw=>dK (λh=>(hf h).1) (λb h=>(hf h.drop).1) (λb h=>(hf h.drop).1) hw) ?_;simp;refine au (v:= .map (some m)) (λvs' w he hw=>dK (λh=>hs2 h) (λb h=>hs2 h.drop) (λb h=>hs2 h.drop) hw) ?_;simp
 refine au (v:= .int .i64 c) (λvs' w he hw=>dK (λh=>(hf h).2.1) (λb h=>(hf h.drop).2.1) (λb h=>(hf h.drop).2.1) hw) ?_;simp;refine ox Fg (m:=m) (es:=es) (c:=cl) (λvs' w he hw=>dK (λh=>hm h) (λb h=>hm h.drop) (λb h=>hm h.drop) hw) ?_;rw [(hH.get hE.R c).1];simp;refine bG (by rfl) (λw hw=>bX (z:= .int .u64 0) (F:=B) hw λb w' h=>⟨b,rfl,h⟩) (λr hr=> ?_);obtain ⟨_,b7,rfl,_⟩:=hr;simp;refine bG (by rfl) (λw hw=> ?_) (λr hr=> ?_)
 ·obtain ⟨b,e,hw⟩:=hw
  cases e;exact bj hw rfl (by simp) λw' h=>⟨b7,rfl,by simpa using h⟩
 simp;rintro w2 ⟨b,e,h2⟩;cases e;have h3:=hclose (t:=0) h2;have h4:St w0 (gA (gX A X Br v fs*pt b7 (.cells #[.int .u64 (ck E.l c)] 31 (0,0))) p g s lg b4 b5 b6 c x E) w2:=h3.to (by simp only [gA];ac_rfl);have hbd:=hE.mG c;refine af (v:= .int .u64 (ck E.l c)) ((cell_of h2.look).trans rfl) ?_;simp;refine af (dD h4).2.2.2.2.1 ?_;simp;refine ad ((Pu.lD (ck E.l c) x.ab w2 (by omega) hx).mono ?_);rintro r w3 ⟨rfl,rfl⟩;simp;refine aN (λhl=> ?_) (λhl=> ?_)
 ·simp at hl
  have hk:bP c x E=(170,E):=by
   unfold bP;rw [if_neg (by simp [hacc]),if_neg (by
    rintro ⟨hi,h|h⟩
    ·exact h (hit hi).1
    ·exact h (hit hi).2),if_pos hl]
  simp;exact uG hk hU hD hD0 hn (Fo (h4.cut (B:=gA (gX A X Br v fs) p g s lg b4 b5 b6 c x E) (pt b7 (.cells #[.int .u64 (ck E.l c)] 31 (0,0))) (by simp only [gA];ac_rfl)))
 ·simp at hl
  have hl2:¬ck E.l c<x.ab:=by omega
  simp [hl2];have:=Lh p g s Br b4 b5 b6 b7 n lp lg c x E E0 v fs X D w0 w3 A a0 a1 a2 a7 a8 a9 a10 (.int .i64 0) hE hc hx hn hn2 hU hD hD0 ⟨hacc,hit,hl⟩ h4
  simpa using this
end
theorem Cz (ae:List Gd.It) (n:Int):(Gd.aA ae n).2=0\/(Gd.aA ae n).2=151:=by unfold Gd.aA;split<;>simp
theorem I5 (p g s Br n:Nat) (lp lg c:Int) (x:Gf) (E E0:bD) (v:Value) (fs:List Value) (X:al) (D:Nat->bD) (w0 w:World) (A:al)
  (hE:EI lp lg E) (hc:1<=c/\c<9223372036854775808) (hx:0<=x.ab/\x.ab<18446744073709551616) (hn:fs.length<=n) (hn2:n<=16777210)
  (hU:gB w0 p g s lg X fs D) (hD:D fs.length=E) (hD0:D 0=E0)
  (h:St w0 (A*X*pt Br (.cells #[v] 353 (0,0))*own 1 1 v fs.length fs*aV p g s lg E) w):
  ak Tryz.prog 306 [.pointer (some ⟨s,0,none⟩),.int .i64 c,.agg x.cs.toArray,.func (.func 303) #[] #[.pointer (some ⟨Br,0,none⟩)]]
   (iS w0 A p g s Br lg c x E E0 n) w:=by
 refine dQ P2 (by simp [U3]) ?_;simp [U3];refine bA h λb4 w1 h1=> ?_;simp;refine bA h1 λb5 w2 h2=> ?_;simp;refine bA h2 λb6 w3 h3=> ?_;simp;have h4:St w0 (gA (gX A X Br v fs) p g s lg b4 b5 b6 c x E) w3:=h3.to (by simp only [gA,gX,kq,aV,qA,Value.cells];ac_rfl);clear h h1 h2 h3;have hcell:∀{Z:al} {w:World},St w0 (gA (gX A X Br v fs) p g s lg b4 b5 b6 c x E*Z) w->St w0 (gA (gX A X Br v fs*Z) p g s lg b4 b5 b6 c x E) w:=λh=>aWa h;refine HI (Cc (St w0 (gA (gX A X Br v fs) p g s lg b4 b5 b6 c x E)) (λb=>St w0 (gA (gX A X Br v fs) p g s lg b4 b5 b6 c x E*pt b (.cells (Pu.Ac.cs ⟨[],0⟩).toArray 139 (0,0))))
  (λb=>St w0 (gA (gX A X Br v fs) p g s lg b4 b5 b6 c x E*pt b (.cells (Pu.aA E.P x.to).1.cs.toArray 139 (0,0))))) (λ_ _=> .tuple #[.agg (Pu.aA E.P x.to).1.cs.toArray,.int .i64 (Pu.aA E.P x.to).2]) h4.drew ?_
 simp;refine au (v:= .pointer (some ⟨s,0,none⟩)) (λvs' w he hw=>dK (λh=>(dD h).1) (λb h=>(dD h.drop).1) (λb h=>(dD h.drop).1) hw) ?_;simp;refine au (v:= .pointer (some ⟨p,0,none⟩)) (λvs' w he hw=>dK (λh=>(dD h).2.2.2.2.2.1) (λb h=>(dD h.drop).2.2.2.2.2.1) (λb h=>(dD h.drop).2.2.2.2.2.1) hw) ?_;simp;refine au (v:= .int .i64 x.to) (λvs' w he hw=>dK (λh=>(dD h).2.2.1) (λb h=>(dD h.drop).2.2.1) (λb h=>(dD h.drop).2.2.1) hw) ?_;simp;refine sg (by kernel_rfl) (by rfl) (by intro h;cases h) (λvs' w he hw=>nD (λh=>SQ hE x.to h) (λb h=>(SQ hE x.to (hcell h)).mono λr w' ⟨e,h⟩=>⟨e,zk h⟩) (λb h=>(SQ hE x.to (hcell h)).mono λr w' ⟨e,h⟩=>⟨e,zk h⟩) hw) ?_;simp;refine bG (by rfl) (λw hw=>bX (z:= .agg (Pu.Ac.cs ⟨[],0⟩).toArray) hw λb w' h=>⟨b,rfl,h⟩) (λr hr=> ?_);obtain ⟨_,b7,rfl,_⟩:=hr;simp;refine bG (by rfl) (λw hw=> ?_) (λr hr=> ?_)
 ·obtain ⟨b,e,hw⟩:=hw
  cases e;exact dg (vs:=(Pu.aA E.P x.to).1.cs) hw rfl rfl (Pu.cN _) (by simp [Pu.Ac.cs]) λw' h=>⟨b7,rfl,by simpa [Pu.Ac.cs] using h⟩
 simp;rintro w4 ⟨b,e,h5⟩;cases e;have h6:=h5.drop;refine aN (λhg=> ?_) (λhg=> ?_)
 ·simp at hg
  have hg2:=(Le E.P x.to).resolve_left hg;simp;rw [hg2];exact uG (by unfold bP;rw [if_pos hg]) hU hD hD0 hn (Fo h6)
 simp at hg;simp;refine af (dD h6).2.2.2.1 ?_;simp;refine aN (λhi=> ?_) (λhi=> ?_)
 ·simp at hi
  simp;refine HI (Cc (St w0 (gA (gX A X Br v fs) p g s lg b4 b5 b6 c x E)) (λb=>St w0 (gA (gX A X Br v fs) p g s lg b4 b5 b6 c x E*pt b (.cells (Gd.It.cs ⟨0,0,0,0⟩).toArray 123 (0,0))))
   (λb=>St w0 (gA (gX A X Br v fs) p g s lg b4 b5 b6 c x E*pt b (.cells (Gd.aA E.ae x.item).1.cs.toArray 123 (0,0))))) (λ_ _=> .tuple #[.agg (Gd.aA E.ae x.item).1.cs.toArray,.int .i64 (Gd.aA E.ae x.item).2]) h6.drew ?_
  simp;refine au (v:= .pointer (some ⟨s,0,none⟩)) (λvs' w he hw=>dK (λh=>(dD h).1) (λb h=>(dD h.drop).1) (λb h=>(dD h.drop).1) hw) ?_;simp;refine au (v:= .pointer (some ⟨g,0,none⟩)) (λvs' w he hw=>dK (λh=>(dD h).2.2.2.2.2.2) (λb h=>(dD h.drop).2.2.2.2.2.2) (λb h=>(dD h.drop).2.2.2.2.2.2) hw) ?_;simp;refine au (v:= .int .i64 x.item) (λvs' w he hw=>dK (λh=>(dD h).2.2.2.1) (λb h=>(dD h.drop).2.2.2.1) (λb h=>(dD h.drop).2.2.2.1) hw) ?_;simp;refine sg (by kernel_rfl) (by rfl) (by intro h;cases h) (λvs' w he hw=>nD (λh=>SV hE x.item h) (λb h=>(SV hE x.item (hcell h)).mono λr w' ⟨e,h⟩=>⟨e,zk h⟩) (λb h=>(SV hE x.item (hcell h)).mono λr w' ⟨e,h⟩=>⟨e,zk h⟩) hw) ?_;simp;refine bG (by rfl) (λw hw=>bX (z:= .agg (Gd.It.cs ⟨0,0,0,0⟩).toArray) hw λb w' h=>⟨b,rfl,h⟩) (λr hr=> ?_);obtain ⟨_,b8,rfl,_⟩:=hr;simp
  refine bG (by rfl) (λw hw=> ?_) (λr hr=> ?_)
  ·obtain ⟨b,e,hw⟩:=hw
   cases e;exact dg (vs:=(Gd.aA E.ae x.item).1.cs) hw rfl rfl (Gd.cN _) (by simp [Gd.It.cs]) λw' h=>⟨b8,rfl,by simpa [Gd.It.cs] using h⟩
  simp;rintro w5 ⟨b,e,h7⟩;cases e;have bad:(Gd.aA E.ae x.item).2≠0\/(Gd.aA E.ae x.item).1.bp≠c->iS w0 A p g s Br lg c x E E0 n (.int .i64 170) w5:=λhb=>
   uG (by unfold bP;rw [if_neg (by simpa using hg),if_pos ⟨hi,hb⟩]) hU hD hD0 hn (Fo h7.drop)
  rcases Cz E.ae x.item with e1|e1
  ·simp [e1]
   refine af (v:= .int .i64 (Gd.aA E.ae x.item).1.bp) ((cell_of h7.look).trans rfl) ?_;simp;refine af (dD h7.drop).2.1 ?_;simp;refine aN (λhcn=> ?_) (λhcn=> ?_)
   ·simp at hcn
    simp;exact bad (.inr hcn)
   ·simp at hcn
    simp;have:=xE p g s Br b4 b5 b6 n lp lg c x E E0 v fs X D w0 w5 A (.pointer (some ⟨s,0,none⟩)) (.int .i64 c) (.agg x.cs.toArray) (.int .i64 0) (.int .i64 (Pu.aA E.P x.to).2) (.pointer (some ⟨b8,0,none⟩)) (.int .i64 0) undef undef undef hE hc hx hn hn2 hU hD hD0 hg (λ_=>⟨e1,hcn⟩) h7.drop
    simpa using this
  ·simp [e1]
   exact bad (.inl (by omega))
 ·simp at hi
  simp;have:=xE p g s Br b4 b5 b6 n lp lg c x E E0 v fs X D w0 w4 A (.pointer (some ⟨s,0,none⟩)) (.int .i64 c) (.agg x.cs.toArray) (.int .i64 0) (.int .i64 (Pu.aA E.P x.to).2) undef undef undef undef undef hE hc hx hn hn2 hU hD hD0 hg (λh=>absurd hi h) h6
  simpa using this
theorem iW {X Y:World->Prop} {vs:List Value} {w:World} (he:era 1 vs=era 1 []) (h:Pu.rX X Y vs w):X w:=by
 cases vs with
 |nil=>exact h
 |cons _ _=>simp [era] at he
def Zh (X:World->Prop) (r:Value) (Y:World->Prop):List Value->World->Prop
 | [],w=>X w
 |v::_,w=>v=r/\Y w
theorem tX {X Y:World->Prop} {r:Value} {vs:List Value} {w:World} (he:era 1 vs=era 1 []) (h:Zh X r Y vs w):X w:=by
 cases vs with
 |nil=>exact h
 |cons _ _=>simp [era] at he
def Et.cs (x:Et) (pr:Int) (wv:Value):List Value:= [.int .i64 x.acc,.int .i64 x.item,.int .u64 x.ab,.int .u64 pr,wv]
abbrev pA (A:al) (p g s:Nat) (lim:Int) (b:Nat) (x:Et) (pr:Int) (wv:Value) (E:bD):al:=A*pt b (.cells (x.cs pr wv).toArray 34 (0,0))*iG s p g E.l*Gd.cf g lim E.ae*Pu.cr p E.P
section
variable {w0 w:World} {A Z:al} {p g s b:Nat} {lim pr:Int} {x:Et} {wv:Value} {E:bD}
theorem yc {l:List Rw} (h:St w0 (A*pt b (.cells (x.cs pr wv).toArray 34 (0,0))*iG s p g l*Z) w):w.cell? ⟨b,0,none⟩=some (.int .i64 x.acc)/\w.cell? ⟨b,1,none⟩=some (.int .i64 x.item)/\w.cell? ⟨b,2,none⟩=some (.int .u64 x.ab)/\
  w.cell? ⟨s,0,none⟩=some (.pointer (some ⟨p,0,none⟩))/\w.cell? ⟨s,1,none⟩=some (.pointer (some ⟨g,0,none⟩)):=by
 have h':St w0 (A*pt b (.cells (x.cs pr wv).toArray 34 (0,0))*Z*iG s p g l) w:=h.to (by ac_rfl);obtain ⟨m,es,cl,hE,h'⟩:=xu h';have f4:=h'.drop.drop.drop.look;have fs:=h'.drop.look;exact ⟨(cell_of f4).trans rfl,(cell_of f4).trans rfl,(cell_of f4).trans rfl,(cell_of fs).trans rfl,(cell_of fs).trans rfl⟩
theorem fj (h:St w0 (pA A p g s lim b x pr wv E) w):w.cell? ⟨b,0,none⟩=some (.int .i64 x.acc)/\w.cell? ⟨b,1,none⟩=some (.int .i64 x.item)/\w.cell? ⟨b,2,none⟩=some (.int .u64 x.ab)/\
  w.cell? ⟨s,0,none⟩=some (.pointer (some ⟨p,0,none⟩))/\w.cell? ⟨s,1,none⟩=some (.pointer (some ⟨g,0,none⟩)):=yc h.drop
theorem Wc {lp lg:Int} (hE:EI lp lg E) (n:Int) (h:St w0 (pA A p g s lim b x pr wv E) w):ak Tryz.prog 169 [.pointer (some ⟨p,0,none⟩),.int .i64 n]
  (λr w'=>r= .tuple #[.agg (Pu.aA E.P n).1.cs.toArray,.int .i64 (Pu.aA E.P n).2]/\St w0 (pA A p g s lim b x pr wv E) w') w:=Pu.fU p E.P n w0 w _ hE.P.bd.len h
theorem Wd {lp lg:Int} (hE:EI lp lg E) (n:Int) (h:St w0 (pA A p g s lim b x pr wv E) w):ak Tryz.prog 129 [.pointer (some ⟨g,0,none⟩),.int .i64 n]
  (λr w'=>r= .tuple #[.agg (Gd.aA E.ae n).1.cs.toArray,.int .i64 (Gd.aA E.ae n).2]/\St w0 (pA A p g s lim b x pr wv E) w') w:=
 (Gd.fU g lim E.ae n w0 w _ (by have:=hE.G.len;have:=hE.G.lim;omega) h.swap).mono λr w' ⟨e,h⟩=>⟨e,h.swap⟩
theorem Ho (h:St w0 (pA A p g s lim b x pr wv E*Z) w):St w0 (pA (A*Z) p g s lim b x pr wv E) w:=h.to (by simp only [pA];ac_rfl)
theorem AN (h:St w0 (pA (A*Z) p g s lim b x pr wv E) w):St w0 (pA A p g s lim b x pr wv E*Z) w:=h.to (by simp only [pA];ac_rfl)
theorem FQ (h:St w0 (pA A p g s lim b x pr wv E) w):St w0 (A*aV p g s lim E) w:=h.cut (pt b (.cells (x.cs pr wv).toArray 34 (0,0))) (by simp only [pA,aV];ac_rfl)
end
def oZ (w0:World) (A:al) (p g s:Nat) (lg c:Int) (x:Et) (E:bD) (r:Value) (w':World):Prop:=
 r= .int .i64 (aK c x E).1/\St w0 (A*aV p g s lg (aK c x E).2) w'
section
variable (p g s b:Nat) (lp lg c pr:Int) (x:Et) (wv:Value) (E:bD) (w0 w:World) (A:al) (a0 a1 a2 a5 a6 a7 a8:Value)
  (hE:EI lp lg E) (hx:0<=x.ab/\x.ab<18446744073709551616)
include hE hx
theorem Hs (P:Pu.Ps) (ae:List Gd.It) (hP:(Pu.bz E.P x.acc x.ab).1=0) (hput:aK c x E=(0,⟨P,ae,fR c (ck E.l c+x.ab) E.l⟩)) (h:St w0 (pA A p g s lg b x pr wv ⟨P,ae,E.l⟩) w):
  HC.wp E1 uK (uq Tryz.prog [.slot 4] (oZ w0 A p g s lg c x E)) [.pointer (some ⟨s,0,none⟩),.int .i64 c,a2,.pointer (some ⟨b,0,none⟩),.int .i64 0,a5,a6,a7,a8] w:=by
 have hbd:=hE.mG c;have hcl:x.ab<=4611686018427387904:=by
  unfold Pu.bz at hP;split at hP
  ·rename_i ha
   split at hP
   ·cases hP
   ·rename_i hlt
    obtain ⟨i,hi,hil⟩:=Pu.jk ha;have e0:x.acc.toNat=i:=by omega
    rw [e0] at hlt;have:=Pu.eL hE.P.bd hil;omega
  ·cases hP
 obtain ⟨m,es,cl,hH,h1⟩:=xu (h.to (B:=A*pt b (.cells (x.cs pr wv).toArray 34 (0,0))*Gd.cf g lg ae*Pu.cr p P*iG s p g E.l) (by simp only [pA];ac_rfl));have hf:=λ{w:World} (h:St w0 (A*pt b (.cells (x.cs pr wv).toArray 34 (0,0))*Gd.cf g lg ae*Pu.cr p P*mu s p g m*aF m es cl) w)=>
  yc ((lO hH h).to (B:=A*pt b (.cells (x.cs pr wv).toArray 34 (0,0))*iG s p g E.l*(Gd.cf g lg ae*Pu.cr p P)) (by ac_rfl))
 have hs2:=λ{w:World} (h:St w0 (A*pt b (.cells (x.cs pr wv).toArray 34 (0,0))*Gd.cf g lg ae*Pu.cr p P*mu s p g m*aF m es cl) w)=>(cell_of (off:=2) h.swap.look).trans (rfl:_=some (Value.map (some m)));have hm:=λ{w:World} (h:St w0 (A*pt b (.cells (x.cs pr wv).toArray 34 (0,0))*Gd.cf g lg ae*Pu.cr p P*mu s p g m*aF m es cl) w)=>h.look;have hset:=λ{w:World} (h:St w0 (A*pt b (.cells (x.cs pr wv).toArray 34 (0,0))*Gd.cf g lg ae*Pu.cr p P*mu s p g m*aF m es cl) w)=>vG s p g E.l c (ck E.l c+x.ab) w0 w _ hE.R (lO hH h);simp;refine kG (Pu.rX (St w0 (A*pt b (.cells (x.cs pr wv).toArray 34 (0,0))*Gd.cf g lg ae*Pu.cr p P*mu s p g m*aF m es cl)) (St w0 (A*pt b (.cells (x.cs pr wv).toArray 34 (0,0))*Gd.cf g lg ae*Pu.cr p P*iG s p g (fR c (ck E.l c+x.ab) E.l)))) h1.drew ?_;simp;refine au (v:= .map (some m)) (λvs' w he hw=>hs2 (iW he hw)) ?_;simp
 refine ox Fg (m:=m) (es:=es) (c:=cl) (λvs' w he hw=>hm (iW he hw)) ?_;rw [(hH.get hE.R c).1];simp;refine au (v:= .int .u64 x.ab) (λvs' w he hw=>(hf (iW he hw)).2.2.1) ?_;simp
 try simp (disch:=omega) only [bB]
 refine bG (by rfl) (λw hw=> ?_) (λr hr=> ?_)
 ·rw [Pu.kU] at hw
  refine ad ((hset hw).mono ?_);intro r w' h;exact h
 simp;intro w2 h2;unfold oZ;rw [hput];exact ⟨rfl,h2.cut (pt b (.cells (x.cs pr wv).toArray 34 (0,0))) (by simp only [aV];ac_rfl)⟩
theorem Ht (ha:(Pu.aA E.P x.acc).2=0) (hit:x.item≠0->(Gd.aA E.ae x.item).2=0/\(Gd.aA E.ae x.item).1.bp=0/\(Gd.aA E.ae x.item).1.acc=x.acc)
  (h:St w0 (pA A p g s lg b x pr wv E) w):
  HC.wp E1 uL (uq Tryz.prog [.slot 4] (oZ w0 A p g s lg c x E)) [.pointer (some ⟨s,0,none⟩),.int .i64 c,a2,.pointer (some ⟨b,0,none⟩),.int .i64 0,a5,a6,a7,a8] w:=by
 have hlen:E.ae.length<=1048576:=by have:=hE.G.len;have:=hE.G.lim;omega
 have n1:¬((Pu.aA E.P x.acc).2≠0):=by simp [ha]
 have n2:¬(x.item≠0/\((Gd.aA E.ae x.item).2≠0\/(Gd.aA E.ae x.item).1.bp≠0\/(Gd.aA E.ae x.item).1.acc≠x.acc)):=by
  rintro ⟨hi,h|h|h⟩
  ·exact h (hit hi).1
  ·exact h (hit hi).2.1
  ·exact h (hit hi).2.2
 have hf:=λ{P:Pu.Ps} {w:World} (h:St w0 (pA A p g s lg b x pr wv ⟨P,E.ae,E.l⟩) w)=>fj h;simp;refine kG (Zh (St w0 (pA A p g s lg b x pr wv E)) (.int .i64 (Pu.bz E.P x.acc x.ab).1) (St w0 (pA A p g s lg b x pr wv ⟨(Pu.bz E.P x.acc x.ab).2,E.ae,E.l⟩))) h.drew ?_;simp;refine au (v:= .pointer (some ⟨p,0,none⟩)) (λvs' w he hw=>(fj (tX he hw)).2.2.2.1) ?_;simp;refine au (v:= .int .i64 x.acc) (λvs' w he hw=>(fj (tX he hw)).1) ?_;simp;refine au (v:= .int .u64 x.ab) (λvs' w he hw=>(fj (tX he hw)).2.2.1) ?_;simp;refine bG (by rfl) (λw hw=>ad ((Pu.wU p E.P x.acc x.ab w0 w _ hE.P.bd hx hw).mono ?_)) (λr hr=> ?_)
 ·rintro r w' ⟨e,h⟩
  exact ⟨e,h⟩
 obtain ⟨_,rfl,_⟩:=hr;simp;rintro w2 ⟨_,h2⟩;refine aN (λht=> ?_) (λht=> ?_)
 ·simp at ht
  have hk:aK c x E=((Pu.bz E.P x.acc x.ab).1,E):=by unfold aK;rw [if_neg n1,if_neg n2,if_pos ht]
  have hsame:(Pu.bz E.P x.acc x.ab).2=E.P:=by
   unfold Pu.bz at ht⊢;split at ht
   ·rename_i e1
    split at ht
    ·rename_i e2;rw [if_pos e1,if_pos e2]
    ·exact absurd rfl ht
   ·rename_i e1;rw [if_neg e1]
  simp;unfold oZ;rw [hk];rw [hsame] at h2;exact ⟨rfl,FQ h2⟩
 simp at ht;have hk:aK c x E=(0,⟨(Pu.bz E.P x.acc x.ab).2,if x.item≠0 then (Gd.ff E.ae x.item c).2 else E.ae,fR c (ck E.l c+x.ab) E.l⟩):=by unfold aK;rw [if_neg n1,if_neg n2,if_neg (by simp [ht])]
 simp;refine af (hf h2).2.1 ?_;simp;refine aN (λhi=> ?_) (λhi=> ?_)
 ·simp at hi
  rw [if_pos hi] at hk;simp;refine kG (Pu.rX (St w0 (pA A p g s lg b x pr wv ⟨(Pu.bz E.P x.acc x.ab).2,E.ae,E.l⟩)) (St w0 (pA A p g s lg b x pr wv ⟨(Pu.bz E.P x.acc x.ab).2,(Gd.ff E.ae x.item c).2,E.l⟩))) h2.drew ?_;simp;refine au (v:= .pointer (some ⟨g,0,none⟩)) (λvs' w he hw=>(hf (iW he hw)).2.2.2.2) ?_;simp;refine au (v:= .int .i64 x.item) (λvs' w he hw=>(hf (iW he hw)).2.1) ?_;simp;refine bG (by rfl) (λw hw=>ad ((Gd.wS g lg E.ae x.item c w0 w _ hlen (St.swap hw)).mono ?_)) (λr hr=> ?_)
  ·rintro r w' ⟨e,h⟩
   exact h.swap
  simp;intro w3 h3;have:=Hs p g s b lp lg c pr x wv E w0 w3 A a2 a5 a6 a7 (.int .i64 (Pu.bz E.P x.acc x.ab).1) hE hx _ _ ht hk h3
  simpa using this
 ·simp at hi
  rw [if_neg (by simp [hi])] at hk;simp;have:=Hs p g s b lp lg c pr x wv E w0 w2 A a2 a5 a6 a7 (.int .i64 (Pu.bz E.P x.acc x.ab).1) hE hx _ _ ht hk h2
  simpa using this
end
theorem fA (p g s:Nat) (lp lg c pr:Int) (x:Et) (wv:Value) (E:bD) (w0 w:World) (A:al)
  (hE:EI lp lg E) (hc:1<=c/\c<9223372036854775808) (hx:0<=x.ab/\x.ab<18446744073709551616) (h:St w0 (A*aV p g s lg E) w):
  ak Tryz.prog 220 [.pointer (some ⟨s,0,none⟩),.int .i64 c,.agg (x.cs pr wv).toArray]
   (λr w'=>r= .int .i64 (aK c x E).1/\St w0 (A*aV p g s lg (aK c x E).2) w') w:=by
 refine dQ O9 (by simp [UE]) ?_;simp [UE];refine bA h λb w1 h1=> ?_;simp;have h4:St w0 (pA A p g s lg b x pr wv E) w1:=h1.to (by simp only [pA,aV,qA];ac_rfl);clear h h1;refine HI (Cc (St w0 (pA A p g s lg b x pr wv E)) (λq=>St w0 (pA A p g s lg b x pr wv E*pt q (.cells (Pu.Ac.cs ⟨[],0⟩).toArray 139 (0,0))))
  (λq=>St w0 (pA A p g s lg b x pr wv E*pt q (.cells (Pu.aA E.P x.acc).1.cs.toArray 139 (0,0))))) (λ_ _=> .tuple #[.agg (Pu.aA E.P x.acc).1.cs.toArray,.int .i64 (Pu.aA E.P x.acc).2]) h4.drew ?_
 simp;refine au (v:= .pointer (some ⟨p,0,none⟩)) (λvs' w he hw=>dK (λh=>(fj h).2.2.2.1) (λb h=>(fj h.drop).2.2.2.1) (λb h=>(fj h.drop).2.2.2.1) hw) ?_;simp;refine au (v:= .int .i64 x.acc) (λvs' w he hw=>dK (λh=>(fj h).1) (λb h=>(fj h.drop).1) (λb h=>(fj h.drop).1) hw) ?_;simp;refine sg (by kernel_rfl) (by rfl) (by intro h;cases h) (λvs' w he hw=>nD (λh=>Wc hE x.acc h) (λb h=>(Wc hE x.acc (Ho h)).mono λr w' ⟨e,h⟩=>⟨e,AN h⟩) (λb h=>(Wc hE x.acc (Ho h)).mono λr w' ⟨e,h⟩=>⟨e,AN h⟩) hw) ?_;simp;refine bG (by rfl) (λw hw=>bX (z:= .agg (Pu.Ac.cs ⟨[],0⟩).toArray) hw λb w' h=>⟨b,rfl,h⟩) (λr hr=> ?_);obtain ⟨_,b7,rfl,_⟩:=hr;simp;refine bG (by rfl) (λw hw=> ?_) (λr hr=> ?_)
 ·obtain ⟨b,e,hw⟩:=hw
  cases e;exact dg (vs:=(Pu.aA E.P x.acc).1.cs) hw rfl rfl (Pu.cN _) (by simp [Pu.Ac.cs]) λw' h=>⟨b7,rfl,by simpa [Pu.Ac.cs] using h⟩
 simp;rintro w4 ⟨_,e,h5⟩;cases e;have h6:=h5.drop;have fin:oZ w0 A p g s lg c x E=(λr w'=>r= .int .i64 (aK c x E).1/\St w0 (A*aV p g s lg (aK c x E).2) w'):=rfl;refine aN (λhg=> ?_) (λhg=> ?_)
 ·simp at hg
  have hg2:=(Le E.P x.acc).resolve_left hg;have hk:aK c x E=(142,E):=by unfold aK;rw [if_pos hg]
  simp;rw [hg2,hk];exact ⟨rfl,FQ h6⟩
 simp at hg;simp;refine af (fj h6).2.1 ?_;simp;refine aN (λhi=> ?_) (λhi=> ?_)
 ·simp at hi
  simp;refine HI (Cc (St w0 (pA A p g s lg b x pr wv E)) (λq=>St w0 (pA A p g s lg b x pr wv E*pt q (.cells (Gd.It.cs ⟨0,0,0,0⟩).toArray 123 (0,0))))
   (λq=>St w0 (pA A p g s lg b x pr wv E*pt q (.cells (Gd.aA E.ae x.item).1.cs.toArray 123 (0,0))))) (λ_ _=> .tuple #[.agg (Gd.aA E.ae x.item).1.cs.toArray,.int .i64 (Gd.aA E.ae x.item).2]) h6.drew ?_
  simp;refine au (v:= .pointer (some ⟨g,0,none⟩)) (λvs' w he hw=>dK (λh=>(fj h).2.2.2.2) (λb h=>(fj h.drop).2.2.2.2) (λb h=>(fj h.drop).2.2.2.2) hw) ?_;simp;refine au (v:= .int .i64 x.item) (λvs' w he hw=>dK (λh=>(fj h).2.1) (λb h=>(fj h.drop).2.1) (λb h=>(fj h.drop).2.1) hw) ?_;simp;refine sg (by kernel_rfl) (by rfl) (by intro h;cases h) (λvs' w he hw=>nD (λh=>Wd hE x.item h) (λb h=>(Wd hE x.item (Ho h)).mono λr w' ⟨e,h⟩=>⟨e,AN h⟩) (λb h=>(Wd hE x.item (Ho h)).mono λr w' ⟨e,h⟩=>⟨e,AN h⟩) hw) ?_;simp;refine bG (by rfl) (λw hw=>bX (z:= .agg (Gd.It.cs ⟨0,0,0,0⟩).toArray) hw λb w' h=>⟨b,rfl,h⟩) (λr hr=> ?_);obtain ⟨_,b8,rfl,_⟩:=hr;simp;refine bG (by rfl) (λw hw=> ?_) (λr hr=> ?_)
  ·obtain ⟨b,e,hw⟩:=hw
   cases e;exact dg (vs:=(Gd.aA E.ae x.item).1.cs) hw rfl rfl (Gd.cN _) (by simp [Gd.It.cs]) λw' h=>⟨b8,rfl,by simpa [Gd.It.cs] using h⟩
  simp;rintro w5 ⟨_,e,h7⟩;cases e;have bad:((Gd.aA E.ae x.item).2≠0\/(Gd.aA E.ae x.item).1.bp≠0\/(Gd.aA E.ae x.item).1.acc≠x.acc)->(.int .i64 151=Value.int .i64 (aK c x E).1)/\St w0 (A*aV p g s lg (aK c x E).2) w5:=λhb=>by
   have hk:aK c x E=(151,E):=by unfold aK;rw [if_neg (by simpa using hg),if_pos ⟨hi,hb⟩]
   rw [hk];exact ⟨rfl,FQ h7.drop⟩
  rcases Cz E.ae x.item with e1|e1
  ·simp [e1]
   refine af (v:= .int .i64 (Gd.aA E.ae x.item).1.bp) ((cell_of h7.look).trans rfl) ?_;simp
   by_cases e2:(Gd.aA E.ae x.item).1.bp=0
   ·simp [e2]
    refine af (v:= .int .i64 (Gd.aA E.ae x.item).1.acc) ((cell_of h7.look).trans rfl) ?_;simp;refine af (fj h7.drop).1 ?_;simp;refine aN (λhcn=> ?_) (λhcn=> ?_)
    ·simp at hcn
     simp
     simpa using bad (.inr (.inr hcn))
    ·simp at hcn
     simp;have:=Ht p g s b lp lg c pr x wv E w0 w5 A (.agg (x.cs pr wv).toArray) (.int .i64 (Pu.aA E.P x.acc).2) (.pointer (some ⟨b8,0,none⟩)) (.int .i64 0) undef hE hx hg (λ_=>⟨e1,e2,hcn⟩) h7.drop;rw [fin] at this
     simpa using this
   ·simp [e2]
    simpa using bad (.inr (.inl e2))
  ·simp [e1]
   simpa using bad (.inl (by omega))
 ·simp at hi
  simp;have:=Ht p g s b lp lg c pr x wv E w0 w4 A (.agg (x.cs pr wv).toArray) (.int .i64 (Pu.aA E.P x.acc).2) undef undef undef hE hx hg (λh=>absurd hi h) h6;rw [fin] at this
  simpa using this
theorem vE {P:Program} {env:List Value} {i n:Nat} {a:Addr} {v:Value} {r:List RV} {K:List Value->World->Prop} {w:World} (he:env.getD i undef= .pointer (some a))
  (hc:w.cell? a=some v) (hk:ym P env r (λus w=>K (v::us) w) w):ym P env (.cell i false n::r) K w:=by
 show gC P (dU (tq false n (env.getD i undef))) _ w;rw [he];refine bm (w':=w) (v:=v) ?_ ⟨rfl,hk⟩;simp [tq,Instr.sureAddr,hc]
def ic (gs:List Gf):List Value:=gs.flatMap Gf.cs
theorem Lf (x:Gf):x.cs.length=3:=rfl
theorem Fq (x:Gf):∀u∈x.cs,u.oneCell'=true:=by intro u hu;simp only [Gf.cs,List.mem_cons,List.not_mem_nil,or_false] at hu;rcases hu with rfl|rfl|rfl<;>rfl
theorem CA {gs:List Gf} {i:Nat} (h:i<gs.length):∀j u,(gs[i].cs)[j]?=some u->(ic gs)[i*3+j]?=some u:=by
 intro j u hu;have hj:j<3:=by
  have:=(List.getElem?_eq_some_iff.1 hu).1
  rwa [Lf] at this
 unfold ic;rw [fW Gf.cs 3 Lf gs i j h hj];exact hu
structure yL (w0:World) (A:al) (p g s:Nat) (lp lg:Int) (fb:Nat) (cs:List Value) (bes:bD->Int×bD):Prop where
 body:bZ Tryz.prog fb=true
 no:∀E,(bes E).1≠0->(bes E).2=E
 call:∀(G:al) (E:bD) (W:World),EI lp lg E->St w0 (A*G*aV p g s lg E) W->ak Tryz.prog fb cs (λr W'=>r= .int .i64 (bes E).1/\St w0 (A*G*aV p g s lg (bes E).2) W') W
theorem D1 {w0 w:World} {A X:al} {p g s Be Br:Nat} {lg e:Int} {fs:List Value} {D:Nat->bD} {v:Value} {env:List Value} {E2:bD} {K:Value->World->Prop}
  (hU:gB w0 p g s lg X fs D) (hn:fs.length<=16777216) (henv:env.getD 4 undef= .pointer (some ⟨Be,0,none⟩))
  (hK:∀w',St w0 (A*aV p g s lg (if e=0 then E2 else D 0)) w'->K (.int .i64 e) w') (hE:e≠0->E2=D fs.length)
  (h:St w0 (A*pt Be (.cells #[.int .i64 e] 47 (0,0))*X*pt Br (.cells #[v] 353 (0,0))*own 1 1 v fs.length fs*aV p g s lg E2) w):
  H9 Tryz.prog 304 [.pointer (some ⟨Be,0,none⟩),.pointer (some ⟨Br,0,none⟩)] (λw'=>ym Tryz.prog env [.cell 4 false 1] (λvs w=>K (JW vs) w) w') w:=by
 by_cases he:e=0
 ·subst he
  have h1:St w0 (A*X*pt Br (.cells #[v] 353 (0,0))*own 1 1 v fs.length fs*aV p g s lg E2*pt Be (.cells #[.int .i64 0] 47 (0,0))) w:=h.to (by ac_rfl);refine Ri h1 ?_;refine vE henv ((cell_of h1.look).trans rfl) ?_;simp;refine hK w ?_;rw [if_pos rfl];exact h.cut (pt Be (.cells #[.int .i64 0] 47 (0,0))*X*pt Br (.cells #[v] 353 (0,0))*own 1 1 v fs.length fs) (by ac_rfl)
 ·rw [hE he] at h
  have h1:St w0 (A*pt Be (.cells #[.int .i64 e] 47 (0,0))*pt Br (.cells #[v] 353 (0,0))*own 1 1 v fs.length fs*(X*aV p g s lg (D fs.length))) w:=h.to (by ac_rfl);have hu:=MT (w0:=w0) (A:=A) (Be:=Be) (Br:=Br) (n:=fs.length) (v:=v) (fs:=fs) he (by omega) (λk=>X*aV p g s lg (D k)) (λG k W hk hW=>by obtain ⟨f,cs,e1,e2,e3⟩:=hU k hk;exact ⟨f,cs,e1,e2,(e3 G W (hW.to (by ac_rfl))).mono λ_ W' h=>h.to (by ac_rfl)⟩) h1
  refine CallsD.mono hu ?_;rintro e' u' w' ⟨hu',v',hv',h2⟩;refine ⟨hu',v',hv',?_⟩;have h3:St w0 (A*(X*aV p g s lg (D 0))*pt Be (.cells #[.int .i64 e] 47 (0,0))) w':=h2.swap;refine vE henv ((cell_of h3.look).trans rfl) ?_;simp;refine hK w' ?_;rw [if_neg he];exact h3.drop.cut X (by ac_rfl)
def zA:HC:=(.seq (.reg (.eff .callv (.cons (.inp 3) .nil) (.eff (.st 1) (.cons (.inp 4) (.cons (.bv 0) .nil)) (.done [] none)))) .ret)
@[simp] theorem Xp:type_of%(@aH zA _ zA.eq_1):=aH zA.eq_1
def zB:HC:=(.reg (.chk none (.bin .add) (.cons (.inp 12) (.cons (.cst (.int .i64 1)) .nil)) (.done [(12,(.op (.bin .add) (.cons (.inp 12) (.cons (.cst (.int .i64 1)) .nil))))] none)))
@[simp] theorem Xq:type_of%(@aH zB _ zB.eq_1):=aH zB.eq_1
def zC:HC:=(.seq (.reg (.eff (.st 1) (.cons (.inp 4) (.cons (.inp 9) .nil)) (.done [] none))) .ret)
@[simp] theorem Xr:type_of%(@aH zC _ zC.eq_1):=aH zC.eq_1
def zD:HC:=(.br (.chk none (.bin .neq) (.cons (.inp 9) (.cons (.cst (.int .i64 0)) .nil)) (.done [] (some (.op (.bin .neq) (.cons (.inp 9) (.cons (.cst (.int .i64 0)) .nil)))))) zC .skip)
@[simp] theorem Xs:type_of%(@aH zD _ zD.eq_1):=aH zD.eq_1
def zE:HC:=(.seq (.reg (.eff (.ld true 3) (.cons (.inp 8) .nil) (.eff (.call 306) (.cons (.inp 0) (.cons (.inp 1) (.cons (.bv 0) (.cons (.inp 7) .nil)))) (.done [(9,(.bv 1))] none)))) zD)
@[simp] theorem Xt:type_of%(@aH zE _ zE.eq_1):=aH zE.eq_1
def zF:HC:=(.seq (.reg (.chk none (.idxL 3) (.cons (.inp 10) (.cons (.inp 12) .nil)) (.eff (.ld true 3) (.cons (.op (.idxL 3) (.cons (.inp 10) (.cons (.inp 12) .nil))) .nil) (.eff (.new 90 (.agg #[(.int .i64 0),(.int .i64 0),(.int .u64 0)])) .nil (.eff (.st 3) (.cons (.bv 1) (.cons (.bv 0) .nil)) (.done [(8,(.bv 1))] none)))))) zE)
@[simp] theorem Xu:type_of%(@aH zF _ zF.eq_1):=aH zF.eq_1
def zG:HC:=(.seq (.block 1 zF) zB)
@[simp] theorem Xv:type_of%(@aH zG _ zG.eq_1):=aH zG.eq_1
def zH:HC:=(.seq (.br (.chk none (.bin .lss) (.cons (.inp 12) (.cons (.inp 11) .nil)) (.done [] (some (.op (.bin .lss) (.cons (.inp 12) (.cons (.inp 11) .nil)))))) .skip (.exit 0)) zG)
@[simp] theorem Xw:type_of%(@aH zH _ zH.eq_1):=aH zH.eq_1
def zI:HC:=(.loop zH)
@[simp] theorem Xx:type_of%(@aH zI _ zI.eq_1):=aH zI.eq_1
def zJ:HC:=(.seq (.block 0 zI) zA)
@[simp] theorem Xy:type_of%(@aH zJ _ zJ.eq_1):=aH zJ.eq_1
def sL:HC:=(.reg (.chk none (.mkf (.func 303) 0) (.cons (.inp 6) .nil) (.done [(7,(.op (.mkf (.func 303) 0) (.cons (.inp 6) .nil)))] none)))
@[simp] theorem Ti:type_of%(@aH sL _ sL.eq_1):=aH sL.eq_1
def sM:HC:=(.seq (.reg (.eff (.new 353 (.slice none 0 0)) .nil (.done [(6,(.bv 0))] none))) sL)
@[simp] theorem Tj:type_of%(@aH sM _ sM.eq_1):=aH sM.eq_1
def sN:HC:=(.seq (.reg (.eff (.st 1) (.cons (.inp 4) (.cons (.inp 5) .nil)) (.done [] none))) .ret)
@[simp] theorem Tk:type_of%(@aH sN _ sN.eq_1):=aH sN.eq_1
def sO:HC:=(.seq (.br (.chk none (.bin .neq) (.cons (.inp 5) (.cons (.cst (.int .i64 0)) .nil)) (.done [] (some (.op (.bin .neq) (.cons (.inp 5) (.cons (.cst (.int .i64 0)) .nil)))))) sN .skip) sM)
@[simp] theorem Tm:type_of%(@aH sO _ sO.eq_1):=aH sO.eq_1
def sP:HC:=(.seq (.reg (.eff (.call 302) (.cons (.inp 0) (.cons (.inp 1) .nil)) (.done [(5,(.bv 0))] none))) sO)
@[simp] theorem Tn:type_of%(@aH sP _ sP.eq_1):=aH sP.eq_1
def sQ:HC:=(.seq (.reg (.eff (.new 47 (.int .i64 0)) .nil (.done [(4,(.bv 0))] none))) sP)
@[simp] theorem Tp:type_of%(@aH sQ _ sQ.eq_1):=aH sQ.eq_1
def UB:oX:=⟨[0,1,2,3,8,9,10,11,13,14,23,24,25],40,[.cell 4 false 1],sQ,304,(.cons (.inp 4) (.cons (.inp 6) .nil)),(.seq (.reg (.chk none .lenL (.cons (.inp 2) .nil) (.done [(10,(.inp 2)),(11,(.op .lenL (.cons (.inp 2) .nil))),(12,(.cst (.int .i64 0)))] none))) zJ)⟩
theorem O7:Lw E0 218 400=some UB:=by kernel_rfl
set_option maxHeartbeats 1000000 in
theorem yE (p g s fb:Nat) (cs:Array Value) (lp lg c:Int) (gs:List Gf) (gv:Value) (bes:bD->Int×bD) (E:bD) (w0 w:World) (A:al)
  (hE:EI lp lg E) (hc: -9223372036854775808<=c/\c<9223372036854775808) (hx:∀x∈gs,0<=x.ab/\x.ab<18446744073709551616) (hn:gs.length<=4194304)
  (hB:1<=c->yL w0 A p g s lp lg fb cs.toList bes) (hr:Row w0 A gv gs.length 3 (ic gs)) (h:St w0 (A*aV p g s lg E) w):
  ak Tryz.prog 218 [.pointer (some ⟨s,0,none⟩),.int .i64 c,gv,.func (.func fb) #[] cs]
   (λr w'=>r= .int .i64 (aY c gs bes E).1/\St w0 (A*aV p g s lg (aY c gs bes E).2) w') w:=by
 refine tU O7 (by simp [UB]) ?_;simp [UB];refine bX h λBe w1 h1=> ?_;simp;have h1:St w0 (A*aV p g s lg E*pt Be (.cells #[.int .i64 0] 47 (0,0))) w1:=h1;clear h;refine ad ((Ep s c w1).mono ?_);rintro r w2 ⟨rfl,rfl⟩;simp;refine aN (λha=> ?_) (λha=> ?_)
 ·have hc1:c<1:=by simp [tJ] at ha;omega
  have hk:aY c gs bes E=(2,E):=by unfold aY;rw [if_pos hc1]
  simp;refine bj h1 rfl (by simp) λw3 h3=> ?_;have h3:St w0 (A*aV p g s lg E*pt Be (.cells #[.int .i64 2] 47 (0,0))) w3:=by simpa [tJ,hc1] using h3
  simp [SC];refine vE (a:=⟨Be,0,none⟩) (v:= .int .i64 2) rfl ((cell_of h3.look).trans rfl) ?_;simp;rw [hk];exact ⟨rfl,h3.drop⟩
 have hc1:1<=c:=by simp [tJ] at ha;omega
 have hB:=hB hc1;have hcc:1<=c/\c<9223372036854775808:=⟨hc1,hc.2⟩;simp;refine bX h1 λBr w3 h3=> ?_;simp;have h3:St w0 (A*aV p g s lg E*pt Be (.cells #[.int .i64 0] 47 (0,0))*pt Br (.cells #[.slice none 0 0] 353 (0,0))) w3:=h3;clear h1;obtain ⟨ga,gcap,rfl⟩:=hr.val;simp only [SC];simp;refine dB (λenv w'=>∃(i:Nat) (o5 o8 o9:Value) (X:al) (fs:List Value) (D:Nat->bD) (v:Value),
   env= [.pointer (some ⟨s,0,none⟩),.int .i64 c,.slice ga gs.length gcap,.func (.func fb) #[] cs,.pointer (some ⟨Be,0,none⟩),o5,.pointer (some ⟨Br,0,none⟩),.func (.func 303) #[] #[.pointer (some ⟨Br,0,none⟩)],o8,o9,.slice ga gs.length gcap,.int .i64 gs.length,.int .i64 i]/\
   i<=gs.length/\(aR c (gs.take i) E).1=0/\gB w0 p g s lg X fs D/\D fs.length=(aR c (gs.take i) E).2/\D 0=E/\fs.length<=2*i/\
   St w0 (A*pt Be (.cells #[.int .i64 0] 47 (0,0))*X*pt Br (.cells #[v] 353 (0,0))*own 1 1 v fs.length fs*aV p g s lg (aR c (gs.take i) E).2) w')
  (λenv _=>gs.length -ax env 12) ⟨0,_,_,_,emp,[],λ_=>E,.slice none 0 0,rfl,by omega,rfl,Gg,rfl,rfl,by simp,?_⟩ ?_
 ·have:=h3.aG 1 1
  refine this.to ?_;simp only [List.take_zero,aR,List.length_nil];rw [aq];ac_rfl
 rintro LQ env w' ⟨i,o5,o8,o9,X,fs,D,v,rfl,hi,hg0,hU,hD,hD0,hfs,s1⟩ hN hX hR;have hEi:EI lp lg (aR c (gs.take i) E).2:=pL hcc hE λx hx'=>(hx x (List.mem_of_mem_take hx')).1;simp;refine aN (λh=> ?_) (λh=> ?_)
 ·simp at h
  obtain ⟨g',o',cap',hv,hcell⟩:=hr.at (by omega);cases hv;have htk:=uI c gs E i h hg0;generalize hEE:(aR c (gs.take i) E).2=Ei at*;simp [h];have sA:St w0 A w':=s1.cut (pt Be (.cells #[.int .i64 0] 47 (0,0))*X*pt Br (.cells #[v] 353 (0,0))*own 1 1 v fs.length fs*aV p g s lg Ei) (by ac_rfl);refine aB (vs:=gs[i].cs) (λj u hu=>by rw [Nat.add_assoc];exact hcell w' sA _ _ (CA h j u hu)) rfl ?_;simp;refine bX s1 λb w2 s2=> ?_;simp;refine dg (vs:=gs[i].cs) s2 rfl rfl (Fq _) (by simp) λw3 s3=> ?_;simp;have s4:St w0 (A*pt Be (.cells #[.int .i64 0] 47 (0,0))*X*pt Br (.cells #[v] 353 (0,0))*own 1 1 v fs.length fs*aV p g s lg Ei*pt b (.cells gs[i].cs.toArray 90 (0,0))) w3:=by simpa [Gf.cs] using s3
  refine aB (vs:=gs[i].cs) s4.ah rfl ?_;simp;have hxi:=hx gs[i] (List.getElem_mem h);refine ad ((I5 p g s Br (2*i) lp lg c gs[i] Ei E v fs X D w0 w3 (A*pt Be (.cells #[.int .i64 0] 47 (0,0))) hEi hcc hxi hfs (by omega) hU hD hD0 s4.drop).mono ?_);rintro r w4 ⟨rfl,X',fs',D',v',hU',hD',hD0',hfs',s5⟩;simp;refine aN (λhg=> ?_) (λhg=> ?_)
  ·simp at hg
   simp;refine bj (s5.to (B:=A*X'*pt Br (.cells #[v'] 353 (0,0))*own 1 1 v' fs'.length fs'*aV p g s lg (bP c gs[i] Ei).2*pt Be (.cells #[.int .i64 0] 47 (0,0))) (by ac_rfl)) rfl (by simp) λw5 s6=> ?_;simp;refine hR _ _ ?_;simp [Fb];have hbad:=xF c gs E (i+1) (by rw [htk,if_pos hg];exact hg);rw [htk,if_pos hg] at hbad;have hk:aY c gs bes E=((bP c gs[i] Ei).1,E):=by unfold aY;rw [if_neg (by omega),hbad,if_pos hg]
   refine D1 (K:=λr w'=>r= .int .i64 (aY c gs bes E).1/\St w0 (A*aV p g s lg (aY c gs bes E).2) w') (A:=A) (e:=(bP c gs[i] Ei).1) (E2:=(bP c gs[i] Ei).2) hU' (by omega) ?_ (λw' hw=> ?_) (λ_=>hD'.symm) (s6.to (by simp;ac_rfl))
   ·rfl
   rw [if_neg hg,hD0'] at hw;rw [hk];exact ⟨rfl,hw⟩
  ·simp at hg
   simp
   try simp (disch:=omega) only [wrap64]
   rw [if_neg (by simp [hg])] at htk;refine hN _ _ ⟨i+1,_,_,_,X',fs',D',v',by simp;exact ⟨rfl,rfl,rfl⟩,by omega,by rw [htk],hU',by rw [htk];exact hD',hD0',by omega,?_⟩ (by simp [ax];omega);rw [htk];exact s5
 ·simp at h
  simp;have hin:i=gs.length:=by omega
  subst hin;rw [List.take_length] at*;generalize hEE:(aR c gs E).2=Ei at*;refine hX _ _ _ ?_;simp;refine bO hB.body ?_;simp only [List.nil_append,Array.toList_empty,List.append_nil];refine (hB.call (pt Be (.cells #[.int .i64 0] 47 (0,0))*X*pt Br (.cells #[v] 353 (0,0))*own 1 1 v fs.length fs) Ei w' hEi (s1.to (by ac_rfl))).mono ?_;rintro r w4 ⟨rfl,s5⟩;simp;refine bj (s5.to (B:=A*X*pt Br (.cells #[v] 353 (0,0))*own 1 1 v fs.length fs*aV p g s lg (bes Ei).2*pt Be (.cells #[.int .i64 0] 47 (0,0))) (by ac_rfl)) rfl (by simp) λw5 s6=> ?_;simp [Fb];refine D1 (K:=λr w'=>r= .int .i64 (aY c gs bes E).1/\St w0 (A*aV p g s lg (aY c gs bes E).2) w') (A:=A) (e:=(bes Ei).1) (E2:=(bes Ei).2) hU (by omega) ?_ (λw' hw=> ?_) (λhne=>by rw [hB.no _ hne,hD]) (s6.to (by simp;ac_rfl))
  ·rfl
  have hk:aY c gs bes E=if (bes Ei).1≠0 then ((bes Ei).1,E) else (0,(bes Ei).2):=by unfold aY;rw [if_neg (by omega),if_neg (by simp [hg0]),hEE]
  rw [hk]
  by_cases hz:(bes Ei).1=0
  ·rw [if_pos hz] at hw
   rw [if_neg (by simp [hz])];exact ⟨by rw [hz],hw⟩
  ·rw [if_neg hz,hD0] at hw
   rw [if_pos hz];exact ⟨rfl,hw⟩
def bOa:Nat->PO
 |0=>(.mkf (.func 219) 0)
 |1=> .chkp
 |2=>(.fld 2)
 |3=>(.bin .neq)
 |4=>(.fld 1)
 |5=> .lenL
 |6=>(.bin .gtr)
 |7=>(.mkf (.func 310) 0)
 |_=> .same
def ZI:Nat->EO
 |0=>(.ld false 1)
 |1=>(.ld true 5)
 |2=>(.call 220)
 |3=>(.box 105)
 |4=>(.box 3)
 |5=>(.box 34)
 |6=>(.call 218)
 |7=>(.call 136)
 |8=>(.look 226 false)
 |9=>(.call 311)
 |_=> .an
def d0a:Nat->Value
 |0=>(.int .i64 0)
 |1=>(.slice none 0 0)
 |2=>(.int .u64 0)
 |3=>(.bool true)
 |4=>(.int .i64 170)
 |_=>undef
def DU:dk:=⟨bOa,ZI,d0a⟩
def UC:ai:=⟨[0,1,2,3],8,[.slot 3],aW DU [] 0x39bff8a28a2dd10c3532442e330b1081c4103c027dd2003⟩
theorem O8:aj E0 219 400=some UC:=by kernel_rfl
def Ub:ai:=⟨[0,1,2,3,4,5,7,8],14,[.slot 7],aW DU [] 0xe6ffe28bbdd1087514c9553d190150100402e33194f46405404031140c440278a289a6596764801d1086e05cc4c43171044f03⟩
theorem Ot:aj E0 136 400=some Ub:=by kernel_rfl
def Ua:ai:=⟨[0,1,2,5,6],11,[.slot 4],aW DU [] 0xe6ffe28b7e04514cb34814014001f10ff89a6764801330f1085⟩
theorem Oo:aj E0 134 400=some Ua:=by kernel_rfl
def U7:ai:=⟨[0,1,2],20,[.slot 2],aW DU [] 0x2ce6fff74800aabc0b2fff74840a273b8a272391f6d20d844489cee289c71f6d5d4056647a146611135015991e851a647a172447446fb1040d34991141100d26445044991141f004445750910c3d424430f2442e3ac41034d26cc1080d26cc10a6cc1f000e7dd2002⟩
theorem P6:aj E0 310 400=some U7:=by kernel_rfl
def UF:ai:=⟨[0,1,2,3,4,6],12,[.slot 5],aW DU [] 0xe6ffe28bbdd1085514c95f444031d00b8cc6f444031f1100c430278a26996764801781330f1044f03⟩
theorem Pa:aj E0 221 400=some UF:=by kernel_rfl
abbrev Ws (b4 b5 b6 s:Nat) (c:Int) (x:Et) (pr:Int) (wv:Value):al:=
 pt b4 (.cells #[.pointer (some ⟨s,0,none⟩)] 105 (0,0))*pt b5 (.cells #[.int .i64 c] 3 (0,0))*pt b6 (.cells (x.cs pr wv).toArray 34 (0,0))
theorem Bw (p g s b4 b5 b6:Nat) (lp lg c pr:Int) (x:Et) (wv:Value) (w0:World) (A:al) (hx:0<=x.ab/\x.ab<18446744073709551616) (hc:c<9223372036854775808) (hc1:1<=c):
  yL w0 (A*Ws b4 b5 b6 s c x pr wv) p g s lp lg 219 [.pointer (some ⟨b4,0,none⟩),.pointer (some ⟨b5,0,none⟩),.pointer (some ⟨b6,0,none⟩)] (aK c x) where
 body:=by kernel_rfl
 no:=λE h=>AY h
 call:=by
  intro G E W hE h;have f4:=(h.to (B:=A*G*aV p g s lg E*pt b5 (.cells #[.int .i64 c] 3 (0,0))*pt b6 (.cells (x.cs pr wv).toArray 34 (0,0))*pt b4 (.cells #[.pointer (some ⟨s,0,none⟩)] 105 (0,0))) (by simp only [Ws];ac_rfl)).look;have f5:=(h.to (B:=A*G*aV p g s lg E*pt b4 (.cells #[.pointer (some ⟨s,0,none⟩)] 105 (0,0))*pt b6 (.cells (x.cs pr wv).toArray 34 (0,0))*pt b5 (.cells #[.int .i64 c] 3 (0,0))) (by simp only [Ws];ac_rfl)).look;have f6:=(h.to (B:=A*G*aV p g s lg E*pt b4 (.cells #[.pointer (some ⟨s,0,none⟩)] 105 (0,0))*pt b5 (.cells #[.int .i64 c] 3 (0,0))*pt b6 (.cells (x.cs pr wv).toArray 34 (0,0))) (by simp only [Ws];ac_rfl)).ah;refine aE O8 (by simp [UC]) ?_;simp [UC];refine af (v:= .pointer (some ⟨s,0,none⟩)) ((cell_of f4).trans rfl) ?_;simp;refine af (v:= .int .i64 c) ((cell_of f5).trans rfl) ?_;simp;refine aB (vs:=x.cs pr wv) f6 rfl ?_;simp
  refine ad ((fA p g s lp lg c pr x wv E w0 W _ hE ⟨hc1,hc⟩ hx h).mono ?_);rintro r w2 ⟨rfl,h2⟩;simp;exact h2
theorem wV (p g s:Nat) (lp lg c pr:Int) (gs:List Gf) (gv:Value) (x:Et) (wv:Value) (E:bD) (w0 w:World) (A:al)
  (hE:EI lp lg E) (hc: -9223372036854775808<=c/\c<9223372036854775808) (hx:∀x∈gs,0<=x.ab/\x.ab<18446744073709551616) (hxe:0<=x.ab/\x.ab<18446744073709551616) (hn:gs.length<=4194304)
  (hr:Row w0 A gv gs.length 3 (ic gs)) (h:St w0 (A*aV p g s lg E) w):
  ak Tryz.prog 136 [.pointer (some ⟨s,0,none⟩),.int .i64 c,gv,.agg (x.cs pr wv).toArray]
   (λr w'=>r= .int .i64 (aY c gs (aK c x) E).1/\St w0 (A*aV p g s lg (aY c gs (aK c x) E).2) w') w:=by
 refine aE Ot (by simp [Ub]) ?_;simp [Ub];refine bA h λb4 w1 h1=> ?_;simp;refine bA h1 λb5 w2 h2=> ?_;simp;refine bA h2 λb6 w3 h3=> ?_;simp;have f6:w3.cell? ⟨b4,0,none⟩=some (.pointer (some ⟨s,0,none⟩)):=(cell_of h3.drop.drop.look).trans rfl;have f5:w3.cell? ⟨b5,0,none⟩=some (.int .i64 c):=(cell_of h3.drop.look).trans rfl;refine af f6 ?_;simp;refine af f5 ?_;simp;have h4:St w0 (A*Ws b4 b5 b6 s c x pr wv*aV p g s lg E) w3:=h3.to (by simp only [Ws,qA,Value.cells];ac_rfl);refine ad ((yE p g s 219 _ lp lg c gs gv (aK c x) E w0 w3 (A*Ws b4 b5 b6 s c x pr wv) hE hc hx hn (λhc1=>Bw p g s b4 b5 b6 lp lg c pr x wv w0 A hxe hc.2 hc1) (hr.mono λw s=>s.drop) h4).mono ?_);rintro r w4 ⟨rfl,h5⟩;simp;exact h5.swap.drop
theorem nU (w0:World) (A:al) (size:Nat):Row w0 A (.slice none 0 0) 0 size []:=⟨by simp,none,0,rfl,Nat.le_refl _,.inl rfl⟩
theorem pb (p g s:Nat) (lp lg c pr:Int) (x:Et) (wv:Value) (E:bD) (w0 w:World) (A:al)
  (hE:EI lp lg E) (hc: -9223372036854775808<=c/\c<9223372036854775808) (hxe:0<=x.ab/\x.ab<18446744073709551616) (h:St w0 (A*aV p g s lg E) w):
  ak Tryz.prog 134 [.pointer (some ⟨s,0,none⟩),.int .i64 c,.agg (x.cs pr wv).toArray]
   (λr w'=>r= .int .i64 (aY c [] (aK c x) E).1/\St w0 (A*aV p g s lg (aY c [] (aK c x) E).2) w') w:=by
 refine aE Oo (by simp [Ua]) ?_;simp [Ua];refine bA h λb w1 h1=> ?_;simp;have h2:St w0 (A*aV p g s lg E*pt b (.cells (x.cs pr wv).toArray 34 (0,0))) w1:=h1;refine aB (vs:=x.cs pr wv) h2.ah rfl ?_;simp;refine ad ((wV p g s lp lg c pr [] (.slice none 0 0) x wv E w0 w1 A hE hc (by simp) hxe (by simp) (nU w0 A 3) h2.drop).mono ?_);rintro r w2 ⟨rfl,h3⟩;simp;exact h3
abbrev AI (b4 b5 s:Nat) (c:Int):al:=pt b4 (.cells #[.pointer (some ⟨s,0,none⟩)] 105 (0,0))*pt b5 (.cells #[.int .i64 c] 3 (0,0))
theorem Cs (p g s b4 b5:Nat) (lp lg c:Int) (w0:World) (A:al):
  yL w0 (A*AI b4 b5 s c) p g s lp lg 310 [.pointer (some ⟨b4,0,none⟩),.pointer (some ⟨b5,0,none⟩)] (mq c) where
 body:=by kernel_rfl
 no:=λE h=>rfl
 call:=by
  intro G E W hE h;have hlen:E.ae.length<=1048576:=by have:=hE.G.len;have:=hE.G.lim;omega
  obtain ⟨m,es,cl,hH,h1⟩:=xu (h.to (B:=A*G*AI b4 b5 s c*Gd.cf g lg E.ae*Pu.cr p E.P*iG s p g E.l) (by simp only [aV];ac_rfl));have f4:=λ{w:World} (h:St w0 (A*G*AI b4 b5 s c*Gd.cf g lg E.ae*Pu.cr p E.P*mu s p g m*aF m es cl) w)=>(cell_of (off:=0) (h.to (B:=A*G*Gd.cf g lg E.ae*Pu.cr p E.P*mu s p g m*aF m es cl*pt b5 (.cells #[.int .i64 c] 3 (0,0))*pt b4 (.cells #[.pointer (some ⟨s,0,none⟩)] 105 (0,0))) (by simp only [AI];ac_rfl)).look).trans (rfl:_=some (Value.pointer (some ⟨s,0,none⟩)));have f5:=λ{w:World} (h:St w0 (A*G*AI b4 b5 s c*Gd.cf g lg E.ae*Pu.cr p E.P*mu s p g m*aF m es cl) w)=>(cell_of (off:=0) (h.to (B:=A*G*Gd.cf g lg E.ae*Pu.cr p E.P*mu s p g m*aF m es cl*pt b4 (.cells #[.pointer (some ⟨s,0,none⟩)] 105 (0,0))*pt b5 (.cells #[.int .i64 c] 3 (0,0))) (by simp only [AI];ac_rfl)).look).trans (rfl:_=some (Value.int .i64 c))
  have s1:=λ{w:World} (h:St w0 (A*G*AI b4 b5 s c*Gd.cf g lg E.ae*Pu.cr p E.P*mu s p g m*aF m es cl) w)=>(cell_of (off:=1) h.swap.look).trans (rfl:_=some (Value.pointer (some ⟨g,0,none⟩)));have s2:=λ{w:World} (h:St w0 (A*G*AI b4 b5 s c*Gd.cf g lg E.ae*Pu.cr p E.P*mu s p g m*aF m es cl) w)=>(cell_of (off:=2) h.swap.look).trans (rfl:_=some (Value.map (some m)));have hm:=λ{w:World} (h:St w0 (A*G*AI b4 b5 s c*Gd.cf g lg E.ae*Pu.cr p E.P*mu s p g m*aF m es cl) w)=>h.look;have hin:=λ{w:World} (h:St w0 (A*G*AI b4 b5 s c*Gd.cf g lg E.ae*Pu.cr p E.P*mu s p g m*aF m es cl) w)=>Gd.M9 g lg E.ae c w0 w (A*G*AI b4 b5 s c*Pu.cr p E.P*mu s p g m*aF m es cl) hlen (h.to (by ac_rfl));have hout:=λ{w:World} (h:St w0 (A*G*AI b4 b5 s c*Gd.cf g lg E.ae*Pu.cr p E.P*mu s p g m*aF m es cl) w)=>(lO hH h).to (B:=A*AI b4 b5 s c*G*aV p g s lg E) (by simp only [aV];ac_rfl)
  have hinZ:=λ{v:Value} {w:World} (h:St w0 (A*G*AI b4 b5 s c*Pu.cr p E.P*mu s p g m*aF m es cl*Gd.cf g lg E.ae*own 3 1 v (Gd.eD E.ae c).length (Gd.ints (Gd.eD E.ae c))) w)=>h.to (B:=A*G*AI b4 b5 s c*Gd.cf g lg E.ae*Pu.cr p E.P*mu s p g m*aF m es cl*own 3 1 v (Gd.eD E.ae c).length (Gd.ints (Gd.eD E.ae c))) (by ac_rfl);generalize hBB:A*G*AI b4 b5 s c*Gd.cf g lg E.ae*Pu.cr p E.P*mu s p g m*aF m es cl=B at h1 f4 f5 s1 s2 hm hin hout hinZ;refine aE P6 (by simp [U7]) ?_;simp [U7];refine Sn (λvs w=>match vs with
   | []=>St w0 B w
   |v::_=>St w0 (B*own 3 1 v (Gd.eD E.ae c).length (Gd.ints (Gd.eD E.ae c))) w) h1.drew ?_
  have low:∀{vs:List Value} {w:World},(match vs with
   | []=>St w0 B w
   |v::_=>St w0 (B*own 3 1 v (Gd.eD E.ae c).length (Gd.ints (Gd.eD E.ae c))) w)->St w0 B w:=by
   intro vs w h;cases vs with
   |nil=>exact h
   |cons _ _=>exact St.drop h
  simp;refine au (v:= .pointer (some ⟨s,0,none⟩)) (λvs' w he hw=>f4 (low hw)) ?_;simp;refine au (v:= .map (some m)) (λvs' w he hw=>s2 (low hw)) ?_;simp;refine au (v:= .int .i64 c) (λvs' w he hw=>f5 (low hw)) ?_;simp;refine ox Fg (m:=m) (es:=es) (c:=cl) (λvs' w he hw=>hm (low hw)) ?_;rw [(hH.get hE.R c).1];simp
  by_cases hz:ck E.l c=0
  ·simp [hz]
   refine au (v:= .pointer (some ⟨s,0,none⟩)) (λvs' w he hw=>f4 (low hw)) ?_;simp;refine au (v:= .pointer (some ⟨g,0,none⟩)) (λvs' w he hw=>s1 (low hw)) ?_;simp;refine au (v:= .int .i64 c) (λvs' w he hw=>f5 (low hw)) ?_;simp;refine bG (by rfl) (λw hw=>ad ((hin hw).mono ?_)) (λr hr=> ?_)
   ·intro r w' h
    exact hinZ h
   obtain ⟨w',hr⟩:=hr;obtain ⟨a,cap,rfl,_⟩:=St.ay hr;simp;intro w2 h2;refine aN (λhg=> ?_) (λhg=> ?_)
   ·simp at hg
    have hk:mq c E=(170,E):=by unfold mq;rw [if_pos (.inr (by omega))]
    simp;rw [hk];exact ⟨rfl,hout h2.drop⟩
   ·simp at hg
    have hk:mq c E=(0,E):=by unfold mq;rw [if_neg (by simp [hz,hg])]
    simp;rw [hk];exact ⟨rfl,hout h2.drop⟩
  ·simp [hz]
   intro w2 h2;have hk:mq c E=(170,E):=by unfold mq;rw [if_pos (.inl hz)]
   rw [hk];exact ⟨rfl,hout h2⟩
theorem Kc (p g s:Nat) (lp lg c:Int) (gs:List Gf) (gv:Value) (E:bD) (w0 w:World) (A:al)
  (hE:EI lp lg E) (hc: -9223372036854775808<=c/\c<9223372036854775808) (hx:∀x∈gs,0<=x.ab/\x.ab<18446744073709551616) (hn:gs.length<=4194304)
  (hr:Row w0 A gv gs.length 3 (ic gs)) (h:St w0 (A*aV p g s lg E) w):
  ak Tryz.prog 221 [.pointer (some ⟨s,0,none⟩),.int .i64 c,gv]
   (λr w'=>r= .int .i64 (aY c gs (mq c) E).1/\St w0 (A*aV p g s lg (aY c gs (mq c) E).2) w') w:=by
 refine aE Pa (by simp [UF]) ?_;simp [UF];refine bA h λb4 w1 h1=> ?_;simp;refine bA h1 λb5 w2 h2=> ?_;simp;have f6:w2.cell? ⟨b4,0,none⟩=some (.pointer (some ⟨s,0,none⟩)):=(cell_of h2.drop.look).trans rfl;have f5:w2.cell? ⟨b5,0,none⟩=some (.int .i64 c):=(cell_of h2.look).trans rfl;refine af f6 ?_;simp;refine af f5 ?_;simp;have h4:St w0 (A*AI b4 b5 s c*aV p g s lg E) w2:=h2.to (by simp only [AI,Value.cells];ac_rfl);refine ad ((yE p g s 310 _ lp lg c gs gv (mq c) E w0 w2 (A*AI b4 b5 s c) hE hc hx hn (λhc1=>Cs p g s b4 b5 lp lg c w0 A) (hr.mono λw s=>s.drop) h4).mono ?_);rintro r w4 ⟨rfl,h5⟩;simp;exact h5.swap.drop
def oT (l:List Int):List Value:=l.map (Value.int .u64)
theorem Rg {l:List Int} {i:Nat} (h:i<l.length):(oT l)[i]?=some (.int .u64 l[i]):=by simp [oT,h]
def oQ (s:Int):List Int->Int×Int
 | []=>(s,0)
 |x::t=>if s+x<18446744073709551616 then oQ (s+x) t else (0,10)
theorem Kn (l:List Int) (v:Value) (w0 w:World) (A:al) (hn:l.length<=2097152) (hb:∀x∈l,0<=x/\x<18446744073709551616) (hr:Row w0 A v l.length 1 (oT l)) (h:St w0 A w):
  ak Tryz.prog 158 [v] (λr w'=>r= .tuple #[.int .u64 (oQ 0 l).1,.int .i64 (oQ 0 l).2]/\St w0 A w') w:=by
 refine aE OL (by simp [Un]) ?_;simp [Un];obtain ⟨a,cap,rfl⟩:=hr.val;simp;refine dB (λenv w'=>∃(i:Nat) (t:Int) (o1 o2 o4 o5 o6:Value),env= [.slice a l.length cap,o1,o2,.int .u64 t,o4,o5,o6,.slice a l.length cap,.int .i64 l.length,.int .i64 i]/\i<=l.length/\(0<=t/\t<18446744073709551616)/\oQ 0 l=oQ t (l.drop i)/\St w0 A w')
  (λenv _=>l.length -ax env 9) ⟨0,0,_,_,_,_,_,rfl,by omega,by omega,rfl,h⟩ ?_
 rintro LQ env w' ⟨i,t,o1,o2,o4,o5,o6,rfl,hi,ht,hs,s1⟩ hN hX hR;simp;refine aN (λhc=> ?_) (λhc=> ?_)
 ·simp at hc
  obtain ⟨g,o,cap',hv,hcell⟩:=hr.at (by omega);cases hv;simp [hc];refine af (hcell w' s1 i _ (Rg hc)) ?_;simp;have hx:=hb l[i] (List.getElem_mem hc);refine ad ((J9 t l[i] w' ht hx).mono ?_);rintro r w2 ⟨rfl,rfl⟩;simp;rw [List.drop_eq_getElem_cons hc,oQ] at hs
  by_cases hf:t+l[i]<18446744073709551616
  ·rw [if_pos hf] at hs
   simp [hf]
   try simp (disch:=omega) only [wrap64]
   exact hN _ _ ⟨i+1,t+l[i],_,_,_,_,_,rfl,by omega,by omega,hs,s1⟩ (by simp [ax];omega)
  ·rw [if_neg hf] at hs
   simp [hf];refine hR _ _ ?_;simp [hs];exact s1
 ·simp at hc
  simp;refine hX _ _ _ ?_;have:i=l.length:=by omega
  subst this;rw [List.drop_length,oQ] at hs;simp [hs];exact s1
def Rw.cs (r:Rw):List Value:= [.int .i64 r.1,.int .u64 r.2]
def Dz (l:List Rw):List Value:=l.flatMap Rw.cs
theorem Mo (x:Rw):x.cs.length=2:=rfl
theorem Wk (x:Rw):∀u∈x.cs,u.oneCell'=true:=by intro u hu;simp only [Rw.cs,List.mem_cons,List.not_mem_nil,or_false] at hu;rcases hu with rfl|rfl<;>rfl
theorem Mj {l:List Rw} {i:Nat} (h:i<l.length):∀j u,(l[i].cs)[j]?=some u->(Dz l)[i*2+j]?=some u:=by
 intro j u hu;have hj:j<2:=by
  have:=(List.getElem?_eq_some_iff.1 hu).1
  rwa [Mo] at this
 unfold Dz;rw [fW Rw.cs 2 Mo l i j h hj];exact hu
instance (l:List Rw):Decidable (gy l):=inferInstanceAs (Decidable (l.Pairwise (λa b=>a.1<b.1)/\∀r∈l,1<=r.1/\r.1<9223372036854775808/\0<r.2))
def qH (rows:List Rw) (held:Int):Int:=if gy rows then (if kl rows=held then 0 else 170) else 2
theorem CL {k v:Int}:∀{l:List Rw},(∀r∈l,r.1<k)->ins k v l=l++ [(k,v)]
 | [],_=>rfl
 |r::t,h=>by simp only [ins];rw [if_neg (by have:=h r (.head _);omega),CL λx hx=>h x (.tail _ hx)];rfl
theorem Q4 {l:List Rw} {r:Rw} (h:gy l) (h1:∀x∈l,x.1<r.1) (h2:1<=r.1/\r.1<9223372036854775808/\0<r.2):gy (l++ [r]):=by
 refine ⟨?_,λx hx=> ?_⟩
 ·rw [List.pairwise_append]
  exact ⟨h.1,by simp,λa ha b hb=>by
   have:b=r:=by simpa using hb
   rw [this];exact h1 a ha⟩
 ·rcases List.mem_append.1 hx with hx|hx
  ·exact h.2 x hx
  ·have:x=r:=by simpa using hx
   rw [this];exact h2
def mU (l:List Rw):Int:=(l.getLast?.map (·.1)).getD 0
theorem l5 (l:List Rw) (r:Rw):mU (l++ [r])=r.1:=by simp [mU]
theorem xP {l:List Rw} (h:gy l):∀r∈l,r.1<=mU l:=by
 intro r hr;rcases List.eq_nil_or_concat l with rfl|⟨t,x,rfl⟩
 ·cases hr
 ·rw [List.concat_eq_append] at*
  rw [l5];have hp:=(List.pairwise_append.1 h.1).2.2;rcases List.mem_append.1 hr with hr|hr
  ·have:=hp r hr x (by simp);omega
  ·have:r=x:=by simpa using hr
   rw [this];omega
theorem AE {l:List Rw} (h:gy l):0<=mU l:=by
 rcases List.eq_nil_or_concat l with rfl|⟨t,x,rfl⟩
 ·simp [mU]
 ·rw [List.concat_eq_append] at*
  rw [l5];have:=(h.2 x (by simp)).1;omega
theorem Wj {l:List Rw} {i:Nat} (hi:i<l.length) (h:l[i].1<=mU (l.take i)\/l[i].2=0) (hok:gy (l.take i)):¬gy l:=by
 intro ok;rcases h with h|h
 ·rcases Nat.eq_zero_or_pos i with rfl|hp
  ·have:=(ok.2 l[0] (List.getElem_mem hi)).1
   simp [mU] at h;omega
  ·obtain ⟨j,rfl⟩:∃j,i=j+1:=⟨i -1,by omega⟩
   rw [List.take_succ_eq_append_getElem (by omega),l5] at h;have:=List.pairwise_iff_getElem.1 ok.1 j (j+1) (by omega) hi (by omega);omega
 ·have:=(ok.2 l[i] (List.getElem_mem hi)).2.2
  omega
theorem HR:∀{l:List Int} {s:Int},(∀x∈l,0<=x)->0<=s->((oQ s l).2=0/\(oQ s l).1=s+l.sum/\(l≠ []->s+l.sum<18446744073709551616))\/((oQ s l).2≠0/\18446744073709551616<=s+l.sum)
 | [],s,_,_=> .inl ⟨rfl,by simp [oQ],by simp⟩
 |x::t,s,hx,hs=>by
  have h0:=hx x (.head _);have ht:0<=t.sum:=by
   have:∀l:List Int,(∀x∈l,0<=x)->0<=l.sum:=by
    intro l
    induction l with
    |nil=>simp
    |cons a r ih=>intro h;have:=ih λx hx=>h x (.tail _ hx);have:=h a (.head _);simp;omega
   exact this t λx h=>hx x (.tail _ h)
  simp only [oQ,List.sum_cons];split
  ·rename_i hf
   rcases HR (l:=t) (s:=s+x) (λx h=>hx x (.tail _ h)) (by omega) with ⟨a,b,c⟩|⟨a,b⟩
   ·refine .inl ⟨a,by rw [b];omega,λ_=> ?_⟩
    by_cases e:t= []
    ·subst e;simp;omega
    ·have:=c e;omega
   ·exact .inr ⟨a,by omega⟩
  ·exact .inr ⟨by simp,by omega⟩
theorem Bl {l:List Rw} {i:Nat} (hi:i<l.length) (h:gy (l.take i)) (h1:mU (l.take i)<l[i].1) (h2:0<l[i].2) (h3:l[i].1<9223372036854775808):gy (l.take (i+1)):=by rw [List.take_succ_eq_append_getElem hi];have:=AE h;exact Q4 h (λx hx=>by have:=xP h x hx;omega) ⟨by omega,h3,h2⟩
theorem QF {rows:List Rw} {held:Int} (hok:gy rows) (hh:0<=held/\held<18446744073709551616):
  qH rows held=if (oQ 0 (rows.map (·.2))).2≠0\/(oQ 0 (rows.map (·.2))).1≠held then 170 else 0:=by
 unfold qH;rw [if_pos hok];have hnn:∀x∈rows.map (·.2),0<=x:=by intro x hx;obtain ⟨r,hr,rfl⟩:=List.mem_map.1 hx;have:=(hok.2 r hr).2.2;omega
 have hs:(rows.map (·.2)).sum=kl rows:=rfl;rcases HR hnn (s:=0) (by omega) with ⟨a,b,c⟩|⟨a,b⟩
 ·rw [a,b,hs]
  by_cases e:kl rows=held
  ·rw [if_pos e,if_neg (by simp;omega)]
  ·rw [if_neg e,if_pos (.inr (by simp;omega))]
 ·rw [hs] at b
  rw [if_neg (by omega),if_pos (.inl a)]
def bPa:Nat->PO
 |0=>(.eqNil false (.pointer 195) (.pointer none))
 |1=>(.eqNil false (.pointer 198) (.pointer none))
 |2=>(.build #[(.pointer none),(.pointer none),(.map none)] [(0,1),(1,1),(2,1)] [0,1,2])
 |3=> .lenL
 |4=>(.bin .lss)
 |5=>(.idxL 2)
 |6=>(.fld 0)
 |7=>(.bin .leq)
 |8=>(.fld 1)
 |9=>(.bin .eql)
 |10=> .chkp
 |11=>(.fld 2)
 |12=>(.bin .add)
 |13=>(.ext 0)
 |14=>(.ext 1)
 |15=>(.bin .neq)
 |_=> .same
def ZJ:Nat->EO
 |0=>(.mkm 226 false)
 |1=>(.box 228)
 |2=>(.ld true 2)
 |3=>(.new 231 (.agg #[(.int .i64 0),(.int .u64 0)]))
 |4=>(.st 2)
 |5=>(.ld false 1)
 |6=>(.lK 226)
 |7=>(.bsl 31 1 1 #[(.int .u64 0)] [0])
 |8=>(.app 229 229 31 1 8 (.int .u64 0))
 |9=>(.call 158)
 |10=>(.call 142)
 |11=>(.call 89)
 |_=> .an
def d1a:Nat->Value
 |0=>(.pointer none)
 |1=>(.int .i64 0)
 |2=>(.bool true)
 |3=>(.int .i64 1)
 |4=>(.slice none 0 0)
 |5=>(.tuple #[])
 |6=>(.int .u64 0)
 |7=>(.int .i64 2)
 |8=>(.int .i64 170)
 |_=>undef
def RY:dk:=⟨bPa,ZJ,d1a⟩
def l89:ai:=⟨[0,1,2,6,7,8,9,10,12,13,14,26,27,28],71,[.slot 3,.slot 4],aW RY [] 0xe79e79e6ffda676481110143a2f02cbff699d92e844800dc8e47db48263389c7db572e1648543eccf058cf2e1648543eccf066592150033281cd5d4140a04f0750502813ff89c71a676566cce04a0559b3341fa6cce066ccd0711feb6ee677375750d0341301341d4340d04c06de799fb8a2dd1087cb8407ea6cc7d31eba171ebaa5cefbee2698532442e331b4c7ae85c7aeb4c7a185c7a1b4d3114a04b045d3114a04b07114a0439fbdf31b4c7a185c7a1a8bc0b2ffda676487112003edc8dd91f6d2098e2271f6d5d46442f98e351910be996485571ebae05e31ebae15f46cc7f46cc7d31e86171e869fb8a2df8eb2cf81130f4f4d0502c1142f4d0502c1141a2f0af01c6d5f4c050341118f4c0503411009dc6996764813415710833014022c1c420e7dd21079f74811a78bbdf8174532cd0050002054cb3401400093028bc0b2ffda67648311200372375f6d7571041482cd8cf1041cd5f00f009da676481112003⟩
theorem VZ:aj E0 89 400=some l89:=by kernel_rfl
def TR:ai:=⟨[0,1,4,5],11,[.slot 2,.slot 3],aW RY [] 0x39bff89c71a676566cce043566ccd0429b33819b334153511005000bfda6764810d2002⟩
theorem N9:aj E0 107 400=some TR:=by kernel_rfl
set_option maxHeartbeats 1000000 in
theorem qv (p g:Nat) (lp lg:Int) (rows:List Rw) (v:Value) (P:Pu.Ps) (ae:List Gd.It) (w0 w:World) (A:al) (hP:Pu.PI lp P) (hn:rows.length<=2097152)
  (hb:∀r∈rows,(-9223372036854775808<=r.1/\r.1<9223372036854775808)/\0<=r.2/\r.2<18446744073709551616) (hr:Row w0 A v rows.length 2 (Dz rows)) (h:St w0 (A*Pu.cr p P*Gd.cf g lg ae) w):
  ak Tryz.prog 89 [.pointer (some ⟨p,0,none⟩),.pointer (some ⟨g,0,none⟩),v]
   (λr w'=>(qH rows P.held=0/\∃s,r= .tuple #[.pointer (some ⟨s,0,none⟩),.int .i64 0]/\St w0 (A*aV p g s lg ⟨P,ae,rows⟩) w')\/
    (qH rows P.held≠0/\r= .tuple #[.pointer none,.int .i64 (qH rows P.held)]/\St w0 (A*Pu.cr p P*Gd.cf g lg ae) w')) w:=by
 have hh:0<=P.held/\P.held<18446744073709551616:=by have:=hP.bd.held;omega
 refine aE VZ (by simp [l89]) ?_;simp [l89];refine um h λm w1 h1=> ?_;simp [Instr.fill,Value.cells];refine bA h1 λs w2 h2=> ?_;simp;have h2:St w0 (A*Pu.cr p P*Gd.cf g lg ae*aF m [] 0*mu s p g m) w2:=h2;clear h h1;obtain ⟨a,cap,rfl⟩:=hr.val;simp;refine dB (λenv w'=>∃(i:Nat) (all o3 o4 o8 o9 xW:Value) (es:List En) (cl:Nat),env= [.pointer (some ⟨p,0,none⟩),.pointer (some ⟨g,0,none⟩),.slice a rows.length cap,o3,o4,.pointer (some ⟨s,0,none⟩),.int .i64 (mU (rows.take i)),all,o8,o9,xW,.slice a rows.length cap,.int .i64 rows.length,.int .i64 i]/\
   i<=rows.length/\gy (rows.take i)/\EH es cl (rows.take i)/\St w0 (A*Pu.cr p P*Gd.cf g lg ae*mu s p g m*aF m es cl*own 31 1 all ((rows.take i).map (·.2)).length (oT ((rows.take i).map (·.2)))) w')
  (λenv _=>rows.length -ax env 13) ⟨0,_,_,_,_,_,_,[],0,rfl,by omega,⟨by simp,by simp⟩,⟨by simp,by simp,by simp,by simp⟩,?_⟩ ?_
 ·exact (h2.aG 31 1).to (by simp [oT];ac_rfl)
 rintro LQ env w' ⟨i,all,o3,o4,o8,o9,xW,es,cl,rfl,hi,hok,hE,s1⟩ hN hX hR;simp;refine aN (λhc=> ?_) (λhc=> ?_)
 ·simp at hc
  obtain ⟨g',o,cap',hv,hcell⟩:=hr.at (by omega);cases hv;have hbi:=hb rows[i] (List.getElem_mem hc);simp [hc];have sA:St w0 A w':=s1.cut (Pu.cr p P*Gd.cf g lg ae*mu s p g m*aF m es cl*own 31 1 all ((rows.take i).map (·.2)).length (oT ((rows.take i).map (·.2)))) (by ac_rfl);refine aB (vs:=rows[i].cs) (λj u hu=>by rw [Nat.add_assoc];exact hcell w' sA _ _ (Mj hc j u hu)) rfl ?_;simp;refine bX s1 λb w3 s3=> ?_;simp;refine dg (vs:=rows[i].cs) s3 rfl rfl (Wk _) (by simp) λw4 s4=> ?_;simp;have s5:St w0 (A*Pu.cr p P*Gd.cf g lg ae*mu s p g m*aF m es cl*own 31 1 all ((rows.take i).map (·.2)).length (oT ((rows.take i).map (·.2)))*pt b (.cells rows[i].cs.toArray 231 (0,0))) w4:=by simpa [Rw.cs] using s4
  refine af (v:= .int .i64 rows[i].1) ((cell_of s5.look).trans rfl) ?_;simp;have bad:(rows[i].1<=mU (rows.take i)\/rows[i].2=0)->qH rows P.held=2:=λhx=>by unfold qH;rw [if_neg (Wj hc hx hok)]
  have hout:St w0 (A*Pu.cr p P*Gd.cf g lg ae) w4:=s5.drop.drop.drop.drop
  by_cases hl:rows[i].1<=mU (rows.take i)
  ·simp [hl]
   refine hR _ _ ?_;simp;rw [bad (.inl hl)];exact ⟨by decide,rfl,hout⟩
  simp [hl];refine af (v:= .int .u64 rows[i].2) ((cell_of s5.look).trans rfl) ?_;simp;refine aN (λhz=> ?_) (λhz=> ?_)
  ·simp at hz
   simp;refine hR _ _ ?_;simp;rw [bad (.inr hz)];exact ⟨by decide,rfl,hout⟩
  simp at hz;simp;have hok':=Bl hc hok (by omega) (by omega) hbi.1.2;have hk:∀x∈rows.take i,x.1<rows[i].1:=λx hx=>by have:=xP hok x hx;omega
  refine af (v:= .int .i64 rows[i].1) ((cell_of s5.look).trans rfl) ?_;simp;have hget:dp es rows[i].1=none:=(hE.get hok rows[i].1).2.2 λx hx=>by have:=hk x hx;omega
  have hE':EH (es++ [⟨rows[i].1,.int .u64 rows[i].2,cl⟩]) (cl+1) (rows.take (i+1)):=by
   have h0:∀x∈rows.take i,x.1≠rows[i].1:=λx hx=>by have:=hk x hx;omega
   have:=hE.put (k:=rows[i].1) (v:=rows[i].2) hget h0;rw [jY h0,CL hk] at this;rw [List.take_succ_eq_append_getElem hc];exact this
  generalize hB:A*Pu.cr p P*Gd.cf g lg ae*mu s p g m*own 31 1 all ((rows.take i).map (·.2)).length (oT ((rows.take i).map (·.2)))*pt b (.cells rows[i].cs.toArray 231 (0,0))=B;have s6:St w0 (B*aF m es cl) w4:=by rw [<-hB];exact s5.to (by ac_rfl)
  have fs:=λ{w:World} {es:List En} {cl:Nat} (h:St w0 (B*aF m es cl) w)=>(cell_of (off:=2) ((h.to (B:=A*Pu.cr p P*Gd.cf g lg ae*own 31 1 all ((rows.take i).map (·.2)).length (oT ((rows.take i).map (·.2)))*pt b (.cells rows[i].cs.toArray 231 (0,0))*aF m es cl*mu s p g m) (by rw [<-hB];ac_rfl)).look)).trans (rfl:_=some (Value.map (some m)));have fb:=λ{w:World} {es:List En} {cl:Nat} (h:St w0 (B*aF m es cl) w)=>(h.to (B:=A*Pu.cr p P*Gd.cf g lg ae*own 31 1 all ((rows.take i).map (·.2)).length (oT ((rows.take i).map (·.2)))*mu s p g m*aF m es cl*pt b (.cells rows[i].cs.toArray 231 (0,0))) (by rw [<-hB];ac_rfl)).look;refine kG (Pu.rX (St w0 (B*aF m es cl)) (St w0 (B*aF m (es++ [⟨rows[i].1,.int .u64 rows[i].2,cl⟩]) (cl+1)))) s6.drew ?_;simp;refine au (v:= .map (some m)) (λvs' w he hw=>fs (iW he hw)) ?_;simp
  refine au (v:= .int .i64 rows[i].1) (λvs' w he hw=>(cell_of (off:=0) (fb (iW he hw))).trans rfl) ?_;simp;refine au (v:= .int .u64 rows[i].2) (λvs' w he hw=>(cell_of (off:=1) (fb (iW he hw))).trans rfl) ?_;simp;refine bG (by rfl) (λw hw=>mK Fg hw hget λw' h=>h) (λr hr=> ?_);simp;intro w5 s7;refine af (v:= .int .u64 rows[i].2) ((cell_of (off:=1) (fb s7)).trans rfl) ?_;simp;refine cw s7 rfl λc w6 s8=> ?_;simp;rw [<-hB] at s8;refine bE (m:=1) (news:= [.int .u64 rows[i].2]) (F:=A*Pu.cr p P*Gd.cf g lg ae*mu s p g m*pt b (.cells rows[i].cs.toArray 231 (0,0))*aF m (es++ [⟨rows[i].1,.int .u64 rows[i].2,cl⟩]) (cl+1)*pt c (.cells #[.int .u64 rows[i].2] 31 (0,0))) (s8.to (by ac_rfl)) rfl s8.aJ (by simp [Value.oneCell']) (by decide) rfl (by simp;unfold maxLen;omega) (by simp;omega) λv' w7 s9=> ?_;simp
  try simp (disch:=omega) only [wrap64]
  refine hN _ _ ⟨i+1,v',_,_,_,_,_,es++ [⟨rows[i].1,.int .u64 rows[i].2,cl⟩],cl+1,by simp;refine ⟨rfl,rfl,?_,rfl,rfl,rfl⟩;rw [List.take_succ_eq_append_getElem hc,l5],by omega,hok',hE',?_⟩ (by simp [ax];omega);refine s9.cut (pt b (.cells rows[i].cs.toArray 231 (0,0))*pt c (.cells #[.int .u64 rows[i].2] 31 (0,0))) ?_;rw [List.take_succ_eq_append_getElem hc];simp only [List.map_append,List.map_cons,List.map_nil,oT,List.length_append,List.length_map,List.length_cons,List.length_nil];ac_rfl
 ·simp at hc
  simp;refine hX _ _ _ ?_;have:i=rows.length:=by omega
  subst this;rw [List.take_length] at*;simp;have hlo:=QF hok hh;refine ad ((Kn (rows.map (·.2)) all w0 w' _ (by simpa using hn) (λx hx=>by obtain ⟨r,hr,rfl⟩:=List.mem_map.1 hx;exact (hb r hr).2) (bQ s1) s1).mono ?_)
  rintro r w3 ⟨rfl,s3⟩;simp;have hbadc:qH rows P.held=170->(qH rows P.held=0/\∃s,(Value.tuple #[.pointer none,.int .i64 170])= .tuple #[.pointer (some ⟨s,0,none⟩),.int .i64 0]/\St w0 (A*aV p g s lg ⟨P,ae,rows⟩) w3)\/
    (qH rows P.held≠0/\(Value.tuple #[.pointer none,.int .i64 170])= .tuple #[.pointer none,.int .i64 (qH rows P.held)]/\St w0 (A*Pu.cr p P*Gd.cf g lg ae) w3):=λe=>by
   rw [e];exact .inr ⟨by decide,rfl,s3.drop.drop.drop⟩
  by_cases hs0:(oQ 0 (rows.map (·.2))).2=0
  ·simp [hs0]
   refine ad ((Pu.wR p P w0 w3 (A*Gd.cf g lg ae*mu s p g m*aF m es cl*own 31 1 all (rows.map (·.2)).length (oT (rows.map (·.2)))) (s3.to (by ac_rfl))).mono ?_);rintro r w4 ⟨rfl,s4⟩;simp;refine aN (λhz=> ?_) (λhz=> ?_)
   ·simp at hz
    rw [if_pos (.inr hz)] at hlo;simp;rw [hlo];exact ⟨by decide,rfl,s4.cut (mu s p g m*aF m es cl*own 31 1 all (rows.map (·.2)).length (oT (rows.map (·.2)))) (by ac_rfl)⟩
   ·simp at hz
    rw [if_neg (by simp [hs0,hz])] at hlo;simp;refine ⟨hlo,?_⟩;have:=lO (A:=A*Gd.cf g lg ae*Pu.cr p P*own 31 1 all (rows.map (·.2)).length (oT (rows.map (·.2)))) hE (s4.to (by ac_rfl));exact this.cut (own 31 1 all (rows.map (·.2)).length (oT (rows.map (·.2)))) (by simp only [aV];ac_rfl)
  ·simp [hs0]
   rw [if_pos (.inl hs0)] at hlo
   simpa using hbadc hlo
noncomputable abbrev E2:PF Tryz.prog:=PF.of []
theorem iT (p g:Nat) (lp lg:Int) (P:Pu.Ps) (ae:List Gd.It) (w0 w:World) (A:al) (hP:Pu.PI lp P) (h0:P.held=0) (h:St w0 (A*Pu.cr p P*Gd.cf g lg ae) w):
  ak Tryz.prog 107 [.pointer (some ⟨p,0,none⟩),.pointer (some ⟨g,0,none⟩)]
   (λr w'=>∃s,r= .tuple #[.pointer (some ⟨s,0,none⟩),.int .i64 0]/\St w0 (A*aV p g s lg ⟨P,ae,[]⟩) w') w:=by
 refine aE N9 (by simp [TR]) ?_;simp [TR];have hz:qH [] P.held=0:=by unfold qH;rw [h0];decide
 refine ad ((qv p g lp lg [] (.slice none 0 0) P ae w0 w A hP (by simp) (by simp) (nU w0 A 2) h).mono ?_);rintro r w1 (⟨_,s,rfl,h1⟩|⟨hn,_⟩)
 ·simp
  exact h1
 ·exact absurd hz hn
def PG1:Pu.Ps:=⟨3,[⟨Pu.cK,0⟩,⟨[65,110,110],0⟩],0,0⟩
def PG2:Pu.Ps:=⟨3,[⟨Pu.cK,0⟩,⟨[65,110,110],0⟩,⟨[66,111,98],0⟩],0,0⟩
def PG3:Pu.Ps:=⟨3,[⟨Pu.cK,0⟩,⟨[65,110,110],100⟩,⟨[66,111,98],0⟩],100,0⟩
def PG4:Pu.Ps:=⟨3,[⟨Pu.cK,0⟩,⟨[65,110,110],100⟩,⟨[66,111,98],50⟩],150,0⟩
def IG:List Gd.It:= [⟨1,0,1,0⟩,⟨2,0,2,0⟩]
def EG:bD:=⟨PG4,IG,[]⟩
def EA:bD:=⟨⟨3,[⟨Pu.cK,0⟩,⟨[65,110,110],70⟩,⟨[66,111,98],50⟩],150,30⟩,[⟨1,0,-1,7⟩,⟨2,0,2,0⟩],[(7,30)]⟩
def jCa:Et:=⟨1,1,30⟩
end Go.HL.Es
