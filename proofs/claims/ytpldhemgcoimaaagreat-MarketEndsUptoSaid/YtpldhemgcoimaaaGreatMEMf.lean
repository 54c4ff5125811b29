/- Part 6. -/
import Derived.Test.YtpldhemgcoimaaaGreatMEMe
import Derived.Test.YtpldhemgcoimaaaGreatProg
set_option linter.unusedSimpArgs false
set_option linter.unusedVariables false
set_option maxRecDepth 4000
namespace Go.HL.Wh
open Go.HL Go.Proofs
noncomputable abbrev U0:PF Tryz.prog:=PF.none _
def I9:ag:=⟨[0,1,4],10,[.slot 2],aM tG [] 0xe6ffdc71cdd5d480d5c95f4148b08b1500090ce1c2d480d5c95f4148b08b1500090ce1f257d0522c22c5400243f4148b08b167dd2002⟩
theorem Qd:ai U0 250 400=some I9:=by kernel_rfl
def UQ:ag:=⟨[0,1,2,6],19,[.slot 3],aM tG [] 0x2ce6ffdc71c73757d095f41574f003412ca04c2820fd095f41574f003412ca04c282f41574f003412ca074f00341f00a2f02cbff71cdd5d3c00a2820f4f0028a0bc01c6d5d4a0500436352814010e7dd2e83⟩
theorem Pm:ai U0 191 400=some UQ:=by kernel_rfl
def gl (t l:Nat):Nat:=t /64^l %64
def fR (a n:Nat):Nat×Nat:=
 if a /16777216≠n /16777216 then (4,0) else if gl a 3≠gl n 3 then (3,gl a 3) else if gl a 2≠gl n 2 then (2,gl a 2) else
 if gl a 1≠gl n 1 then (1,gl a 1) else (0,gl a 0)
theorem ET (t l:Nat) (w:World) (ht:t<=4611686018427387904) (hl:l<=3):
  aj Tryz.prog 250 [.int .i64 t,.int .i64 l] (λr w'=>r= .int .i64 (gl t l)/\w'=w) w:=by
 refine aG Qd (by simp [I9]) ?_;have h:l=0\/l=1\/l=2\/l=3:=by omega
 have key:∀c:Nat,0<c->(Int.fdiv (t:Int) (c:Int)).tmod 64=((t /c %64:Nat):Int):=by intro c hc;rw [Int.fdiv_eq_ediv_of_nonneg _ (by omega),Int.tmod_eq_emod_of_nonneg (Int.ediv_nonneg (by omega) (by omega))];rfl
 have b:IntKind.i64.bits=64:=rfl;rcases h with rfl|rfl|rfl|rfl
 ·have:=key 1 (by decide)
  have hw:IntKind.i64.wrap 0=0:=by decide
  simp [I9,gl,hw,b] at this⊢
  first|exact this|simpa using this
 ·have:=key 64 (by decide)
  have hw:IntKind.i64.wrap 6=6:=by decide
  simp [I9,gl,hw,b] at this⊢;exact this
 ·have:=key 4096 (by decide)
  have hw:IntKind.i64.wrap 12=12:=by decide
  simp [I9,gl,hw,b] at this⊢;exact this
 ·have:=key 262144 (by decide)
  have hw:IntKind.i64.wrap 18=18:=by decide
  simp [I9,gl,hw,b] at this⊢;exact this
theorem yS (p:Nat) (l s:Nat) (w:World) (hl:l<=4) (hs:s<64) (h4:l=4->s=0):
  aj Tryz.prog 191 [.pointer (some ⟨p,0,none⟩),.int .i64 l,.int .i64 s] (λr w'=>r= .pointer (some ⟨p,3+(l*64+s),none⟩)/\w'=w) w:=by
 refine aG Pm (by simp [UQ]) ?_;simp [UQ];refine aR (λh=> ?_) (λh=> ?_)
 ·simp at h
  have:l=4:=by omega
  subst this;have:=h4 rfl;subst this;simp
 ·simp at h
  have:l<4:=by omega
  simp;omega
noncomputable def uA:PS Tryz.prog where
 f:=250
 val args:=match args with
  | [.int _ t,.int _ l]=> .int .i64 (gl t.toNat l.toNat)
  |_=>undef
 ok args:=match args with
  | [.int k t,.int k' l]=>k= .i64/\k'= .i64/\0<=t/\t<=4611686018427387904/\0<=l/\l<=3
  |_=>False
 sound args w h:=by
  split at h
  ·rename_i k t k' l
   obtain ⟨rfl,rfl,h1,h2,h3,h4⟩:=h;obtain ⟨t,rfl⟩:=Int.eq_ofNat_of_zero_le h1;obtain ⟨l,rfl⟩:=Int.eq_ofNat_of_zero_le h3;exact ET t l w (by omega) (by omega)
  ·exact h.elim
noncomputable def Ie:PS Tryz.prog where
 f:=191
 val args:=match args with
  | [.pointer (some a),.int _ l,.int _ s]=> .pointer (some ⟨a.block,3+(l.toNat*64+s.toNat),none⟩)
  |_=>undef
 ok args:=match args with
  | [.pointer (some a),.int k l,.int k' s]=>a=⟨a.block,0,none⟩/\k= .i64/\k'= .i64/\0<=l/\l<=4/\0<=s/\s<64/\(l=4->s=0)
  |_=>False
 sound args w h:=by
  split at h
  ·rename_i a k l k' s
   obtain ⟨ha,rfl,rfl,h1,h2,h3,h4,h5⟩:=h;obtain ⟨l,rfl⟩:=Int.eq_ofNat_of_zero_le h1;obtain ⟨s,rfl⟩:=Int.eq_ofNat_of_zero_le h3;rw [ha];exact yS a.block l s w (by omega) (by omega) (by omega)
  ·exact h.elim
noncomputable abbrev U1:PF Tryz.prog:=PF.of [uA]
@[simp] theorem YT (args:List Value):U1.val 250 args=uA.val args:=rfl
@[simp] theorem a7a (args:List Value):U1.ok 250 args=uA.ok args:=rfl
@[simp] theorem SN (t l:Int):uA.val [.int .i64 t,.int .i64 l]= .int .i64 (gl t.toNat l.toNat):=rfl
@[simp] theorem Xq (t l:Int):uA.ok [.int .i64 t,.int .i64 l]=(IntKind.i64= .i64/\IntKind.i64= .i64/\0<=t/\t<=4611686018427387904/\0<=l/\l<=3):=rfl
def UP:ag:=⟨[0,1,4,5,6],29,[.slot 2,.slot 3],aM tG [] 0x2ce79bff71a67657d11000e1834040bd11000e1adbacb677375750d0109084d43404242068bc2bc072379e79f6d748157257d11004e195f444003860f3633c95f4440138657d11000e183cfd11004e1b3f44400386cd5d40404282d40404282027dd2f84a2f02cbff699d9200348a04271c71b572575204401243575204400243118c95d481100490d5d481100090c4d481100490f52044002439da6764800d2002⟩
theorem Pk:ai U1 190 400=some UP:=by kernel_rfl
theorem FK (a n:Nat) (w:World) (ha:a<=4611686018427387904) (hn:n<=4611686018427387904):
  aj Tryz.prog 190 [.int .i64 a,.int .i64 n] (λr w'=>r= .tuple #[.int .i64 (fR a n).1,.int .i64 (fR a n).2]/\w'=w) w:=by
 refine aG Pk (by simp [UP]) ?_;simp [UP];have e24:∀t:Nat,(t:Int).fdiv (2^min 24 IntKind.i64.bits)=((t /16777216:Nat):Int):=λt=>by rw [show (2:Int)^min 24 IntKind.i64.bits=16777216 from rfl,Int.fdiv_eq_ediv_of_nonneg _ (by decide)];rfl
 rw [e24,e24];refine aR (λh=> ?_) (λh=> ?_)
 ·have:fR a n=(4,0):=by unfold fR;rw [if_pos];intro e;rw [e] at h;simp at h
  simp [this]
 have hq:a /16777216=n /16777216:=by
  have:((a /16777216:Nat):Int)=((n /16777216:Nat):Int):=by simpa using h
  omega
 simp;refine gI (λenv w'=>∃(k:Nat),env= [.int .i64 a,.int .i64 n,.int .i64 0,.int .i64 0,.int .i64 k]/\k<=3/\(∀j,k<j->j<=3->gl a j=gl n j)/\w'=w)
  (λenv _=>aw env 4) ⟨3,rfl,by omega,by intro j;omega,rfl⟩ ?_
 rintro LQ env w' ⟨k,rfl,hk,hj,rfl⟩ hN hE hR;simp;refine ⟨λh0=>by omega,λh0=>by omega,?_⟩;refine aR (λh=> ?_) (λh=> ?_)
 ·simp at h
  obtain ⟨h0,hd⟩:=h;have hd:gl a k=gl n k:=by omega
  simp;have hw:IntKind.i64.wrap ((k:Int) -1)=((k -1:Nat):Int):=by rw [wrap64 (by omega) (by omega)];omega
  simp only [hw];refine hN _ _ ⟨k -1,by simp,by omega,λj h1 h2=> ?_,rfl⟩ (by simp [aw];omega)
  by_cases e:j=k
  ·subst e;exact hd
  ·exact hj j (by omega) h2
 simp only [Bool.and_eq_false_iff,decide_eq_false_iff_not] at h;simp;refine hE _ _ _ ?_;simp;have hlv:fR a n=(k,gl a k):=by
  have h:k=0\/gl a k≠gl n k:=by rcases h with h|h<;>omega
  unfold fR;rw [if_neg (λe=>e hq)];have h3:k=3\/k=2\/k=1\/k=0:=by omega
  rcases h3 with rfl|rfl|rfl|rfl
  ·rw [if_pos (h.resolve_left (by decide))]
  ·rw [if_neg (λg=>g (hj 3 (by decide) (by decide))),if_pos (h.resolve_left (by decide))]
  ·rw [if_neg (λg=>g (hj 3 (by decide) (by decide))),if_neg (λg=>g (hj 2 (by decide) (by decide))),if_pos (h.resolve_left (by decide))]
  ·rw [if_neg (λg=>g (hj 3 (by decide) (by decide))),if_neg (λg=>g (hj 2 (by decide) (by decide))),if_neg (λg=>g (hj 1 (by decide) (by decide)))]
 simp [hlv];omega
noncomputable def vV:PS Tryz.prog where
 f:=190
 val args:=match args with
  | [.int _ a,.int _ n]=> .tuple #[.int .i64 (fR a.toNat n.toNat).1,.int .i64 (fR a.toNat n.toNat).2]
  |_=>undef
 ok args:=match args with
  | [.int k a,.int k' n]=>k= .i64/\k'= .i64/\0<=a/\a<=4611686018427387904/\0<=n/\n<=4611686018427387904
  |_=>False
 sound args w h:=by
  split at h
  ·rename_i k a k' n
   obtain ⟨rfl,rfl,h1,h2,h3,h4⟩:=h;obtain ⟨a,rfl⟩:=Int.eq_ofNat_of_zero_le h1;obtain ⟨n,rfl⟩:=Int.eq_ofNat_of_zero_le h3;exact FK a n w (by omega) (by omega)
  ·exact h.elim
noncomputable abbrev U2:PF Tryz.prog:=PF.of [vV,Ie]
@[simp] theorem YV (args:List Value):U2.val 190 args=vV.val args:=rfl
@[simp] theorem a9a (args:List Value):U2.ok 190 args=vV.ok args:=rfl
@[simp] theorem YU (args:List Value):U2.val 191 args=Ie.val args:=rfl
@[simp] theorem a8a (args:List Value):U2.ok 191 args=Ie.ok args:=rfl
@[simp] theorem WD (a n:Int):vV.val [.int .i64 a,.int .i64 n]= .tuple #[.int .i64 (fR a.toNat n.toNat).1,.int .i64 (fR a.toNat n.toNat).2]:=rfl
@[simp] theorem Yz (a n:Int):vV.ok [.int .i64 a,.int .i64 n]=(IntKind.i64= .i64/\IntKind.i64= .i64/\0<=a/\a<=4611686018427387904/\0<=n/\n<=4611686018427387904):=rfl
@[simp] theorem bca (a:Addr) (l s:Int):Ie.val [.pointer (some a),.int .i64 l,.int .i64 s]= .pointer (some ⟨a.block,3+(l.toNat*64+s.toNat),none⟩):=rfl
@[simp] theorem b2a (a:Addr) (l s:Int):Ie.ok [.pointer (some a),.int .i64 l,.int .i64 s]=(a=⟨a.block,0,none⟩/\IntKind.i64= .i64/\IntKind.i64= .i64/\0<=l/\l<=4/\0<=s/\s<64/\(l=4->s=0)):=rfl
def ahN (x:Int):Nat:=1+(x.emod 1073741824).toNat
structure Tm where
 n:Int
 a:Nat
 l:Nat
 s:Nat
 b:Nat
abbrev Tm.cs (t:Tm):List Value:= [.int .i64 t.n,.int .i64 t.a,.int .i64 t.l,.int .i64 t.s]
abbrev iM (t:Tm):ak:=pt t.b (.cells t.cs.toArray 220 (0,0))
abbrev tp (t:Tm):Value:= .pointer (some ⟨t.b,0,none⟩)
abbrev Sl:=Option (Nat×List En×Nat)
def F5:Sl->Value
 |none=> .map none
 |some x=> .map (some x.1)
def fL:Nat->Sl->ak
 |_,none=>emp
 |_,some x=>ao x.1 x.2.1 x.2.2
def nU:Sl->List En
 |none=> []
 |some x=>x.2.1
def qo:Sl->Nat
 |none=>0
 |some x=>x.2.2
abbrev Dk:=Nat->Sl
def xc (now mv:Nat) (am:Nat) (Y:Dk):List Value:= .int .i64 now:: .int .i64 mv:: .map (some am)::(List.range 257).map λq=>F5 (Y q)
abbrev wc (p now mv am:Nat) (Y:Dk):ak:=pt p (.cells (xc now mv am Y).toArray 217 (0,0))
theorem oa (now mv am:Nat) (Y:Dk):(xc now mv am Y).length=260:=by simp [xc]
theorem Bh (now mv am:Nat) (Y:Dk) {q:Nat} (h:q<257):(xc now mv am Y)[3+q]? =some (F5 (Y q)):=by rw [show 3+q=q+1+1+1 by omega];simp [xc,h]
theorem tU (now mv am:Nat) (Y:Dk) {q:Nat} (h:q<257) (x:Sl):(xc now mv am Y).set (3+q) (F5 x)=xc now mv am (jV Y q x):=by
 apply List.ext_getElem?;intro i
 by_cases hi:i<260
 ·match i,hi with
  |0,_=>rw [List.getElem?_set_ne (by omega)];rfl
  |1,_=>rw [List.getElem?_set_ne (by omega)];rfl
  |2,_=>rw [List.getElem?_set_ne (by omega)];rfl
  |j+3,hi=>
   have hj:j<257:=by omega
   rw [show j+3=3+j by omega,Bh _ _ _ _ hj]
   by_cases e:j=q
   ·subst e
    rw [List.getElem?_set_self (by rw [oa];omega),kq]
   ·rw [List.getElem?_set_ne (by omega),Bh _ _ _ _ hj,kr _ _ e]
 ·rw [List.getElem?_eq_none (by rw [List.length_set,oa];omega),List.getElem?_eq_none (by rw [oa];omega)]
theorem lL (a n:Nat):(fR a n).1<=4/\(fR a n).2<64/\((fR a n).1=4->(fR a n).2=0):=by
 have:∀l,gl a l<64:=λl=>Nat.mod_lt _ (by decide);unfold fR
 repeat' split
 all_goals simp_all
theorem mK:oe Tryz.prog 213 3 218 (.pointer none):=⟨by kernel_rfl,by kernel_rfl,by kernel_rfl⟩
def Uv:ag:=⟨[0,1],30,[],aM tG [] 0xb2973b73b73b71cee2698c910d108c202d34d31040041034d31040041d31040071040d34532e3340030a040034532e3340030a040532e3340030a074d31040341034c4100d071040d34c41006034c41006c41003a5cedc73b89a632e333080b4d34c41001040d34c41001074c41001c41034d3c006034f001bc003⟩
theorem OL:ai U2 138 400=some Uv:=by kernel_rfl
def vg:HC:=(.regq (.some 1) (.chk none .chkp (.cons (.inp 2) .nil) (.eff (.ld false 1) (.cons (.op .chkp (.cons (.inp 2) .nil)) .nil) (.chk none .chkp (.cons (.inp 1) .nil) (.chk none (.fld 0) (.cons (.op .chkp (.cons (.inp 1) .nil)) .nil) (.chk none (.fld 0) (.cons (.op (.fld 0) (.cons (.op .chkp (.cons (.inp 1) .nil)) .nil)) .nil) (.eff (.ld false 1) (.cons (.op (.fld 0) (.cons (.op (.fld 0) (.cons (.op .chkp (.cons (.inp 1) .nil)) .nil)) .nil)) .nil) (.eff (.lW 213) (.cons (.bv 0) (.cons (.bv 1) (.cons (.inp 1) .nil))) (.done [] none)))))))))
@[simp] theorem Xu:type_of%(@aF vg _ vg.eq_1):=aF vg.eq_1
def zy:HC:=(.reg (.eff (.mkm 213 false) .nil (.chk none .chkp (.cons (.inp 2) .nil) (.eff (.st 1) (.cons (.op .chkp (.cons (.inp 2) .nil)) (.cons (.bv 0) .nil)) (.done [] none)))))
@[simp] theorem Xv:type_of%(@aF zy _ zy.eq_1):=aF zy.eq_1
def zz:HC:=(.seq (.br (.chk none .chkp (.cons (.inp 2) .nil) (.eff (.ld false 1) (.cons (.op .chkp (.cons (.inp 2) .nil)) .nil) (.chk none (.eqNil false (.map 3 218) (.map none)) (.cons (.bv 0) .nil) (.done [] (some (.op (.eqNil false (.map 3 218) (.map none)) (.cons (.bv 0) .nil))))))) zy .skip) vg)
@[simp] theorem Xw:type_of%(@aF zz _ zz.eq_1):=aF zz.eq_1
def zA:HC:=(.seq (.regq (.some 0) (.chk none .chkp (.cons (.inp 1) .nil) (.chk none (.fld 2) (.cons (.op .chkp (.cons (.inp 1) .nil)) .nil) (.eff (.ld false 1) (.cons (.op (.fld 2) (.cons (.op .chkp (.cons (.inp 1) .nil)) .nil)) .nil) (.chk none .chkp (.cons (.inp 1) .nil) (.chk none (.fld 3) (.cons (.op .chkp (.cons (.inp 1) .nil)) .nil) (.eff (.ld false 1) (.cons (.op (.fld 3) (.cons (.op .chkp (.cons (.inp 1) .nil)) .nil)) .nil) (.chk none (.cal 191) (.cons (.inp 0) (.cons (.bv 0) (.cons (.bv 1) .nil))) (.done [(2,(.op (.cal 191) (.cons (.inp 0) (.cons (.bv 0) (.cons (.bv 1) .nil)))))] none))))))))) zz)
@[simp] theorem Xx:type_of%(@aF zA _ zA.eq_1):=aF zA.eq_1
def Ut:ag:=⟨[0,1,4],50,[],(.seq (.regq (.some 1) (.chk none .chkp (.cons (.inp 1) .nil) (.chk none (.fld 0) (.cons (.op .chkp (.cons (.inp 1) .nil)) .nil) (.chk none (.fld 1) (.cons (.op (.fld 0) (.cons (.op .chkp (.cons (.inp 1) .nil)) .nil)) .nil) (.eff (.ld false 1) (.cons (.op (.fld 1) (.cons (.op (.fld 0) (.cons (.op .chkp (.cons (.inp 1) .nil)) .nil)) .nil)) .nil) (.chk none .chkp (.cons (.inp 0) .nil) (.chk none (.fld 0) (.cons (.op .chkp (.cons (.inp 0) .nil)) .nil) (.eff (.ld false 1) (.cons (.op (.fld 0) (.cons (.op .chkp (.cons (.inp 0) .nil)) .nil)) .nil) (.chk none (.cal 190) (.cons (.bv 0) (.cons (.bv 1) .nil)) (.chk none (.ext 0) (.cons (.op (.cal 190) (.cons (.bv 0) (.cons (.bv 1) .nil))) .nil) (.chk none (.ext 1) (.cons (.op (.cal 190) (.cons (.bv 0) (.cons (.bv 1) .nil))) .nil) (.chk none .chkp (.cons (.inp 1) .nil) (.chk none (.fld 2) (.cons (.op .chkp (.cons (.inp 1) .nil)) .nil) (.eff (.st 1) (.cons (.op (.fld 2) (.cons (.op .chkp (.cons (.inp 1) .nil)) .nil)) (.cons (.op (.ext 0) (.cons (.op (.cal 190) (.cons (.bv 0) (.cons (.bv 1) .nil))) .nil)) .nil)) (.chk none .chkp (.cons (.inp 1) .nil) (.chk none (.fld 3) (.cons (.op .chkp (.cons (.inp 1) .nil)) .nil) (.eff (.st 1) (.cons (.op (.fld 3) (.cons (.op .chkp (.cons (.inp 1) .nil)) .nil)) (.cons (.op (.ext 1) (.cons (.op (.cal 190) (.cons (.bv 0) (.cons (.bv 1) .nil))) .nil)) .nil)) (.done [] none)))))))))))))))))) zA)⟩
theorem OJ:ai U2 136 400=some Ut:=by kernel_rfl
def hgC (w0:World) (X:ak) (t:Tm) (l s:Nat):List Value->World->Prop
 | [],w=>St w0 (X*iM t) w
 | [_],w=>St w0 (X*iM {t with l:=l}) w
 |_::_::_,w=>St w0 (X*iM {t with l:=l,s:=s}) w
def Q8 (S S':World->Prop):List Value->World->Prop
 | [],w=>S w
 |_::_,w=>S' w
theorem Mx {α:Type} (l:List α) (i:Nat) (v:α) (h:l[i]? =some v):l.set i v=l:=by
 apply List.ext_getElem?;intro j
 by_cases e:j=i
 ·subst e
  rw [List.getElem?_set_self (List.getElem?_eq_some_iff.1 h).1,h]
 ·rw [List.getElem?_set_ne (Ne.symm e)]
theorem qj {w0 w:World} {B:ak} {p now mv am:Nat} {Y:Dk} (s:St w0 (B*wc p now mv am Y) w) {q:Nat} (h:q<257):w.cell? ⟨p,3+q,none⟩=some (F5 (Y q)):=by
 have:=s.ad (3+q) _ (Bh now mv am Y h)
 rwa [Nat.zero_add] at this
theorem Rx (p now mv am:Nat) (Y:Dk) {q:Nat} (h:q<257) {x x':Sl} (hx:F5 x=F5 x'):wc p now mv am (jV Y q x)=wc p now mv am (jV Y q x'):=by show pt p (.cells (xc now mv am (jV Y q x)).toArray _ _)=pt p (.cells (xc now mv am (jV Y q x')).toArray _ _);rw [<-tU _ _ _ _ h,<-tU _ _ _ _ h,hx]
theorem MY (p now mv am:Nat) (Y:Dk) {q:Nat} (h:q<257) {x:Sl} (hx:F5 x=F5 (Y q)):wc p now mv am (jV Y q x)=wc p now mv am Y:=by show pt p (.cells (xc now mv am (jV Y q x)).toArray _ _)=pt p (.cells (xc now mv am Y).toArray _ _);rw [<-tU _ _ _ _ h,hx,Mx _ _ _ (Bh _ _ _ _ h)]
def Bn (t:Tm) (now:Nat):Nat:=(fR t.a now).1*64+(fR t.a now).2
def j7 (t:Tm) (now:Nat):Tm:={t with l:=(fR t.a now).1,s:=(fR t.a now).2}
def IU (m:Nat) (x:Sl) (t:Tm):Sl:=some (m,nU x++ [⟨t.n,tp t,qo x⟩],qo x+1)
theorem xQ (p am now mv:Nat) (Y:Dk) (t:Tm) (w0 w:World) (A:ak) {K:Value->World->Prop} (ha:t.a<=4611686018427387904) (hn:now<=4611686018427387904) (hY:aZ (nU (Y (Bn t now))) t.n=none)
  (s:St w0 (A*dj fL Y 257*wc p now mv am Y*iM t) w)
  (hk:∀r m w',(∀x,Y (Bn t now)=some x->m=x.1)->St w0 (A*dj fL (jV Y (Bn t now) (IU m (Y (Bn t now)) t)) 257*wc p now mv am (jV Y (Bn t now) (IU m (Y (Bn t now)) t))*iM (j7 t now)) w'->K r w'):
  aj Tryz.prog 136 [.pointer (some ⟨p,0,none⟩),tp t] K w:=by
 obtain ⟨h1,h2,h3⟩:=lL t.a now;obtain ⟨l,hl⟩:∃l,(fR t.a now).1=l:=⟨_,rfl⟩;obtain ⟨s',hs⟩:∃s',(fR t.a now).2=s':=⟨_,rfl⟩;have hq:Bn t now=l*64+s':=by rw [<-hl,<-hs];rfl
 have ht':j7 t now={t with l:=l,s:=s'}:=by rw [<-hl,<-hs];rfl
 rw [hl] at h1 h3;rw [hs] at h2 h3;rw [hq] at hY hk;rw [ht'] at hk;obtain ⟨q,hqe⟩:∃q,l*64+s'=q:=⟨_,rfl⟩;have hq257:q<257:=by omega
 rw [hqe] at hY hk;refine cX OJ (by simp [Ut]) ?_;simp [Ut];refine fK (hgC w0 (A*dj fL Y 257*wc p now mv am Y) t l s') s.drew ?_;simp;refine al (v:= .int .i64 t.a) (λvs' w he hw=> ?_) ?_
 ·match vs',hw with
  | [],hw=>exact (show St w0 _ w from hw).ad 1 _ rfl
  |_::_,hw=>simp [era] at he
 simp;refine al (v:= .int .i64 now) (λvs' w he hw=> ?_) ?_
 ·match vs',hw with
  | [],hw=>exact (show St w0 _ w from hw).drop.ad 0 _ rfl
  |_::_,hw=>simp [era] at he
 simp;refine ⟨⟨by omega,by omega⟩,?_⟩;rw [hl];refine aO rfl (λw hw=>cH (show St w0 (_*iM t) w from hw) rfl (by simp) λw' h=> ?_) (λv _=> ?_)
 ·show St w0 (_*iM {t with l:=l}) w'
  simpa using h
 simp [hs];refine aO rfl (λw hw=>cH (show St w0 (_*iM {t with l:=l}) w from hw) rfl (by simp) λw' h=> ?_) (λv _=> ?_)
 ·show St w0 (_*iM {t with l:=l,s:=s'}) w'
  simpa using h
 simp;intro w1 s1;have s1:St w0 (A*dj fL Y 257*wc p now mv am Y*iM {t with l:=l,s:=s'}) w1:=s1;refine Mi s1 ?_;simp;refine aV (v:= .int .i64 l) (λw h=>h.ad 2 _ rfl) ?_;simp;refine aV (v:= .int .i64 s') (λw h=>h.ad 3 _ rfl) ?_;simp;refine ⟨⟨by omega,by omega,by omega⟩,?_⟩;rw [hqe];intro w2 s2;have fin:∀(m:Nat) (w3:World),(∀x,Y q=some x->m=x.1)->St w0 (A*jn fL Y q 257*ao m (nU (Y q)) (qo (Y q))*wc p now mv am (jV Y q (some (m,nU (Y q),qo (Y q))))*iM {t with l:=l,s:=s'}) w3->
   vg.wp U2 (r9 Tryz.prog [] K) [.pointer (some ⟨p,0,none⟩),tp t,.pointer (some ⟨p,3+q,none⟩)] w3:=by
  intro m w3 hm s3;simp;refine fK (Q8 (St w0 (A*jn fL Y q 257*ao m (nU (Y q)) (qo (Y q))*wc p now mv am (jV Y q (some (m,nU (Y q),qo (Y q))))*iM {t with l:=l,s:=s'})) (St w0 (A*jn fL Y q 257*ao m (nU (Y q)++ [⟨t.n,tp t,qo (Y q)⟩]) (qo (Y q)+1)*wc p now mv am (jV Y q (some (m,nU (Y q),qo (Y q))))*iM {t with l:=l,s:=s'}))) s3.drew ?_;simp;refine al (v:= .map (some m)) (λvs' w he hw=> ?_) ?_
  ·match vs',hw with
   | [],hw=>
    have:=qj (show St w0 _ w from hw).drop hq257;rw [kq] at this;exact this
   |_::_,hw=>simp [era] at he
  simp;refine al (v:= .int .i64 t.n) (λvs' w he hw=> ?_) ?_
  ·match vs',hw with
   | [],hw=>exact (show St w0 _ w from hw).ad 0 _ rfl
   |_::_,hw=>simp [era] at he
  simp;refine aO rfl (λw hw=>cu mK (St.to (show St w0 _ w from hw) (B:=A*jn fL Y q 257*wc p now mv am (jV Y q (some (m,nU (Y q),qo (Y q))))*iM {t with l:=l,s:=s'}*ao m (nU (Y q)) (qo (Y q))) (by ac_rfl)) hY λw' h=> ?_) (λv _=> ?_)
  ·show St w0 _ w'
   exact h.to (by ac_rfl)
  simp;intro w4 s4;have s4:St w0 (A*jn fL Y q 257*ao m (nU (Y q)++ [⟨t.n,tp t,qo (Y q)⟩]) (qo (Y q)+1)*wc p now mv am (jV Y q (some (m,nU (Y q),qo (Y q))))*iM {t with l:=l,s:=s'}) w4:=s4;refine hk _ m w4 hm ?_;rw [yX hq257];rw [<-Rx p now mv am Y hq257 (x:=some (m,nU (Y q),qo (Y q))) (x':=IU m (Y q) t) rfl,show fL q (IU m (Y q) t)=ao m (nU (Y q)++ [⟨t.n,tp t,qo (Y q)⟩]) (qo (Y q)+1) from rfl];exact s4.to (by ac_rfl)
 refine af (v:=F5 (Y q)) (qj s2.drop hq257) ?_;rw [uh hq257] at s2;cases hYq:Y q with
 |none=>
  rw [hYq] at s2;have s2:St w0 (A*(jn fL Y q 257*emp)*wc p now mv am Y*iM {t with l:=l,s:=s'}) w2:=s2;rw [aq] at s2;simp [F5];refine iC s2 ?_;intro m w3 s3;simp;have hlen:=oa now mv am Y;refine cH (s3.to (B:=A*jn fL Y q 257*iM {t with l:=l,s:=s'}*ao m [] 0*wc p now mv am Y) (by ac_rfl)) rfl (by simp [hlen];omega) ?_;intro w4 s4;simp;have e:(xc now mv am Y).toArray.setIfInBounds (3+q) (.map (some m))=(xc now mv am (jV Y q (some (m,nU (Y q),qo (Y q))))).toArray:=by rw [<-tU _ _ _ _ hq257];apply Array.ext';simp [F5]
  rw [e] at s4;have s4:St w0 (A*jn fL Y q 257*iM {t with l:=l,s:=s'}*ao m [] 0*wc p now mv am (jV Y q (some (m,nU (Y q),qo (Y q))))) w4:=s4;refine fin m w4 (λx hx=>by rw [hYq] at hx;cases hx) ?_;rw [hYq] at s4⊢;exact s4.to (by rw [show nU none= [] from rfl,show qo none=0 from rfl];ac_rfl)
 |some x=>
  rw [hYq] at s2;have s2:St w0 (A*(jn fL Y q 257*ao x.1 x.2.1 x.2.2)*wc p now mv am Y*iM {t with l:=l,s:=s'}) w2:=s2;simp [F5];refine fin x.1 w2 (λy hy=>by rw [hYq] at hy;cases hy;rfl) ?_;rw [MY p now mv am Y hq257 (x:=some (x.1,nU (Y q),qo (Y q))) (by rw [hYq];rfl),hYq,show nU (some x)=x.2.1 from rfl,show qo (some x)=x.2.2 from rfl];exact s2.to (by ac_rfl)
def gF (t:Tm):Nat:=t.l*64+t.s
structure F8 (t:Tm):Prop where
 l:t.l<=4
 s:t.s<64
 r:t.l=4->t.s=0
theorem Bc {t:Tm} (h:F8 t):gF t<257:=by have:=h.l;have:=h.s;have:=h.r;unfold gF;omega
def Bm (x:Sl) (n:Int):Sl:=x.map λx=>(x.1,eB x.2.1 n,x.2.2)
theorem xE (p am now mv:Nat) (Y:Dk) (t:Tm) (aes:List En) (ac:Nat) (x:Nat×List En×Nat) (w0 w:World) (A:ak) {K:Value->World->Prop} (ht:F8 t) (hY:Y (gF t)=some x)
  (s:St w0 (A*ao am aes ac*dj fL Y 257*wc p now mv am Y*iM t) w)
  (hk:∀r w',St w0 (A*ao am (eB aes t.n) ac*dj fL (jV Y (gF t) (Bm (some x) t.n)) 257*wc p now mv am (jV Y (gF t) (Bm (some x) t.n))*iM t) w'->K r w'):
  aj Tryz.prog 138 [.pointer (some ⟨p,0,none⟩),tp t] K w:=by
 have hq257:=Bc ht;obtain ⟨h1,h2,h3⟩:=ht;obtain ⟨q,hqe⟩:∃q,gF t=q:=⟨_,rfl⟩;have hqe':t.l*64+t.s=q:=hqe;rw [hqe] at hY hk hq257;refine aG OL (by simp [Uv]) ?_;simp [Uv];refine fK (Q8 (St w0 (A*ao am aes ac*dj fL Y 257*wc p now mv am Y*iM t)) (St w0 (A*ao am (eB aes t.n) ac*dj fL Y 257*wc p now mv am Y*iM t))) s.drew ?_;simp;refine al (v:= .map (some am)) (λvs' w he hw=> ?_) ?_
 ·match vs',hw with
  | [],hw=>exact (show St w0 _ w from hw).drop.ad 2 _ rfl
  |_::_,hw=>simp [era] at he
 simp;refine al (v:= .int .i64 t.n) (λvs' w he hw=> ?_) ?_
 ·match vs',hw with
  | [],hw=>exact (show St w0 _ w from hw).ad 0 _ rfl
  |_::_,hw=>simp [era] at he
 simp;refine aO rfl (λw hw=>mC mK (St.to (show St w0 _ w from hw) (B:=A*dj fL Y 257*wc p now mv am Y*iM t*ao am aes ac) (by ac_rfl)) λw' h=> ?_) (λv _=> ?_)
 ·show St w0 _ w'
  exact h.to (by ac_rfl)
 simp;intro w1 s1;have s1:St w0 (A*ao am (eB aes t.n) ac*dj fL Y 257*wc p now mv am Y*iM t) w1:=s1;obtain ⟨B,hB⟩:∃B,A*ao am (eB aes t.n) ac=B:=⟨_,rfl⟩;rw [hB] at s1 hk;rw [uh hq257,hY] at s1;have s1:St w0 (B*(jn fL Y q 257*ao x.1 x.2.1 x.2.2)*wc p now mv am Y*iM t) w1:=s1;refine fK (Q8 (St w0 (B*(jn fL Y q 257*ao x.1 x.2.1 x.2.2)*wc p now mv am Y*iM t)) (St w0 (B*(jn fL Y q 257*ao x.1 (eB x.2.1 t.n) x.2.2)*wc p now mv am Y*iM t))) s1.drew ?_;simp;refine al (v:= .int .i64 t.l) (λvs' w he hw=> ?_) ?_
 ·match vs',hw with
  | [],hw=>exact (show St w0 _ w from hw).ad 2 _ rfl
  |_::_,hw=>simp [era] at he
 simp;refine al (v:= .int .i64 t.s) (λvs' w he hw=> ?_) ?_
 ·match vs',hw with
  | [],hw=>exact (show St w0 _ w from hw).ad 3 _ rfl
  |_::_,hw=>simp [era] at he
 simp;refine ⟨⟨by omega,by omega,by omega⟩,?_⟩;rw [hqe'];refine al (v:= .map (some x.1)) (λvs' w he hw=> ?_) ?_
 ·match vs',hw with
  | [],hw=>
   have:=qj (show St w0 _ w from hw).drop hq257;rw [hY] at this;exact this
  |_::_,hw=>simp [era] at he
 simp;refine al (v:= .int .i64 t.n) (λvs' w he hw=> ?_) ?_
 ·match vs',hw with
  | [],hw=>exact (show St w0 _ w from hw).ad 0 _ rfl
  |_::_,hw=>simp [era] at he
 simp;refine aO rfl (λw hw=>mC mK (St.to (show St w0 _ w from hw) (B:=B*jn fL Y q 257*wc p now mv am Y*iM t*ao x.1 x.2.1 x.2.2) (by ac_rfl)) λw' h=> ?_) (λv _=> ?_)
 ·show St w0 _ w'
  exact h.to (by ac_rfl)
 simp;intro w2 s2;have s2:St w0 (B*(jn fL Y q 257*ao x.1 (eB x.2.1 t.n) x.2.2)*wc p now mv am Y*iM t) w2:=s2;refine hk _ w2 ?_;rw [yX hq257,MY p now mv am Y hq257 (x:=Bm (some x) t.n) (by rw [hY];rfl),show fL q (Bm (some x) t.n)=ao x.1 (eB x.2.1 t.n) x.2.2 from rfl];exact s2
def bz:List Tm->ak
 | []=>emp
 |t::r=>iM t*bz r
theorem xS:∀a b:List Tm,bz (a++b)=bz a*bz b
 | [],b=>by rw [List.nil_append,bz,dX]
 |t::r,b=>by rw [List.cons_append,bz,bz,xS r b,au]
def eF (ts:List Tm) (n:Int):List Tm:=ts.filter λu=>decide (u.n≠n)
def FF (ts:List Tm) (t':Tm):List Tm:=ts.map λu=>if u.n=t'.n then t' else u
theorem gx {ts:List Tm} (h:(ts.map (·.n)).Nodup) {t u:Tm} (ht:t∈ts) (hu:u∈ts) (e:t.n=u.n):t=u:=by
 induction ts with
 |nil=>cases ht
 |cons x r ih=>
  rw [List.map_cons,List.nodup_cons] at h;rcases List.mem_cons.1 ht with ht|ht<;>rcases List.mem_cons.1 hu with hu|hu
  ·rw [ht,hu]
  ·exact absurd (List.mem_map.2 ⟨u,hu,by rw [<-e,ht]⟩) h.1
  ·exact absurd (List.mem_map.2 ⟨t,ht,by rw [e,hu]⟩) h.1
  ·exact ih h.2 ht hu
theorem qY {ts:List Tm} {n:Int} (h:∀u∈ts,u.n≠n):eF ts n=ts:=List.filter_eq_self.2 λu hu=>decide_eq_true (h u hu)
theorem LW {ts:List Tm} {t:Tm} (h:∀u∈ts,u.n≠t.n):FF ts t=ts:=by exact (List.map_congr_left (g:=id) λu hu=>if_neg (h u hu)).trans (List.map_id _)
theorem kO {ts:List Tm} (h:(ts.map (·.n)).Nodup) {t:Tm} (ht:t∈ts):bz ts=bz (eF ts t.n)*iM t:=by
 induction ts with
 |nil=>cases ht
 |cons x r ih=>
  rw [List.map_cons,List.nodup_cons] at h;rcases List.mem_cons.1 ht with rfl|ht
  ·have:eF (t::r) t.n=r:=by unfold eF;rw [List.filter_cons_of_neg (by simp)];exact qY λu hu e=>h.1 (List.mem_map.2 ⟨u,hu,e⟩)
   rw [this,bz,gy]
  ·have hne:x.n≠t.n:=λe=>h.1 (List.mem_map.2 ⟨t,ht,e.symm⟩)
   have:eF (x::r) t.n=x::eF r t.n:=List.filter_cons_of_pos (by simpa using hne);rw [this,bz,bz,ih h.2 ht,au]
theorem Lh {ts:List Tm} (h:(ts.map (·.n)).Nodup) {t t':Tm} (ht:t∈ts) (e:t'.n=t.n):bz (FF ts t')=bz (eF ts t.n)*iM t':=by
 induction ts with
 |nil=>cases ht
 |cons x r ih=>
  rw [List.map_cons,List.nodup_cons] at h;rcases List.mem_cons.1 ht with rfl|ht
  ·have h1:∀u∈r,u.n≠t.n:=λu hu e=>h.1 (List.mem_map.2 ⟨u,hu,e⟩)
   have:eF (t::r) t.n=r:=by unfold eF;rw [List.filter_cons_of_neg (by simp)];exact qY h1
   have h2:FF (t::r) t'=t'::r:=by show (if t.n=t'.n then t' else t)::FF r t'=_;rw [if_pos e.symm,LW (λu hu=>by rw [e];exact h1 u hu)]
   rw [this,h2,bz,gy]
  ·have hne:x.n≠t.n:=λe=>h.1 (List.mem_map.2 ⟨t,ht,e.symm⟩)
   have:eF (x::r) t.n=x::eF r t.n:=List.filter_cons_of_pos (by simpa using hne);have h2:FF (x::r) t'=x::FF r t':=by show (if x.n=t'.n then t' else x)::FF r t'=_;rw [if_neg (by rw [e];exact hne)]
   rw [this,h2,bz,bz,ih h.2 ht,au]
structure qu (ts:List Tm) (q:Nat) (x:Sl):Prop where
 ok:FE (nU x) (qo x)
 mem:∀n v,aZ (nU x) n=some v↔∃t∈ts,t.n=n/\gF t=q/\v=tp t
structure wQ (ts:List Tm) (aes:List En) (ac:Nat) (Y:Dk):Prop where
 num:(ts.map (·.n)).Nodup
 tm:∀t∈ts,F8 t
 alls:aes.map (λe=>(e.k,e.v))=ts.map λt=>(t.n,tp t)
 aok:FE aes ac
 sl:∀q,q<257->qu ts q (Y q)
theorem qK:∀{aes:List En} {ts:List Tm},aes.map (λe=>(e.k,e.v))=ts.map (λt=>(t.n,tp t))->∀n,aZ aes n=(ts.find? λt=>decide (t.n=n)).map tp
 | [],[],_,_=>rfl
 | [],_::_,h,_=>by cases h
 |_::_,[],h,_=>by cases h
 |e::r,t::ts,h,n=>by
  simp only [List.map_cons,List.cons.injEq,Prod.mk.injEq] at h;obtain ⟨⟨h1,h2⟩,h3⟩:=h;simp only [aZ,h1,h2]
  by_cases hn:n=t.n
  ·subst hn;simp
  ·rw [if_neg hn,List.find?_cons_of_neg (by simpa using λg:t.n=n=>hn g.symm)]
   exact qK h3 n
theorem Cp {ts:List Tm} (h:(ts.map (·.n)).Nodup) {t:Tm} (ht:t∈ts):(ts.find? λu=>decide (u.n=t.n))=some t:=by
 cases hf:ts.find? λu=>decide (u.n=t.n) with
 |none=>
  have:=List.find?_eq_none.1 hf t ht;simp at this
 |some u=>
  have h1:=List.find?_some hf;have h2:=List.mem_of_find?_eq_some hf;rw [gx h h2 ht (of_decide_eq_true h1)]
theorem wQ.get {ts:List Tm} {aes:List En} {ac:Nat} {Y:Dk} (h:wQ ts aes ac Y) {t:Tm} (ht:t∈ts):aZ aes t.n=some (tp t):=by rw [qK h.alls,Cp h.num ht];rfl
theorem wQ.fQ {ts:List Tm} {aes:List En} {ac:Nat} {Y:Dk} (h:wQ ts aes ac Y) {n:Int} (hn:∀t∈ts,t.n≠n):aZ aes n=none:=by rw [qK h.alls,List.find?_eq_none.2 (λt ht=>by simpa using hn t ht)];rfl
theorem wQ.at {ts:List Tm} {aes:List En} {ac:Nat} {Y:Dk} (h:wQ ts aes ac Y) {t:Tm} (ht:t∈ts):∃x,Y (gF t)=some x:=by
 have:=((h.sl _ (Bc (h.tm t ht))).mem t.n (tp t)).2 ⟨t,ht,rfl,rfl,rfl⟩;cases hY:Y (gF t) with
 |none=>rw [hY] at this;cases this
 |some x=>exact ⟨x,rfl⟩
theorem Jm {ts:List Tm} (h:(ts.map (·.n)).Nodup) (n:Int):((eF ts n).map (·.n)).Nodup:=h.sublist (List.filter_sublist.map _)
theorem Hn:∀{aes:List En} {ts:List Tm} (n:Int),aes.map (λe=>(e.k,e.v))=ts.map (λt=>(t.n,tp t))->(aes.filter λe=>decide (e.k≠n)).map (λe=>(e.k,e.v))=(eF ts n).map λt=>(t.n,tp t)
 | [],[],_,_=>rfl
 | [],_::_,_,h=>by cases h
 |_::_,[],_,h=>by cases h
 |e::r,t::ts,n,h=>by
  simp only [List.map_cons,List.cons.injEq,Prod.mk.injEq] at h;obtain ⟨⟨h1,h2⟩,h3⟩:=h;have ih:=Hn n h3;unfold eF at ih⊢
  by_cases hn:t.n=n
  ·rw [List.filter_cons_of_neg (by simp [h1,hn]),List.filter_cons_of_neg (by simp [hn])]
   exact ih
  ·rw [List.filter_cons_of_pos (by simp [h1,hn]),List.filter_cons_of_pos (by simp [hn]),List.map_cons,List.map_cons,ih,h1,h2]
theorem My (x:Sl) (n:Int):nU (Bm x n)=eB (nU x) n:=by cases x<;>rfl
theorem WL (x:Sl) (n:Int):qo (Bm x n)=qo x:=by cases x<;>rfl
theorem qu.del {ts:List Tm} {q:Nat} {x:Sl} (h:qu ts q x) (n:Int):qu (eF ts n) q (Bm x n):=by
 refine ⟨by rw [My,WL];exact Hs h.ok n,λk v=> ?_⟩;rw [My,K7 h.ok.kn]
 by_cases hk:k=n
 ·subst hk
  rw [if_pos rfl];constructor
  ·intro h;cases h
  ·rintro ⟨t,ht,h1,_⟩
   have:=(List.mem_filter.1 ht).2;simp [h1] at this
 ·rw [if_neg hk,h.mem]
  constructor
  ·rintro ⟨t,ht,h1,h2⟩
   exact ⟨t,List.mem_filter.2 ⟨ht,by simp [h1,hk]⟩,h1,h2⟩
  ·rintro ⟨t,ht,h1⟩
   exact ⟨t,(List.mem_filter.1 ht).1,h1⟩
theorem qu.off {ts:List Tm} (hn:(ts.map (·.n)).Nodup) {q:Nat} {x:Sl} (h:qu ts q x) {t:Tm} (ht:t∈ts) (hq:gF t≠q):qu (eF ts t.n) q x:=by
 refine ⟨h.ok,λk v=> ?_⟩;rw [h.mem];constructor
 ·rintro ⟨u,hu,h1,h2,h3⟩
  exact ⟨u,List.mem_filter.2 ⟨hu,decide_eq_true λe=>hq (by rw [<-gx hn hu ht e];exact h2)⟩,h1,h2,h3⟩
 ·rintro ⟨u,hu,h1⟩
  exact ⟨u,(List.mem_filter.1 hu).1,h1⟩
theorem wQ.drop {ts:List Tm} {aes:List En} {ac:Nat} {Y:Dk} (h:wQ ts aes ac Y) {t:Tm} (ht:t∈ts):wQ (eF ts t.n) (eB aes t.n) ac (jV Y (gF t) (Bm (Y (gF t)) t.n)):=by
 refine ⟨Jm h.num _,λu hu=>h.tm u (List.mem_filter.1 hu).1,?_,Hs h.aok _,λq hq=> ?_⟩
 ·rw [zm h.aok.kn];exact Hn t.n h.alls
 ·by_cases e:q=gF t
  ·subst e;rw [kq];exact (h.sl _ hq).del t.n
  ·rw [kr _ _ e];exact (h.sl q hq).off h.num ht (Ne.symm e)
theorem Mz (m:Nat) (x:Sl) (t:Tm):nU (IU m x t)=nU x++ [⟨t.n,tp t,qo x⟩]:=rfl
theorem WM (m:Nat) (x:Sl) (t:Tm):qo (IU m x t)=qo x+1:=rfl
theorem qu.ZP {ts:List Tm} {q:Nat} {x:Sl} (h:qu ts q x) {t t':Tm} (e:t'.n=t.n) (eb:t'.b=t.b) (hf:∀u∈ts,u.n≠t.n) (hq:gF t'=q) (m:Nat) {ts':List Tm} (hts:∀u,u∈ts'↔u∈ts\/u=t'):qu ts' q (IU m x t):=by
 have hno:aZ (nU x) t.n=none:=by
  cases hg:aZ (nU x) t.n with
  |none=>rfl
  |some v=>
   obtain ⟨u,hu,h1,_⟩:=(h.mem _ _).1 hg;exact absurd h1 (hf u hu)
 refine ⟨by rw [Mz,WM];exact C5 h.ok hno _,λk v=> ?_⟩;rw [Mz,IQ _ _ _ _ hno]
 by_cases hk:k=t.n
 ·subst hk
  rw [if_pos rfl];constructor
  ·intro g;cases g
   exact ⟨t',(hts _).2 (.inr rfl),e,hq,by rw [tp,tp,eb]⟩
  ·rintro ⟨u,hu,h1,_,h3⟩
   rcases (hts u).1 hu with hu|rfl
   ·exact absurd h1 (hf u hu)
   ·rw [h3,tp,tp,eb]
 ·rw [if_neg hk,h.mem]
  constructor
  ·rintro ⟨u,hu,h1⟩;exact ⟨u,(hts u).2 (.inl hu),h1⟩
  ·rintro ⟨u,hu,h1,h2⟩
   rcases (hts u).1 hu with hu|rfl
   ·exact ⟨u,hu,h1,h2⟩
   ·exact absurd (h1.symm.trans e) hk
theorem qu.T9 {ts:List Tm} {q:Nat} {x:Sl} (h:qu ts q x) {t':Tm} (hq:gF t'≠q) {ts':List Tm} (hts:∀u,u∈ts'↔u∈ts\/u=t'):qu ts' q x:=by
 refine ⟨h.ok,λk v=> ?_⟩;rw [h.mem];constructor
 ·rintro ⟨u,hu,h1⟩;exact ⟨u,(hts u).2 (.inl hu),h1⟩
 ·rintro ⟨u,hu,h1,h2,h3⟩
  rcases (hts u).1 hu with hu|rfl
  ·exact ⟨u,hu,h1,h2,h3⟩
  ·exact absurd h2 hq
theorem Wj {ts:List Tm} {t t':Tm} (ht:t∈ts) (e:t'.n=t.n) (u:Tm):u∈FF ts t'↔u∈eF ts t.n\/u=t':=by
 unfold FF eF;constructor
 ·intro hu
  obtain ⟨x,hx,rfl⟩:=List.mem_map.1 hu
  by_cases h:x.n=t'.n
  ·rw [if_pos h];exact .inr rfl
  ·rw [if_neg h];exact .inl (List.mem_filter.2 ⟨hx,decide_eq_true λg=>h (g.trans e.symm)⟩)
 ·rintro (hu|rfl)
  ·obtain ⟨h1,h2⟩:=List.mem_filter.1 hu
   have h2:=of_decide_eq_true h2;exact List.mem_map.2 ⟨u,h1,if_neg λg=>h2 (g.trans e)⟩
  ·exact List.mem_map.2 ⟨t,ht,if_pos e.symm⟩
theorem Wp {ts:List Tm} (t':Tm):(FF ts t').map (·.n)=ts.map (·.n):=by
 unfold FF;rw [List.map_map];refine List.map_congr_left λu _=> ?_;show (if u.n=t'.n then t' else u).n=u.n;split
 ·rename_i h;exact h.symm
 ·rfl
theorem LU {ts:List Tm} (n:Int):∀u∈eF ts n,u.n≠n:=λu hu=>of_decide_eq_true (List.mem_filter.1 hu).2
theorem wQ.move {ts:List Tm} {aes:List En} {ac:Nat} {Y:Dk} (h:wQ ts aes ac Y) {t t':Tm} (ht:t∈ts) (e:t'.n=t.n) (eb:t'.b=t.b) (hok:F8 t') (hne:gF t'≠gF t) (m:Nat):
  wQ (FF ts t') aes ac (jV (jV Y (gF t) (Bm (Y (gF t)) t.n)) (gF t') (IU m (Y (gF t')) t)):=by
 have hmem:=Wj ht e;refine ⟨by rw [Wp];exact h.num,λu hu=> ?_,?_,h.aok,λq hq=> ?_⟩
 ·rcases (hmem u).1 hu with hu|rfl
  ·exact h.tm u (List.mem_filter.1 hu).1
  ·exact hok
 ·rw [h.alls]
  unfold FF;rw [List.map_map];refine List.map_congr_left λu hu=> ?_;show _=((if u.n=t'.n then t' else u).n,tp (if u.n=t'.n then t' else u));split
  ·rename_i g
   have:=gx h.num hu ht (g.trans e);subst this;rw [e,tp,tp,eb]
  ·rfl
 ·by_cases e1:q=gF t'
  ·subst e1
   rw [kq];exact ((h.sl _ hq).off h.num ht (Ne.symm hne)).ZP e eb (LU t.n) rfl m hmem
  ·rw [kr _ _ e1]
   by_cases e2:q=gF t
   ·subst e2
    rw [kq];exact ((h.sl _ hq).del t.n).T9 (Ne.symm e1) hmem
   ·rw [kr _ _ e2]
    exact ((h.sl q hq).off h.num ht (Ne.symm e2)).T9 (Ne.symm e1) hmem
theorem wQ.add {ts:List Tm} {aes:List En} {ac:Nat} {Y:Dk} (h:wQ ts aes ac Y) {t t':Tm} (e:t'.n=t.n) (eb:t'.b=t.b) (hf:∀u∈ts,u.n≠t.n) (hok:F8 t') (m:Nat):
  wQ (ts++ [t']) (aes++ [⟨t.n,tp t,ac⟩]) (ac+1) (jV Y (gF t') (IU m (Y (gF t')) t)):=by
 have hmem:∀u,u∈ts++ [t']↔u∈ts\/u=t':=λu=>by simp
 refine ⟨?_,λu hu=> ?_,?_,C5 h.aok (h.fQ hf) _,λq hq=> ?_⟩
 ·rw [List.map_append,List.nodup_append]
  refine ⟨h.num,by simp,λx hx y hy=> ?_⟩;obtain ⟨u,hu,rfl⟩:=List.mem_map.1 hx;have:y=t.n:=by simpa [e] using hy
  rw [this];exact hf u hu
 ·rcases (hmem u).1 hu with hu|rfl
  ·exact h.tm u hu
  ·exact hok
 ·rw [List.map_append,List.map_append,h.alls]
  simp [e,eb,tp]
 ·by_cases e1:q=gF t'
  ·subst e1
   rw [kq];exact (h.sl _ hq).ZP e eb hf rfl m hmem
  ·rw [kr _ _ e1]
   exact (h.sl q hq).T9 (Ne.symm e1) hmem
def iP (p now mv:Nat) (ts:List Tm):ak:=λh=>∃am aes ac Y,wQ ts aes ac Y/\(ao am aes ac*dj fL Y 257*wc p now mv am Y*bz ts) h
theorem yL {w0 w:World} {A:ak} {p now mv:Nat} {ts:List Tm} (s:St w0 (A*iP p now mv ts) w):∃am aes ac Y,wQ ts aes ac Y/\St w0 (A*bz ts*dj fL Y 257*ao am aes ac*wc p now mv am Y) w:=by obtain ⟨g,h1,h2,h3,d,e,a,am,aes,ac,Y,hok,b⟩:=s.holds;have s':St w0 (A*(ao am aes ac*dj fL Y 257*wc p now mv am Y*bz ts)) w:=s.of ⟨g,h1,h2,h3,d,e,a,b⟩;exact ⟨am,aes,ac,Y,hok,s'.to (by ac_rfl)⟩
theorem oV {w0 w:World} {A:ak} {p now mv am:Nat} {aes:List En} {ac:Nat} {Y:Dk} {ts:List Tm} (h:wQ ts aes ac Y) (s:St w0 (A*bz ts*dj fL Y 257*ao am aes ac*wc p now mv am Y) w):St w0 (A*iP p now mv ts) w:=by have s':St w0 (A*(ao am aes ac*dj fL Y 257*wc p now mv am Y*bz ts)) w:=s.to (by ac_rfl);exact s'.mono (fe (λ_ h=>h) λg hg=>⟨am,aes,ac,Y,h,hg⟩)
theorem wQ.free {ts:List Tm} {aes:List En} {ac:Nat} {Y:Dk} (h:wQ ts aes ac Y) {n:Int} (hn:∀t∈ts,t.n≠n) {q:Nat} (hq:q<257):aZ (nU (Y q)) n=none:=by
 cases hg:aZ (nU (Y q)) n with
 |none=>rfl
 |some v=>
  obtain ⟨t,ht,h1,_⟩:=((h.sl q hq).mem n v).1 hg;exact absurd h1 (hn t ht)
theorem vu (t:Tm) (now:Nat):F8 (j7 t now):=⟨(lL t.a now).1,(lL t.a now).2.1,(lL t.a now).2.2⟩
theorem vt (t:Tm) (now:Nat):Bn t now=gF (j7 t now):=rfl
def l78:ag:=⟨[0,1,2,6,7],54,[.slot 3],aM tG [] 0xe79e6fff74800e789a63d1100093049dcee269853d11007320c134d3c006034f001bc02773bdf3134d3d09004d2812cb08f2c4d3d09004d2812cb0bd09004d281b68a28a28bc0b2fff748d2420dcee271b57530e0782c263530e0782c29b338b134d3c006034f001bc02cbffdd22c908373b89c6d59b824b0989b824b0bd0733880b4d3c006034f001bc02cbffdd228e04373b72375f6d75753c2402282482e18e353c2402282e15cb3402302cb3402302d34f00040d3c001f00b2fff74870dc6d5d434011d8d434011ecbffdd20c371b57c3c663c3c6027dd2003⟩
theorem VY:ai U2 78 400=some l78:=by kernel_rfl
def l85:ag:=⟨[0,1,4,5],19,[.slot 2],aM tG [] 0xe79e6fff74800a789a63d0d000a304a2f02cbffdd238908271b5710cc2c26310cc2c29dcee2df80fd0733880b4d3c006034f001bc028bc0b2fff748309c6d5f0f198f0f1a7dd2002⟩
theorem V3:ai U2 85 400=some l85:=by kernel_rfl
def l83:ag:=⟨[0,2],9,[.slot 1],aM tG [] 0xb39bff73bdf3074d3c001034f0007c028bc0b2fff748005c6d5f0f198f0f1a7dd2001⟩
theorem V2:ai U2 83 400=some l83:=by kernel_rfl
def GR:HC:=(.seq (.reg (.eff (.mkm 213 false) .nil (.eff (.mkm 213 false) .nil (.chk none (.build (rl [(2,(.int .i64 0)),(258,(.map none))]) [(0,1),(1,1),(2,1),(3,256),(259,1)] [0,2,4]) (.cons (.inp 0) (.cons (.bv 0) (.cons (.bv 1) .nil))) (.eff (.box 217) (.cons (.op (.build (rl [(2,(.int .i64 0)),(258,(.map none))]) [(0,1),(1,1),(2,1),(3,256),(259,1)] [0,2,4]) (.cons (.inp 0) (.cons (.bv 0) (.cons (.bv 1) .nil)))) .nil) (.done [(1,(.bv 2)),(2,(.cst (.int .i64 0)))] none)))))) .ret)
@[simp] theorem ZC:type_of%(@aF GR _ GR.eq_1):=aF GR.eq_1
def GS:HC:=(.seq (.reg (.done [(1,(.cst (.pointer none))),(2,(.cst (.int .i64 90)))] none)) .ret)
@[simp] theorem ZD:type_of%(@aF GS _ GS.eq_1):=aF GS.eq_1
def GU:HC:=(.seq (.br (.chk none (.bin .lss) (.cons (.inp 0) (.cons (.cst (.int .i64 0)) .nil)) (.jQ (.op (.bin .lss) (.cons (.inp 0) (.cons (.cst (.int .i64 0)) .nil))) (.chk (some ((.bv 0),false)) (.bin .gtr) (.cons (.inp 0) (.cons (.cst (.int .i64 1099511627776)) .nil)) (.isb none (.bv 0) (.done [] (some (.ite (.bv 0) true (.cst (.bool true)) (.op (.bin .gtr) (.cons (.inp 0) (.cons (.cst (.int .i64 1099511627776)) .nil)))))))))) GS .skip) GR)
@[simp] theorem ZE:type_of%(@aF GU _ GU.eq_1):=aF GU.eq_1
def l77:ag:=⟨[0,2,3],15,[.slot 1,.slot 2],(.seq (.reg (.done [(1,(.cst (.pointer none))),(2,(.cst (.int .i64 0)))] none)) GU)⟩
theorem VX:ai U2 77 400=some l77:=by kernel_rfl
theorem BL {α:Type} {F:Nat->α->ak} {Y:Nat->α}:∀n,(∀k,k<n->F k (Y k)=emp)->dj F Y n=emp
 |0,_=>rfl
 |n+1,h=>by show dj F Y n*F n (Y n)=emp;rw [BL n (λk hk=>h k (by omega)),h n (by omega),aq]
theorem LO (now:Int) (am bm:Nat):Instr.fill (λx=> [(0,1),(1,1),(2,1),(3,256),(259,1)][x]?) (rl [(2,.int .i64 0),(258,.map none)]) [(0,.int .i64 now),(2,.map (some am)),(4,.map (some bm))]=some (rl [(1,.int .i64 now),(1,.int .i64 0),(1,.map (some am)),(256,.map none),(1,.map (some bm))]):=by kernel_rfl
theorem fB (now:Int) (w0 w:World) (A:ak) {K:Value->World->Prop} (s:St w0 A w)
  (hk:∀r w',(if 0<=now/\now<=1099511627776 then∃p,r= .tuple #[.pointer (some ⟨p,0,none⟩),.int .i64 0]/\St w0 (A*iP p now.toNat 0 []) w' else r= .tuple #[.pointer none,.int .i64 90]/\St w0 A w')->K r w'):
  aj Tryz.prog 77 [.int .i64 now] K w:=by
 refine cX VX (by simp [l77]) ?_;simp [l77];refine aR (λh=> ?_) (λh=> ?_)
 ·simp at h
  simp;refine hk _ _ ?_;rw [if_neg (by omega)];exact ⟨rfl,s⟩
 simp at h;simp;refine iC s ?_;intro am w1 s1;simp;refine iC s1 ?_;intro bm w2 s2;simp;rw [LO];simp;refine bA s2 ?_;intro p w3 s3;simp;refine hk _ _ ?_;rw [if_pos h];refine ⟨p,rfl,?_⟩;obtain ⟨now,rfl⟩:=Int.eq_ofNat_of_zero_le h.1;have eA:rl [(1,.int .i64 now),(1,.int .i64 0),(1,.map (some am)),(256,.map none),(1,.map (some bm))]=(xc now 0 am (jV (λ_=>none) 256 (some (bm,[],0)))).toArray:=by kernel_rfl
 have s3:St w0 (A*ao am [] 0*ao bm [] 0*wc p now 0 am (jV (λ_=>none) 256 (some (bm,[],0)))) w3:=by show St w0 (_*pt p (.cells (xc now 0 am (jV (λ_=>none) 256 (some (bm,[],0)))).toArray _ _)) w3;rw [<-eA];exact s3
 have eb:dj fL (jV (λ_=>none) 256 (some (bm,[],0))) 257=ao bm [] 0:=by show dj fL (jV (λ_=>none) 256 (some (bm,[],0))) 256*fL 256 (jV (λ_=>none) 256 (some (bm,[],0)) 256)=_;rw [BL 256 (λk hk=>by rw [kr _ _ (by omega)];rfl),dX,kq];rfl
 have hok:wQ [] [] 0 (jV (λ_=>none) 256 (some (bm,[],0))):=⟨by simp,by simp,rfl,AK 0,λq _=>by
  by_cases e:q=256
  ·subst e;rw [kq];exact ⟨AK 0,λn v=>by simp [nU,aZ]⟩
  ·rw [kr _ _ e];exact ⟨AK 0,λn v=>by simp [nU,aZ]⟩⟩
 refine oV (am:=am) hok ?_;rw [eb,show bz []=emp from rfl,aq];exact s3.to (by ac_rfl)
theorem Bu (p now mv:Nat) (ts:List Tm) (w0 w:World) (A:ak) (s:St w0 (A*iP p now mv ts) w):
  aj Tryz.prog 83 [.pointer (some ⟨p,0,none⟩)] (λr w'=>r= .int .i64 now/\St w0 (A*iP p now mv ts) w') w:=by
 refine aG V2 (by simp [l83]) ?_;simp [l83];obtain ⟨am,aes,ac,Y,hok,t1⟩:=yL s;refine af (v:= .int .i64 now) (t1.ad 0 _ rfl) ?_;simp;exact s
theorem Bp (p now mv:Nat) (ts:List Tm) (n:Int) (w0 w:World) (A:ak) {K:Value->World->Prop} (s:St w0 (A*iP p now mv ts) w)
  (hk:∀r w',r= .int .i64 (if (∀u∈ts,u.n≠n) then 93 else 0)->St w0 (A*iP p now mv (eF ts n)) w'->K r w'):
  aj Tryz.prog 85 [.pointer (some ⟨p,0,none⟩),.int .i64 n] K w:=by
 refine aG V3 (by simp [l85]) ?_;simp [l85];obtain ⟨am,aes,ac,Y,hok,t1⟩:=yL s;refine af (v:= .map (some am)) (t1.ad 2 _ rfl) ?_;simp;refine nC mK t1.drop.look ?_;simp
 by_cases hn:∀u∈ts,u.n≠n
 ·rw [hok.fQ hn]
  simp;refine hk _ _ (by rw [if_pos hn]) ?_;rw [qY hn];exact s
 ·obtain ⟨t,ht⟩:∃t,t∈ts/\t.n=n:=by refine Classical.byContradiction λh=>hn λu hu e=>h ⟨u,hu,e⟩
  obtain ⟨ht,rfl⟩:=ht;rw [hok.get ht];simp;obtain ⟨x,hx⟩:=hok.at ht;have t2:St w0 (A*bz (eF ts t.n)*ao am aes ac*dj fL Y 257*wc p now mv am Y*iM t) w:=by rw [kO hok.num ht] at t1;exact t1.to (by ac_rfl)
  refine ab (xE p am now mv Y t aes ac x w0 w _ (hok.tm t ht) hx t2 λr w' s3=> ?_);simp;refine hk _ _ (by rw [if_neg hn]) ?_;have h2:=hok.drop ht;rw [hx] at h2;exact oV h2 (St.cut (iM t) s3 (by ac_rfl))
def p9 (now:Nat) (ts:List Tm) (n a:Int):Int:=if n<1 then 2 else if a<=now\/1099511627776<a then 90 else if¬∀u∈ts,u.n≠n then 92 else if 65536<=ts.length then 91 else 0
theorem gU {now:Nat} {ts:List Tm} {n a:Int}:p9 now ts n a=0↔1<=n/\now<a/\a<=1099511627776/\(∀u∈ts,u.n≠n)/\ts.length<65536:=by
 unfold p9;constructor
 ·intro h
  by_cases h1:n<1
  ·simp [h1] at h
  by_cases h2:a<=now\/1099511627776<a
  ·simp [h1,h2] at h
  by_cases h3:∀u∈ts,u.n≠n
  ·by_cases h4:65536<=ts.length
   ·rw [if_neg h1,if_neg h2,if_neg (not_not_intro h3),if_pos h4] at h
    simp at h
   ·exact ⟨by omega,by omega,by omega,h3,by omega⟩
  ·rw [if_neg h1,if_neg h2,if_pos h3] at h
   simp at h
 ·rintro ⟨h1,h2,h3,h4,h5⟩
  rw [if_neg (by omega),if_neg (by omega),if_neg (not_not_intro h4),if_neg (by omega)]
theorem Ee (p now mv:Nat) (ts:List Tm) (n at_:Int) (w0 w:World) (A:ak) {K:Value->World->Prop} (hnow:now<=1099511627776) (s:St w0 (A*iP p now mv ts) w)
  (hk:∀w',(if p9 now ts n at_=0 then∃b,St w0 (A*iP p now mv (ts++ [j7 ⟨n,at_.toNat,0,0,b⟩ now])) w' else St w0 (A*iP p now mv ts) w')->K (.int .i64 (p9 now ts n at_)) w'):
  aj Tryz.prog 78 [.pointer (some ⟨p,0,none⟩),.int .i64 n,.int .i64 at_] K w:=by
 refine aG VY (by simp [l78]) ?_;simp [l78];have no:∀(e:Int) (w':World),p9 now ts n at_=e->e≠0->St w0 (A*iP p now mv ts) w'->K (.int .i64 e) w':=λe w' he h0 s'=>by subst he;exact hk _ (by rw [if_neg h0];exact s')
 refine aR (λc1=> ?_) (λc1=> ?_)
 ·simp at c1
  simp;exact no 2 w (by unfold p9;rw [if_pos (by omega)]) (by decide) s
 simp at c1;simp;obtain ⟨am,aes,ac,Y,hok,t1⟩:=yL s;refine af (v:= .int .i64 now) (t1.ad 0 _ rfl) ?_;simp;refine aR (λc2=> ?_) (λc2=> ?_)
 ·simp at c2
  simp;exact no 90 w (by unfold p9;rw [if_neg (by omega),if_pos (by omega)]) (by decide) s
 simp at c2;obtain ⟨a,rfl⟩:∃a:Nat,at_=a:=⟨at_.toNat,by omega⟩;simp;refine af (v:= .map (some am)) (t1.ad 2 _ rfl) ?_;simp;refine nC mK t1.drop.look ?_;simp
 by_cases hn:∀u∈ts,u.n≠n
 ·rw [hok.fQ hn]
  simp;refine af (v:= .map (some am)) (t1.ad 2 _ rfl) ?_;simp;refine KP mK.ty t1.drop.look ?_;have hl:aes.length=ts.length:=by have:=congrArg List.length hok.alls;simpa using this
  rw [hl];simp;refine aR (λc3=> ?_) (λc3=> ?_)
  ·simp at c3
   simp;exact no 91 w (by unfold p9;rw [if_neg (by omega),if_neg (by omega),if_neg (not_not_intro hn),if_pos (by omega)]) (by decide) s
  simp at c3;simp [Instr.fill,Value.cells];refine bA t1 ?_;intro b w2 s2;obtain ⟨T,hT⟩:∃T:Tm,T=⟨n,a,0,0,b⟩:=⟨_,rfl⟩;have hTn:T.n=n:=by rw [hT]
  have s2:St w0 (A*bz ts*dj fL Y 257*ao am aes ac*wc p now mv am Y*iM T) w2:=by rw [hT];exact s2
  simp;have htp:Value.pointer (some ⟨b,0,none⟩)=tp T:=by rw [hT]
  rw [htp];refine af (v:= .map (some am)) (s2.drop.ad 2 _ rfl) ?_;simp;refine cu mK (s2.to (B:=A*bz ts*dj fL Y 257*wc p now mv am Y*iM T*ao am aes ac) (by ac_rfl)) (hok.fQ hn) ?_;intro w3 s3;simp;have hq:=vt T now;have hqlt:=Bc (vu T now);refine ab (xQ p am now mv Y T w0 w3 (A*bz ts*ao am (aes++ [⟨n,tp T,ac⟩]) (ac+1)) (by rw [hT];show a<=_;omega) (by omega) (by rw [hq,hTn];exact hok.free hn hqlt) (s3.to (by ac_rfl)) λr m w4 hm s4=> ?_);simp;have hz:p9 now ts n a=0:=gU.2 ⟨c1,c2.1,c2.2,hn,by omega⟩;have hk:=hk w4;rw [hz] at hk;refine hk ?_;rw [if_pos rfl];refine ⟨b,?_⟩;have hnew:=hok.add (t:=T) (t':=j7 T now) rfl rfl (by rw [hTn];exact hn) (vu T now) m;have e:j7 ⟨n,(a:Int).toNat,0,0,b⟩ now=j7 T now:=by rw [hT];rfl
  rw [e];refine oV (am:=am) hnew ?_;rw [xS,show bz [j7 T now]=iM (j7 T now)*emp from rfl,aq,hTn];exact s4.to (by rw [hq];ac_rfl)
 ·obtain ⟨t,ht⟩:∃t,t∈ts/\t.n=n:=by refine Classical.byContradiction λh=>hn λu hu e=>h ⟨u,hu,e⟩
  obtain ⟨ht,rfl⟩:=ht;rw [hok.get ht];simp;exact no 92 w (by unfold p9;rw [if_neg (by omega),if_neg (by omega),if_pos hn]) (by decide) s
theorem ot (p now mv:Nat) (ts:List Tm) (n at_:Int) (w0 w:World) (A:ak) {K:Value->World->Prop} (hnow:now<=1099511627776) (s:St w0 (A*iP p now mv ts) w)
  (hk:∀r w',(if 1<=n/\now<at_/\at_<=1099511627776/\(∀u∈ts,u.n≠n)/\ts.length<65536 then r= .int .i64 0/\∃b,St w0 (A*iP p now mv (ts++ [j7 ⟨n,at_.toNat,0,0,b⟩ now])) w' else (∃e,r= .int .i64 e/\e≠0)/\St w0 (A*iP p now mv ts) w')->K r w'):
  aj Tryz.prog 78 [.pointer (some ⟨p,0,none⟩),.int .i64 n,.int .i64 at_] K w:=by
 refine Ee p now mv ts n at_ w0 w A hnow s λw' h=>hk _ w' ?_
 by_cases hz:p9 now ts n at_=0
 ·rw [if_pos (gU.1 hz)]
  rw [if_pos hz] at h;exact ⟨by rw [hz],h⟩
 ·rw [if_neg (λg=>hz (gU.2 g))]
  rw [if_neg hz] at h;exact ⟨⟨_,rfl,hz⟩,h⟩
end Go.HL.Wh
namespace Go.HL.Wh
open Go.HL
structure Dg (a d4 d3 d2 d1 d0:Nat):Prop where
 eq:a=d4*16777216+d3*262144+d2*4096+d1*64+d0
 b3:d3<64
 b2:d2<64
 b1:d1<64
 b0:d0<64
theorem KI (a:Nat):∃d4 d3 d2 d1 d0,Dg a d4 d3 d2 d1 d0:=
 ⟨a /16777216,a /262144 %64,a /4096 %64,a /64 %64,a %64,by omega,by omega,by omega,by omega,by omega⟩
theorem Dg.d4 {a d4 d3 d2 d1 d0:Nat} (h:Dg a d4 d3 d2 d1 d0):a /16777216=d4:=by obtain ⟨h,_,_,_,_⟩:=h;omega
theorem Dg.d3 {a d4 d3 d2 d1 d0:Nat} (h:Dg a d4 d3 d2 d1 d0):gl a 3=d3:=by obtain ⟨h,_,_,_,_⟩:=h;show a /262144 %64=d3;omega
theorem Dg.d2 {a d4 d3 d2 d1 d0:Nat} (h:Dg a d4 d3 d2 d1 d0):gl a 2=d2:=by obtain ⟨h,_,_,_,_⟩:=h;show a /4096 %64=d2;omega
theorem Dg.d1 {a d4 d3 d2 d1 d0:Nat} (h:Dg a d4 d3 d2 d1 d0):gl a 1=d1:=by obtain ⟨h,_,_,_,_⟩:=h;show a /64 %64=d1;omega
theorem Dg.d0 {a d4 d3 d2 d1 d0:Nat} (h:Dg a d4 d3 d2 d1 d0):gl a 0=d0:=by obtain ⟨h,_,_,_,_⟩:=h;show a /1 %64=d0;omega
theorem Fv {a a4 a3 a2 a1 a0 n n4 n3 n2 n1 n0:Nat} (ha:Dg a a4 a3 a2 a1 a0) (hn:Dg n n4 n3 n2 n1 n0):
  (a4≠n4/\fR a n=(4,0))\/(a4=n4/\a3≠n3/\fR a n=(3,a3))\/(a4=n4/\a3=n3/\a2≠n2/\fR a n=(2,a2))\/
  (a4=n4/\a3=n3/\a2=n2/\a1≠n1/\fR a n=(1,a1))\/(a4=n4/\a3=n3/\a2=n2/\a1=n1/\fR a n=(0,a0)):=by
 unfold fR;rw [ha.d4,ha.d3,ha.d2,ha.d1,ha.d0,hn.d4,hn.d3,hn.d2,hn.d1]
 by_cases h4:a4=n4
 ·by_cases h3:a3=n3
  ·by_cases h2:a2=n2
   ·by_cases h1:a1=n1
    ·simp [h4,h3,h2,h1]
    ·simp [h4,h3,h2,h1]
   ·simp [h4,h3,h2]
  ·simp [h4,h3]
 ·simp [h4]
def oo (now to:Nat) (p:Nat×Nat):Prop:=p.1<(fR to now).1\/p.1=(fR to now).1/\p.2<=(fR to now).2
set_option maxHeartbeats 4000000 in
theorem Fw (a now to:Nat) (h1:now<a) (h2:now<to):
  (oo now to (fR a now)->to<a->fR a now=fR to now/\((fR a to).1<(fR to now).1\/fR a to=fR a now))/\
  (¬oo now to (fR a now)->to<a/\fR a to=fR a now):=by
 obtain ⟨a4,a3,a2,a1,a0,ha⟩:=KI a;obtain ⟨n4,n3,n2,n1,n0,hn⟩:=KI now;obtain ⟨t4,t3,t2,t1,t0,ht⟩:=KI to;have L1:=Fv ha hn;have L2:=Fv ha ht;have L3:=Fv ht hn;obtain ⟨ea,ba3,ba2,ba1,ba0⟩:=ha;obtain ⟨en,bn3,bn2,bn1,bn0⟩:=hn;obtain ⟨et,bt3,bt2,bt1,bt0⟩:=ht;unfold oo;generalize fR a now=x at*;generalize fR a to=y at*;generalize fR to now=z at*;obtain ⟨x1,x2⟩:=x;obtain ⟨y1,y2⟩:=y;obtain ⟨z1,z2⟩:=z;simp only [Prod.mk.injEq] at*;rcases L3 with L3|L3|L3|L3|L3<;>rcases L1 with L1|L1|L1|L1|L1<;>omega
def eu (to:Nat) (D:Tm->Bool) (ts:List Tm):List Tm:=(ts.filter λt=> !(D t&&decide (t.a<=to))).map λt=>if D t=true then j7 t to else t
def sh (to:Nat) (D:Tm->Bool) (ts:List Tm):List Tm:=ts.filter λt=>D t&&decide (t.a<=to)
def se (to:Nat) (t:Tm):Bool:=decide (to<t.a)&&decide ((fR t.a to).1≠t.l)
def iT (to:Nat) (D:Tm->Bool) (ts:List Tm):List Tm:=ts.filter λt=>D t&&se to t
def eh (D:Tm->Bool) (t:Tm):Tm->Bool:=λu=>D u||decide (u.n=t.n)
section
variable {ts:List Tm} {to:Nat} {D D':Tm->Bool} {t:Tm}
theorem Is (h:∀t∈ts,D t=D' t):eu to D ts=eu to D' ts:=by
 unfold eu;have e:(ts.filter λt=> !(D t&&decide (t.a<=to)))=ts.filter λt=> !(D' t&&decide (t.a<=to)):=List.filter_congr λt ht=>by rw [h t ht]
 rw [e];exact List.map_congr_left λt ht=>by rw [h t (List.mem_filter.1 ht).1]
theorem Jq (h:∀t∈ts,D t=D' t):sh to D ts=sh to D' ts:=List.filter_congr λt ht=>by rw [h t ht]
theorem Jj (h:∀t∈ts,D t=D' t):iT to D ts=iT to D' ts:=List.filter_congr λt ht=>by rw [h t ht]
theorem uO (p:Tm->Bool):∀{ts:List Tm},(ts.map (·.n)).Nodup->t∈ts->D t=false->p t=true->
  (ts.filter λu=>eh D t u&&p u).Perm (t::ts.filter λu=>D u&&p u)
 | [],_,h,_,_=>by cases h
 |x::r,hn,ht,hD,hp=>by
  rw [List.map_cons,List.nodup_cons] at hn;rcases List.mem_cons.1 ht with rfl|ht
  ·have e:(r.filter λu=>eh D t u&&p u)=r.filter λu=>D u&&p u:=List.filter_congr λu hu=>by have:u.n≠t.n:=λg=>hn.1 (List.mem_map.2 ⟨u,hu,g⟩);simp [eh,this]
   rw [List.filter_cons_of_pos (by simp [eh,hp]),List.filter_cons_of_neg (by simp [hD]),e]
  ·have hne:x.n≠t.n:=λg=>hn.1 (List.mem_map.2 ⟨t,ht,g.symm⟩)
   have ih:=uO p hn.2 ht hD hp
   by_cases hx:(D x&&p x)=true
   ·rw [List.filter_cons_of_pos (by simpa [eh,hne] using hx),show (x::r).filter (λu=>D u&&p u)=x::r.filter (λu=>D u&&p u) from List.filter_cons_of_pos hx]
    exact (ih.cons x).trans (List.Perm.swap t x _)
   ·rw [List.filter_cons_of_neg (by simpa [eh,hne] using hx),show (x::r).filter (λu=>D u&&p u)=r.filter (λu=>D u&&p u) from List.filter_cons_of_neg hx]
    exact ih
theorem uP (p:Tm->Bool) (hn:(ts.map (·.n)).Nodup) (ht:t∈ts) (hp:p t=false):(ts.filter λu=>eh D t u&&p u)=ts.filter λu=>D u&&p u:=by
 refine List.filter_congr λu hu=> ?_
 by_cases e:u.n=t.n
 ·have:=gx hn hu ht e
  subst this;simp [hp]
 ·simp [eh,e]
theorem GD (hn:(ts.map (·.n)).Nodup) (ht:t∈ts) (hd:t.a<=to):eu to (eh D t) ts=eF (eu to D ts) t.n:=by
 unfold eu eF;rw [List.filter_map,List.filter_filter];have e:(ts.filter λu=> !(eh D t u&&decide (u.a<=to)))=ts.filter λu=>((λu:Tm=>decide (u.n≠t.n))∘λt=>if D t=true then j7 t to else t) u&& !(D u&&decide (u.a<=to)):=by
  refine List.filter_congr λu hu=> ?_;have hfn:(if D u=true then j7 u to else u).n=u.n:=by split<;>rfl
  simp only [Function.comp_apply,hfn]
  by_cases e:u.n=t.n
  ·have:=gx hn hu ht e
   subst this;simp [eh,hd]
  ·simp [eh,e]
 rw [e];refine List.map_congr_left λu hu=> ?_;have h:=(List.mem_filter.1 hu).2;have hfn:(if D u=true then j7 u to else u).n=u.n:=by split<;>rfl
 simp only [Function.comp_apply,hfn,Bool.and_eq_true,decide_eq_true_eq] at h;simp [eh,h.1]
theorem GF (hn:(ts.map (·.n)).Nodup) (ht:t∈ts) (hd:to<t.a):eu to (eh D t) ts=FF (eu to D ts) (j7 t to):=by
 unfold eu FF;rw [List.map_map];have e:(ts.filter λu=> !(eh D t u&&decide (u.a<=to)))=ts.filter λu=> !(D u&&decide (u.a<=to)):=by
  refine List.filter_congr λu hu=> ?_
  by_cases e:u.n=t.n
  ·have:=gx hn hu ht e
   subst this;have:¬u.a<=to:=by omega
   simp [this]
  ·simp [eh,e]
 rw [e];refine List.map_congr_left λu hu=> ?_;have hu:=(List.mem_filter.1 hu).1;have hfn:(if D u=true then j7 u to else u).n=u.n:=by split<;>rfl
 simp only [Function.comp_apply,hfn];show _=if u.n=t.n then j7 t to else _
 by_cases e:u.n=t.n
 ·have:=gx hn hu ht e
  subst this;simp [eh]
 ·simp [eh,e]
theorem KD (hn:(ts.map (·.n)).Nodup) (ht:t∈ts) (hd:to<t.a) (hg:j7 t to=t):eu to (eh D t) ts=eu to D ts:=by
 unfold eu;have e:(ts.filter λu=> !(eh D t u&&decide (u.a<=to)))=ts.filter λu=> !(D u&&decide (u.a<=to)):=by
  refine List.filter_congr λu hu=> ?_
  by_cases e:u.n=t.n
  ·have:=gx hn hu ht e
   subst this;have:¬u.a<=to:=by omega
   simp [this]
  ·simp [eh,e]
 rw [e];refine List.map_congr_left λu hu=> ?_;have hu:=(List.mem_filter.1 hu).1
 by_cases e:u.n=t.n
 ·have:=gx hn hu ht e
  subst this;simp [eh,hg]
 ·simp [eh,e]
theorem QO {u:Tm} (h:u∈eu to D ts):∃t∈ts,u=(if D t=true then j7 t to else t)/\(D t=true->to<t.a):=by obtain ⟨t,ht,rfl⟩:=List.mem_map.1 h;obtain ⟨h1,h2⟩:=List.mem_filter.1 ht;refine ⟨t,h1,rfl,λhD=> ?_⟩;simp [hD] at h2;exact h2
theorem sr {t:Tm} (ht:t∈ts) (hD:D t=false):t∈eu to D ts:=List.mem_map.2 ⟨t,List.mem_filter.2 ⟨ht,by simp [hD]⟩,by simp [hD]⟩
end
structure kX (now:Nat) (ts:List Tm):Prop where
 num:(ts.map (·.n)).Nodup
 pl:∀t∈ts,t.l=(fR t.a now).1/\t.s=(fR t.a now).2
 ah:∀t∈ts,now<t.a
 bd:∀t∈ts,t.a<=1099511627776/\1<=t.n
def kb (to:Nat) (ts:List Tm):List Tm:=(ts.filter λt=>decide (to<t.a)).map λt=>j7 t to
def uB (to:Nat) (ts:List Tm):List Tm:=ts.filter λt=>decide (t.a<=to)
def kl (to:Nat) (ts:List Tm):List Tm:=ts.filter (se to)
theorem kX.rest {now to:Nat} {ts:List Tm} (h:kX now ts):kX to (kb to ts):=by
 have hm:∀u∈kb to ts,∃t∈ts,to<t.a/\u=j7 t to:=λu hu=>by obtain ⟨t,ht,rfl⟩:=List.mem_map.1 hu;obtain ⟨h1,h2⟩:=List.mem_filter.1 ht;exact ⟨t,h1,of_decide_eq_true h2,rfl⟩
 refine ⟨?_,λu hu=> ?_,λu hu=> ?_,λu hu=> ?_⟩
 ·unfold kb
  rw [List.map_map];exact h.num.sublist (List.filter_sublist.map _)
 ·obtain ⟨t,ht,h1,rfl⟩:=hm u hu;exact ⟨rfl,rfl⟩
 ·obtain ⟨t,ht,h1,rfl⟩:=hm u hu;exact h1
 ·obtain ⟨t,ht,h1,rfl⟩:=hm u hu;exact h.bd t ht
theorem vv {t:Tm} {to:Nat} (h1:(fR t.a to).1=t.l) (h2:(fR t.a to).2=t.s):j7 t to=t:=by unfold j7;rw [h1,h2]
def vD (l n:Nat):Tm->Bool:=λt=>decide (t.l<l)||(decide (t.l=l)&&decide (t.s<n))
section
variable {ts:List Tm} {now to:Nat} {D:Tm->Bool}
theorem NY (h:kX now ts) (hto:now<to) (hD:∀t∈ts,D t=true↔oo now to (t.l,t.s)):eu to D ts=kb to ts/\sh to D ts=uB to ts/\iT to D ts=kl to ts:=by
 have key:∀t∈ts,D t=false->to<t.a/\j7 t to=t:=λt ht hd=>by
  obtain ⟨p1,p2⟩:=h.pl t ht;have hv:¬oo now to (fR t.a now):=by rw [show fR t.a now=(t.l,t.s) by rw [p1,p2]];intro g;rw [(hD t ht).2 g] at hd;cases hd
  obtain ⟨q1,q2⟩:=(Fw t.a now to (h.ah t ht) hto).2 hv;exact ⟨q1,vv (by rw [q2,p1]) (by rw [q2,p2])⟩
 refine ⟨?_,?_,?_⟩
 ·unfold eu kb
  have e:(ts.filter λt=> !(D t&&decide (t.a<=to)))=ts.filter λt=>decide (to<t.a):=List.filter_congr λt ht=>by
   cases hd:D t with
   |true=>by_cases g:t.a<=to<;>simp [g]<;>omega
   |false=>simp [(key t ht hd).1]
  rw [e];refine List.map_congr_left λt ht=> ?_;cases hd:D t with
  |true=>simp
  |false=>simp [(key t (List.mem_filter.1 ht).1 hd).2]
 ·refine List.filter_congr λt ht=> ?_
  cases hd:D t with
  |true=>simp
  |false=>have:=(key t ht hd).1;simp;omega
 ·refine List.filter_congr λt ht=> ?_
  cases hd:D t with
  |true=>simp
  |false=>
   have:=(key t ht hd).2;have:(fR t.a to).1=t.l:=congrArg Tm.l this;simp [se,this]
theorem Ki (h:kX now ts) (hto:now<to) {l n:Nat} (hl:l<=4) (hn:n<64) (h4:l=4->n=0) (hv:oo now to (l,n)) {sn:List Int} (hD:∀t∈ts,D t=(vD l n t||(decide (gF t=l*64+n)&&decide (t.n∈sn)))) {u:Tm} (hu:u∈eu to D ts) (hq:gF u=l*64+n) (hs:u.n∉sn):
  u∈ts/\D u=false/\u.l=l/\u.s=n:=by
 obtain ⟨t,ht,he,hd⟩:=QO hu;have htn:u.n=t.n:=by rw [he];split<;>rfl
 have ok:∀t:Tm,t.l=(fR t.a now).1->t.s=(fR t.a now).2->t.s<64/\t.l<=4:=λt h1 h2=>by have:=lL t.a now;rw [h1,h2];exact ⟨this.2.1,this.1⟩
 have hDf:D t=false:=by
  cases hDt:D t with
  |false=>rfl
  |true=>
   exfalso;have hta:=hd hDt;rw [hDt,if_pos rfl] at he;rw [hD t ht] at hDt;obtain ⟨p1,p2⟩:=h.pl t ht;have hlt:t.l<l\/t.l=l/\t.s<n:=by
    rcases Bool.or_eq_true _ _▸hDt with g|g
    ·simp only [vD,Bool.or_eq_true,Bool.and_eq_true,decide_eq_true_eq] at g;exact g
    ·simp only [Bool.and_eq_true,decide_eq_true_eq] at g
     exact absurd (htn▸g.2) hs
   have hv2:oo now to (fR t.a now):=by rw [show fR t.a now=(t.l,t.s) by rw [p1,p2]];unfold oo at hv⊢;simp only at hv⊢;omega
   have:=((Fw t.a now to (h.ah t ht) hto).1 hv2 hta).1;rw [show fR t.a now=(t.l,t.s) by rw [p1,p2]] at this;unfold oo at hv;rw [<-this] at hv;simp only at hv;omega
 rw [hDf] at he;simp at he;subst he;obtain ⟨p1,p2⟩:=h.pl u ht;obtain ⟨b1,b2⟩:=ok u p1 p2;unfold gF at hq;exact ⟨ht,hDf,by omega,by omega⟩
theorem YX (h:kX now ts) (hto:now<to) {l n:Nat} (hv:oo now to (l,n)) {u:Tm} (hu:u∈ts) (hl:u.l=l) (hs:u.s=n) (hd:to<u.a):(fR u.a to).1=l->j7 u to=u:=by
 obtain ⟨p1,p2⟩:=h.pl u hu;have e:fR u.a now=(l,n):=by rw [<-hl,<-hs,p1,p2]
 obtain ⟨q1,q2⟩:=(Fw u.a now to (h.ah u hu) hto).1 (e▸hv) hd;intro g;rcases q2 with q2|q2
 ·rw [<-q1,e] at q2;simp only at q2;omega
 ·exact vv (by rw [q2,<-p1]) (by rw [q2,<-p2])
theorem vO (h:kX now ts) {l n:Nat} (hn:n<64) {sn:List Int} (hD:∀t∈ts,D t=(vD l n t||(decide (gF t=l*64+n)&&decide (t.n∈sn)))) (hall:∀t∈ts,gF t=l*64+n->D t=true):∀t∈ts,D t=vD l (n+1) t:=by
 intro t ht;obtain ⟨p1,p2⟩:=h.pl t ht;have hs:t.s<64:=by rw [p2];exact (lL t.a now).2.1
 by_cases hq:gF t=l*64+n
 ·rw [hall t ht hq]
  unfold gF at hq;have e1:t.l=l:=by omega
  have e2:t.s=n:=by omega
  simp [vD,e1,e2]
 ·rw [hD t ht]
  unfold gF at hq;have hq2:¬(t.l=l/\t.s=n):=λg=>hq (by rw [g.1,g.2]);unfold vD;rw [Bool.eq_iff_iff];simp only [Bool.or_eq_true,Bool.and_eq_true,decide_eq_true_eq,gF,hq,false_and,or_false];omega
theorem FB (h:kX now ts) (l:Nat):∀t∈ts,vD l 64 t=vD (l+1) 0 t:=by
 intro t ht;obtain ⟨p1,p2⟩:=h.pl t ht;have hs:t.s<64:=by rw [p2];exact (lL t.a now).2.1
 unfold vD;rw [Bool.eq_iff_iff];simp only [Bool.or_eq_true,Bool.and_eq_true,decide_eq_true_eq];omega
end
end Go.HL.Wh
namespace Go.HL.Wh
open Go.HL Go.Proofs
def Vp:ag:=⟨[0,2],6,[.slot 1],aM tG [] 0xe6ffdcdd553c40010153c400127dd2041⟩
theorem Qi:ai U2 274 400=some Vp:=by kernel_rfl
def Ls:ag:=⟨[0,2,3,5,6,7,8],18,[.slot 1],aM tG [] 0x2ce79bffdd0081b6ee677375750d01be1b50d01beb6ca2f02cbffdd00c171b57d0900c463d0900c49fbdf30f4f464042c103d19010b041a2f0af01c6d5f454061d8f454061c09dc699676480195f02150004f029f74800a7dd2001⟩
theorem Hk:ai U2 199 400=some Ls:=by kernel_rfl
theorem vA (u:Int) (w:World):aj Tryz.prog 274 [.int .i64 u] (λr w'=>r= .bool false/\w'=w) w:=by refine aG Qi (by simp [Vp]) ?_;simp [Vp]
def rZ (a b:Int):Int:=if a<b then -1 else if b<a then 1 else 0
def UX:ag:=⟨[0,1,4,5,6],20,[.slot 2],aM tG [] 0xe79e79bffdd2002a2f02cbffdd20c271b57d05000a098f41400282a2f02cbffdd22c309c6d5f414001d8f414001e8bc0b2fff748309b404628bc0e6fff748b0c2a2f02cbffdd20026d01186d00d89e2df313104d2029e2df30fc3480a7dd2002⟩
theorem Pq:ai U2 200 400=some UX:=by kernel_rfl
theorem Im (a b:Int) (w:World):aj Tryz.prog 200 [.int .i64 a,.int .i64 b] (λr w'=>r= .int .i64 (rZ a b)/\w'=w) w:=by
 refine aG Pq (by simp [UX]) ?_;simp [UX];refine ab ((vA a w).mono ?_);rintro r w1 ⟨rfl,rfl⟩;simp;refine ab ((vA b w1).mono ?_);rintro r w2 ⟨rfl,rfl⟩;simp;unfold rZ;refine aR (λh=> ?_) (λh=> ?_)
 ·simp at h
  simp [h]
 simp at h;simp;refine aR (λh2=> ?_) (λh2=> ?_)
 ·simp at h2
  simp [h2,show¬a<b by omega]
 ·simp at h2
  simp [show¬a<b by omega,show¬b<a by omega]
noncomputable def Ky:PS Tryz.prog where
 f:=200
 val args:=match args with
  | [.int _ a,.int _ b]=> .int .i64 (rZ a b)
  |_=>undef
 ok args:=match args with
  | [.int k a,.int k' b]=>k= .i64/\k'= .i64
  |_=>False
 sound args w h:=by
  split at h
  ·obtain ⟨rfl,rfl⟩:=h;exact Im _ _ w
  ·exact h.elim
noncomputable abbrev U3:PF Tryz.prog:=PF.of [Ky]
@[simp] theorem YW (args:List Value):U3.val 200 args=Ky.val args:=rfl
@[simp] theorem baa (args:List Value):U3.ok 200 args=Ky.ok args:=rfl
@[simp] theorem Zb (a b:Int):Ky.val [.int .i64 a,.int .i64 b]= .int .i64 (rZ a b):=rfl
@[simp] theorem bfa (a b:Int):Ky.ok [.int .i64 a,.int .i64 b]=(IntKind.i64= .i64/\IntKind.i64= .i64):=rfl
theorem Q5 (a b:Int) (bk:Nat) (w0 w:World) (A:ak) (s:St w0 (A*pt bk (.cells #[.int .i64 a,.int .i64 b] 3 (0,0))) w):
  aj Tryz.prog 199 [.slice (some ⟨bk,0,none⟩) 2 2] (λr w'=>r= .int .i64 (if a=0 then b else a)/\St w0 A w') w:=by
 have h0:w.cell? ⟨bk,0,none⟩=some (.int .i64 a):=by rw [cell_of s.look];rfl
 have h1:w.cell? ⟨bk,1,none⟩=some (.int .i64 b):=by rw [cell_of s.look];rfl
 refine aG Hk (by simp [Ls]) ?_;simp [Ls];refine gI (λenv w'=>∃(i:Nat) (o:Value),env= [.slice (some ⟨bk,0,none⟩) 2 2,.int .i64 0,.int .i64 0,o,.slice (some ⟨bk,0,none⟩) 2 2,.int .i64 2,.int .i64 i]/\i<=2/\(0<i->a=0)/\(1<i->b=0)/\w'=w)
  (λenv _=>2 -aw env 6) ⟨0,_,rfl,by omega,by omega,by omega,rfl⟩ ?_
 rintro LQ env w' ⟨i,o,rfl,hi,ha,hb,rfl⟩ hN hE hR;simp;refine aR (λh2=> ?_) (λh2=> ?_)
 ·simp at h2
  have hi2:i=0\/i=1:=by omega
  rcases hi2 with rfl|rfl
  ·simp
   refine af h0 ?_;simp
   by_cases e:a=0
   ·simp [e]
    try simp (disch:=omega) only [wrap64]
    exact hN _ _ ⟨1,_,by simp;rfl,by omega,λ_=>e,by omega,rfl⟩ (by simp [aw])
   ·simp [e]
    refine hR _ _ ?_;simp [e];exact s.drop
  ·simp
   refine af h1 ?_;simp
   by_cases e:b=0
   ·simp [e]
    try simp (disch:=omega) only [wrap64]
    exact hN _ _ ⟨2,_,by simp;rfl,by omega,λ_=>ha (by omega),λ_=>e,rfl⟩ (by simp [aw])
   ·simp [e]
    refine hR _ _ ?_;simp [ha (by omega)];exact s.drop
 ·simp at h2
  simp;refine hE _ _ _ ?_;simp [ha (by omega),hb (by omega)];exact s.drop
def Ux:ag:=⟨[0,1,2,3,4],17,[.slot 4],aM tG [] 0xe6f069efb73befb8b744512644434c1325724434423c7572e333c733ac910d108f1f4c43040c43074c42040c42072e333c7d310c50310c5d310850310850e78a26996764801380f30b104f202f0f202⟩
theorem OO:ai U3 144 400=some Ux:=by kernel_rfl
def qZ (x y:Int×Int):Int:=if rZ x.2 y.2=0 then rZ x.1 y.1 else rZ x.2 y.2
abbrev dE (x:Int×Int):List Value:= [.int .i64 x.1,.int .i64 x.2]
def odC (w0:World) (A B:ak) (c1 c2 o:Int):List Value->World->Prop
 | [],w=>St w0 B w
 | [v],w=>∃bk,v= .slice (some ⟨bk,0,none⟩) 2 2/\St w0 (B*pt bk (.cells #[.int .i64 c1,.int .i64 c2] 3 (0,0))) w
 |_::r::_,w=>r= .int .i64 o/\St w0 A w
theorem FH (x y:Int×Int) (w0 w:World) (A:ak) (s:St w0 A w):
  aj Tryz.prog 144 [.agg (dE x).toArray,.agg (dE y).toArray] (λr w'=>r= .int .i64 (qZ x y)/\St w0 A w') w:=by
 refine aG OO (by simp [Ux]) ?_;simp [Ux];refine bA s ?_;intro b1 w1 s1;simp;refine bA s1 ?_;intro b2 w2 s2;simp;obtain ⟨B,hB⟩:∃B,A*pt b1 (.cells (dE x).toArray 164 (0,0))*pt b2 (.cells (dE y).toArray 164 (0,0))=B:=⟨_,rfl⟩;have s2:St w0 (A*pt b1 (.cells (dE x).toArray 164 (0,0))*pt b2 (.cells (dE y).toArray 164 (0,0))) w2:=s2;have hx:∀w,St w0 B w->∀(j:Nat) u,(dE x)[j]? =some u->w.cell? ⟨b1,j,none⟩=some u:=λw h j u hu=>by
  rw [<-hB] at h;have:=h.drop.ad j u hu
  rwa [Nat.zero_add] at this
 have hy:∀w,St w0 B w->∀(j:Nat) u,(dE y)[j]? =some u->w.cell? ⟨b2,j,none⟩=some u:=λw h j u hu=>by
  rw [<-hB] at h;have:=h.ad j u hu
  rwa [Nat.zero_add] at this
 have hA:∀w,St w0 B w->St w0 A w:=λw h=>by rw [<-hB] at h;exact h.drop.drop
 rw [hB] at s2;refine fK (odC w0 A B (rZ x.2 y.2) (rZ x.1 y.1) (qZ x y)) s2.drew ?_;have ld:∀(b j:Nat) (u:Value),(∀w,St w0 B w->w.cell? ⟨b,j,none⟩=some u)->∀(vs':List Value) (w:World),era 1 vs'=era 1 []->odC w0 A B (rZ x.2 y.2) (rZ x.1 y.1) (qZ x y) vs' w->w.cell? ⟨b,j,none⟩=some u:=by
  intro b j u h vs' w he hw
  match vs',hw with
  | [],hw=>exact h w hw
  |_::_,hw=>simp [era] at he
 simp;refine al (v:= .int .i64 x.2) (λvs' w he hw=>ld b1 1 _ (λw h=>hx w h 1 _ rfl) vs' w he hw) ?_;simp;refine al (v:= .int .i64 y.2) (λvs' w he hw=>ld b2 1 _ (λw h=>hy w h 1 _ rfl) vs' w he hw) ?_;simp;refine al (v:= .int .i64 x.1) (λvs' w he hw=>ld b1 0 _ (λw h=>hx w h 0 _ rfl) vs' w he hw) ?_;simp;refine al (v:= .int .i64 y.1) (λvs' w he hw=>ld b2 0 _ (λw h=>hy w h 0 _ rfl) vs' w he hw) ?_;simp;refine aO rfl (λw hw=>uD (show St w0 B w from hw) rfl rfl λbk w' h=> ?_) (λv hv=> ?_)
 ·exact ⟨bk,rfl,h⟩
 obtain ⟨w3,bk,rfl,_⟩:=hv;simp;refine aO rfl (λw hw=> ?_) (λv hv=> ?_)
 ·obtain ⟨bk',e,hw⟩:=hw
  cases e;refine ab ((Q5 _ _ bk w0 w B hw).mono ?_);rintro r w' ⟨rfl,s'⟩;exact ⟨rfl,hA _ s'⟩
 obtain ⟨w4,rfl,_⟩:=hv;simp;intro w5 h5;exact h5.2
def zB:HC:=(.seq (.reg (.done [(2,(.inp 6)),(3,(.cst (.int .i64 0)))] none)) .ret)
@[simp] theorem Xy:type_of%(@aF zB _ zB.eq_1):=aF zB.eq_1
def zC:HC:=(.seq (.reg (.eff (.call 143) (.cons (.inp 6) (.cons (.cst (.func (.func 144) #[] #[])) .nil)) (.done [] none))) zB)
@[simp] theorem Xz:type_of%(@aF zC _ zC.eq_1):=aF zC.eq_1
def vh:HC:=(.reg (.chk none (.bin .add) (.cons (.inp 7) (.cons (.cst (.int .i64 1)) .nil)) (.done [(7,(.op (.bin .add) (.cons (.inp 7) (.cons (.cst (.int .i64 1)) .nil))))] none)))
@[simp] theorem XA:type_of%(@aF vh _ vh.eq_1):=aF vh.eq_1
def zD:HC:=(.reg (.chk none (.bin .add) (.cons (.inp 11) (.cons (.cst (.int .i64 1)) .nil)) (.done [(11,(.op (.bin .add) (.cons (.inp 11) (.cons (.cst (.int .i64 1)) .nil))))] none)))
@[simp] theorem XB:type_of%(@aF zD _ zD.eq_1):=aF zD.eq_1
def zF:HC:=(.reg (.eff (.call 138) (.cons (.inp 0) (.cons (.inp 9) .nil)) (.done [] none)))
@[simp] theorem XC:type_of%(@aF zF _ zF.eq_1):=aF zF.eq_1
def vj:HC:=(.seq (.reg (.chk none .chkp (.cons (.inp 9) .nil) (.chk none (.fld 0) (.cons (.op .chkp (.cons (.inp 9) .nil)) .nil) (.eff (.ld true 2) (.cons (.op (.fld 0) (.cons (.op .chkp (.cons (.inp 9) .nil)) .nil)) .nil) (.eff (.bsl 164 1 2 #[(.int .i64 0),(.int .i64 0)] [0]) (.cons (.bv 0) .nil) (.eff (.app 161 161 164 2 16 (.agg #[(.int .i64 0),(.int .i64 0)])) (.cons (.inp 6) (.cons (.bv 1) .nil)) (.done [(6,(.bv 2))] none))))))) zF)
@[simp] theorem XD:type_of%(@aF vj _ vj.eq_1):=aF vj.eq_1
def zG:HC:=(.reg (.chk none .chkp (.cons (.inp 0) .nil) (.chk none (.fld 1) (.cons (.op .chkp (.cons (.inp 0) .nil)) .nil) (.eff (.ld false 1) (.cons (.op (.fld 1) (.cons (.op .chkp (.cons (.inp 0) .nil)) .nil)) .nil) (.chk none (.bin .add) (.cons (.bv 0) (.cons (.cst (.int .i64 1)) .nil)) (.chk none .chkp (.cons (.inp 0) .nil) (.chk none (.fld 1) (.cons (.op .chkp (.cons (.inp 0) .nil)) .nil) (.eff (.st 1) (.cons (.op (.fld 1) (.cons (.op .chkp (.cons (.inp 0) .nil)) .nil)) (.cons (.op (.bin .add) (.cons (.bv 0) (.cons (.cst (.int .i64 1)) .nil))) .nil)) (.done [] none)))))))))
@[simp] theorem XE:type_of%(@aF zG _ zG.eq_1):=aF zG.eq_1
def zH:HC:=(.seq (.reg (.eff (.call 136) (.cons (.inp 0) (.cons (.inp 9) .nil)) (.done [] none))) zG)
@[simp] theorem XF:type_of%(@aF zH _ zH.eq_1):=aF zH.eq_1
def vk:HC:=(.seq (.regq (.some 1) (.chk none (.cal 191) (.cons (.inp 0) (.cons (.inp 7) (.cons (.inp 8) .nil))) (.chk none .chkp (.cons (.op (.cal 191) (.cons (.inp 0) (.cons (.inp 7) (.cons (.inp 8) .nil)))) .nil) (.eff (.ld false 1) (.cons (.op .chkp (.cons (.op (.cal 191) (.cons (.inp 0) (.cons (.inp 7) (.cons (.inp 8) .nil)))) .nil)) .nil) (.chk none .chkp (.cons (.inp 9) .nil) (.chk none (.fld 0) (.cons (.op .chkp (.cons (.inp 9) .nil)) .nil) (.chk none (.fld 0) (.cons (.op (.fld 0) (.cons (.op .chkp (.cons (.inp 9) .nil)) .nil)) .nil) (.eff (.ld false 1) (.cons (.op (.fld 0) (.cons (.op (.fld 0) (.cons (.op .chkp (.cons (.inp 9) .nil)) .nil)) .nil)) .nil) (.eff (.bi .delete #[213,3] 0 #[false,false]) (.cons (.bv 0) (.cons (.bv 1) .nil)) (.done [] none)))))))))) zH)
@[simp] theorem XH:type_of%(@aF vk _ vk.eq_1):=aF vk.eq_1
def zI:HC:=(.br (.chk none (.bin .neq) (.cons (.inp 10) (.cons (.inp 7) .nil)) (.done [] (some (.op (.bin .neq) (.cons (.inp 10) (.cons (.inp 7) .nil)))))) vk .skip)
@[simp] theorem XI:type_of%(@aF zI _ zI.eq_1):=aF zI.eq_1
def sF:HC:=(.seq (.reg (.chk none .chkp (.cons (.inp 9) .nil) (.chk none (.fld 0) (.cons (.op .chkp (.cons (.inp 9) .nil)) .nil) (.chk none (.fld 1) (.cons (.op (.fld 0) (.cons (.op .chkp (.cons (.inp 9) .nil)) .nil)) .nil) (.eff (.ld false 1) (.cons (.op (.fld 1) (.cons (.op (.fld 0) (.cons (.op .chkp (.cons (.inp 9) .nil)) .nil)) .nil)) .nil) (.chk none (.cal 190) (.cons (.bv 0) (.cons (.inp 1) .nil)) (.chk none (.ext 0) (.cons (.op (.cal 190) (.cons (.bv 0) (.cons (.inp 1) .nil))) .nil) (.chk none (.ext 1) (.cons (.op (.cal 190) (.cons (.bv 0) (.cons (.inp 1) .nil))) .nil) (.done [(10,(.op (.ext 0) (.cons (.op (.cal 190) (.cons (.bv 0) (.cons (.inp 1) .nil))) .nil)))] none))))))))) zI)
@[simp] theorem Tg:type_of%(@aF sF _ sF.eq_1):=aF sF.eq_1
def sG:HC:=(.br (.chk none .chkp (.cons (.inp 9) .nil) (.chk none (.fld 0) (.cons (.op .chkp (.cons (.inp 9) .nil)) .nil) (.chk none (.fld 1) (.cons (.op (.fld 0) (.cons (.op .chkp (.cons (.inp 9) .nil)) .nil)) .nil) (.eff (.ld false 1) (.cons (.op (.fld 1) (.cons (.op (.fld 0) (.cons (.op .chkp (.cons (.inp 9) .nil)) .nil)) .nil)) .nil) (.chk none (.bin .leq) (.cons (.bv 0) (.cons (.inp 1) .nil)) (.done [] (some (.op (.bin .leq) (.cons (.bv 0) (.cons (.inp 1) .nil)))))))))) vj sF)
@[simp] theorem Th:type_of%(@aF sG _ sG.eq_1):=aF sG.eq_1
def sH:HC:=(.seq (.reg (.eff .an (.cons (.inp 12) .nil) (.chk none (.ext 1) (.cons (.bv 0) .nil) (.done [(9,(.op (.ext 1) (.cons (.bv 0) .nil)))] none)))) sG)
@[simp] theorem Ti:type_of%(@aF sH _ sH.eq_1):=aF sH.eq_1
def sI:HC:=(.block 6 sH)
@[simp] theorem Tj:type_of%(@aF sI _ sI.eq_1):=aF sI.eq_1
def sJ:HC:=(.seq (.br (.eff (.nxt false 0) (.cons (.inp 12) .nil) (.chk none (.ext 0) (.cons (.bv 0) .nil) (.done [] (some (.op (.ext 0) (.cons (.bv 0) .nil)))))) .skip (.exit 5)) sI)
@[simp] theorem Tk:type_of%(@aF sJ _ sJ.eq_1):=aF sJ.eq_1
def sK:HC:=(.loop sJ)
@[simp] theorem Tp:type_of%(@aF sK _ sK.eq_1):=aF sK.eq_1
def sL:HC:=(.block 5 sK)
@[simp] theorem Tq:type_of%(@aF sL _ sL.eq_1):=aF sL.eq_1
def nM:HC:=(.seq (.reg (.chk none (.cal 191) (.cons (.inp 0) (.cons (.inp 7) (.cons (.inp 8) .nil))) (.chk none .chkp (.cons (.op (.cal 191) (.cons (.inp 0) (.cons (.inp 7) (.cons (.inp 8) .nil)))) .nil) (.eff (.ld false 1) (.cons (.op .chkp (.cons (.op (.cal 191) (.cons (.inp 0) (.cons (.inp 7) (.cons (.inp 8) .nil)))) .nil)) .nil) (.eff (.rng 213) (.cons (.bv 0) .nil) (.done [(12,(.bv 1))] none)))))) sL)
@[simp] theorem Tr:type_of%(@aF nM _ nM.eq_1):=aF nM.eq_1
def sM:HC:=(.seq (.br (.chk none (.bin .eql) (.cons (.inp 7) (.cons (.cst (.int .i64 4)) .nil)) (.jQ (.op (.bin .eql) (.cons (.inp 7) (.cons (.cst (.int .i64 4)) .nil))) (.chk (some ((.bv 0),true)) (.bin .gtr) (.cons (.inp 8) (.cons (.cst (.int .i64 0)) .nil)) (.isb none (.bv 0) (.jQ (.ite (.bv 0) true (.op (.bin .gtr) (.cons (.inp 8) (.cons (.cst (.int .i64 0)) .nil))) (.cst (.bool false))) (.chk (some ((.bv 1),false)) (.bin .eql) (.cons (.inp 7) (.cons (.inp 4) .nil)) (.jQ (.ite (.bv 1) false (.op (.bin .eql) (.cons (.inp 7) (.cons (.inp 4) .nil))) (.cst (.tuple #[]))) (.chk (some ((.bv 2),true)) (.bin .gtr) (.cons (.inp 8) (.cons (.inp 5) .nil)) (.isb (some ((.bv 1),false)) (.bv 2) (.isb none (.bv 1) (.done [] (some (.ite (.bv 1) true (.cst (.bool true)) (.ite (.bv 2) true (.op (.bin .gtr) (.cons (.inp 8) (.cons (.inp 5) .nil))) (.cst (.bool false)))))))))))))))) (.exit 3) .skip) nM)
@[simp] theorem Ts:type_of%(@aF sM _ sM.eq_1):=aF sM.eq_1
def sN:HC:=(.seq (.reg (.done [(8,(.inp 11))] none)) sM)
@[simp] theorem Tt:type_of%(@aF sN _ sN.eq_1):=aF sN.eq_1
def sO:HC:=(.seq (.block 4 sN) zD)
@[simp] theorem Tu:type_of%(@aF sO _ sO.eq_1):=aF sO.eq_1
def sP:HC:=(.seq (.br (.chk none (.bin .lss) (.cons (.inp 11) (.cons (.cst (.int .i64 64)) .nil)) (.done [] (some (.op (.bin .lss) (.cons (.inp 11) (.cons (.cst (.int .i64 64)) .nil)))))) .skip (.exit 3)) sO)
@[simp] theorem Tv:type_of%(@aF sP _ sP.eq_1):=aF sP.eq_1
def sQ:HC:=(.loop sP)
@[simp] theorem Tw:type_of%(@aF sQ _ sQ.eq_1):=aF sQ.eq_1
def sS:HC:=(.block 3 sQ)
@[simp] theorem Tx:type_of%(@aF sS _ sS.eq_1):=aF sS.eq_1
def nN:HC:=(.seq (.reg (.done [(11,(.cst (.int .i64 0)))] none)) sS)
@[simp] theorem Ty:type_of%(@aF nN _ nN.eq_1):=aF nN.eq_1
def N9:HC:=(.seq (.block 2 nN) vh)
def sU:HC:=(.seq (.br (.chk none (.bin .leq) (.cons (.inp 7) (.cons (.inp 4) .nil)) (.done [] (some (.op (.bin .leq) (.cons (.inp 7) (.cons (.inp 4) .nil)))))) .skip (.exit 1)) N9)
@[simp] theorem Tz:type_of%(@aF sU _ sU.eq_1):=aF sU.eq_1
def sV:HC:=(.loop sU)
@[simp] theorem TA:type_of%(@aF sV _ sV.eq_1):=aF sV.eq_1
def sX:HC:=(.seq (.block 1 sV) zC)
@[simp] theorem TB:type_of%(@aF sX _ sX.eq_1):=aF sX.eq_1
def sY:HC:=(.seq (.reg (.done [(7,(.cst (.int .i64 0)))] none)) sX)
@[simp] theorem TC:type_of%(@aF sY _ sY.eq_1):=aF sY.eq_1
def sZ:HC:=(.seq (.reg (.done [(6,(.cst (.slice none 0 0)))] none)) sY)
@[simp] theorem TD:type_of%(@aF sZ _ sZ.eq_1):=aF sZ.eq_1
def tc:HC:=(.seq (.reg (.chk none .chkp (.cons (.inp 0) .nil) (.chk none (.fld 0) (.cons (.op .chkp (.cons (.inp 0) .nil)) .nil) (.eff (.st 1) (.cons (.op (.fld 0) (.cons (.op .chkp (.cons (.inp 0) .nil)) .nil)) (.cons (.inp 1) .nil)) (.done [] none))))) sZ)
@[simp] theorem TE:type_of%(@aF tc _ tc.eq_1):=aF tc.eq_1
def td:HC:=(.seq (.reg (.chk none .chkp (.cons (.inp 0) .nil) (.chk none (.fld 0) (.cons (.op .chkp (.cons (.inp 0) .nil)) .nil) (.eff (.ld false 1) (.cons (.op (.fld 0) (.cons (.op .chkp (.cons (.inp 0) .nil)) .nil)) .nil) (.chk none (.cal 190) (.cons (.inp 1) (.cons (.bv 0) .nil)) (.chk none (.ext 0) (.cons (.op (.cal 190) (.cons (.inp 1) (.cons (.bv 0) .nil))) .nil) (.chk none (.ext 1) (.cons (.op (.cal 190) (.cons (.inp 1) (.cons (.bv 0) .nil))) .nil) (.done [(4,(.op (.ext 0) (.cons (.op (.cal 190) (.cons (.inp 1) (.cons (.bv 0) .nil))) .nil))),(5,(.op (.ext 1) (.cons (.op (.cal 190) (.cons (.inp 1) (.cons (.bv 0) .nil))) .nil)))] none)))))))) tc)
@[simp] theorem TF:type_of%(@aF td _ td.eq_1):=aF td.eq_1
def Oa:HC:=(.seq (.reg (.done [(2,(.cst (.slice none 0 0))),(3,(.cst (.int .i64 1)))] none)) .ret)
def te:HC:=(.seq (.reg (.done [(2,(.cst (.slice none 0 0))),(3,(.cst (.int .i64 90)))] none)) .ret)
@[simp] theorem TG:type_of%(@aF te _ te.eq_1):=aF te.eq_1
def tf:HC:=(.seq (.reg (.done [(2,(.cst (.slice none 0 0))),(3,(.cst (.int .i64 0)))] none)) .ret)
@[simp] theorem TH:type_of%(@aF tf _ tf.eq_1):=aF tf.eq_1
def tg:HC:=(.br (.chk none .chkp (.cons (.inp 0) .nil) (.chk none (.fld 0) (.cons (.op .chkp (.cons (.inp 0) .nil)) .nil) (.eff (.ld false 1) (.cons (.op (.fld 0) (.cons (.op .chkp (.cons (.inp 0) .nil)) .nil)) .nil) (.chk none (.bin .eql) (.cons (.inp 1) (.cons (.bv 0) .nil)) (.done [] (some (.op (.bin .eql) (.cons (.inp 1) (.cons (.bv 0) .nil))))))))) tf .skip)
@[simp] theorem TI:type_of%(@aF tg _ tg.eq_1):=aF tg.eq_1
def th:HC:=(.br (.chk none .chkp (.cons (.inp 0) .nil) (.chk none (.fld 0) (.cons (.op .chkp (.cons (.inp 0) .nil)) .nil) (.eff (.ld false 1) (.cons (.op (.fld 0) (.cons (.op .chkp (.cons (.inp 0) .nil)) .nil)) .nil) (.chk none (.bin .lss) (.cons (.inp 1) (.cons (.bv 0) .nil)) (.jQ (.op (.bin .lss) (.cons (.inp 1) (.cons (.bv 0) .nil))) (.chk (some ((.bv 1),false)) (.bin .gtr) (.cons (.inp 1) (.cons (.cst (.int .i64 1099511627776)) .nil)) (.isb none (.bv 1) (.done [] (some (.ite (.bv 1) true (.cst (.bool true)) (.op (.bin .gtr) (.cons (.inp 1) (.cons (.cst (.int .i64 1099511627776)) .nil))))))))))))) te tg)
@[simp] theorem TJ:type_of%(@aF th _ th.eq_1):=aF th.eq_1
def ti:HC:=(.br (.chk none (.eqNil false (.pointer 217) (.pointer none)) (.cons (.inp 0) .nil) (.done [] (some (.op (.eqNil false (.pointer 217) (.pointer none)) (.cons (.inp 0) .nil))))) Oa th)
@[simp] theorem TK:type_of%(@aF ti _ ti.eq_1):=aF ti.eq_1
def tj:HC:=(.seq (.block 0 ti) td)
@[simp] theorem TL:type_of%(@aF tj _ tj.eq_1):=aF tj.eq_1
def Uu:ag:=⟨[0,1,4,5,6,7,8,9,10,12,13,54,79],139,[.slot 2,.slot 3],(.seq (.reg (.done [(2,(.cst (.slice none 0 0))),(3,(.cst (.int .i64 0)))] none)) tj)⟩
theorem OK:ai U2 137 400=some Uu:=by kernel_rfl
def fA (t:Tm):Int×Int:=(t.n,(t.a:Int))
abbrev outs (v:Value) (os:List (Int×Int)):ak:=own 164 2 v os.length (os.flatMap dE)
theorem KM (p am now mv:Nat) (Y:Dk) (u:Tm) (aes:List En) (ac:Nat) (x:Nat×List En×Nat) (v:Value) (os:List (Int×Int)) (w0 w:World) (A:ak) {Q:EX->List Value->World->Prop} (x1 x2 x3 x4 x5 x7 x8 x10 x11 x12:Value) (ht:F8 u) (hY:Y (gF u)=some x) (hos:os.length<=65536)
  (s:St w0 (A*ao am aes ac*dj fL Y 257*wc p now mv am Y*outs v os*iM u) w)
  (hk:∀v' w',St w0 (A*ao am (eB aes u.n) ac*dj fL (jV Y (gF u) (Bm (some x) u.n)) 257*wc p now mv am (jV Y (gF u) (Bm (some x) u.n))*outs v' (os++ [fA u])) w'->Q .nrm [.pointer (some ⟨p,0,none⟩),x1,x2,x3,x4,x5,v',x7,x8,tp u,x10,x11,x12] w'):
  vj.wp U2 Q [.pointer (some ⟨p,0,none⟩),x1,x2,x3,x4,x5,v,x7,x8,tp u,x10,x11,x12] w:=by
 simp;refine aB (vs:=dE (fA u)) (λj y hy=> ?_) rfl ?_
 ·have hj:u.cs[j]? =some y:=by
   match j,hy with
   |0,hy=>exact hy
   |1,hy=>exact hy
  exact s.ad j y hj
 simp;refine bC s rfl ?_;intro c w1 s1;simp;refine bX (m:=1) (news:=dE (fA u)) (s1.to (B:=A*ao am aes ac*dj fL Y 257*wc p now mv am Y*iM u*pt c (.cells (dE (fA u)).toArray 164 (0,0))*outs v os) (by ac_rfl)) rfl s1.aL (λy hy=>by simp at hy;rcases hy with rfl|rfl<;>rfl) (by decide) rfl (by unfold maxLen;omega) (by omega) ?_;intro v2 w2 s2;simp;have e:own 164 2 v2 (os.length+1) (os.flatMap dE++dE (fA u))=outs v2 (os++ [fA u]):=by show _=own _ 2 v2 (os++ [fA u]).length ((os++ [fA u]).flatMap dE);rw [List.length_append,List.flatMap_append];simp
 rw [e] at s2;refine ab (xE p am now mv Y u aes ac x w0 w2 (A*outs v2 (os++ [fA u])) ht hY (St.cut (pt c (.cells (dE (fA u)).toArray 164 (0,0))) s2 (by ac_rfl)) λr w3 s3=> ?_);simp;exact hk _ _ (St.cut (iM u) s3 (by ac_rfl))
theorem LK (p am now mv:Nat) (Y:Dk) (u:Tm) (x:Nat×List En×Nat) (w0 w:World) (A:ak) {Q:EX->List Value->World->Prop} (l n:Nat) (x1 x2 x3 x4 x5 x6 x10 x11 x12:Value) (hl:l<=4) (hn:n<64) (h4:l=4->n=0) (hY:Y (l*64+n)=some x) (ha:u.a<=1099511627776) (hnow:now<=1099511627776) (hmv:mv<=4611686018427387904)
  (hfree:aZ (nU (jV Y (l*64+n) (Bm (some x) u.n) (Bn u now))) u.n=none)
  (s:St w0 (A*dj fL Y 257*wc p now mv am Y*iM u) w)
  (hk:∀Y' m w',Y'=jV Y (l*64+n) (Bm (some x) u.n)->St w0 (A*dj fL (jV Y' (Bn u now) (IU m (Y' (Bn u now)) u)) 257*wc p now (mv+1) am (jV Y' (Bn u now) (IU m (Y' (Bn u now)) u))*iM (j7 u now)) w'->Q .nrm [.pointer (some ⟨p,0,none⟩),x1,x2,x3,x4,x5,x6,.int .i64 l,.int .i64 n,tp u,x10,x11,x12] w'):
  vk.wp U2 Q [.pointer (some ⟨p,0,none⟩),x1,x2,x3,x4,x5,x6,.int .i64 l,.int .i64 n,tp u,x10,x11,x12] w:=by
 obtain ⟨q,hqe⟩:∃q,l*64+n=q:=⟨_,rfl⟩;have hq257:q<257:=by omega
 rw [hqe] at hY hk hfree;rw [uh hq257,hY] at s;have s:St w0 (A*(jn fL Y q 257*ao x.1 x.2.1 x.2.2)*wc p now mv am Y*iM u) w:=s;simp;refine fK (Q8 (St w0 (A*(jn fL Y q 257*ao x.1 x.2.1 x.2.2)*wc p now mv am Y*iM u)) (St w0 (A*(jn fL Y q 257*ao x.1 (eB x.2.1 u.n) x.2.2)*wc p now mv am Y*iM u))) s.drew ?_;simp;refine ⟨⟨by omega,by omega,by omega⟩,?_⟩;rw [hqe];refine al (v:= .map (some x.1)) (λvs' w he hw=> ?_) ?_
 ·match vs',hw with
  | [],hw=>
   have:=qj (show St w0 _ w from hw).drop hq257;rw [hY] at this;exact this
  |_::_,hw=>simp [era] at he
 simp;refine al (v:= .int .i64 u.n) (λvs' w he hw=> ?_) ?_
 ·match vs',hw with
  | [],hw=>exact (show St w0 _ w from hw).ad 0 _ rfl
  |_::_,hw=>simp [era] at he
 simp;refine aO rfl (λw hw=>mC mK (St.to (show St w0 _ w from hw) (B:=A*jn fL Y q 257*wc p now mv am Y*iM u*ao x.1 x.2.1 x.2.2) (by ac_rfl)) λw' h=> ?_) (λv _=> ?_)
 ·show St w0 _ w'
  exact h.to (by ac_rfl)
 simp;intro w2 s2;have s2:St w0 (A*(jn fL Y q 257*ao x.1 (eB x.2.1 u.n) x.2.2)*wc p now mv am Y*iM u) w2:=s2;obtain ⟨Y',hY'⟩:∃Y',jV Y q (Bm (some x) u.n)=Y':=⟨_,rfl⟩;have s3:St w0 (A*dj fL Y' 257*wc p now mv am Y'*iM u) w2:=by rw [<-hY',yX hq257,MY p now mv am Y hq257 (x:=Bm (some x) u.n) (by rw [hY];rfl),show fL q (Bm (some x) u.n)=ao x.1 (eB x.2.1 u.n) x.2.2 from rfl];exact s2
 rw [hY'] at hfree hk;refine ab (xQ p am now mv Y' u w0 w2 A (by omega) (by omega) hfree s3 λr m w3 hm s4=> ?_);obtain ⟨Z,hZ⟩:∃Z,jV Y' (Bn u now) (IU m (Y' (Bn u now)) u)=Z:=⟨_,rfl⟩;have hk:=hk Y' m;rw [hZ] at s4 hk;simp;refine af (v:= .int .i64 mv) (s4.drop.ad 1 _ rfl) ?_;simp
 try simp (disch:=omega) only [wrap64]
 refine cH (s4.swap) rfl (by simp [oa]) ?_;intro w4 s5;simp;refine hk w4 rfl ?_;have e:(xc now mv am Z).toArray.setIfInBounds 1 (.int .i64 (mv+1))=(xc now (mv+1) am Z).toArray:=by simp [xc]
 rw [e] at s5;exact s5.swap
def l0 (w:World) (b:Nat):Nat:=match w.heap[b]? with
 |some (.mapIter _ _ seen _)=>seen.size
 |_=>0
theorem nz {ts:List Tm} {D:Tm->Bool} {t:Tm} (ht:t∈ts) (hD:D t=false):(ts.filter λu=> !eh D t u).length+1<=(ts.filter λu=> !D u).length:=by
 have e:(ts.filter λu=> !eh D t u)=(ts.filter λu=> !D u).filter λu=> !decide (u.n=t.n):=by rw [List.filter_filter];refine List.filter_congr λu _=> ?_;simp [eh,Bool.and_comm]
 rw [e];refine Nat.lt_of_le_of_ne (List.length_filter_le _ _) λh=> ?_;have h2:=(List.length_filter_eq_length_iff.1 h) t (List.mem_filter.2 ⟨ht,by simp [hD]⟩);simp at h2
theorem Zt {es:List En} {c:Nat} (h:FE es c) {e e':En} (he:e∈es) (he':e'∈es):e'.b=e.b↔e'.k=e.k:=by
 have inj:∀(f:En->Int) (es:List En),(es.map f).Nodup->e∈es->e'∈es->f e'=f e->e'=e:=by
  intro f es
  induction es with
  |nil=>intro _ h;cases h
  |cons x r ih=>
   intro hn h1 h2 hf;rw [List.map_cons,List.nodup_cons] at hn;rcases List.mem_cons.1 h1 with h1|h1<;>rcases List.mem_cons.1 h2 with h2|h2
   ·rw [h1,h2]
   ·exact absurd (List.mem_map.2 ⟨e',h2,by rw [hf,h1]⟩) hn.1
   ·exact absurd (List.mem_map.2 ⟨e,h1,by rw [<-hf,h2]⟩) hn.1
   ·exact ih hn.2 h1 h2 hf
 constructor
 ·intro hb
  have hbn:(es.map λe=>(e.b:Int)).Nodup:=by have:=h.bn;rw [List.nodup_iff_pairwise_ne,List.pairwise_map] at*;exact this.imp λh g=>h (Int.ofNat.inj g)
  rw [inj (λe=>(e.b:Int)) es hbn he he' (by simp [hb])]
 ·intro hk
  rw [inj (·.k) es h.kn he he' hk]
theorem Ho {es:List En} {c:Nat} (h:FE es c) {n:Int} {e:En} (he:e∈eB es n):e∈es/\e.k≠n:=by rw [zm h.kn] at he;obtain ⟨h1,h2⟩:=List.mem_filter.1 he;exact ⟨h1,of_decide_eq_true h2⟩
structure A6 (to:Nat) (ts:List Tm) (l n:Nat) (D:Tm->Bool) (sn:List Int) (seen:Array Nat) (es:List En) (aes:List En) (ac:Nat) (Y:Dk) (os:List (Int×Int)):Prop where
 hD:∀t∈ts,D t=(vD l n t||(decide (gF t=l*64+n)&&decide (t.n∈sn)))
 ok:wQ (eu to D ts) aes ac Y
 hs:∀e∈es,e.b∈seen↔e.k∈sn
 hp:os.Perm ((sh to D ts).map fA)
 hc:(ts.filter λu=> !D u).length+seen.size<=ts.length
section
variable {to:Nat} {ts:List Tm} {l n:Nat} {D:Tm->Bool} {sn:List Int} {seen:Array Nat} {es aes:List En} {ac:Nat} {Y:Dk} {os:List (Int×Int)}
theorem A6.nD (h:A6 to ts l n D sn seen es aes ac Y os) (hn:(ts.map (·.n)).Nodup) {u:Tm} (hu:u∈ts) (hq:gF u=l*64+n):∀t∈ts,eh D u t=(vD l n t||(decide (gF t=l*64+n)&&decide (t.n∈u.n::sn))):=by
 intro t ht
 by_cases e:t.n=u.n
 ·have:=gx hn ht hu e
  subst this;simp [eh,hq]
 ·simp [eh,h.hD t ht,e]
theorem A6.nS (h:A6 to ts l n D sn seen es aes ac Y os) {c:Nat} (hes:FE es c) {e:En} (he:e∈es) {u:Tm} (hk:e.k=u.n):∀e'∈es,e'.b∈seen.push e.b↔e'.k∈u.n::sn:=by intro e' he';rw [Array.mem_push,List.mem_cons,h.hs e' he',Zt hes he he',hk];exact Or.comm
theorem A6.due (h:A6 to ts l n D sn seen es aes ac Y os) (hn:(ts.map (·.n)).Nodup) {c:Nat} (hes:FE es c) {e:En} (he:e∈es) {u:Tm} (hk:e.k=u.n) (hu:u∈ts) (hDu:D u=false) (hq:gF u=l*64+n) (hd:u.a<=to):
  A6 to ts l n (eh D u) (u.n::sn) (seen.push e.b) (eB es u.n) (eB aes u.n) ac (jV Y (gF u) (Bm (Y (gF u)) u.n)) (os++ [fA u])/\iT to (eh D u) ts=iT to D ts:=by
 refine ⟨⟨h.nD hn hu hq,?_,λe' he'=> ?_,?_,?_⟩,?_⟩
 ·rw [GD hn hu hd]
  exact h.ok.drop (sr hu hDu)
 ·exact h.nS hes he hk e' (Ho hes he').1
 ·have:=uO (λu=>decide (u.a<=to)) hn hu hDu (by simpa using hd)
  refine (List.perm_append_comm.trans ?_).trans (this.map fA).symm;exact h.hp.cons _
 ·have:=nz hu hDu
  have:=h.hc;rw [Array.size_push];omega
 ·refine uP (se to) hn hu ?_
  have:¬to<u.a:=by omega
  simp [se,this]
theorem A6.Dc (h:A6 to ts l n D sn seen es aes ac Y os) (hn:(ts.map (·.n)).Nodup) {u:Tm} (hu:u∈ts) (hd:to<u.a):os.Perm ((sh to (eh D u) ts).map fA):=by have:sh to (eh D u) ts=sh to D ts:=uP (λu=>decide (u.a<=to)) hn hu (by simp;omega);rw [this];exact h.hp
theorem A6.mov (h:A6 to ts l n D sn seen es aes ac Y os) (hn:(ts.map (·.n)).Nodup) {c:Nat} (hes:FE es c) {e:En} (he:e∈es) {u:Tm} (hk:e.k=u.n) (hu:u∈ts) (hDu:D u=false) (hq:gF u=l*64+n) (hd:to<u.a) (hne:gF (j7 u to)≠gF u) (hlv:(fR u.a to).1≠u.l) (m:Nat):
  A6 to ts l n (eh D u) (u.n::sn) (seen.push e.b) (eB es u.n) aes ac (jV (jV Y (gF u) (Bm (Y (gF u)) u.n)) (gF (j7 u to)) (IU m (Y (gF (j7 u to))) u)) os/\(iT to (eh D u) ts).length=(iT to D ts).length+1:=by
 refine ⟨⟨h.nD hn hu hq,?_,λe' he'=> ?_,h.Dc hn hu hd,?_⟩,?_⟩
 ·rw [GF hn hu hd]
  exact h.ok.move (t':=j7 u to) (sr hu hDu) rfl rfl (vu u to) hne m
 ·exact h.nS hes he hk e' (Ho hes he').1
 ·have:=nz hu hDu
  have:=h.hc;rw [Array.size_push];omega
 ·have:=(uO (se to) hn hu hDu (by simp [se,hd,hlv])).length_eq
  rw [List.length_cons] at this;exact this
theorem A6.same (h:A6 to ts l n D sn seen es aes ac Y os) (hn:(ts.map (·.n)).Nodup) {c:Nat} (hes:FE es c) {e:En} (he:e∈es) {u:Tm} (hk:e.k=u.n) (hu:u∈ts) (hDu:D u=false) (hq:gF u=l*64+n) (hd:to<u.a) (hg:j7 u to=u):
  A6 to ts l n (eh D u) (u.n::sn) (seen.push e.b) es aes ac Y os/\iT to (eh D u) ts=iT to D ts/\eu to (eh D u) ts=eu to D ts:=by
 have hcur:=KD (D:=D) hn hu hd hg;refine ⟨⟨h.nD hn hu hq,by rw [hcur];exact h.ok,λe' he'=>h.nS hes he hk e' he',h.Dc hn hu hd,?_⟩,?_,hcur⟩
 ·have:=nz hu hDu
  have:=h.hc;rw [Array.size_push];omega
 ·refine uP (se to) hn hu ?_
  have:(fR u.a to).1=u.l:=congrArg Tm.l hg;simp [se,this]
theorem A6.done (h:A6 to ts l n D sn seen es aes ac Y os) {now:Nat} (hp:kX now ts) (hn:n<64) (hq:l*64+n<257) (hY:nU (Y (l*64+n))=es) (hall:∀e∈es,e.b∈seen):∀t∈ts,D t=vD l (n+1) t:=by
 refine vO hp hn h.hD λt ht htq=> ?_;cases hD:D t with
 |true=>rfl
 |false=>
  have hc:=sr (to:=to) ht hD;have h1:=((h.ok.sl _ hq).mem t.n (tp t)).2 ⟨t,hc,rfl,htq,rfl⟩;rw [hY] at h1;obtain ⟨e,he,hk,_⟩:=K8 h1;have:=(h.hs e he).1 (hall e he);have hd:=h.hD t ht;rw [hk] at this;rw [hD] at hd;simp [htq,this] at hd
end
def rV (p to mv0:Nat) (ts:List Tm) (D:Tm->Bool) (v:Value):ak:=λh=>∃os:List (Int×Int),os.Perm ((sh to D ts).map fA)/\(outs v os*iP p to (mv0+(iT to D ts).length) (eu to D ts)) h
theorem Gp {w0 w:World} {A:ak} {p to mv0:Nat} {ts:List Tm} {D:Tm->Bool} {v:Value} (s:St w0 (A*rV p to mv0 ts D v) w):∃os,os.Perm ((sh to D ts).map fA)/\St w0 (A*outs v os*iP p to (mv0+(iT to D ts).length) (eu to D ts)) w:=by obtain ⟨g,h1,h2,h3,d,e,a,os,hp,b⟩:=s.holds;have s':St w0 (A*(outs v os*iP p to (mv0+(iT to D ts).length) (eu to D ts))) w:=s.of ⟨g,h1,h2,h3,d,e,a,b⟩;exact ⟨os,hp,s'.to (by ac_rfl)⟩
theorem tY {w0 w:World} {A:ak} {p to mv0:Nat} {ts:List Tm} {D:Tm->Bool} {v:Value} {os:List (Int×Int)} (hp:os.Perm ((sh to D ts).map fA)) (s:St w0 (A*outs v os*iP p to (mv0+(iT to D ts).length) (eu to D ts)) w):St w0 (A*rV p to mv0 ts D v) w:=by have s':St w0 (A*(outs v os*iP p to (mv0+(iT to D ts).length) (eu to D ts))) w:=s.to (by ac_rfl);exact s'.mono (fe (λ_ h=>h) λg hg=>⟨os,hp,hg⟩)
theorem qv {p to mv0:Nat} {ts:List Tm} {D D':Tm->Bool} {v:Value} (h:∀t∈ts,D t=D' t):rV p to mv0 ts D v=rV p to mv0 ts D' v:=by unfold rV;rw [Is h,Jq h,Jj h]
structure Ss (now to mv0:Nat) (ts:List Tm):Prop where
 pl:kX now ts
 lt:now<to
 bd:to<=1099511627776
 len:ts.length<=65536
 mv:mv0<=2305843009213693952
set_option maxHeartbeats 4000000 in
theorem JB (p now to mv0:Nat) (ts:List Tm) (w0 w:World) (A:ak) {Q:EX->List Value->World->Prop} (l n:Nat) (v x2 x3 x4 x5 x9 x10 x11 x12:Value) (hp:Ss now to mv0 ts) (hl:l<=4) (hn:n<64) (h4:l=4->n=0) (hv:oo now to (l,n))
  (s:St w0 (A*rV p to mv0 ts (vD l n) v) w)
  (hk:∀v' y9 y10 y12 w',St w0 (A*rV p to mv0 ts (vD l (n+1)) v') w'->Q .nrm [.pointer (some ⟨p,0,none⟩),.int .i64 to,x2,x3,x4,x5,v',.int .i64 l,.int .i64 n,y9,y10,x11,y12] w'):
  nM.wp U2 Q [.pointer (some ⟨p,0,none⟩),.int .i64 to,x2,x3,x4,x5,v,.int .i64 l,.int .i64 n,x9,x10,x11,x12] w:=by
 obtain ⟨os,hos,s1⟩:=Gp s;obtain ⟨am,aes,ac,Y,hok,s2⟩:=yL s1;obtain ⟨q,hqe⟩:∃q,l*64+n=q:=⟨_,rfl⟩;have hq257:q<257:=by omega
 have hnum:=hp.pl.num;simp;refine ⟨⟨by omega,by omega,by omega⟩,?_⟩;rw [hqe];refine af (v:=F5 (Y q)) (qj s2 hq257) ?_;cases hYq:Y q with
 |none=>
  simp [F5];refine KS mK.ty s2 ?_;intro b w3 s3;simp;refine gI (λenv w'=>env= [.pointer (some ⟨p,0,none⟩),.int .i64 to,x2,x3,x4,x5,v,.int .i64 l,.int .i64 n,x9,x10,x11,.pointer (some ⟨b,0,none⟩)]/\St w0 (A*outs v os*bz (eu to (vD l n) ts)*dj fL Y 257*ao am aes ac*wc p to (mv0+(iT to (vD l n) ts).length) am Y*pt b (.mapIter none 0 #[] 0)) w') (λ_ _=>0) ⟨rfl,s3⟩ ?_;rintro LQ env w' ⟨rfl,s'⟩ hN hE hR;simp;refine KR s' ?_;simp;refine hE _ _ _ ?_;simp;have hend:∀t∈ts,vD l n t=vD l (n+1) t:=by
   refine vO hp.pl (l:=l) hn (sn:= []) (λt ht=>by simp) λt ht htq=> ?_;cases hD:vD l n t with
   |true=>rfl
   |false=>
    have hc:=sr (to:=to) ht hD;have h1:=((hok.sl q hq257).mem t.n (tp t)).2 ⟨t,hc,rfl,by rw [<-hqe];exact htq,rfl⟩;rw [hYq] at h1;cases h1
  refine hk v x9 x10 _ w' ?_;rw [<-qv hend];exact tY hos (oV hok (St.cut (pt b (.mapIter none 0 #[] 0)) s' (by ac_rfl)))
 |some x=>
  obtain ⟨m,es,c⟩:=x;simp [F5];have hsl:=hok.sl q hq257;rw [hYq] at hsl;have big:∀(D:Tm->Bool) (v:Value) (os:List (Int×Int)) (aes:List En) (ac:Nat) (Y:Dk) (mv:Nat) (es:List En),Y q=some (m,es,c)->A*outs v os*bz (eu to D ts)*dj fL Y 257*ao am aes ac*wc p to mv am Y=A*outs v os*bz (eu to D ts)*jn fL Y q 257*ao am aes ac*wc p to mv am Y*ao m es c:=by intro D v os aes ac Y mv es hY;rw [uh hq257,hY];show _*(_*ao m es c)*_*_=_;ac_rfl
  have hb:=(s2.to (big _ _ _ _ _ _ _ _ hYq)).look;refine uF mK.ty s2 hb ?_;intro b w3 s3;simp;refine gI (λenv w'=>∃(D:Tm->Bool) (sn:List Int) (seen:Array Nat) (es aes:List En) (ac:Nat) (Y:Dk) (os:List (Int×Int)) (v y9 y10:Value),env= [.pointer (some ⟨p,0,none⟩),.int .i64 to,x2,x3,x4,x5,v,.int .i64 l,.int .i64 n,y9,y10,x11,.pointer (some ⟨b,0,none⟩)]/\A6 to ts l n D sn seen es aes ac Y os/\Y q=some (m,es,c)/\St w0 (A*outs v os*bz (eu to D ts)*dj fL Y 257*ao am aes ac*wc p to (mv0+(iT to D ts).length) am Y*pt b (.mapIter (some m) c seen c)) w') (λ_ w'=>ts.length+1 -l0 w' b)
   ⟨vD l n,[],#[],es,aes,ac,Y,os,v,x9,x10,rfl,⟨λt ht=>by simp,hok,λe he=>by simp,hos,by simpa using List.length_filter_le _ _⟩,hYq,s3⟩ ?_
  clear s3 hb hsl hYq s2 hok hos s1 s;rintro LQ env w' ⟨D,sn,seen,es,aes,ac,Y,os,v,y9,y10,rfl,hI,hYq,s'⟩ hN hE hR;have hok:=hI.ok;have hsl:=hok.sl q hq257;rw [hYq] at hsl;have hes:FE es c:=hsl.ok;have hseen:l0 w' b=seen.size:=by unfold l0;rw [s'.look]
  have hcnt:=hI.hc;simp;refine uE (s'.to (B:=A*outs v os*bz (eu to D ts)*jn fL Y q 257*ao am aes ac*wc p to (mv0+(iT to D ts).length) am Y*ao m es c*pt b (.mapIter (some m) c seen c)) (by rw [big _ _ _ _ _ _ _ _ hYq])) hes.lt (λe he hns w2 s2=> ?_) (λhall w2 s2=> ?_)
  ·obtain ⟨u,hu,hun,huq,hev⟩:=(hsl.mem e.k e.v).1 (N4 hes.kn he)
   have hnsn:u.n∉sn:=λg=>hns ((hI.hs e he).2 (by rw [<-hun];exact g));obtain ⟨hut,hDu,hul,hus⟩:=Ki hp.pl hp.lt hl hn h4 hv hI.hD hu (by rw [hqe];exact huq) hnsn;have hub:=hp.pl.bd u hut;have hcnt2:=nz hut hDu;have hol:os.length<=65536:=by have h1:=hI.hp.length_eq;rw [List.length_map] at h1;have h2:(sh to D ts).length<=ts.length:=List.length_filter_le _ _;have:=hp.len;omega
   have hml:(iT to D ts).length<=ts.length:=List.length_filter_le _ _;have htslen:=hp.len;have hmv0:=hp.mv;have hbd:=hp.bd;have hseen2:∀(w3:World) (F:ak),St w0 (F*pt b (.mapIter (some m) c (seen.push e.b) c)) w3->ts.length+1 -l0 w3 b<ts.length+1 -l0 w' b:=by
    intro w3 F h;have h1:l0 w3 b=seen.size+1:=by unfold l0;rw [h.look];exact Array.size_push _
    rw [h1,hseen];omega
   simp;refine zp s2 he hes.bn ?_;rw [hev];simp;have s3:St w0 (A*outs v os*bz (eF (eu to D ts) u.n)*dj fL Y 257*ao am aes ac*wc p to (mv0+(iT to D ts).length) am Y*pt b (.mapIter (some m) c (seen.push e.b) c)*iM u) w2:=by
    have h1:St w0 (A*outs v os*bz (eu to D ts)*dj fL Y 257*ao am aes ac*wc p to (mv0+(iT to D ts).length) am Y*pt b (.mapIter (some m) c (seen.push e.b) c)) w2:=by rw [big _ _ _ _ _ _ _ _ hYq];exact s2
    rw [kO hok.num hu] at h1;exact h1.to (by ac_rfl)
   refine af (v:= .int .i64 u.a) (s3.ad 1 _ rfl) ?_;simp;have huq':gF u=l*64+n:=by rw [huq,hqe]
   obtain ⟨it,hit⟩:∃it,pt b (.mapIter (some m) c (seen.push e.b) c)=it:=⟨_,rfl⟩;rw [hit] at s3 hseen2;have fin:∀(D':Tm->Bool) (es' aes':List En) (Y':Dk) (os':List (Int×Int)) (v' y10':Value) (w3:World),A6 to ts l n D' (u.n::sn) (seen.push e.b) es' aes' ac Y' os'->Y' q=some (m,es',c)->
     St w0 (A*outs v' os'*bz (eu to D' ts)*dj fL Y' 257*ao am aes' ac*wc p to (mv0+(iT to D' ts).length) am Y'*it) w3->
     LQ .nrm [.pointer (some ⟨p,0,none⟩),.int .i64 to,x2,x3,x4,x5,v',.int .i64 l,.int .i64 n,tp u,y10',x11,.pointer (some ⟨b,0,none⟩)] w3:=by
    intro D' es' aes' Y' os' v' y10' w3 hI' hY' s4;exact hN _ _ ⟨D',u.n::sn,seen.push e.b,es',aes',ac,Y',os',v',tp u,y10',rfl,hI',hY',by rw [hit];exact s4⟩ (hseen2 _ _ s4)
   refine aR (λhd=> ?_) (λhd=> ?_)
   ·simp at hd
    refine KM p am to (mv0+(iT to D ts).length) Y u aes ac (m,es,c) v os w0 w2 (A*bz (eF (eu to D ts) u.n)*it) _ _ _ _ _ _ _ _ _ _ (hok.tm u hu) (by rw [huq];exact hYq) hol (s3.to (by ac_rfl)) λv' w3 s4=> ?_;simp;obtain ⟨hI',hmvE⟩:=hI.due hnum hes he hun.symm hut hDu huq' hd;refine fin _ _ _ _ _ v' y10 w3 hI' (by rw [huq,kq,hYq];rfl) ?_;rw [hmvE,GD hnum hut hd,huq,hYq];rw [huq] at s4;exact s4.to (by ac_rfl)
   ·simp at hd
    simp;refine af (v:= .int .i64 u.a) (s3.ad 1 _ rfl) ?_;simp;refine ⟨⟨by omega,by omega⟩,?_⟩;refine aR (λhlv=> ?_) (λhlv=> ?_)
    ·simp at hlv
     have hlv:(fR u.a to).1≠u.l:=by rw [hul];omega
     have hne:gF (j7 u to)≠gF u:=by
      have h1:=vu u to;have h2:=hok.tm u hu;have h3:=h1.s;have h4:=h2.s;intro g;unfold gF at g;have:(j7 u to).l=u.l:=by omega
      exact hlv this
     have hne2:Bn u to≠q:=by rw [vt,<-huq];exact hne
     have hmem:=hok.sl (Bn u to) (by rw [vt];exact Bc (vu u to));refine LK p am to (mv0+(iT to D ts).length) Y u (m,es,c) w0 w2 (A*outs v os*bz (eF (eu to D ts) u.n)*ao am aes ac*it) l n _ _ _ _ _ _ _ _ _ hl hn h4 (by rw [hqe];exact hYq) hub.1 hp.bd (by omega) ?_ (s3.to (by ac_rfl)) λY' m' w3 hY' s4=> ?_
     ·rw [hqe,kr _ _ hne2]
      cases hg:aZ (nU (Y (Bn u to))) u.n with
      |none=>rfl
      |some g=>
       obtain ⟨t,ht,h1,h2,_⟩:=(hmem.mem _ _).1 hg;have:=gx hok.num ht hu h1;rw [this,huq] at h2;exact absurd h2.symm hne2
     simp;obtain ⟨hI',hmvE⟩:=hI.mov hnum hes he hun.symm hut hDu huq' hd hne hlv m';subst hY';refine fin _ _ _ _ _ v _ w3 hI' ?_ ?_
     ·rw [<-vt,kr _ _ (Ne.symm hne2),huq,kq,hYq];rfl
     ·rw [hmvE,GF hnum hut hd,Lh hok.num hu (t':=j7 u to) rfl,huq,hYq,<-vt]
      rw [hqe,kr _ _ hne2] at s4;rw [<-Nat.add_assoc];exact s4.to (by ac_rfl)
    ·simp at hlv
     simp;have hg:=YX hp.pl hp.lt hv hut hul hus hd (by omega);obtain ⟨hI',hmvE,hcur⟩:=hI.same hnum hes he hun.symm hut hDu huq' hd hg;refine fin _ _ _ _ _ v _ w2 hI' hYq ?_;rw [hmvE,hcur,kO hok.num hu];exact s3.to (by ac_rfl)
  ·simp
   refine hE _ _ _ ?_;simp;have hend:=hI.done hp.pl hn (by rw [hqe];exact hq257) (by rw [hqe,hYq];rfl) hall;refine hk v y9 y10 _ w2 ?_;rw [<-qv hend];refine tY hI.hp (oV (am:=am) hok ?_);have h1:St w0 (A*outs v os*bz (eu to D ts)*dj fL Y 257*ao am aes ac*wc p to (mv0+(iT to D ts).length) am Y*pt b (.mapIter (some m) c seen c)) w2:=by rw [big _ _ _ _ _ _ _ _ hYq];exact s2
   exact St.cut (pt b (.mapIter (some m) c seen c)) h1 (by ac_rfl)
end Go.HL.Wh
