/- Part 6. -/
import Derived.Test.YtpldhemgcoimaaaGreatMFMe
import Derived.Test.YtpldhemgcoimaaaGreatProg
set_option linter.unusedSimpArgs false
set_option linter.unusedVariables false
set_option maxRecDepth 4000
namespace Go.HL.Wh
open Go.HL Go.Proofs
noncomputable abbrev U0:PF Tryz.prog:=PF.none _
def IQ:ai:=⟨[0,1,4],10,[.slot 2],aN tG [] 0xe6ffdc71cdd5d480d5c95f4148b08b1500090ce1c2d480d5c95f4148b08b1500090ce1f257d0522c22c5400243f4148b08b167dd2002⟩
theorem PZ:af U0 250 400=some IQ:=by kernel_rfl
def UA:ai:=⟨[0,1,2,6],19,[.slot 3],aN tG [] 0x2ce6ffdc71c73757d095f41574f003412ca04c2820fd095f41574f003412ca04c282f41574f003412ca074f00341f00a2f02cbff71cdd5d3c00a2820f4f0028a0bc01c6d5d4a0500436352814010e7dd2e83⟩
theorem O6:af U0 191 400=some UA:=by kernel_rfl
def gk (t l:Nat):Nat:=t /64^l %64
def fO (a n:Nat):Nat×Nat:=
 if a /16777216≠n /16777216 then (4,0) else if gk a 3≠gk n 3 then (3,gk a 3) else if gk a 2≠gk n 2 then (2,gk a 2) else
 if gk a 1≠gk n 1 then (1,gk a 1) else (0,gk a 0)
theorem ED (t l:Nat) (w:World) (ht:t<=4611686018427387904) (hl:l<=3):
  aj Tryz.prog 250 [.int .i64 t,.int .i64 l] (λr w'=>r= .int .i64 (gk t l)/\w'=w) w:=by
 refine aG PZ (by simp [IQ]) ?_;have h:l=0\/l=1\/l=2\/l=3:=by omega
 have key:∀c:Nat,0<c->(Int.fdiv (t:Int) (c:Int)).tmod 64=((t /c %64:Nat):Int):=by intro c hc;rw [Int.fdiv_eq_ediv_of_nonneg _ (by omega),Int.tmod_eq_emod_of_nonneg (Int.ediv_nonneg (by omega) (by omega))];rfl
 have b:IntKind.i64.bits=64:=rfl;rcases h with rfl|rfl|rfl|rfl
 ·have:=key 1 (by decide)
  have hw:IntKind.i64.wrap 0=0:=by decide
  simp [IQ,gk,hw,b] at this⊢
  first|exact this|simpa using this
 ·have:=key 64 (by decide)
  have hw:IntKind.i64.wrap 6=6:=by decide
  simp [IQ,gk,hw,b] at this⊢;exact this
 ·have:=key 4096 (by decide)
  have hw:IntKind.i64.wrap 12=12:=by decide
  simp [IQ,gk,hw,b] at this⊢;exact this
 ·have:=key 262144 (by decide)
  have hw:IntKind.i64.wrap 18=18:=by decide
  simp [IQ,gk,hw,b] at this⊢;exact this
theorem yE (p:Nat) (l s:Nat) (w:World) (hl:l<=4) (hs:s<64) (h4:l=4->s=0):
  aj Tryz.prog 191 [.pointer (some ⟨p,0,none⟩),.int .i64 l,.int .i64 s] (λr w'=>r= .pointer (some ⟨p,3+(l*64+s),none⟩)/\w'=w) w:=by
 refine aG O6 (by simp [UA]) ?_;simp [UA];refine aR (λh=> ?_) (λh=> ?_)
 ·simp at h
  have:l=4:=by omega
  subst this;have:=h4 rfl;subst this;simp
 ·simp at h
  have:l<4:=by omega
  simp;omega
noncomputable def uf:PS Tryz.prog where
 f:=250
 val args:=match args with
  | [.int _ t,.int _ l]=> .int .i64 (gk t.toNat l.toNat)
  |_=>undef
 ok args:=match args with
  | [.int k t,.int k' l]=>k= .i64/\k'= .i64/\0<=t/\t<=4611686018427387904/\0<=l/\l<=3
  |_=>False
 sound args w h:=by
  split at h
  ·rename_i k t k' l
   obtain ⟨rfl,rfl,h1,h2,h3,h4⟩:=h;obtain ⟨t,rfl⟩:=Int.eq_ofNat_of_zero_le h1;obtain ⟨l,rfl⟩:=Int.eq_ofNat_of_zero_le h3;exact ED t l w (by omega) (by omega)
  ·exact h.elim
noncomputable def HY:PS Tryz.prog where
 f:=191
 val args:=match args with
  | [.pointer (some a),.int _ l,.int _ s]=> .pointer (some ⟨a.block,3+(l.toNat*64+s.toNat),none⟩)
  |_=>undef
 ok args:=match args with
  | [.pointer (some a),.int k l,.int k' s]=>a=⟨a.block,0,none⟩/\k= .i64/\k'= .i64/\0<=l/\l<=4/\0<=s/\s<64/\(l=4->s=0)
  |_=>False
 sound args w h:=by
  split at h
  ·rename_i a k l k' s
   obtain ⟨ha,rfl,rfl,h1,h2,h3,h4,h5⟩:=h;obtain ⟨l,rfl⟩:=Int.eq_ofNat_of_zero_le h1;obtain ⟨s,rfl⟩:=Int.eq_ofNat_of_zero_le h3;rw [ha];exact yE a.block l s w (by omega) (by omega) (by omega)
  ·exact h.elim
noncomputable abbrev U1:PF Tryz.prog:=PF.of [uf]
@[simp] theorem YA (args:List Value):U1.val 250 args=uf.val args:=rfl
@[simp] theorem aIa (args:List Value):U1.ok 250 args=uf.ok args:=rfl
@[simp] theorem Su (t l:Int):uf.val [.int .i64 t,.int .i64 l]= .int .i64 (gk t.toNat l.toNat):=rfl
@[simp] theorem W7 (t l:Int):uf.ok [.int .i64 t,.int .i64 l]=(IntKind.i64= .i64/\IntKind.i64= .i64/\0<=t/\t<=4611686018427387904/\0<=l/\l<=3):=rfl
def Uz:ai:=⟨[0,1,4,5,6],29,[.slot 2,.slot 3],aN tG [] 0x2ce79bff71a67657d11000e1834040bd11000e1adbacb677375750d0109084d43404242068bc2bc072379e79f6d748157257d11004e195f444003860f3633c95f4440138657d11000e183cfd11004e1b3f44400386cd5d40404282d40404282027dd2f84a2f02cbff699d9200348a04271c71b572575204401243575204400243118c95d481100490d5d481100090c4d481100490f52044002439da6764800d2002⟩
theorem O5:af U1 190 400=some Uz:=by kernel_rfl
theorem Fw (a n:Nat) (w:World) (ha:a<=4611686018427387904) (hn:n<=4611686018427387904):
  aj Tryz.prog 190 [.int .i64 a,.int .i64 n] (λr w'=>r= .tuple #[.int .i64 (fO a n).1,.int .i64 (fO a n).2]/\w'=w) w:=by
 refine aG O5 (by simp [Uz]) ?_;simp [Uz];have e24:∀t:Nat,(t:Int).fdiv (2^min 24 IntKind.i64.bits)=((t /16777216:Nat):Int):=λt=>by rw [show (2:Int)^min 24 IntKind.i64.bits=16777216 from rfl,Int.fdiv_eq_ediv_of_nonneg _ (by decide)];rfl
 rw [e24,e24];refine aR (λh=> ?_) (λh=> ?_)
 ·have:fO a n=(4,0):=by unfold fO;rw [if_pos];intro e;rw [e] at h;simp at h
  simp [this]
 have hq:a /16777216=n /16777216:=by
  have:((a /16777216:Nat):Int)=((n /16777216:Nat):Int):=by simpa using h
  omega
 simp;refine gq (λenv w'=>∃(k:Nat),env= [.int .i64 a,.int .i64 n,.int .i64 0,.int .i64 0,.int .i64 k]/\k<=3/\(∀j,k<j->j<=3->gk a j=gk n j)/\w'=w)
  (λenv _=>ay env 4) ⟨3,rfl,by omega,by intro j;omega,rfl⟩ ?_
 rintro LQ env w' ⟨k,rfl,hk,hj,rfl⟩ hN hE hR;simp;refine ⟨λh0=>by omega,λh0=>by omega,?_⟩;refine aR (λh=> ?_) (λh=> ?_)
 ·simp at h
  obtain ⟨h0,hd⟩:=h;have hd:gk a k=gk n k:=by omega
  simp;have hw:IntKind.i64.wrap ((k:Int) -1)=((k -1:Nat):Int):=by rw [wrap64 (by omega) (by omega)];omega
  simp only [hw];refine hN _ _ ⟨k -1,by simp,by omega,λj h1 h2=> ?_,rfl⟩ (by simp [ay];omega)
  by_cases e:j=k
  ·subst e;exact hd
  ·exact hj j (by omega) h2
 simp only [Bool.and_eq_false_iff,decide_eq_false_iff_not] at h;simp;refine hE _ _ _ ?_;simp;have hlv:fO a n=(k,gk a k):=by
  have h:k=0\/gk a k≠gk n k:=by rcases h with h|h<;>omega
  unfold fO;rw [if_neg (λe=>e hq)];have h3:k=3\/k=2\/k=1\/k=0:=by omega
  rcases h3 with rfl|rfl|rfl|rfl
  ·rw [if_pos (h.resolve_left (by decide))]
  ·rw [if_neg (λg=>g (hj 3 (by decide) (by decide))),if_pos (h.resolve_left (by decide))]
  ·rw [if_neg (λg=>g (hj 3 (by decide) (by decide))),if_neg (λg=>g (hj 2 (by decide) (by decide))),if_pos (h.resolve_left (by decide))]
  ·rw [if_neg (λg=>g (hj 3 (by decide) (by decide))),if_neg (λg=>g (hj 2 (by decide) (by decide))),if_neg (λg=>g (hj 1 (by decide) (by decide)))]
 simp [hlv];omega
noncomputable def vA:PS Tryz.prog where
 f:=190
 val args:=match args with
  | [.int _ a,.int _ n]=> .tuple #[.int .i64 (fO a.toNat n.toNat).1,.int .i64 (fO a.toNat n.toNat).2]
  |_=>undef
 ok args:=match args with
  | [.int k a,.int k' n]=>k= .i64/\k'= .i64/\0<=a/\a<=4611686018427387904/\0<=n/\n<=4611686018427387904
  |_=>False
 sound args w h:=by
  split at h
  ·rename_i k a k' n
   obtain ⟨rfl,rfl,h1,h2,h3,h4⟩:=h;obtain ⟨a,rfl⟩:=Int.eq_ofNat_of_zero_le h1;obtain ⟨n,rfl⟩:=Int.eq_ofNat_of_zero_le h3;exact Fw a n w (by omega) (by omega)
  ·exact h.elim
noncomputable abbrev U2:PF Tryz.prog:=PF.of [vA,HY]
@[simp] theorem YC (args:List Value):U2.val 190 args=vA.val args:=rfl
@[simp] theorem aKa (args:List Value):U2.ok 190 args=vA.ok args:=rfl
@[simp] theorem YB (args:List Value):U2.val 191 args=HY.val args:=rfl
@[simp] theorem aJa (args:List Value):U2.ok 191 args=HY.ok args:=rfl
@[simp] theorem Wi (a n:Int):vA.val [.int .i64 a,.int .i64 n]= .tuple #[.int .i64 (fO a.toNat n.toNat).1,.int .i64 (fO a.toNat n.toNat).2]:=rfl
@[simp] theorem Yg (a n:Int):vA.ok [.int .i64 a,.int .i64 n]=(IntKind.i64= .i64/\IntKind.i64= .i64/\0<=a/\a<=4611686018427387904/\0<=n/\n<=4611686018427387904):=rfl
@[simp] theorem aNa (a:Addr) (l s:Int):HY.val [.pointer (some a),.int .i64 l,.int .i64 s]= .pointer (some ⟨a.block,3+(l.toNat*64+s.toNat),none⟩):=rfl
@[simp] theorem bEa (a:Addr) (l s:Int):HY.ok [.pointer (some a),.int .i64 l,.int .i64 s]=(a=⟨a.block,0,none⟩/\IntKind.i64= .i64/\IntKind.i64= .i64/\0<=l/\l<=4/\0<=s/\s<64/\(l=4->s=0)):=rfl
def ahN (x:Int):Nat:=1+(x.emod 1073741824).toNat
structure Tm where
 n:Int
 a:Nat
 l:Nat
 s:Nat
 b:Nat
abbrev Tm.cs (t:Tm):List Value:= [.int .i64 t.n,.int .i64 t.a,.int .i64 t.l,.int .i64 t.s]
abbrev iJ (t:Tm):ak:=pt t.b (.cells t.cs.toArray 220 (0,0))
abbrev tp (t:Tm):Value:= .pointer (some ⟨t.b,0,none⟩)
abbrev Sl:=Option (Nat×List En×Nat)
def FK:Sl->Value
 |none=> .map none
 |some x=> .map (some x.1)
def fI:Nat->Sl->ak
 |_,none=>emp
 |_,some x=>ao x.1 x.2.1 x.2.2
def nJ:Sl->List En
 |none=> []
 |some x=>x.2.1
def p6:Sl->Nat
 |none=>0
 |some x=>x.2.2
abbrev Dk:=Nat->Sl
def wN (now mv:Nat) (am:Nat) (Y:Dk):List Value:= .int .i64 now:: .int .i64 mv:: .map (some am)::(List.range 257).map λq=>FK (Y q)
abbrev wc (p now mv am:Nat) (Y:Dk):ak:=pt p (.cells (wN now mv am Y).toArray 217 (0,0))
theorem nP (now mv am:Nat) (Y:Dk):(wN now mv am Y).length=260:=by simp [wN]
theorem A2 (now mv am:Nat) (Y:Dk) {q:Nat} (h:q<257):(wN now mv am Y)[3+q]? =some (FK (Y q)):=by rw [show 3+q=q+1+1+1 by omega];simp [wN,h]
theorem tC (now mv am:Nat) (Y:Dk) {q:Nat} (h:q<257) (x:Sl):(wN now mv am Y).set (3+q) (FK x)=wN now mv am (jQ Y q x):=by
 apply List.ext_getElem?;intro i
 by_cases hi:i<260
 ·match i,hi with
  |0,_=>rw [List.getElem?_set_ne (by omega)];rfl
  |1,_=>rw [List.getElem?_set_ne (by omega)];rfl
  |2,_=>rw [List.getElem?_set_ne (by omega)];rfl
  |j+3,hi=>
   have hj:j<257:=by omega
   rw [show j+3=3+j by omega,A2 _ _ _ _ hj]
   by_cases e:j=q
   ·subst e
    rw [List.getElem?_set_self (by rw [nP];omega),km]
   ·rw [List.getElem?_set_ne (by omega),A2 _ _ _ _ hj,ko _ _ e]
 ·rw [List.getElem?_eq_none (by rw [List.length_set,nP];omega),List.getElem?_eq_none (by rw [nP];omega)]
theorem lF (a n:Nat):(fO a n).1<=4/\(fO a n).2<64/\((fO a n).1=4->(fO a n).2=0):=by
 have:∀l,gk a l<64:=λl=>Nat.mod_lt _ (by decide);unfold fO
 repeat' split
 all_goals simp_all
theorem mA:nT Tryz.prog 213 3 218 (.pointer none):=⟨by kernel_rfl,by kernel_rfl,by kernel_rfl⟩
def Ue:ai:=⟨[0,1],30,[],aN tG [] 0xb2973b73b73b71cee2698c910d108c202d34d31040041034d31040041d31040071040d34532e3340030a040034532e3340030a040532e3340030a074d31040341034c4100d071040d34c41006034c41006c41003a5cedc73b89a632e333080b4d34c41001040d34c41001074c41001c41034d3c006034f001bc003⟩
theorem Ox:af U2 138 400=some Ue:=by kernel_rfl
def uN:HC:=(.regq (.some 1) (.chk none .chkp (.cons (.inp 2) .nil) (.eff (.ld false 1) (.cons (.op .chkp (.cons (.inp 2) .nil)) .nil) (.chk none .chkp (.cons (.inp 1) .nil) (.chk none (.fld 0) (.cons (.op .chkp (.cons (.inp 1) .nil)) .nil) (.chk none (.fld 0) (.cons (.op (.fld 0) (.cons (.op .chkp (.cons (.inp 1) .nil)) .nil)) .nil) (.eff (.ld false 1) (.cons (.op (.fld 0) (.cons (.op (.fld 0) (.cons (.op .chkp (.cons (.inp 1) .nil)) .nil)) .nil)) .nil) (.eff (.lM 213) (.cons (.bv 0) (.cons (.bv 1) (.cons (.inp 1) .nil))) (.done [] none)))))))))
@[simp] theorem Xb:type_of%(@aF uN _ uN.eq_1):=aF uN.eq_1
def zk:HC:=(.reg (.eff (.mkm 213 false) .nil (.chk none .chkp (.cons (.inp 2) .nil) (.eff (.st 1) (.cons (.op .chkp (.cons (.inp 2) .nil)) (.cons (.bv 0) .nil)) (.done [] none)))))
@[simp] theorem Xc:type_of%(@aF zk _ zk.eq_1):=aF zk.eq_1
def zl:HC:=(.seq (.br (.chk none .chkp (.cons (.inp 2) .nil) (.eff (.ld false 1) (.cons (.op .chkp (.cons (.inp 2) .nil)) .nil) (.chk none (.eqNil false (.map 3 218) (.map none)) (.cons (.bv 0) .nil) (.done [] (some (.op (.eqNil false (.map 3 218) (.map none)) (.cons (.bv 0) .nil))))))) zk .skip) uN)
@[simp] theorem Xd:type_of%(@aF zl _ zl.eq_1):=aF zl.eq_1
def zm:HC:=(.seq (.regq (.some 0) (.chk none .chkp (.cons (.inp 1) .nil) (.chk none (.fld 2) (.cons (.op .chkp (.cons (.inp 1) .nil)) .nil) (.eff (.ld false 1) (.cons (.op (.fld 2) (.cons (.op .chkp (.cons (.inp 1) .nil)) .nil)) .nil) (.chk none .chkp (.cons (.inp 1) .nil) (.chk none (.fld 3) (.cons (.op .chkp (.cons (.inp 1) .nil)) .nil) (.eff (.ld false 1) (.cons (.op (.fld 3) (.cons (.op .chkp (.cons (.inp 1) .nil)) .nil)) .nil) (.chk none (.cal 191) (.cons (.inp 0) (.cons (.bv 0) (.cons (.bv 1) .nil))) (.done [(2,(.op (.cal 191) (.cons (.inp 0) (.cons (.bv 0) (.cons (.bv 1) .nil)))))] none))))))))) zl)
@[simp] theorem Xe:type_of%(@aF zm _ zm.eq_1):=aF zm.eq_1
def Uc:ai:=⟨[0,1,4],50,[],(.seq (.regq (.some 1) (.chk none .chkp (.cons (.inp 1) .nil) (.chk none (.fld 0) (.cons (.op .chkp (.cons (.inp 1) .nil)) .nil) (.chk none (.fld 1) (.cons (.op (.fld 0) (.cons (.op .chkp (.cons (.inp 1) .nil)) .nil)) .nil) (.eff (.ld false 1) (.cons (.op (.fld 1) (.cons (.op (.fld 0) (.cons (.op .chkp (.cons (.inp 1) .nil)) .nil)) .nil)) .nil) (.chk none .chkp (.cons (.inp 0) .nil) (.chk none (.fld 0) (.cons (.op .chkp (.cons (.inp 0) .nil)) .nil) (.eff (.ld false 1) (.cons (.op (.fld 0) (.cons (.op .chkp (.cons (.inp 0) .nil)) .nil)) .nil) (.chk none (.cal 190) (.cons (.bv 0) (.cons (.bv 1) .nil)) (.chk none (.ext 0) (.cons (.op (.cal 190) (.cons (.bv 0) (.cons (.bv 1) .nil))) .nil) (.chk none (.ext 1) (.cons (.op (.cal 190) (.cons (.bv 0) (.cons (.bv 1) .nil))) .nil) (.chk none .chkp (.cons (.inp 1) .nil) (.chk none (.fld 2) (.cons (.op .chkp (.cons (.inp 1) .nil)) .nil) (.eff (.st 1) (.cons (.op (.fld 2) (.cons (.op .chkp (.cons (.inp 1) .nil)) .nil)) (.cons (.op (.ext 0) (.cons (.op (.cal 190) (.cons (.bv 0) (.cons (.bv 1) .nil))) .nil)) .nil)) (.chk none .chkp (.cons (.inp 1) .nil) (.chk none (.fld 3) (.cons (.op .chkp (.cons (.inp 1) .nil)) .nil) (.eff (.st 1) (.cons (.op (.fld 3) (.cons (.op .chkp (.cons (.inp 1) .nil)) .nil)) (.cons (.op (.ext 1) (.cons (.op (.cal 190) (.cons (.bv 0) (.cons (.bv 1) .nil))) .nil)) .nil)) (.done [] none)))))))))))))))))) zm)⟩
theorem Ov:af U2 136 400=some Uc:=by kernel_rfl
def hgC (w0:World) (X:ak) (t:Tm) (l s:Nat):List Value->World->Prop
 | [],w=>St w0 (X*iJ t) w
 | [_],w=>St w0 (X*iJ {t with l:=l}) w
 |_::_::_,w=>St w0 (X*iJ {t with l:=l,s:=s}) w
def QU (S S':World->Prop):List Value->World->Prop
 | [],w=>S w
 |_::_,w=>S' w
theorem Mm {α:Type} (l:List α) (i:Nat) (v:α) (h:l[i]? =some v):l.set i v=l:=by
 apply List.ext_getElem?;intro j
 by_cases e:j=i
 ·subst e
  rw [List.getElem?_set_self (List.getElem?_eq_some_iff.1 h).1,h]
 ·rw [List.getElem?_set_ne (Ne.symm e)]
theorem pY {w0 w:World} {B:ak} {p now mv am:Nat} {Y:Dk} (s:St w0 (B*wc p now mv am Y) w) {q:Nat} (h:q<257):w.cell? ⟨p,3+q,none⟩=some (FK (Y q)):=by
 have:=s.ab (3+q) _ (A2 now mv am Y h)
 rwa [Nat.zero_add] at this
theorem Rh (p now mv am:Nat) (Y:Dk) {q:Nat} (h:q<257) {x x':Sl} (hx:FK x=FK x'):wc p now mv am (jQ Y q x)=wc p now mv am (jQ Y q x'):=by show pt p (.cells (wN now mv am (jQ Y q x)).toArray _ _)=pt p (.cells (wN now mv am (jQ Y q x')).toArray _ _);rw [<-tC _ _ _ _ h,<-tC _ _ _ _ h,hx]
theorem MM (p now mv am:Nat) (Y:Dk) {q:Nat} (h:q<257) {x:Sl} (hx:FK x=FK (Y q)):wc p now mv am (jQ Y q x)=wc p now mv am Y:=by show pt p (.cells (wN now mv am (jQ Y q x)).toArray _ _)=pt p (.cells (wN now mv am Y).toArray _ _);rw [<-tC _ _ _ _ h,hx,Mm _ _ _ (A2 _ _ _ _ h)]
def A9 (t:Tm) (now:Nat):Nat:=(fO t.a now).1*64+(fO t.a now).2
def j2 (t:Tm) (now:Nat):Tm:={t with l:=(fO t.a now).1,s:=(fO t.a now).2}
def Iz (m:Nat) (x:Sl) (t:Tm):Sl:=some (m,nJ x++ [⟨t.n,tp t,p6 x⟩],p6 x+1)
theorem xB (p am now mv:Nat) (Y:Dk) (t:Tm) (w0 w:World) (A:ak) {K:Value->World->Prop} (ha:t.a<=4611686018427387904) (hn:now<=4611686018427387904) (hY:aZ (nJ (Y (A9 t now))) t.n=none)
  (s:St w0 (A*cZ fI Y 257*wc p now mv am Y*iJ t) w)
  (hk:∀r m w',(∀x,Y (A9 t now)=some x->m=x.1)->St w0 (A*cZ fI (jQ Y (A9 t now) (Iz m (Y (A9 t now)) t)) 257*wc p now mv am (jQ Y (A9 t now) (Iz m (Y (A9 t now)) t))*iJ (j2 t now)) w'->K r w'):
  aj Tryz.prog 136 [.pointer (some ⟨p,0,none⟩),tp t] K w:=by
 obtain ⟨h1,h2,h3⟩:=lF t.a now;obtain ⟨l,hl⟩:∃l,(fO t.a now).1=l:=⟨_,rfl⟩;obtain ⟨s',hs⟩:∃s',(fO t.a now).2=s':=⟨_,rfl⟩;have hq:A9 t now=l*64+s':=by rw [<-hl,<-hs];rfl
 have ht':j2 t now={t with l:=l,s:=s'}:=by rw [<-hl,<-hs];rfl
 rw [hl] at h1 h3;rw [hs] at h2 h3;rw [hq] at hY hk;rw [ht'] at hk;obtain ⟨q,hqe⟩:∃q,l*64+s'=q:=⟨_,rfl⟩;have hq257:q<257:=by omega
 rw [hqe] at hY hk;refine cN Ov (by simp [Uc]) ?_;simp [Uc];refine fH (hgC w0 (A*cZ fI Y 257*wc p now mv am Y) t l s') s.drew ?_;simp;refine al (v:= .int .i64 t.a) (λvs' w he hw=> ?_) ?_
 ·match vs',hw with
  | [],hw=>exact (show St w0 _ w from hw).ab 1 _ rfl
  |_::_,hw=>simp [era] at he
 simp;refine al (v:= .int .i64 now) (λvs' w he hw=> ?_) ?_
 ·match vs',hw with
  | [],hw=>exact (show St w0 _ w from hw).drop.ab 0 _ rfl
  |_::_,hw=>simp [era] at he
 simp;refine ⟨⟨by omega,by omega⟩,?_⟩;rw [hl];refine aO rfl (λw hw=>cy (show St w0 (_*iJ t) w from hw) rfl (by simp) λw' h=> ?_) (λv _=> ?_)
 ·show St w0 (_*iJ {t with l:=l}) w'
  simpa using h
 simp [hs];refine aO rfl (λw hw=>cy (show St w0 (_*iJ {t with l:=l}) w from hw) rfl (by simp) λw' h=> ?_) (λv _=> ?_)
 ·show St w0 (_*iJ {t with l:=l,s:=s'}) w'
  simpa using h
 simp;intro w1 s1;have s1:St w0 (A*cZ fI Y 257*wc p now mv am Y*iJ {t with l:=l,s:=s'}) w1:=s1;refine L7 s1 ?_;simp;refine aV (v:= .int .i64 l) (λw h=>h.ab 2 _ rfl) ?_;simp;refine aV (v:= .int .i64 s') (λw h=>h.ab 3 _ rfl) ?_;simp;refine ⟨⟨by omega,by omega,by omega⟩,?_⟩;rw [hqe];intro w2 s2;have fin:∀(m:Nat) (w3:World),(∀x,Y q=some x->m=x.1)->St w0 (A*jk fI Y q 257*ao m (nJ (Y q)) (p6 (Y q))*wc p now mv am (jQ Y q (some (m,nJ (Y q),p6 (Y q))))*iJ {t with l:=l,s:=s'}) w3->
   uN.wp U2 (rO Tryz.prog [] K) [.pointer (some ⟨p,0,none⟩),tp t,.pointer (some ⟨p,3+q,none⟩)] w3:=by
  intro m w3 hm s3;simp;refine fH (QU (St w0 (A*jk fI Y q 257*ao m (nJ (Y q)) (p6 (Y q))*wc p now mv am (jQ Y q (some (m,nJ (Y q),p6 (Y q))))*iJ {t with l:=l,s:=s'})) (St w0 (A*jk fI Y q 257*ao m (nJ (Y q)++ [⟨t.n,tp t,p6 (Y q)⟩]) (p6 (Y q)+1)*wc p now mv am (jQ Y q (some (m,nJ (Y q),p6 (Y q))))*iJ {t with l:=l,s:=s'}))) s3.drew ?_;simp;refine al (v:= .map (some m)) (λvs' w he hw=> ?_) ?_
  ·match vs',hw with
   | [],hw=>
    have:=pY (show St w0 _ w from hw).drop hq257;rw [km] at this;exact this
   |_::_,hw=>simp [era] at he
  simp;refine al (v:= .int .i64 t.n) (λvs' w he hw=> ?_) ?_
  ·match vs',hw with
   | [],hw=>exact (show St w0 _ w from hw).ab 0 _ rfl
   |_::_,hw=>simp [era] at he
  simp;refine aO rfl (λw hw=>cm mA (St.to (show St w0 _ w from hw) (B:=A*jk fI Y q 257*wc p now mv am (jQ Y q (some (m,nJ (Y q),p6 (Y q))))*iJ {t with l:=l,s:=s'}*ao m (nJ (Y q)) (p6 (Y q))) (by ac_rfl)) hY λw' h=> ?_) (λv _=> ?_)
  ·show St w0 _ w'
   exact h.to (by ac_rfl)
  simp;intro w4 s4;have s4:St w0 (A*jk fI Y q 257*ao m (nJ (Y q)++ [⟨t.n,tp t,p6 (Y q)⟩]) (p6 (Y q)+1)*wc p now mv am (jQ Y q (some (m,nJ (Y q),p6 (Y q))))*iJ {t with l:=l,s:=s'}) w4:=s4;refine hk _ m w4 hm ?_;rw [yJ hq257];rw [<-Rh p now mv am Y hq257 (x:=some (m,nJ (Y q),p6 (Y q))) (x':=Iz m (Y q) t) rfl,show fI q (Iz m (Y q) t)=ao m (nJ (Y q)++ [⟨t.n,tp t,p6 (Y q)⟩]) (p6 (Y q)+1) from rfl];exact s4.to (by ac_rfl)
 refine ag (v:=FK (Y q)) (pY s2.drop hq257) ?_;rw [tR hq257] at s2;cases hYq:Y q with
 |none=>
  rw [hYq] at s2;have s2:St w0 (A*(jk fI Y q 257*emp)*wc p now mv am Y*iJ {t with l:=l,s:=s'}) w2:=s2;rw [aq] at s2;simp [FK];refine iy s2 ?_;intro m w3 s3;simp;have hlen:=nP now mv am Y;refine cy (s3.to (B:=A*jk fI Y q 257*iJ {t with l:=l,s:=s'}*ao m [] 0*wc p now mv am Y) (by ac_rfl)) rfl (by simp [hlen];omega) ?_;intro w4 s4;simp;have e:(wN now mv am Y).toArray.setIfInBounds (3+q) (.map (some m))=(wN now mv am (jQ Y q (some (m,nJ (Y q),p6 (Y q))))).toArray:=by rw [<-tC _ _ _ _ hq257];apply Array.ext';simp [FK]
  rw [e] at s4;have s4:St w0 (A*jk fI Y q 257*iJ {t with l:=l,s:=s'}*ao m [] 0*wc p now mv am (jQ Y q (some (m,nJ (Y q),p6 (Y q))))) w4:=s4;refine fin m w4 (λx hx=>by rw [hYq] at hx;cases hx) ?_;rw [hYq] at s4⊢;exact s4.to (by rw [show nJ none= [] from rfl,show p6 none=0 from rfl];ac_rfl)
 |some x=>
  rw [hYq] at s2;have s2:St w0 (A*(jk fI Y q 257*ao x.1 x.2.1 x.2.2)*wc p now mv am Y*iJ {t with l:=l,s:=s'}) w2:=s2;simp [FK];refine fin x.1 w2 (λy hy=>by rw [hYq] at hy;cases hy;rfl) ?_;rw [MM p now mv am Y hq257 (x:=some (x.1,nJ (Y q),p6 (Y q))) (by rw [hYq];rfl),hYq,show nJ (some x)=x.2.1 from rfl,show p6 (some x)=x.2.2 from rfl];exact s2.to (by ac_rfl)
def gC (t:Tm):Nat:=t.l*64+t.s
structure FN (t:Tm):Prop where
 l:t.l<=4
 s:t.s<64
 r:t.l=4->t.s=0
theorem AX {t:Tm} (h:FN t):gC t<257:=by have:=h.l;have:=h.s;have:=h.r;unfold gC;omega
def A8 (x:Sl) (n:Int):Sl:=x.map λx=>(x.1,dY x.2.1 n,x.2.2)
theorem xj (p am now mv:Nat) (Y:Dk) (t:Tm) (aes:List En) (ac:Nat) (x:Nat×List En×Nat) (w0 w:World) (A:ak) {K:Value->World->Prop} (ht:FN t) (hY:Y (gC t)=some x)
  (s:St w0 (A*ao am aes ac*cZ fI Y 257*wc p now mv am Y*iJ t) w)
  (hk:∀r w',St w0 (A*ao am (dY aes t.n) ac*cZ fI (jQ Y (gC t) (A8 (some x) t.n)) 257*wc p now mv am (jQ Y (gC t) (A8 (some x) t.n))*iJ t) w'->K r w'):
  aj Tryz.prog 138 [.pointer (some ⟨p,0,none⟩),tp t] K w:=by
 have hq257:=AX ht;obtain ⟨h1,h2,h3⟩:=ht;obtain ⟨q,hqe⟩:∃q,gC t=q:=⟨_,rfl⟩;have hqe':t.l*64+t.s=q:=hqe;rw [hqe] at hY hk hq257;refine aG Ox (by simp [Ue]) ?_;simp [Ue];refine fH (QU (St w0 (A*ao am aes ac*cZ fI Y 257*wc p now mv am Y*iJ t)) (St w0 (A*ao am (dY aes t.n) ac*cZ fI Y 257*wc p now mv am Y*iJ t))) s.drew ?_;simp;refine al (v:= .map (some am)) (λvs' w he hw=> ?_) ?_
 ·match vs',hw with
  | [],hw=>exact (show St w0 _ w from hw).drop.ab 2 _ rfl
  |_::_,hw=>simp [era] at he
 simp;refine al (v:= .int .i64 t.n) (λvs' w he hw=> ?_) ?_
 ·match vs',hw with
  | [],hw=>exact (show St w0 _ w from hw).ab 0 _ rfl
  |_::_,hw=>simp [era] at he
 simp;refine aO rfl (λw hw=>mn mA (St.to (show St w0 _ w from hw) (B:=A*cZ fI Y 257*wc p now mv am Y*iJ t*ao am aes ac) (by ac_rfl)) λw' h=> ?_) (λv _=> ?_)
 ·show St w0 _ w'
  exact h.to (by ac_rfl)
 simp;intro w1 s1;have s1:St w0 (A*ao am (dY aes t.n) ac*cZ fI Y 257*wc p now mv am Y*iJ t) w1:=s1;obtain ⟨B,hB⟩:∃B,A*ao am (dY aes t.n) ac=B:=⟨_,rfl⟩;rw [hB] at s1 hk;rw [tR hq257,hY] at s1;have s1:St w0 (B*(jk fI Y q 257*ao x.1 x.2.1 x.2.2)*wc p now mv am Y*iJ t) w1:=s1;refine fH (QU (St w0 (B*(jk fI Y q 257*ao x.1 x.2.1 x.2.2)*wc p now mv am Y*iJ t)) (St w0 (B*(jk fI Y q 257*ao x.1 (dY x.2.1 t.n) x.2.2)*wc p now mv am Y*iJ t))) s1.drew ?_;simp;refine al (v:= .int .i64 t.l) (λvs' w he hw=> ?_) ?_
 ·match vs',hw with
  | [],hw=>exact (show St w0 _ w from hw).ab 2 _ rfl
  |_::_,hw=>simp [era] at he
 simp;refine al (v:= .int .i64 t.s) (λvs' w he hw=> ?_) ?_
 ·match vs',hw with
  | [],hw=>exact (show St w0 _ w from hw).ab 3 _ rfl
  |_::_,hw=>simp [era] at he
 simp;refine ⟨⟨by omega,by omega,by omega⟩,?_⟩;rw [hqe'];refine al (v:= .map (some x.1)) (λvs' w he hw=> ?_) ?_
 ·match vs',hw with
  | [],hw=>
   have:=pY (show St w0 _ w from hw).drop hq257;rw [hY] at this;exact this
  |_::_,hw=>simp [era] at he
 simp;refine al (v:= .int .i64 t.n) (λvs' w he hw=> ?_) ?_
 ·match vs',hw with
  | [],hw=>exact (show St w0 _ w from hw).ab 0 _ rfl
  |_::_,hw=>simp [era] at he
 simp;refine aO rfl (λw hw=>mn mA (St.to (show St w0 _ w from hw) (B:=B*jk fI Y q 257*wc p now mv am Y*iJ t*ao x.1 x.2.1 x.2.2) (by ac_rfl)) λw' h=> ?_) (λv _=> ?_)
 ·show St w0 _ w'
  exact h.to (by ac_rfl)
 simp;intro w2 s2;have s2:St w0 (B*(jk fI Y q 257*ao x.1 (dY x.2.1 t.n) x.2.2)*wc p now mv am Y*iJ t) w2:=s2;refine hk _ w2 ?_;rw [yJ hq257,MM p now mv am Y hq257 (x:=A8 (some x) t.n) (by rw [hY];rfl),show fI q (A8 (some x) t.n)=ao x.1 (dY x.2.1 t.n) x.2.2 from rfl];exact s2
def bt:List Tm->ak
 | []=>emp
 |t::r=>iJ t*bt r
theorem xD:∀a b:List Tm,bt (a++b)=bt a*bt b
 | [],b=>by rw [List.nil_append,bt,dP]
 |t::r,b=>by rw [List.cons_append,bt,bt,xD r b,au]
def eu (ts:List Tm) (n:Int):List Tm:=ts.filter λu=>decide (u.n≠n)
def Fq (ts:List Tm) (t':Tm):List Tm:=ts.map λu=>if u.n=t'.n then t' else u
theorem gu {ts:List Tm} (h:(ts.map (·.n)).Nodup) {t u:Tm} (ht:t∈ts) (hu:u∈ts) (e:t.n=u.n):t=u:=by
 induction ts with
 |nil=>cases ht
 |cons x r ih=>
  rw [List.map_cons,List.nodup_cons] at h;rcases List.mem_cons.1 ht with ht|ht<;>rcases List.mem_cons.1 hu with hu|hu
  ·rw [ht,hu]
  ·exact absurd (List.mem_map.2 ⟨u,hu,by rw [<-e,ht]⟩) h.1
  ·exact absurd (List.mem_map.2 ⟨t,ht,by rw [e,hu]⟩) h.1
  ·exact ih h.2 ht hu
theorem qK {ts:List Tm} {n:Int} (h:∀u∈ts,u.n≠n):eu ts n=ts:=List.filter_eq_self.2 λu hu=>decide_eq_true (h u hu)
theorem LH {ts:List Tm} {t:Tm} (h:∀u∈ts,u.n≠t.n):Fq ts t=ts:=by exact (List.map_congr_left (g:=id) λu hu=>if_neg (h u hu)).trans (List.map_id _)
theorem kK {ts:List Tm} (h:(ts.map (·.n)).Nodup) {t:Tm} (ht:t∈ts):bt ts=bt (eu ts t.n)*iJ t:=by
 induction ts with
 |nil=>cases ht
 |cons x r ih=>
  rw [List.map_cons,List.nodup_cons] at h;rcases List.mem_cons.1 ht with rfl|ht
  ·have:eu (t::r) t.n=r:=by unfold eu;rw [List.filter_cons_of_neg (by simp)];exact qK λu hu e=>h.1 (List.mem_map.2 ⟨u,hu,e⟩)
   rw [this,bt,gw]
  ·have hne:x.n≠t.n:=λe=>h.1 (List.mem_map.2 ⟨t,ht,e.symm⟩)
   have:eu (x::r) t.n=x::eu r t.n:=List.filter_cons_of_pos (by simpa using hne);rw [this,bt,bt,ih h.2 ht,au]
theorem K1 {ts:List Tm} (h:(ts.map (·.n)).Nodup) {t t':Tm} (ht:t∈ts) (e:t'.n=t.n):bt (Fq ts t')=bt (eu ts t.n)*iJ t':=by
 induction ts with
 |nil=>cases ht
 |cons x r ih=>
  rw [List.map_cons,List.nodup_cons] at h;rcases List.mem_cons.1 ht with rfl|ht
  ·have h1:∀u∈r,u.n≠t.n:=λu hu e=>h.1 (List.mem_map.2 ⟨u,hu,e⟩)
   have:eu (t::r) t.n=r:=by unfold eu;rw [List.filter_cons_of_neg (by simp)];exact qK h1
   have h2:Fq (t::r) t'=t'::r:=by show (if t.n=t'.n then t' else t)::Fq r t'=_;rw [if_pos e.symm,LH (λu hu=>by rw [e];exact h1 u hu)]
   rw [this,h2,bt,gw]
  ·have hne:x.n≠t.n:=λe=>h.1 (List.mem_map.2 ⟨t,ht,e.symm⟩)
   have:eu (x::r) t.n=x::eu r t.n:=List.filter_cons_of_pos (by simpa using hne);have h2:Fq (x::r) t'=x::Fq r t':=by show (if x.n=t'.n then t' else x)::Fq r t'=_;rw [if_neg (by rw [e];exact hne)]
   rw [this,h2,bt,bt,ih h.2 ht,au]
structure qd (ts:List Tm) (q:Nat) (x:Sl):Prop where
 ok:Fp (nJ x) (p6 x)
 mem:∀n v,aZ (nJ x) n=some v↔∃t∈ts,t.n=n/\gC t=q/\v=tp t
structure wu (ts:List Tm) (aes:List En) (ac:Nat) (Y:Dk):Prop where
 num:(ts.map (·.n)).Nodup
 tm:∀t∈ts,FN t
 alls:aes.map (λe=>(e.k,e.v))=ts.map λt=>(t.n,tp t)
 aok:Fp aes ac
 sl:∀q,q<257->qd ts q (Y q)
theorem qw:∀{aes:List En} {ts:List Tm},aes.map (λe=>(e.k,e.v))=ts.map (λt=>(t.n,tp t))->∀n,aZ aes n=(ts.find? λt=>decide (t.n=n)).map tp
 | [],[],_,_=>rfl
 | [],_::_,h,_=>by cases h
 |_::_,[],h,_=>by cases h
 |e::r,t::ts,h,n=>by
  simp only [List.map_cons,List.cons.injEq,Prod.mk.injEq] at h;obtain ⟨⟨h1,h2⟩,h3⟩:=h;simp only [aZ,h1,h2]
  by_cases hn:n=t.n
  ·subst hn;simp
  ·rw [if_neg hn,List.find?_cons_of_neg (by simpa using λg:t.n=n=>hn g.symm)]
   exact qw h3 n
theorem Cb {ts:List Tm} (h:(ts.map (·.n)).Nodup) {t:Tm} (ht:t∈ts):(ts.find? λu=>decide (u.n=t.n))=some t:=by
 cases hf:ts.find? λu=>decide (u.n=t.n) with
 |none=>
  have:=List.find?_eq_none.1 hf t ht;simp at this
 |some u=>
  have h1:=List.find?_some hf;have h2:=List.mem_of_find?_eq_some hf;rw [gu h h2 ht (of_decide_eq_true h1)]
theorem wu.get {ts:List Tm} {aes:List En} {ac:Nat} {Y:Dk} (h:wu ts aes ac Y) {t:Tm} (ht:t∈ts):aZ aes t.n=some (tp t):=by rw [qw h.alls,Cb h.num ht];rfl
theorem wu.fN {ts:List Tm} {aes:List En} {ac:Nat} {Y:Dk} (h:wu ts aes ac Y) {n:Int} (hn:∀t∈ts,t.n≠n):aZ aes n=none:=by rw [qw h.alls,List.find?_eq_none.2 (λt ht=>by simpa using hn t ht)];rfl
theorem wu.at {ts:List Tm} {aes:List En} {ac:Nat} {Y:Dk} (h:wu ts aes ac Y) {t:Tm} (ht:t∈ts):∃x,Y (gC t)=some x:=by
 have:=((h.sl _ (AX (h.tm t ht))).mem t.n (tp t)).2 ⟨t,ht,rfl,rfl,rfl⟩;cases hY:Y (gC t) with
 |none=>rw [hY] at this;cases this
 |some x=>exact ⟨x,rfl⟩
theorem I6 {ts:List Tm} (h:(ts.map (·.n)).Nodup) (n:Int):((eu ts n).map (·.n)).Nodup:=h.sublist (List.filter_sublist.map _)
theorem G9:∀{aes:List En} {ts:List Tm} (n:Int),aes.map (λe=>(e.k,e.v))=ts.map (λt=>(t.n,tp t))->(aes.filter λe=>decide (e.k≠n)).map (λe=>(e.k,e.v))=(eu ts n).map λt=>(t.n,tp t)
 | [],[],_,_=>rfl
 | [],_::_,_,h=>by cases h
 |_::_,[],_,h=>by cases h
 |e::r,t::ts,n,h=>by
  simp only [List.map_cons,List.cons.injEq,Prod.mk.injEq] at h;obtain ⟨⟨h1,h2⟩,h3⟩:=h;have ih:=G9 n h3;unfold eu at ih⊢
  by_cases hn:t.n=n
  ·rw [List.filter_cons_of_neg (by simp [h1,hn]),List.filter_cons_of_neg (by simp [hn])]
   exact ih
  ·rw [List.filter_cons_of_pos (by simp [h1,hn]),List.filter_cons_of_pos (by simp [hn]),List.map_cons,List.map_cons,ih,h1,h2]
theorem Mn (x:Sl) (n:Int):nJ (A8 x n)=dY (nJ x) n:=by cases x<;>rfl
theorem Wp (x:Sl) (n:Int):p6 (A8 x n)=p6 x:=by cases x<;>rfl
theorem qd.del {ts:List Tm} {q:Nat} {x:Sl} (h:qd ts q x) (n:Int):qd (eu ts n) q (A8 x n):=by
 refine ⟨by rw [Mn,Wp];exact He h.ok n,λk v=> ?_⟩;rw [Mn,KS h.ok.kn]
 by_cases hk:k=n
 ·subst hk
  rw [if_pos rfl];constructor
  ·intro h;cases h
  ·rintro ⟨t,ht,h1,_⟩
   have:=(List.mem_filter.1 ht).2;simp [h1] at this
 ·rw [if_neg hk,h.mem]
  constructor
  ·rintro ⟨t,ht,h1,h2⟩
   exact ⟨t,List.mem_filter.2 ⟨ht,by simp [h1,hk]⟩,h1,h2⟩
  ·rintro ⟨t,ht,h1⟩
   exact ⟨t,(List.mem_filter.1 ht).1,h1⟩
theorem qd.off {ts:List Tm} (hn:(ts.map (·.n)).Nodup) {q:Nat} {x:Sl} (h:qd ts q x) {t:Tm} (ht:t∈ts) (hq:gC t≠q):qd (eu ts t.n) q x:=by
 refine ⟨h.ok,λk v=> ?_⟩;rw [h.mem];constructor
 ·rintro ⟨u,hu,h1,h2,h3⟩
  exact ⟨u,List.mem_filter.2 ⟨hu,decide_eq_true λe=>hq (by rw [<-gu hn hu ht e];exact h2)⟩,h1,h2,h3⟩
 ·rintro ⟨u,hu,h1⟩
  exact ⟨u,(List.mem_filter.1 hu).1,h1⟩
theorem wu.drop {ts:List Tm} {aes:List En} {ac:Nat} {Y:Dk} (h:wu ts aes ac Y) {t:Tm} (ht:t∈ts):wu (eu ts t.n) (dY aes t.n) ac (jQ Y (gC t) (A8 (Y (gC t)) t.n)):=by
 refine ⟨I6 h.num _,λu hu=>h.tm u (List.mem_filter.1 hu).1,?_,He h.aok _,λq hq=> ?_⟩
 ·rw [yX h.aok.kn];exact G9 t.n h.alls
 ·by_cases e:q=gC t
  ·subst e;rw [km];exact (h.sl _ hq).del t.n
  ·rw [ko _ _ e];exact (h.sl q hq).off h.num ht (Ne.symm e)
theorem Mo (m:Nat) (x:Sl) (t:Tm):nJ (Iz m x t)=nJ x++ [⟨t.n,tp t,p6 x⟩]:=rfl
theorem Wq (m:Nat) (x:Sl) (t:Tm):p6 (Iz m x t)=p6 x+1:=rfl
theorem qd.Zu {ts:List Tm} {q:Nat} {x:Sl} (h:qd ts q x) {t t':Tm} (e:t'.n=t.n) (eb:t'.b=t.b) (hf:∀u∈ts,u.n≠t.n) (hq:gC t'=q) (m:Nat) {ts':List Tm} (hts:∀u,u∈ts'↔u∈ts\/u=t'):qd ts' q (Iz m x t):=by
 have hno:aZ (nJ x) t.n=none:=by
  cases hg:aZ (nJ x) t.n with
  |none=>rfl
  |some v=>
   obtain ⟨u,hu,h1,_⟩:=(h.mem _ _).1 hg;exact absurd h1 (hf u hu)
 refine ⟨by rw [Mo,Wq];exact CM h.ok hno _,λk v=> ?_⟩;rw [Mo,Iw _ _ _ _ hno]
 by_cases hk:k=t.n
 ·subst hk
  rw [if_pos rfl];constructor
  ·intro g;cases g
   exact ⟨t',(hts _).2 (.inr rfl),e,hq,by rw [tp,tp,eb]⟩
  ·rintro ⟨u,hu,h1,_,h3⟩
   rcases (hts u).1 hu with hu|rfl
   ·exact absurd h1 (hf u hu)
   ·rw [h3,tp,tp,eb]
 ·rw [if_neg hk,h.mem]
  constructor
  ·rintro ⟨u,hu,h1⟩;exact ⟨u,(hts u).2 (.inl hu),h1⟩
  ·rintro ⟨u,hu,h1,h2⟩
   rcases (hts u).1 hu with hu|rfl
   ·exact ⟨u,hu,h1,h2⟩
   ·exact absurd (h1.symm.trans e) hk
theorem qd.TP {ts:List Tm} {q:Nat} {x:Sl} (h:qd ts q x) {t':Tm} (hq:gC t'≠q) {ts':List Tm} (hts:∀u,u∈ts'↔u∈ts\/u=t'):qd ts' q x:=by
 refine ⟨h.ok,λk v=> ?_⟩;rw [h.mem];constructor
 ·rintro ⟨u,hu,h1⟩;exact ⟨u,(hts u).2 (.inl hu),h1⟩
 ·rintro ⟨u,hu,h1,h2,h3⟩
  rcases (hts u).1 hu with hu|rfl
  ·exact ⟨u,hu,h1,h2,h3⟩
  ·exact absurd h2 hq
theorem V0 {ts:List Tm} {t t':Tm} (ht:t∈ts) (e:t'.n=t.n) (u:Tm):u∈Fq ts t'↔u∈eu ts t.n\/u=t':=by
 unfold Fq eu;constructor
 ·intro hu
  obtain ⟨x,hx,rfl⟩:=List.mem_map.1 hu
  by_cases h:x.n=t'.n
  ·rw [if_pos h];exact .inr rfl
  ·rw [if_neg h];exact .inl (List.mem_filter.2 ⟨hx,decide_eq_true λg=>h (g.trans e.symm)⟩)
 ·rintro (hu|rfl)
  ·obtain ⟨h1,h2⟩:=List.mem_filter.1 hu
   have h2:=of_decide_eq_true h2;exact List.mem_map.2 ⟨u,h1,if_neg λg=>h2 (g.trans e)⟩
  ·exact List.mem_map.2 ⟨t,ht,if_pos e.symm⟩
theorem V6 {ts:List Tm} (t':Tm):(Fq ts t').map (·.n)=ts.map (·.n):=by
 unfold Fq;rw [List.map_map];refine List.map_congr_left λu _=> ?_;show (if u.n=t'.n then t' else u).n=u.n;split
 ·rename_i h;exact h.symm
 ·rfl
theorem LD {ts:List Tm} (n:Int):∀u∈eu ts n,u.n≠n:=λu hu=>of_decide_eq_true (List.mem_filter.1 hu).2
theorem wu.move {ts:List Tm} {aes:List En} {ac:Nat} {Y:Dk} (h:wu ts aes ac Y) {t t':Tm} (ht:t∈ts) (e:t'.n=t.n) (eb:t'.b=t.b) (hok:FN t') (hne:gC t'≠gC t) (m:Nat):
  wu (Fq ts t') aes ac (jQ (jQ Y (gC t) (A8 (Y (gC t)) t.n)) (gC t') (Iz m (Y (gC t')) t)):=by
 have hmem:=V0 ht e;refine ⟨by rw [V6];exact h.num,λu hu=> ?_,?_,h.aok,λq hq=> ?_⟩
 ·rcases (hmem u).1 hu with hu|rfl
  ·exact h.tm u (List.mem_filter.1 hu).1
  ·exact hok
 ·rw [h.alls]
  unfold Fq;rw [List.map_map];refine List.map_congr_left λu hu=> ?_;show _=((if u.n=t'.n then t' else u).n,tp (if u.n=t'.n then t' else u));split
  ·rename_i g
   have:=gu h.num hu ht (g.trans e);subst this;rw [e,tp,tp,eb]
  ·rfl
 ·by_cases e1:q=gC t'
  ·subst e1
   rw [km];exact ((h.sl _ hq).off h.num ht (Ne.symm hne)).Zu e eb (LD t.n) rfl m hmem
  ·rw [ko _ _ e1]
   by_cases e2:q=gC t
   ·subst e2
    rw [km];exact ((h.sl _ hq).del t.n).TP (Ne.symm e1) hmem
   ·rw [ko _ _ e2]
    exact ((h.sl q hq).off h.num ht (Ne.symm e2)).TP (Ne.symm e1) hmem
theorem wu.add {ts:List Tm} {aes:List En} {ac:Nat} {Y:Dk} (h:wu ts aes ac Y) {t t':Tm} (e:t'.n=t.n) (eb:t'.b=t.b) (hf:∀u∈ts,u.n≠t.n) (hok:FN t') (m:Nat):
  wu (ts++ [t']) (aes++ [⟨t.n,tp t,ac⟩]) (ac+1) (jQ Y (gC t') (Iz m (Y (gC t')) t)):=by
 have hmem:∀u,u∈ts++ [t']↔u∈ts\/u=t':=λu=>by simp
 refine ⟨?_,λu hu=> ?_,?_,CM h.aok (h.fN hf) _,λq hq=> ?_⟩
 ·rw [List.map_append,List.nodup_append]
  refine ⟨h.num,by simp,λx hx y hy=> ?_⟩;obtain ⟨u,hu,rfl⟩:=List.mem_map.1 hx;have:y=t.n:=by simpa [e] using hy
  rw [this];exact hf u hu
 ·rcases (hmem u).1 hu with hu|rfl
  ·exact h.tm u hu
  ·exact hok
 ·rw [List.map_append,List.map_append,h.alls]
  simp [e,eb,tp]
 ·by_cases e1:q=gC t'
  ·subst e1
   rw [km];exact (h.sl _ hq).Zu e eb hf rfl m hmem
  ·rw [ko _ _ e1]
   exact (h.sl q hq).TP (Ne.symm e1) hmem
def iK (p now mv:Nat) (ts:List Tm):ak:=λh=>∃am aes ac Y,wu ts aes ac Y/\(ao am aes ac*cZ fI Y 257*wc p now mv am Y*bt ts) h
theorem yx {w0 w:World} {A:ak} {p now mv:Nat} {ts:List Tm} (s:St w0 (A*iK p now mv ts) w):∃am aes ac Y,wu ts aes ac Y/\St w0 (A*bt ts*cZ fI Y 257*ao am aes ac*wc p now mv am Y) w:=by obtain ⟨g,h1,h2,h3,d,e,a,am,aes,ac,Y,hok,b⟩:=s.holds;have s':St w0 (A*(ao am aes ac*cZ fI Y 257*wc p now mv am Y*bt ts)) w:=s.of ⟨g,h1,h2,h3,d,e,a,b⟩;exact ⟨am,aes,ac,Y,hok,s'.to (by ac_rfl)⟩
theorem oJ {w0 w:World} {A:ak} {p now mv am:Nat} {aes:List En} {ac:Nat} {Y:Dk} {ts:List Tm} (h:wu ts aes ac Y) (s:St w0 (A*bt ts*cZ fI Y 257*ao am aes ac*wc p now mv am Y) w):St w0 (A*iK p now mv ts) w:=by have s':St w0 (A*(ao am aes ac*cZ fI Y 257*wc p now mv am Y*bt ts)) w:=s.to (by ac_rfl);exact s'.mono (eX (λ_ h=>h) λg hg=>⟨am,aes,ac,Y,h,hg⟩)
theorem wu.free {ts:List Tm} {aes:List En} {ac:Nat} {Y:Dk} (h:wu ts aes ac Y) {n:Int} (hn:∀t∈ts,t.n≠n) {q:Nat} (hq:q<257):aZ (nJ (Y q)) n=none:=by
 cases hg:aZ (nJ (Y q)) n with
 |none=>rfl
 |some v=>
  obtain ⟨t,ht,h1,_⟩:=((h.sl q hq).mem n v).1 hg;exact absurd h1 (hn t ht)
theorem uX (t:Tm) (now:Nat):FN (j2 t now):=⟨(lF t.a now).1,(lF t.a now).2.1,(lF t.a now).2.2⟩
theorem uW (t:Tm) (now:Nat):A9 t now=gC (j2 t now):=rfl
def l78:ai:=⟨[0,1,2,6,7],54,[.slot 3],aN tG [] 0xe79e6fff74800e789a63d1100093049dcee269853d11007320c134d3c006034f001bc02773bdf3134d3d09004d2812cb08f2c4d3d09004d2812cb0bd09004d281b68a28a28bc0b2fff748d2420dcee271b57530e0782c263530e0782c29b338b134d3c006034f001bc02cbffdd22c908373b89c6d59b824b0989b824b0bd0733880b4d3c006034f001bc02cbffdd228e04373b72375f6d75753c2402282482e18e353c2402282e15cb3402302cb3402302d34f00040d3c001f00b2fff74870dc6d5d434011d8d434011ecbffdd20c371b57c3c663c3c6027dd2003⟩
theorem VG:af U2 78 400=some l78:=by kernel_rfl
def l85:ai:=⟨[0,1,4,5],19,[.slot 2],aN tG [] 0xe79e6fff74800a789a63d0d000a304a2f02cbffdd238908271b5710cc2c26310cc2c29dcee2df80fd0733880b4d3c006034f001bc028bc0b2fff748309c6d5f0f198f0f1a7dd2002⟩
theorem VL:af U2 85 400=some l85:=by kernel_rfl
def l83:ai:=⟨[0,2],9,[.slot 1],aN tG [] 0xb39bff73bdf3074d3c001034f0007c028bc0b2fff748005c6d5f0f198f0f1a7dd2001⟩
theorem VK:af U2 83 400=some l83:=by kernel_rfl
def GA:HC:=(.seq (.reg (.eff (.mkm 213 false) .nil (.eff (.mkm 213 false) .nil (.chk none (.build (rl [(2,(.int .i64 0)),(258,(.map none))]) [(0,1),(1,1),(2,1),(3,256),(259,1)] [0,2,4]) (.cons (.inp 0) (.cons (.bv 0) (.cons (.bv 1) .nil))) (.eff (.box 217) (.cons (.op (.build (rl [(2,(.int .i64 0)),(258,(.map none))]) [(0,1),(1,1),(2,1),(3,256),(259,1)] [0,2,4]) (.cons (.inp 0) (.cons (.bv 0) (.cons (.bv 1) .nil)))) .nil) (.done [(1,(.bv 2)),(2,(.cst (.int .i64 0)))] none)))))) .ret)
@[simp] theorem Zh:type_of%(@aF GA _ GA.eq_1):=aF GA.eq_1
def GB:HC:=(.seq (.reg (.done [(1,(.cst (.pointer none))),(2,(.cst (.int .i64 90)))] none)) .ret)
@[simp] theorem Zi:type_of%(@aF GB _ GB.eq_1):=aF GB.eq_1
def GC:HC:=(.seq (.br (.chk none (.bin .lss) (.cons (.inp 0) (.cons (.cst (.int .i64 0)) .nil)) (.jK (.op (.bin .lss) (.cons (.inp 0) (.cons (.cst (.int .i64 0)) .nil))) (.chk (some ((.bv 0),false)) (.bin .gtr) (.cons (.inp 0) (.cons (.cst (.int .i64 1099511627776)) .nil)) (.isb none (.bv 0) (.done [] (some (.ite (.bv 0) true (.cst (.bool true)) (.op (.bin .gtr) (.cons (.inp 0) (.cons (.cst (.int .i64 1099511627776)) .nil)))))))))) GB .skip) GA)
@[simp] theorem Zj:type_of%(@aF GC _ GC.eq_1):=aF GC.eq_1
def l77:ai:=⟨[0,2,3],15,[.slot 1,.slot 2],(.seq (.reg (.done [(1,(.cst (.pointer none))),(2,(.cst (.int .i64 0)))] none)) GC)⟩
theorem VF:af U2 77 400=some l77:=by kernel_rfl
theorem Bx {α:Type} {F:Nat->α->ak} {Y:Nat->α}:∀n,(∀k,k<n->F k (Y k)=emp)->cZ F Y n=emp
 |0,_=>rfl
 |n+1,h=>by show cZ F Y n*F n (Y n)=emp;rw [Bx n (λk hk=>h k (by omega)),h n (by omega),aq]
theorem Lx (now:Int) (am bm:Nat):Instr.fill (λx=> [(0,1),(1,1),(2,1),(3,256),(259,1)][x]?) (rl [(2,.int .i64 0),(258,.map none)]) [(0,.int .i64 now),(2,.map (some am)),(4,.map (some bm))]=some (rl [(1,.int .i64 now),(1,.int .i64 0),(1,.map (some am)),(256,.map none),(1,.map (some bm))]):=by kernel_rfl
theorem fy (now:Int) (w0 w:World) (A:ak) {K:Value->World->Prop} (s:St w0 A w)
  (hk:∀r w',(if 0<=now/\now<=1099511627776 then∃p,r= .tuple #[.pointer (some ⟨p,0,none⟩),.int .i64 0]/\St w0 (A*iK p now.toNat 0 []) w' else r= .tuple #[.pointer none,.int .i64 90]/\St w0 A w')->K r w'):
  aj Tryz.prog 77 [.int .i64 now] K w:=by
 refine cN VF (by simp [l77]) ?_;simp [l77];refine aR (λh=> ?_) (λh=> ?_)
 ·simp at h
  simp;refine hk _ _ ?_;rw [if_neg (by omega)];exact ⟨rfl,s⟩
 simp at h;simp;refine iy s ?_;intro am w1 s1;simp;refine iy s1 ?_;intro bm w2 s2;simp;rw [Lx];simp;refine bu s2 ?_;intro p w3 s3;simp;refine hk _ _ ?_;rw [if_pos h];refine ⟨p,rfl,?_⟩;obtain ⟨now,rfl⟩:=Int.eq_ofNat_of_zero_le h.1;have eA:rl [(1,.int .i64 now),(1,.int .i64 0),(1,.map (some am)),(256,.map none),(1,.map (some bm))]=(wN now 0 am (jQ (λ_=>none) 256 (some (bm,[],0)))).toArray:=by kernel_rfl
 have s3:St w0 (A*ao am [] 0*ao bm [] 0*wc p now 0 am (jQ (λ_=>none) 256 (some (bm,[],0)))) w3:=by show St w0 (_*pt p (.cells (wN now 0 am (jQ (λ_=>none) 256 (some (bm,[],0)))).toArray _ _)) w3;rw [<-eA];exact s3
 have eb:cZ fI (jQ (λ_=>none) 256 (some (bm,[],0))) 257=ao bm [] 0:=by show cZ fI (jQ (λ_=>none) 256 (some (bm,[],0))) 256*fI 256 (jQ (λ_=>none) 256 (some (bm,[],0)) 256)=_;rw [Bx 256 (λk hk=>by rw [ko _ _ (by omega)];rfl),dP,km];rfl
 have hok:wu [] [] 0 (jQ (λ_=>none) 256 (some (bm,[],0))):=⟨by simp,by simp,rfl,Au 0,λq _=>by
  by_cases e:q=256
  ·subst e;rw [km];exact ⟨Au 0,λn v=>by simp [nJ,aZ]⟩
  ·rw [ko _ _ e];exact ⟨Au 0,λn v=>by simp [nJ,aZ]⟩⟩
 refine oJ (am:=am) hok ?_;rw [eb,show bt []=emp from rfl,aq];exact s3.to (by ac_rfl)
theorem Bg (p now mv:Nat) (ts:List Tm) (w0 w:World) (A:ak) (s:St w0 (A*iK p now mv ts) w):
  aj Tryz.prog 83 [.pointer (some ⟨p,0,none⟩)] (λr w'=>r= .int .i64 now/\St w0 (A*iK p now mv ts) w') w:=by
 refine aG VK (by simp [l83]) ?_;simp [l83];obtain ⟨am,aes,ac,Y,hok,t1⟩:=yx s;refine ag (v:= .int .i64 now) (t1.ab 0 _ rfl) ?_;simp;exact s
theorem Bb (p now mv:Nat) (ts:List Tm) (n:Int) (w0 w:World) (A:ak) {K:Value->World->Prop} (s:St w0 (A*iK p now mv ts) w)
  (hk:∀r w',r= .int .i64 (if (∀u∈ts,u.n≠n) then 93 else 0)->St w0 (A*iK p now mv (eu ts n)) w'->K r w'):
  aj Tryz.prog 85 [.pointer (some ⟨p,0,none⟩),.int .i64 n] K w:=by
 refine aG VL (by simp [l85]) ?_;simp [l85];obtain ⟨am,aes,ac,Y,hok,t1⟩:=yx s;refine ag (v:= .map (some am)) (t1.ab 2 _ rfl) ?_;simp;refine np mA t1.drop.look ?_;simp
 by_cases hn:∀u∈ts,u.n≠n
 ·rw [hok.fN hn]
  simp;refine hk _ _ (by rw [if_pos hn]) ?_;rw [qK hn];exact s
 ·obtain ⟨t,ht⟩:∃t,t∈ts/\t.n=n:=by refine Classical.byContradiction λh=>hn λu hu e=>h ⟨u,hu,e⟩
  obtain ⟨ht,rfl⟩:=ht;rw [hok.get ht];simp;obtain ⟨x,hx⟩:=hok.at ht;have t2:St w0 (A*bt (eu ts t.n)*ao am aes ac*cZ fI Y 257*wc p now mv am Y*iJ t) w:=by rw [kK hok.num ht] at t1;exact t1.to (by ac_rfl)
  refine ad (xj p am now mv Y t aes ac x w0 w _ (hok.tm t ht) hx t2 λr w' s3=> ?_);simp;refine hk _ _ (by rw [if_neg hn]) ?_;have h2:=hok.drop ht;rw [hx] at h2;exact oJ h2 (St.cut (iJ t) s3 (by ac_rfl))
def pP (now:Nat) (ts:List Tm) (n a:Int):Int:=if n<1 then 2 else if a<=now\/1099511627776<a then 90 else if¬∀u∈ts,u.n≠n then 92 else if 65536<=ts.length then 91 else 0
theorem gS {now:Nat} {ts:List Tm} {n a:Int}:pP now ts n a=0↔1<=n/\now<a/\a<=1099511627776/\(∀u∈ts,u.n≠n)/\ts.length<65536:=by
 unfold pP;constructor
 ·intro h
  by_cases h1:n<1
  ·simp [h1] at h
  by_cases h2:a<=now\/1099511627776<a
  ·simp [h1,h2] at h
  by_cases h3:∀u∈ts,u.n≠n
  ·by_cases h4:65536<=ts.length
   ·rw [if_neg h1,if_neg h2,if_neg (not_not_intro h3),if_pos h4] at h
    simp at h
   ·exact ⟨by omega,by omega,by omega,h3,by omega⟩
  ·rw [if_neg h1,if_neg h2,if_pos h3] at h
   simp at h
 ·rintro ⟨h1,h2,h3,h4,h5⟩
  rw [if_neg (by omega),if_neg (by omega),if_neg (not_not_intro h4),if_neg (by omega)]
theorem DY (p now mv:Nat) (ts:List Tm) (n at_:Int) (w0 w:World) (A:ak) {K:Value->World->Prop} (hnow:now<=1099511627776) (s:St w0 (A*iK p now mv ts) w)
  (hk:∀w',(if pP now ts n at_=0 then∃b,St w0 (A*iK p now mv (ts++ [j2 ⟨n,at_.toNat,0,0,b⟩ now])) w' else St w0 (A*iK p now mv ts) w')->K (.int .i64 (pP now ts n at_)) w'):
  aj Tryz.prog 78 [.pointer (some ⟨p,0,none⟩),.int .i64 n,.int .i64 at_] K w:=by
 refine aG VG (by simp [l78]) ?_;simp [l78];have no:∀(e:Int) (w':World),pP now ts n at_=e->e≠0->St w0 (A*iK p now mv ts) w'->K (.int .i64 e) w':=λe w' he h0 s'=>by subst he;exact hk _ (by rw [if_neg h0];exact s')
 refine aR (λc1=> ?_) (λc1=> ?_)
 ·simp at c1
  simp;exact no 2 w (by unfold pP;rw [if_pos (by omega)]) (by decide) s
 simp at c1;simp;obtain ⟨am,aes,ac,Y,hok,t1⟩:=yx s;refine ag (v:= .int .i64 now) (t1.ab 0 _ rfl) ?_;simp;refine aR (λc2=> ?_) (λc2=> ?_)
 ·simp at c2
  simp;exact no 90 w (by unfold pP;rw [if_neg (by omega),if_pos (by omega)]) (by decide) s
 simp at c2;obtain ⟨a,rfl⟩:∃a:Nat,at_=a:=⟨at_.toNat,by omega⟩;simp;refine ag (v:= .map (some am)) (t1.ab 2 _ rfl) ?_;simp;refine np mA t1.drop.look ?_;simp
 by_cases hn:∀u∈ts,u.n≠n
 ·rw [hok.fN hn]
  simp;refine ag (v:= .map (some am)) (t1.ab 2 _ rfl) ?_;simp;refine Kz mA.ty t1.drop.look ?_;have hl:aes.length=ts.length:=by have:=congrArg List.length hok.alls;simpa using this
  rw [hl];simp;refine aR (λc3=> ?_) (λc3=> ?_)
  ·simp at c3
   simp;exact no 91 w (by unfold pP;rw [if_neg (by omega),if_neg (by omega),if_neg (not_not_intro hn),if_pos (by omega)]) (by decide) s
  simp at c3;simp [Instr.fill,Value.cells];refine bu t1 ?_;intro b w2 s2;obtain ⟨T,hT⟩:∃T:Tm,T=⟨n,a,0,0,b⟩:=⟨_,rfl⟩;have hTn:T.n=n:=by rw [hT]
  have s2:St w0 (A*bt ts*cZ fI Y 257*ao am aes ac*wc p now mv am Y*iJ T) w2:=by rw [hT];exact s2
  simp;have htp:Value.pointer (some ⟨b,0,none⟩)=tp T:=by rw [hT]
  rw [htp];refine ag (v:= .map (some am)) (s2.drop.ab 2 _ rfl) ?_;simp;refine cm mA (s2.to (B:=A*bt ts*cZ fI Y 257*wc p now mv am Y*iJ T*ao am aes ac) (by ac_rfl)) (hok.fN hn) ?_;intro w3 s3;simp;have hq:=uW T now;have hqlt:=AX (uX T now);refine ad (xB p am now mv Y T w0 w3 (A*bt ts*ao am (aes++ [⟨n,tp T,ac⟩]) (ac+1)) (by rw [hT];show a<=_;omega) (by omega) (by rw [hq,hTn];exact hok.free hn hqlt) (s3.to (by ac_rfl)) λr m w4 hm s4=> ?_);simp;have hz:pP now ts n a=0:=gS.2 ⟨c1,c2.1,c2.2,hn,by omega⟩;have hk:=hk w4;rw [hz] at hk;refine hk ?_;rw [if_pos rfl];refine ⟨b,?_⟩;have hnew:=hok.add (t:=T) (t':=j2 T now) rfl rfl (by rw [hTn];exact hn) (uX T now) m;have e:j2 ⟨n,(a:Int).toNat,0,0,b⟩ now=j2 T now:=by rw [hT];rfl
  rw [e];refine oJ (am:=am) hnew ?_;rw [xD,show bt [j2 T now]=iJ (j2 T now)*emp from rfl,aq,hTn];exact s4.to (by rw [hq];ac_rfl)
 ·obtain ⟨t,ht⟩:∃t,t∈ts/\t.n=n:=by refine Classical.byContradiction λh=>hn λu hu e=>h ⟨u,hu,e⟩
  obtain ⟨ht,rfl⟩:=ht;rw [hok.get ht];simp;exact no 92 w (by unfold pP;rw [if_neg (by omega),if_neg (by omega),if_pos hn]) (by decide) s
theorem nY (p now mv:Nat) (ts:List Tm) (n at_:Int) (w0 w:World) (A:ak) {K:Value->World->Prop} (hnow:now<=1099511627776) (s:St w0 (A*iK p now mv ts) w)
  (hk:∀r w',(if 1<=n/\now<at_/\at_<=1099511627776/\(∀u∈ts,u.n≠n)/\ts.length<65536 then r= .int .i64 0/\∃b,St w0 (A*iK p now mv (ts++ [j2 ⟨n,at_.toNat,0,0,b⟩ now])) w' else (∃e,r= .int .i64 e/\e≠0)/\St w0 (A*iK p now mv ts) w')->K r w'):
  aj Tryz.prog 78 [.pointer (some ⟨p,0,none⟩),.int .i64 n,.int .i64 at_] K w:=by
 refine DY p now mv ts n at_ w0 w A hnow s λw' h=>hk _ w' ?_
 by_cases hz:pP now ts n at_=0
 ·rw [if_pos (gS.1 hz)]
  rw [if_pos hz] at h;exact ⟨by rw [hz],h⟩
 ·rw [if_neg (λg=>hz (gS.2 g))]
  rw [if_neg hz] at h;exact ⟨⟨_,rfl,hz⟩,h⟩
end Go.HL.Wh
namespace Go.HL.Wh
open Go.HL
structure Dg (a d4 d3 d2 d1 d0:Nat):Prop where
 eq:a=d4*16777216+d3*262144+d2*4096+d1*64+d0
 b3:d3<64
 b2:d2<64
 b1:d1<64
 b0:d0<64
theorem Kp (a:Nat):∃d4 d3 d2 d1 d0,Dg a d4 d3 d2 d1 d0:=
 ⟨a /16777216,a /262144 %64,a /4096 %64,a /64 %64,a %64,by omega,by omega,by omega,by omega,by omega⟩
theorem Dg.d4 {a d4 d3 d2 d1 d0:Nat} (h:Dg a d4 d3 d2 d1 d0):a /16777216=d4:=by obtain ⟨h,_,_,_,_⟩:=h;omega
theorem Dg.d3 {a d4 d3 d2 d1 d0:Nat} (h:Dg a d4 d3 d2 d1 d0):gk a 3=d3:=by obtain ⟨h,_,_,_,_⟩:=h;show a /262144 %64=d3;omega
theorem Dg.d2 {a d4 d3 d2 d1 d0:Nat} (h:Dg a d4 d3 d2 d1 d0):gk a 2=d2:=by obtain ⟨h,_,_,_,_⟩:=h;show a /4096 %64=d2;omega
theorem Dg.d1 {a d4 d3 d2 d1 d0:Nat} (h:Dg a d4 d3 d2 d1 d0):gk a 1=d1:=by obtain ⟨h,_,_,_,_⟩:=h;show a /64 %64=d1;omega
theorem Dg.d0 {a d4 d3 d2 d1 d0:Nat} (h:Dg a d4 d3 d2 d1 d0):gk a 0=d0:=by obtain ⟨h,_,_,_,_⟩:=h;show a /1 %64=d0;omega
theorem Fe {a a4 a3 a2 a1 a0 n n4 n3 n2 n1 n0:Nat} (ha:Dg a a4 a3 a2 a1 a0) (hn:Dg n n4 n3 n2 n1 n0):
  (a4≠n4/\fO a n=(4,0))\/(a4=n4/\a3≠n3/\fO a n=(3,a3))\/(a4=n4/\a3=n3/\a2≠n2/\fO a n=(2,a2))\/
  (a4=n4/\a3=n3/\a2=n2/\a1≠n1/\fO a n=(1,a1))\/(a4=n4/\a3=n3/\a2=n2/\a1=n1/\fO a n=(0,a0)):=by
 unfold fO;rw [ha.d4,ha.d3,ha.d2,ha.d1,ha.d0,hn.d4,hn.d3,hn.d2,hn.d1]
 by_cases h4:a4=n4
 ·by_cases h3:a3=n3
  ·by_cases h2:a2=n2
   ·by_cases h1:a1=n1
    ·simp [h4,h3,h2,h1]
    ·simp [h4,h3,h2,h1]
   ·simp [h4,h3,h2]
  ·simp [h4,h3]
 ·simp [h4]
def nW (now to:Nat) (p:Nat×Nat):Prop:=p.1<(fO to now).1\/p.1=(fO to now).1/\p.2<=(fO to now).2
set_option maxHeartbeats 4000000 in
theorem Ff (a now to:Nat) (h1:now<a) (h2:now<to):
  (nW now to (fO a now)->to<a->fO a now=fO to now/\((fO a to).1<(fO to now).1\/fO a to=fO a now))/\
  (¬nW now to (fO a now)->to<a/\fO a to=fO a now):=by
 obtain ⟨a4,a3,a2,a1,a0,ha⟩:=Kp a;obtain ⟨n4,n3,n2,n1,n0,hn⟩:=Kp now;obtain ⟨t4,t3,t2,t1,t0,ht⟩:=Kp to;have L1:=Fe ha hn;have L2:=Fe ha ht;have L3:=Fe ht hn;obtain ⟨ea,ba3,ba2,ba1,ba0⟩:=ha;obtain ⟨en,bn3,bn2,bn1,bn0⟩:=hn;obtain ⟨et,bt3,bt2,bt1,bt0⟩:=ht;unfold nW;generalize fO a now=x at*;generalize fO a to=y at*;generalize fO to now=z at*;obtain ⟨x1,x2⟩:=x;obtain ⟨y1,y2⟩:=y;obtain ⟨z1,z2⟩:=z;simp only [Prod.mk.injEq] at*;rcases L3 with L3|L3|L3|L3|L3<;>rcases L1 with L1|L1|L1|L1|L1<;>omega
def dX (to:Nat) (D:Tm->Bool) (ts:List Tm):List Tm:=(ts.filter λt=> !(D t&&decide (t.a<=to))).map λt=>if D t=true then j2 t to else t
def rW (to:Nat) (D:Tm->Bool) (ts:List Tm):List Tm:=ts.filter λt=>D t&&decide (t.a<=to)
def rT (to:Nat) (t:Tm):Bool:=decide (to<t.a)&&decide ((fO t.a to).1≠t.l)
def iQ (to:Nat) (D:Tm->Bool) (ts:List Tm):List Tm:=ts.filter λt=>D t&&rT to t
def dW (D:Tm->Bool) (t:Tm):Tm->Bool:=λu=>D u||decide (u.n=t.n)
section
variable {ts:List Tm} {to:Nat} {D D':Tm->Bool} {t:Tm}
theorem Ia (h:∀t∈ts,D t=D' t):dX to D ts=dX to D' ts:=by
 unfold dX;have e:(ts.filter λt=> !(D t&&decide (t.a<=to)))=ts.filter λt=> !(D' t&&decide (t.a<=to)):=List.filter_congr λt ht=>by rw [h t ht]
 rw [e];exact List.map_congr_left λt ht=>by rw [h t (List.mem_filter.1 ht).1]
theorem Ja (h:∀t∈ts,D t=D' t):rW to D ts=rW to D' ts:=List.filter_congr λt ht=>by rw [h t ht]
theorem I3 (h:∀t∈ts,D t=D' t):iQ to D ts=iQ to D' ts:=List.filter_congr λt ht=>by rw [h t ht]
theorem uy (p:Tm->Bool):∀{ts:List Tm},(ts.map (·.n)).Nodup->t∈ts->D t=false->p t=true->
  (ts.filter λu=>dW D t u&&p u).Perm (t::ts.filter λu=>D u&&p u)
 | [],_,h,_,_=>by cases h
 |x::r,hn,ht,hD,hp=>by
  rw [List.map_cons,List.nodup_cons] at hn;rcases List.mem_cons.1 ht with rfl|ht
  ·have e:(r.filter λu=>dW D t u&&p u)=r.filter λu=>D u&&p u:=List.filter_congr λu hu=>by have:u.n≠t.n:=λg=>hn.1 (List.mem_map.2 ⟨u,hu,g⟩);simp [dW,this]
   rw [List.filter_cons_of_pos (by simp [dW,hp]),List.filter_cons_of_neg (by simp [hD]),e]
  ·have hne:x.n≠t.n:=λg=>hn.1 (List.mem_map.2 ⟨t,ht,g.symm⟩)
   have ih:=uy p hn.2 ht hD hp
   by_cases hx:(D x&&p x)=true
   ·rw [List.filter_cons_of_pos (by simpa [dW,hne] using hx),show (x::r).filter (λu=>D u&&p u)=x::r.filter (λu=>D u&&p u) from List.filter_cons_of_pos hx]
    exact (ih.cons x).trans (List.Perm.swap t x _)
   ·rw [List.filter_cons_of_neg (by simpa [dW,hne] using hx),show (x::r).filter (λu=>D u&&p u)=r.filter (λu=>D u&&p u) from List.filter_cons_of_neg hx]
    exact ih
theorem uz (p:Tm->Bool) (hn:(ts.map (·.n)).Nodup) (ht:t∈ts) (hp:p t=false):(ts.filter λu=>dW D t u&&p u)=ts.filter λu=>D u&&p u:=by
 refine List.filter_congr λu hu=> ?_
 by_cases e:u.n=t.n
 ·have:=gu hn hu ht e
  subst this;simp [hp]
 ·simp [dW,e]
theorem Gn (hn:(ts.map (·.n)).Nodup) (ht:t∈ts) (hd:t.a<=to):dX to (dW D t) ts=eu (dX to D ts) t.n:=by
 unfold dX eu;rw [List.filter_map,List.filter_filter];have e:(ts.filter λu=> !(dW D t u&&decide (u.a<=to)))=ts.filter λu=>((λu:Tm=>decide (u.n≠t.n))∘λt=>if D t=true then j2 t to else t) u&& !(D u&&decide (u.a<=to)):=by
  refine List.filter_congr λu hu=> ?_;have hfn:(if D u=true then j2 u to else u).n=u.n:=by split<;>rfl
  simp only [Function.comp_apply,hfn]
  by_cases e:u.n=t.n
  ·have:=gu hn hu ht e
   subst this;simp [dW,hd]
  ·simp [dW,e]
 rw [e];refine List.map_congr_left λu hu=> ?_;have h:=(List.mem_filter.1 hu).2;have hfn:(if D u=true then j2 u to else u).n=u.n:=by split<;>rfl
 simp only [Function.comp_apply,hfn,Bool.and_eq_true,decide_eq_true_eq] at h;simp [dW,h.1]
theorem Gp (hn:(ts.map (·.n)).Nodup) (ht:t∈ts) (hd:to<t.a):dX to (dW D t) ts=Fq (dX to D ts) (j2 t to):=by
 unfold dX Fq;rw [List.map_map];have e:(ts.filter λu=> !(dW D t u&&decide (u.a<=to)))=ts.filter λu=> !(D u&&decide (u.a<=to)):=by
  refine List.filter_congr λu hu=> ?_
  by_cases e:u.n=t.n
  ·have:=gu hn hu ht e
   subst this;have:¬u.a<=to:=by omega
   simp [this]
  ·simp [dW,e]
 rw [e];refine List.map_congr_left λu hu=> ?_;have hu:=(List.mem_filter.1 hu).1;have hfn:(if D u=true then j2 u to else u).n=u.n:=by split<;>rfl
 simp only [Function.comp_apply,hfn];show _=if u.n=t.n then j2 t to else _
 by_cases e:u.n=t.n
 ·have:=gu hn hu ht e
  subst this;simp [dW]
 ·simp [dW,e]
theorem Kj (hn:(ts.map (·.n)).Nodup) (ht:t∈ts) (hd:to<t.a) (hg:j2 t to=t):dX to (dW D t) ts=dX to D ts:=by
 unfold dX;have e:(ts.filter λu=> !(dW D t u&&decide (u.a<=to)))=ts.filter λu=> !(D u&&decide (u.a<=to)):=by
  refine List.filter_congr λu hu=> ?_
  by_cases e:u.n=t.n
  ·have:=gu hn hu ht e
   subst this;have:¬u.a<=to:=by omega
   simp [this]
  ·simp [dW,e]
 rw [e];refine List.map_congr_left λu hu=> ?_;have hu:=(List.mem_filter.1 hu).1
 by_cases e:u.n=t.n
 ·have:=gu hn hu ht e
  subst this;simp [dW,hg]
 ·simp [dW,e]
theorem QB {u:Tm} (h:u∈dX to D ts):∃t∈ts,u=(if D t=true then j2 t to else t)/\(D t=true->to<t.a):=by obtain ⟨t,ht,rfl⟩:=List.mem_map.1 h;obtain ⟨h1,h2⟩:=List.mem_filter.1 ht;refine ⟨t,h1,rfl,λhD=> ?_⟩;simp [hD] at h2;exact h2
theorem sa {t:Tm} (ht:t∈ts) (hD:D t=false):t∈dX to D ts:=List.mem_map.2 ⟨t,List.mem_filter.2 ⟨ht,by simp [hD]⟩,by simp [hD]⟩
end
structure kS (now:Nat) (ts:List Tm):Prop where
 num:(ts.map (·.n)).Nodup
 pl:∀t∈ts,t.l=(fO t.a now).1/\t.s=(fO t.a now).2
 ah:∀t∈ts,now<t.a
 bd:∀t∈ts,t.a<=1099511627776/\1<=t.n
def j6 (to:Nat) (ts:List Tm):List Tm:=(ts.filter λt=>decide (to<t.a)).map λt=>j2 t to
def ug (to:Nat) (ts:List Tm):List Tm:=ts.filter λt=>decide (t.a<=to)
def kh (to:Nat) (ts:List Tm):List Tm:=ts.filter (rT to)
theorem kS.rest {now to:Nat} {ts:List Tm} (h:kS now ts):kS to (j6 to ts):=by
 have hm:∀u∈j6 to ts,∃t∈ts,to<t.a/\u=j2 t to:=λu hu=>by obtain ⟨t,ht,rfl⟩:=List.mem_map.1 hu;obtain ⟨h1,h2⟩:=List.mem_filter.1 ht;exact ⟨t,h1,of_decide_eq_true h2,rfl⟩
 refine ⟨?_,λu hu=> ?_,λu hu=> ?_,λu hu=> ?_⟩
 ·unfold j6
  rw [List.map_map];exact h.num.sublist (List.filter_sublist.map _)
 ·obtain ⟨t,ht,h1,rfl⟩:=hm u hu;exact ⟨rfl,rfl⟩
 ·obtain ⟨t,ht,h1,rfl⟩:=hm u hu;exact h1
 ·obtain ⟨t,ht,h1,rfl⟩:=hm u hu;exact h.bd t ht
theorem uY {t:Tm} {to:Nat} (h1:(fO t.a to).1=t.l) (h2:(fO t.a to).2=t.s):j2 t to=t:=by unfold j2;rw [h1,h2]
def vD (l n:Nat):Tm->Bool:=λt=>decide (t.l<l)||(decide (t.l=l)&&decide (t.s<n))
section
variable {ts:List Tm} {now to:Nat} {D:Tm->Bool}
theorem NL (h:kS now ts) (hto:now<to) (hD:∀t∈ts,D t=true↔nW now to (t.l,t.s)):dX to D ts=j6 to ts/\rW to D ts=ug to ts/\iQ to D ts=kh to ts:=by
 have key:∀t∈ts,D t=false->to<t.a/\j2 t to=t:=λt ht hd=>by
  obtain ⟨p1,p2⟩:=h.pl t ht;have hv:¬nW now to (fO t.a now):=by rw [show fO t.a now=(t.l,t.s) by rw [p1,p2]];intro g;rw [(hD t ht).2 g] at hd;cases hd
  obtain ⟨q1,q2⟩:=(Ff t.a now to (h.ah t ht) hto).2 hv;exact ⟨q1,uY (by rw [q2,p1]) (by rw [q2,p2])⟩
 refine ⟨?_,?_,?_⟩
 ·unfold dX j6
  have e:(ts.filter λt=> !(D t&&decide (t.a<=to)))=ts.filter λt=>decide (to<t.a):=List.filter_congr λt ht=>by
   cases hd:D t with
   |true=>by_cases g:t.a<=to<;>simp [g]<;>omega
   |false=>simp [(key t ht hd).1]
  rw [e];refine List.map_congr_left λt ht=> ?_;cases hd:D t with
  |true=>simp
  |false=>simp [(key t (List.mem_filter.1 ht).1 hd).2]
 ·refine List.filter_congr λt ht=> ?_
  cases hd:D t with
  |true=>simp
  |false=>have:=(key t ht hd).1;simp;omega
 ·refine List.filter_congr λt ht=> ?_
  cases hd:D t with
  |true=>simp
  |false=>
   have:=(key t ht hd).2;have:(fO t.a to).1=t.l:=congrArg Tm.l this;simp [rT,this]
theorem J0 (h:kS now ts) (hto:now<to) {l n:Nat} (hl:l<=4) (hn:n<64) (h4:l=4->n=0) (hv:nW now to (l,n)) {sn:List Int} (hD:∀t∈ts,D t=(vD l n t||(decide (gC t=l*64+n)&&decide (t.n∈sn)))) {u:Tm} (hu:u∈dX to D ts) (hq:gC u=l*64+n) (hs:u.n∉sn):
  u∈ts/\D u=false/\u.l=l/\u.s=n:=by
 obtain ⟨t,ht,he,hd⟩:=QB hu;have htn:u.n=t.n:=by rw [he];split<;>rfl
 have ok:∀t:Tm,t.l=(fO t.a now).1->t.s=(fO t.a now).2->t.s<64/\t.l<=4:=λt h1 h2=>by have:=lF t.a now;rw [h1,h2];exact ⟨this.2.1,this.1⟩
 have hDf:D t=false:=by
  cases hDt:D t with
  |false=>rfl
  |true=>
   exfalso;have hta:=hd hDt;rw [hDt,if_pos rfl] at he;rw [hD t ht] at hDt;obtain ⟨p1,p2⟩:=h.pl t ht;have hlt:t.l<l\/t.l=l/\t.s<n:=by
    rcases Bool.or_eq_true _ _▸hDt with g|g
    ·simp only [vD,Bool.or_eq_true,Bool.and_eq_true,decide_eq_true_eq] at g;exact g
    ·simp only [Bool.and_eq_true,decide_eq_true_eq] at g
     exact absurd (htn▸g.2) hs
   have hv2:nW now to (fO t.a now):=by rw [show fO t.a now=(t.l,t.s) by rw [p1,p2]];unfold nW at hv⊢;simp only at hv⊢;omega
   have:=((Ff t.a now to (h.ah t ht) hto).1 hv2 hta).1;rw [show fO t.a now=(t.l,t.s) by rw [p1,p2]] at this;unfold nW at hv;rw [<-this] at hv;simp only at hv;omega
 rw [hDf] at he;simp at he;subst he;obtain ⟨p1,p2⟩:=h.pl u ht;obtain ⟨b1,b2⟩:=ok u p1 p2;unfold gC at hq;exact ⟨ht,hDf,by omega,by omega⟩
theorem YE (h:kS now ts) (hto:now<to) {l n:Nat} (hv:nW now to (l,n)) {u:Tm} (hu:u∈ts) (hl:u.l=l) (hs:u.s=n) (hd:to<u.a):(fO u.a to).1=l->j2 u to=u:=by
 obtain ⟨p1,p2⟩:=h.pl u hu;have e:fO u.a now=(l,n):=by rw [<-hl,<-hs,p1,p2]
 obtain ⟨q1,q2⟩:=(Ff u.a now to (h.ah u hu) hto).1 (e▸hv) hd;intro g;rcases q2 with q2|q2
 ·rw [<-q1,e] at q2;simp only at q2;omega
 ·exact uY (by rw [q2,<-p1]) (by rw [q2,<-p2])
theorem vp (h:kS now ts) {l n:Nat} (hn:n<64) {sn:List Int} (hD:∀t∈ts,D t=(vD l n t||(decide (gC t=l*64+n)&&decide (t.n∈sn)))) (hall:∀t∈ts,gC t=l*64+n->D t=true):∀t∈ts,D t=vD l (n+1) t:=by
 intro t ht;obtain ⟨p1,p2⟩:=h.pl t ht;have hs:t.s<64:=by rw [p2];exact (lF t.a now).2.1
 by_cases hq:gC t=l*64+n
 ·rw [hall t ht hq]
  unfold gC at hq;have e1:t.l=l:=by omega
  have e2:t.s=n:=by omega
  simp [vD,e1,e2]
 ·rw [hD t ht]
  unfold gC at hq;have hq2:¬(t.l=l/\t.s=n):=λg=>hq (by rw [g.1,g.2]);unfold vD;rw [Bool.eq_iff_iff];simp only [Bool.or_eq_true,Bool.and_eq_true,decide_eq_true_eq,gC,hq,false_and,or_false];omega
theorem Fk (h:kS now ts) (l:Nat):∀t∈ts,vD l 64 t=vD (l+1) 0 t:=by
 intro t ht;obtain ⟨p1,p2⟩:=h.pl t ht;have hs:t.s<64:=by rw [p2];exact (lF t.a now).2.1
 unfold vD;rw [Bool.eq_iff_iff];simp only [Bool.or_eq_true,Bool.and_eq_true,decide_eq_true_eq];omega
end
end Go.HL.Wh
namespace Go.HL.Wh
open Go.HL Go.Proofs
def U7:ai:=⟨[0,2],6,[.slot 1],aN tG [] 0xe6ffdcdd553c40010153c400127dd2041⟩
theorem P5:af U2 274 400=some U7:=by kernel_rfl
def Lc:ai:=⟨[0,2,3,5,6,7,8],18,[.slot 1],aN tG [] 0x2ce79bffdd0081b6ee677375750d01be1b50d01beb6ca2f02cbffdd00c171b57d0900c463d0900c49fbdf30f4f464042c103d19010b041a2f0af01c6d5f454061d8f454061c09dc699676480195f02150004f029f74800a7dd2001⟩
theorem G3:af U2 199 400=some Lc:=by kernel_rfl
theorem ve (u:Int) (w:World):aj Tryz.prog 274 [.int .i64 u] (λr w'=>r= .bool false/\w'=w) w:=by refine aG P5 (by simp [U7]) ?_;simp [U7]
def rM (a b:Int):Int:=if a<b then -1 else if b<a then 1 else 0
def UF:ai:=⟨[0,1,4,5,6],20,[.slot 2],aN tG [] 0xe79e79bffdd2002a2f02cbffdd20c271b57d05000a098f41400282a2f02cbffdd22c309c6d5f414001d8f414001e8bc0b2fff748309b404628bc0e6fff748b0c2a2f02cbffdd20026d01186d00d89e2df313104d2029e2df30fc3480a7dd2002⟩
theorem Pa:af U2 200 400=some UF:=by kernel_rfl
theorem H6 (a b:Int) (w:World):aj Tryz.prog 200 [.int .i64 a,.int .i64 b] (λr w'=>r= .int .i64 (rM a b)/\w'=w) w:=by
 refine aG Pa (by simp [UF]) ?_;simp [UF];refine ad ((ve a w).mono ?_);rintro r w1 ⟨rfl,rfl⟩;simp;refine ad ((ve b w1).mono ?_);rintro r w2 ⟨rfl,rfl⟩;simp;unfold rM;refine aR (λh=> ?_) (λh=> ?_)
 ·simp at h
  simp [h]
 simp at h;simp;refine aR (λh2=> ?_) (λh2=> ?_)
 ·simp at h2
  simp [h2,show¬a<b by omega]
 ·simp at h2
  simp [show¬a<b by omega,show¬b<a by omega]
noncomputable def Ke:PS Tryz.prog where
 f:=200
 val args:=match args with
  | [.int _ a,.int _ b]=> .int .i64 (rM a b)
  |_=>undef
 ok args:=match args with
  | [.int k a,.int k' b]=>k= .i64/\k'= .i64
  |_=>False
 sound args w h:=by
  split at h
  ·obtain ⟨rfl,rfl⟩:=h;exact H6 _ _ w
  ·exact h.elim
noncomputable abbrev U3:PF Tryz.prog:=PF.of [Ke]
@[simp] theorem YD (args:List Value):U3.val 200 args=Ke.val args:=rfl
@[simp] theorem aLa (args:List Value):U3.ok 200 args=Ke.ok args:=rfl
@[simp] theorem YR (a b:Int):Ke.val [.int .i64 a,.int .i64 b]= .int .i64 (rM a b):=rfl
@[simp] theorem aQa (a b:Int):Ke.ok [.int .i64 a,.int .i64 b]=(IntKind.i64= .i64/\IntKind.i64= .i64):=rfl
theorem QR (a b:Int) (bk:Nat) (w0 w:World) (A:ak) (s:St w0 (A*pt bk (.cells #[.int .i64 a,.int .i64 b] 3 (0,0))) w):
  aj Tryz.prog 199 [.slice (some ⟨bk,0,none⟩) 2 2] (λr w'=>r= .int .i64 (if a=0 then b else a)/\St w0 A w') w:=by
 have h0:w.cell? ⟨bk,0,none⟩=some (.int .i64 a):=by rw [cell_of s.look];rfl
 have h1:w.cell? ⟨bk,1,none⟩=some (.int .i64 b):=by rw [cell_of s.look];rfl
 refine aG G3 (by simp [Lc]) ?_;simp [Lc];refine gq (λenv w'=>∃(i:Nat) (o:Value),env= [.slice (some ⟨bk,0,none⟩) 2 2,.int .i64 0,.int .i64 0,o,.slice (some ⟨bk,0,none⟩) 2 2,.int .i64 2,.int .i64 i]/\i<=2/\(0<i->a=0)/\(1<i->b=0)/\w'=w)
  (λenv _=>2 -ay env 6) ⟨0,_,rfl,by omega,by omega,by omega,rfl⟩ ?_
 rintro LQ env w' ⟨i,o,rfl,hi,ha,hb,rfl⟩ hN hE hR;simp;refine aR (λh2=> ?_) (λh2=> ?_)
 ·simp at h2
  have hi2:i=0\/i=1:=by omega
  rcases hi2 with rfl|rfl
  ·simp
   refine ag h0 ?_;simp
   by_cases e:a=0
   ·simp [e]
    try simp (disch:=omega) only [wrap64]
    exact hN _ _ ⟨1,_,by simp;rfl,by omega,λ_=>e,by omega,rfl⟩ (by simp [ay])
   ·simp [e]
    refine hR _ _ ?_;simp [e];exact s.drop
  ·simp
   refine ag h1 ?_;simp
   by_cases e:b=0
   ·simp [e]
    try simp (disch:=omega) only [wrap64]
    exact hN _ _ ⟨2,_,by simp;rfl,by omega,λ_=>ha (by omega),λ_=>e,rfl⟩ (by simp [ay])
   ·simp [e]
    refine hR _ _ ?_;simp [ha (by omega)];exact s.drop
 ·simp at h2
  simp;refine hE _ _ _ ?_;simp [ha (by omega),hb (by omega)];exact s.drop
def Ug:ai:=⟨[0,1,2,3,4],17,[.slot 4],aN tG [] 0xe6f069efb73befb8b744512644434c1325724434423c7572e333c733ac910d108f1f4c43040c43074c42040c42072e333c7d310c50310c5d310850310850e78a26996764801380f30b104f202f0f202⟩
theorem Oz:af U3 144 400=some Ug:=by kernel_rfl
def qL (x y:Int×Int):Int:=if rM x.2 y.2=0 then rM x.1 y.1 else rM x.2 y.2
abbrev dz (x:Int×Int):List Value:= [.int .i64 x.1,.int .i64 x.2]
def odC (w0:World) (A B:ak) (c1 c2 o:Int):List Value->World->Prop
 | [],w=>St w0 B w
 | [v],w=>∃bk,v= .slice (some ⟨bk,0,none⟩) 2 2/\St w0 (B*pt bk (.cells #[.int .i64 c1,.int .i64 c2] 3 (0,0))) w
 |_::r::_,w=>r= .int .i64 o/\St w0 A w
theorem Ft (x y:Int×Int) (w0 w:World) (A:ak) (s:St w0 A w):
  aj Tryz.prog 144 [.agg (dz x).toArray,.agg (dz y).toArray] (λr w'=>r= .int .i64 (qL x y)/\St w0 A w') w:=by
 refine aG Oz (by simp [Ug]) ?_;simp [Ug];refine bu s ?_;intro b1 w1 s1;simp;refine bu s1 ?_;intro b2 w2 s2;simp;obtain ⟨B,hB⟩:∃B,A*pt b1 (.cells (dz x).toArray 164 (0,0))*pt b2 (.cells (dz y).toArray 164 (0,0))=B:=⟨_,rfl⟩;have s2:St w0 (A*pt b1 (.cells (dz x).toArray 164 (0,0))*pt b2 (.cells (dz y).toArray 164 (0,0))) w2:=s2;have hx:∀w,St w0 B w->∀(j:Nat) u,(dz x)[j]? =some u->w.cell? ⟨b1,j,none⟩=some u:=λw h j u hu=>by
  rw [<-hB] at h;have:=h.drop.ab j u hu
  rwa [Nat.zero_add] at this
 have hy:∀w,St w0 B w->∀(j:Nat) u,(dz y)[j]? =some u->w.cell? ⟨b2,j,none⟩=some u:=λw h j u hu=>by
  rw [<-hB] at h;have:=h.ab j u hu
  rwa [Nat.zero_add] at this
 have hA:∀w,St w0 B w->St w0 A w:=λw h=>by rw [<-hB] at h;exact h.drop.drop
 rw [hB] at s2;refine fH (odC w0 A B (rM x.2 y.2) (rM x.1 y.1) (qL x y)) s2.drew ?_;have ld:∀(b j:Nat) (u:Value),(∀w,St w0 B w->w.cell? ⟨b,j,none⟩=some u)->∀(vs':List Value) (w:World),era 1 vs'=era 1 []->odC w0 A B (rM x.2 y.2) (rM x.1 y.1) (qL x y) vs' w->w.cell? ⟨b,j,none⟩=some u:=by
  intro b j u h vs' w he hw
  match vs',hw with
  | [],hw=>exact h w hw
  |_::_,hw=>simp [era] at he
 simp;refine al (v:= .int .i64 x.2) (λvs' w he hw=>ld b1 1 _ (λw h=>hx w h 1 _ rfl) vs' w he hw) ?_;simp;refine al (v:= .int .i64 y.2) (λvs' w he hw=>ld b2 1 _ (λw h=>hy w h 1 _ rfl) vs' w he hw) ?_;simp;refine al (v:= .int .i64 x.1) (λvs' w he hw=>ld b1 0 _ (λw h=>hx w h 0 _ rfl) vs' w he hw) ?_;simp;refine al (v:= .int .i64 y.1) (λvs' w he hw=>ld b2 0 _ (λw h=>hy w h 0 _ rfl) vs' w he hw) ?_;simp;refine aO rfl (λw hw=>ui (show St w0 B w from hw) rfl rfl λbk w' h=> ?_) (λv hv=> ?_)
 ·exact ⟨bk,rfl,h⟩
 obtain ⟨w3,bk,rfl,_⟩:=hv;simp;refine aO rfl (λw hw=> ?_) (λv hv=> ?_)
 ·obtain ⟨bk',e,hw⟩:=hw
  cases e;refine ad ((QR _ _ bk w0 w B hw).mono ?_);rintro r w' ⟨rfl,s'⟩;exact ⟨rfl,hA _ s'⟩
 obtain ⟨w4,rfl,_⟩:=hv;simp;intro w5 h5;exact h5.2
def zn:HC:=(.seq (.reg (.done [(2,(.inp 6)),(3,(.cst (.int .i64 0)))] none)) .ret)
@[simp] theorem Xf:type_of%(@aF zn _ zn.eq_1):=aF zn.eq_1
def zo:HC:=(.seq (.reg (.eff (.call 143) (.cons (.inp 6) (.cons (.cst (.func (.func 144) #[] #[])) .nil)) (.done [] none))) zn)
@[simp] theorem Xg:type_of%(@aF zo _ zo.eq_1):=aF zo.eq_1
def uO:HC:=(.reg (.chk none (.bin .add) (.cons (.inp 7) (.cons (.cst (.int .i64 1)) .nil)) (.done [(7,(.op (.bin .add) (.cons (.inp 7) (.cons (.cst (.int .i64 1)) .nil))))] none)))
@[simp] theorem Xh:type_of%(@aF uO _ uO.eq_1):=aF uO.eq_1
def zp:HC:=(.reg (.chk none (.bin .add) (.cons (.inp 11) (.cons (.cst (.int .i64 1)) .nil)) (.done [(11,(.op (.bin .add) (.cons (.inp 11) (.cons (.cst (.int .i64 1)) .nil))))] none)))
@[simp] theorem Xi:type_of%(@aF zp _ zp.eq_1):=aF zp.eq_1
def zq:HC:=(.reg (.eff (.call 138) (.cons (.inp 0) (.cons (.inp 9) .nil)) (.done [] none)))
@[simp] theorem Xj:type_of%(@aF zq _ zq.eq_1):=aF zq.eq_1
def uP:HC:=(.seq (.reg (.chk none .chkp (.cons (.inp 9) .nil) (.chk none (.fld 0) (.cons (.op .chkp (.cons (.inp 9) .nil)) .nil) (.eff (.ld true 2) (.cons (.op (.fld 0) (.cons (.op .chkp (.cons (.inp 9) .nil)) .nil)) .nil) (.eff (.bsl 164 1 2 #[(.int .i64 0),(.int .i64 0)] [0]) (.cons (.bv 0) .nil) (.eff (.app 161 161 164 2 16 (.agg #[(.int .i64 0),(.int .i64 0)])) (.cons (.inp 6) (.cons (.bv 1) .nil)) (.done [(6,(.bv 2))] none))))))) zq)
@[simp] theorem Xk:type_of%(@aF uP _ uP.eq_1):=aF uP.eq_1
def zr:HC:=(.reg (.chk none .chkp (.cons (.inp 0) .nil) (.chk none (.fld 1) (.cons (.op .chkp (.cons (.inp 0) .nil)) .nil) (.eff (.ld false 1) (.cons (.op (.fld 1) (.cons (.op .chkp (.cons (.inp 0) .nil)) .nil)) .nil) (.chk none (.bin .add) (.cons (.bv 0) (.cons (.cst (.int .i64 1)) .nil)) (.chk none .chkp (.cons (.inp 0) .nil) (.chk none (.fld 1) (.cons (.op .chkp (.cons (.inp 0) .nil)) .nil) (.eff (.st 1) (.cons (.op (.fld 1) (.cons (.op .chkp (.cons (.inp 0) .nil)) .nil)) (.cons (.op (.bin .add) (.cons (.bv 0) (.cons (.cst (.int .i64 1)) .nil))) .nil)) (.done [] none)))))))))
@[simp] theorem Xl:type_of%(@aF zr _ zr.eq_1):=aF zr.eq_1
def zt:HC:=(.seq (.reg (.eff (.call 136) (.cons (.inp 0) (.cons (.inp 9) .nil)) (.done [] none))) zr)
@[simp] theorem Xm:type_of%(@aF zt _ zt.eq_1):=aF zt.eq_1
def uQ:HC:=(.seq (.regq (.some 1) (.chk none (.cal 191) (.cons (.inp 0) (.cons (.inp 7) (.cons (.inp 8) .nil))) (.chk none .chkp (.cons (.op (.cal 191) (.cons (.inp 0) (.cons (.inp 7) (.cons (.inp 8) .nil)))) .nil) (.eff (.ld false 1) (.cons (.op .chkp (.cons (.op (.cal 191) (.cons (.inp 0) (.cons (.inp 7) (.cons (.inp 8) .nil)))) .nil)) .nil) (.chk none .chkp (.cons (.inp 9) .nil) (.chk none (.fld 0) (.cons (.op .chkp (.cons (.inp 9) .nil)) .nil) (.chk none (.fld 0) (.cons (.op (.fld 0) (.cons (.op .chkp (.cons (.inp 9) .nil)) .nil)) .nil) (.eff (.ld false 1) (.cons (.op (.fld 0) (.cons (.op (.fld 0) (.cons (.op .chkp (.cons (.inp 9) .nil)) .nil)) .nil)) .nil) (.eff (.bi .delete #[213,3] 0 #[false,false]) (.cons (.bv 0) (.cons (.bv 1) .nil)) (.done [] none)))))))))) zt)
@[simp] theorem Xn:type_of%(@aF uQ _ uQ.eq_1):=aF uQ.eq_1
def zu:HC:=(.br (.chk none (.bin .neq) (.cons (.inp 10) (.cons (.inp 7) .nil)) (.done [] (some (.op (.bin .neq) (.cons (.inp 10) (.cons (.inp 7) .nil)))))) uQ .skip)
@[simp] theorem Xo:type_of%(@aF zu _ zu.eq_1):=aF zu.eq_1
def sh:HC:=(.seq (.reg (.chk none .chkp (.cons (.inp 9) .nil) (.chk none (.fld 0) (.cons (.op .chkp (.cons (.inp 9) .nil)) .nil) (.chk none (.fld 1) (.cons (.op (.fld 0) (.cons (.op .chkp (.cons (.inp 9) .nil)) .nil)) .nil) (.eff (.ld false 1) (.cons (.op (.fld 1) (.cons (.op (.fld 0) (.cons (.op .chkp (.cons (.inp 9) .nil)) .nil)) .nil)) .nil) (.chk none (.cal 190) (.cons (.bv 0) (.cons (.inp 1) .nil)) (.chk none (.ext 0) (.cons (.op (.cal 190) (.cons (.bv 0) (.cons (.inp 1) .nil))) .nil) (.chk none (.ext 1) (.cons (.op (.cal 190) (.cons (.bv 0) (.cons (.inp 1) .nil))) .nil) (.done [(10,(.op (.ext 0) (.cons (.op (.cal 190) (.cons (.bv 0) (.cons (.inp 1) .nil))) .nil)))] none))))))))) zu)
@[simp] theorem SR:type_of%(@aF sh _ sh.eq_1):=aF sh.eq_1
def si:HC:=(.br (.chk none .chkp (.cons (.inp 9) .nil) (.chk none (.fld 0) (.cons (.op .chkp (.cons (.inp 9) .nil)) .nil) (.chk none (.fld 1) (.cons (.op (.fld 0) (.cons (.op .chkp (.cons (.inp 9) .nil)) .nil)) .nil) (.eff (.ld false 1) (.cons (.op (.fld 1) (.cons (.op (.fld 0) (.cons (.op .chkp (.cons (.inp 9) .nil)) .nil)) .nil)) .nil) (.chk none (.bin .leq) (.cons (.bv 0) (.cons (.inp 1) .nil)) (.done [] (some (.op (.bin .leq) (.cons (.bv 0) (.cons (.inp 1) .nil)))))))))) uP sh)
@[simp] theorem SV:type_of%(@aF si _ si.eq_1):=aF si.eq_1
def sj:HC:=(.seq (.reg (.eff .an (.cons (.inp 12) .nil) (.chk none (.ext 1) (.cons (.bv 0) .nil) (.done [(9,(.op (.ext 1) (.cons (.bv 0) .nil)))] none)))) si)
@[simp] theorem SX:type_of%(@aF sj _ sj.eq_1):=aF sj.eq_1
def sk:HC:=(.block 6 sj)
@[simp] theorem SY:type_of%(@aF sk _ sk.eq_1):=aF sk.eq_1
def sm:HC:=(.seq (.br (.eff (.nxt false 0) (.cons (.inp 12) .nil) (.chk none (.ext 0) (.cons (.bv 0) .nil) (.done [] (some (.op (.ext 0) (.cons (.bv 0) .nil)))))) .skip (.exit 5)) sk)
@[simp] theorem SZ:type_of%(@aF sm _ sm.eq_1):=aF sm.eq_1
def so:HC:=(.loop sm)
@[simp] theorem S4:type_of%(@aF so _ so.eq_1):=aF so.eq_1
def sq:HC:=(.block 5 so)
@[simp] theorem S5:type_of%(@aF sq _ sq.eq_1):=aF sq.eq_1
def nB:HC:=(.seq (.reg (.chk none (.cal 191) (.cons (.inp 0) (.cons (.inp 7) (.cons (.inp 8) .nil))) (.chk none .chkp (.cons (.op (.cal 191) (.cons (.inp 0) (.cons (.inp 7) (.cons (.inp 8) .nil)))) .nil) (.eff (.ld false 1) (.cons (.op .chkp (.cons (.op (.cal 191) (.cons (.inp 0) (.cons (.inp 7) (.cons (.inp 8) .nil)))) .nil)) .nil) (.eff (.rng 213) (.cons (.bv 0) .nil) (.done [(12,(.bv 1))] none)))))) sq)
@[simp] theorem S6:type_of%(@aF nB _ nB.eq_1):=aF nB.eq_1
def sr:HC:=(.seq (.br (.chk none (.bin .eql) (.cons (.inp 7) (.cons (.cst (.int .i64 4)) .nil)) (.jK (.op (.bin .eql) (.cons (.inp 7) (.cons (.cst (.int .i64 4)) .nil))) (.chk (some ((.bv 0),true)) (.bin .gtr) (.cons (.inp 8) (.cons (.cst (.int .i64 0)) .nil)) (.isb none (.bv 0) (.jK (.ite (.bv 0) true (.op (.bin .gtr) (.cons (.inp 8) (.cons (.cst (.int .i64 0)) .nil))) (.cst (.bool false))) (.chk (some ((.bv 1),false)) (.bin .eql) (.cons (.inp 7) (.cons (.inp 4) .nil)) (.jK (.ite (.bv 1) false (.op (.bin .eql) (.cons (.inp 7) (.cons (.inp 4) .nil))) (.cst (.tuple #[]))) (.chk (some ((.bv 2),true)) (.bin .gtr) (.cons (.inp 8) (.cons (.inp 5) .nil)) (.isb (some ((.bv 1),false)) (.bv 2) (.isb none (.bv 1) (.done [] (some (.ite (.bv 1) true (.cst (.bool true)) (.ite (.bv 2) true (.op (.bin .gtr) (.cons (.inp 8) (.cons (.inp 5) .nil))) (.cst (.bool false)))))))))))))))) (.exit 3) .skip) nB)
@[simp] theorem S7:type_of%(@aF sr _ sr.eq_1):=aF sr.eq_1
def su:HC:=(.seq (.reg (.done [(8,(.inp 11))] none)) sr)
@[simp] theorem S8:type_of%(@aF su _ su.eq_1):=aF su.eq_1
def sv:HC:=(.seq (.block 4 su) zp)
@[simp] theorem S9:type_of%(@aF sv _ sv.eq_1):=aF sv.eq_1
def sx:HC:=(.seq (.br (.chk none (.bin .lss) (.cons (.inp 11) (.cons (.cst (.int .i64 64)) .nil)) (.done [] (some (.op (.bin .lss) (.cons (.inp 11) (.cons (.cst (.int .i64 64)) .nil)))))) .skip (.exit 3)) sv)
@[simp] theorem Ta:type_of%(@aF sx _ sx.eq_1):=aF sx.eq_1
def sy:HC:=(.loop sx)
@[simp] theorem Tb:type_of%(@aF sy _ sy.eq_1):=aF sy.eq_1
def sC:HC:=(.block 3 sy)
@[simp] theorem Tc:type_of%(@aF sC _ sC.eq_1):=aF sC.eq_1
def nC:HC:=(.seq (.reg (.done [(11,(.cst (.int .i64 0)))] none)) sC)
@[simp] theorem Td:type_of%(@aF nC _ nC.eq_1):=aF nC.eq_1
def NU:HC:=(.seq (.block 2 nC) uO)
def sD:HC:=(.seq (.br (.chk none (.bin .leq) (.cons (.inp 7) (.cons (.inp 4) .nil)) (.done [] (some (.op (.bin .leq) (.cons (.inp 7) (.cons (.inp 4) .nil)))))) .skip (.exit 1)) NU)
@[simp] theorem Te:type_of%(@aF sD _ sD.eq_1):=aF sD.eq_1
def sF:HC:=(.loop sD)
@[simp] theorem Tf:type_of%(@aF sF _ sF.eq_1):=aF sF.eq_1
def sG:HC:=(.seq (.block 1 sF) zo)
@[simp] theorem Tg:type_of%(@aF sG _ sG.eq_1):=aF sG.eq_1
def sH:HC:=(.seq (.reg (.done [(7,(.cst (.int .i64 0)))] none)) sG)
@[simp] theorem Th:type_of%(@aF sH _ sH.eq_1):=aF sH.eq_1
def sI:HC:=(.seq (.reg (.done [(6,(.cst (.slice none 0 0)))] none)) sH)
@[simp] theorem Ti:type_of%(@aF sI _ sI.eq_1):=aF sI.eq_1
def sJ:HC:=(.seq (.reg (.chk none .chkp (.cons (.inp 0) .nil) (.chk none (.fld 0) (.cons (.op .chkp (.cons (.inp 0) .nil)) .nil) (.eff (.st 1) (.cons (.op (.fld 0) (.cons (.op .chkp (.cons (.inp 0) .nil)) .nil)) (.cons (.inp 1) .nil)) (.done [] none))))) sI)
@[simp] theorem Tj:type_of%(@aF sJ _ sJ.eq_1):=aF sJ.eq_1
def sK:HC:=(.seq (.reg (.chk none .chkp (.cons (.inp 0) .nil) (.chk none (.fld 0) (.cons (.op .chkp (.cons (.inp 0) .nil)) .nil) (.eff (.ld false 1) (.cons (.op (.fld 0) (.cons (.op .chkp (.cons (.inp 0) .nil)) .nil)) .nil) (.chk none (.cal 190) (.cons (.inp 1) (.cons (.bv 0) .nil)) (.chk none (.ext 0) (.cons (.op (.cal 190) (.cons (.inp 1) (.cons (.bv 0) .nil))) .nil) (.chk none (.ext 1) (.cons (.op (.cal 190) (.cons (.inp 1) (.cons (.bv 0) .nil))) .nil) (.done [(4,(.op (.ext 0) (.cons (.op (.cal 190) (.cons (.inp 1) (.cons (.bv 0) .nil))) .nil))),(5,(.op (.ext 1) (.cons (.op (.cal 190) (.cons (.inp 1) (.cons (.bv 0) .nil))) .nil)))] none)))))))) sJ)
@[simp] theorem Tk:type_of%(@aF sK _ sK.eq_1):=aF sK.eq_1
def NV:HC:=(.seq (.reg (.done [(2,(.cst (.slice none 0 0))),(3,(.cst (.int .i64 1)))] none)) .ret)
def sL:HC:=(.seq (.reg (.done [(2,(.cst (.slice none 0 0))),(3,(.cst (.int .i64 90)))] none)) .ret)
@[simp] theorem Tp:type_of%(@aF sL _ sL.eq_1):=aF sL.eq_1
def sM:HC:=(.seq (.reg (.done [(2,(.cst (.slice none 0 0))),(3,(.cst (.int .i64 0)))] none)) .ret)
@[simp] theorem Tq:type_of%(@aF sM _ sM.eq_1):=aF sM.eq_1
def sN:HC:=(.br (.chk none .chkp (.cons (.inp 0) .nil) (.chk none (.fld 0) (.cons (.op .chkp (.cons (.inp 0) .nil)) .nil) (.eff (.ld false 1) (.cons (.op (.fld 0) (.cons (.op .chkp (.cons (.inp 0) .nil)) .nil)) .nil) (.chk none (.bin .eql) (.cons (.inp 1) (.cons (.bv 0) .nil)) (.done [] (some (.op (.bin .eql) (.cons (.inp 1) (.cons (.bv 0) .nil))))))))) sM .skip)
@[simp] theorem Tr:type_of%(@aF sN _ sN.eq_1):=aF sN.eq_1
def sO:HC:=(.br (.chk none .chkp (.cons (.inp 0) .nil) (.chk none (.fld 0) (.cons (.op .chkp (.cons (.inp 0) .nil)) .nil) (.eff (.ld false 1) (.cons (.op (.fld 0) (.cons (.op .chkp (.cons (.inp 0) .nil)) .nil)) .nil) (.chk none (.bin .lss) (.cons (.inp 1) (.cons (.bv 0) .nil)) (.jK (.op (.bin .lss) (.cons (.inp 1) (.cons (.bv 0) .nil))) (.chk (some ((.bv 1),false)) (.bin .gtr) (.cons (.inp 1) (.cons (.cst (.int .i64 1099511627776)) .nil)) (.isb none (.bv 1) (.done [] (some (.ite (.bv 1) true (.cst (.bool true)) (.op (.bin .gtr) (.cons (.inp 1) (.cons (.cst (.int .i64 1099511627776)) .nil))))))))))))) sL sN)
@[simp] theorem Ts:type_of%(@aF sO _ sO.eq_1):=aF sO.eq_1
def sP:HC:=(.br (.chk none (.eqNil false (.pointer 217) (.pointer none)) (.cons (.inp 0) .nil) (.done [] (some (.op (.eqNil false (.pointer 217) (.pointer none)) (.cons (.inp 0) .nil))))) NV sO)
@[simp] theorem Tt:type_of%(@aF sP _ sP.eq_1):=aF sP.eq_1
def sQ:HC:=(.seq (.block 0 sP) sK)
@[simp] theorem Tu:type_of%(@aF sQ _ sQ.eq_1):=aF sQ.eq_1
def Ud:ai:=⟨[0,1,4,5,6,7,8,9,10,12,13,54,79],139,[.slot 2,.slot 3],(.seq (.reg (.done [(2,(.cst (.slice none 0 0))),(3,(.cst (.int .i64 0)))] none)) sQ)⟩
theorem Ow:af U2 137 400=some Ud:=by kernel_rfl
def fx (t:Tm):Int×Int:=(t.n,(t.a:Int))
abbrev outs (v:Value) (os:List (Int×Int)):ak:=own 164 2 v os.length (os.flatMap dz)
theorem Kw (p am now mv:Nat) (Y:Dk) (u:Tm) (aes:List En) (ac:Nat) (x:Nat×List En×Nat) (v:Value) (os:List (Int×Int)) (w0 w:World) (A:ak) {Q:EX->List Value->World->Prop} (x1 x2 x3 x4 x5 x7 x8 x10 x11 x12:Value) (ht:FN u) (hY:Y (gC u)=some x) (hos:os.length<=65536)
  (s:St w0 (A*ao am aes ac*cZ fI Y 257*wc p now mv am Y*outs v os*iJ u) w)
  (hk:∀v' w',St w0 (A*ao am (dY aes u.n) ac*cZ fI (jQ Y (gC u) (A8 (some x) u.n)) 257*wc p now mv am (jQ Y (gC u) (A8 (some x) u.n))*outs v' (os++ [fx u])) w'->Q .nrm [.pointer (some ⟨p,0,none⟩),x1,x2,x3,x4,x5,v',x7,x8,tp u,x10,x11,x12] w'):
  uP.wp U2 Q [.pointer (some ⟨p,0,none⟩),x1,x2,x3,x4,x5,v,x7,x8,tp u,x10,x11,x12] w:=by
 simp;refine aB (vs:=dz (fx u)) (λj y hy=> ?_) rfl ?_
 ·have hj:u.cs[j]? =some y:=by
   match j,hy with
   |0,hy=>exact hy
   |1,hy=>exact hy
  exact s.ab j y hj
 simp;refine bx s rfl ?_;intro c w1 s1;simp;refine bT (m:=1) (news:=dz (fx u)) (s1.to (B:=A*ao am aes ac*cZ fI Y 257*wc p now mv am Y*iJ u*pt c (.cells (dz (fx u)).toArray 164 (0,0))*outs v os) (by ac_rfl)) rfl s1.aL (λy hy=>by simp at hy;rcases hy with rfl|rfl<;>rfl) (by decide) rfl (by unfold maxLen;omega) (by omega) ?_;intro v2 w2 s2;simp;have e:own 164 2 v2 (os.length+1) (os.flatMap dz++dz (fx u))=outs v2 (os++ [fx u]):=by show _=own _ 2 v2 (os++ [fx u]).length ((os++ [fx u]).flatMap dz);rw [List.length_append,List.flatMap_append];simp
 rw [e] at s2;refine ad (xj p am now mv Y u aes ac x w0 w2 (A*outs v2 (os++ [fx u])) ht hY (St.cut (pt c (.cells (dz (fx u)).toArray 164 (0,0))) s2 (by ac_rfl)) λr w3 s3=> ?_);simp;exact hk _ _ (St.cut (iJ u) s3 (by ac_rfl))
theorem Lt (p am now mv:Nat) (Y:Dk) (u:Tm) (x:Nat×List En×Nat) (w0 w:World) (A:ak) {Q:EX->List Value->World->Prop} (l n:Nat) (x1 x2 x3 x4 x5 x6 x10 x11 x12:Value) (hl:l<=4) (hn:n<64) (h4:l=4->n=0) (hY:Y (l*64+n)=some x) (ha:u.a<=1099511627776) (hnow:now<=1099511627776) (hmv:mv<=4611686018427387904)
  (hfree:aZ (nJ (jQ Y (l*64+n) (A8 (some x) u.n) (A9 u now))) u.n=none)
  (s:St w0 (A*cZ fI Y 257*wc p now mv am Y*iJ u) w)
  (hk:∀Y' m w',Y'=jQ Y (l*64+n) (A8 (some x) u.n)->St w0 (A*cZ fI (jQ Y' (A9 u now) (Iz m (Y' (A9 u now)) u)) 257*wc p now (mv+1) am (jQ Y' (A9 u now) (Iz m (Y' (A9 u now)) u))*iJ (j2 u now)) w'->Q .nrm [.pointer (some ⟨p,0,none⟩),x1,x2,x3,x4,x5,x6,.int .i64 l,.int .i64 n,tp u,x10,x11,x12] w'):
  uQ.wp U2 Q [.pointer (some ⟨p,0,none⟩),x1,x2,x3,x4,x5,x6,.int .i64 l,.int .i64 n,tp u,x10,x11,x12] w:=by
 obtain ⟨q,hqe⟩:∃q,l*64+n=q:=⟨_,rfl⟩;have hq257:q<257:=by omega
 rw [hqe] at hY hk hfree;rw [tR hq257,hY] at s;have s:St w0 (A*(jk fI Y q 257*ao x.1 x.2.1 x.2.2)*wc p now mv am Y*iJ u) w:=s;simp;refine fH (QU (St w0 (A*(jk fI Y q 257*ao x.1 x.2.1 x.2.2)*wc p now mv am Y*iJ u)) (St w0 (A*(jk fI Y q 257*ao x.1 (dY x.2.1 u.n) x.2.2)*wc p now mv am Y*iJ u))) s.drew ?_;simp;refine ⟨⟨by omega,by omega,by omega⟩,?_⟩;rw [hqe];refine al (v:= .map (some x.1)) (λvs' w he hw=> ?_) ?_
 ·match vs',hw with
  | [],hw=>
   have:=pY (show St w0 _ w from hw).drop hq257;rw [hY] at this;exact this
  |_::_,hw=>simp [era] at he
 simp;refine al (v:= .int .i64 u.n) (λvs' w he hw=> ?_) ?_
 ·match vs',hw with
  | [],hw=>exact (show St w0 _ w from hw).ab 0 _ rfl
  |_::_,hw=>simp [era] at he
 simp;refine aO rfl (λw hw=>mn mA (St.to (show St w0 _ w from hw) (B:=A*jk fI Y q 257*wc p now mv am Y*iJ u*ao x.1 x.2.1 x.2.2) (by ac_rfl)) λw' h=> ?_) (λv _=> ?_)
 ·show St w0 _ w'
  exact h.to (by ac_rfl)
 simp;intro w2 s2;have s2:St w0 (A*(jk fI Y q 257*ao x.1 (dY x.2.1 u.n) x.2.2)*wc p now mv am Y*iJ u) w2:=s2;obtain ⟨Y',hY'⟩:∃Y',jQ Y q (A8 (some x) u.n)=Y':=⟨_,rfl⟩;have s3:St w0 (A*cZ fI Y' 257*wc p now mv am Y'*iJ u) w2:=by rw [<-hY',yJ hq257,MM p now mv am Y hq257 (x:=A8 (some x) u.n) (by rw [hY];rfl),show fI q (A8 (some x) u.n)=ao x.1 (dY x.2.1 u.n) x.2.2 from rfl];exact s2
 rw [hY'] at hfree hk;refine ad (xB p am now mv Y' u w0 w2 A (by omega) (by omega) hfree s3 λr m w3 hm s4=> ?_);obtain ⟨Z,hZ⟩:∃Z,jQ Y' (A9 u now) (Iz m (Y' (A9 u now)) u)=Z:=⟨_,rfl⟩;have hk:=hk Y' m;rw [hZ] at s4 hk;simp;refine ag (v:= .int .i64 mv) (s4.drop.ab 1 _ rfl) ?_;simp
 try simp (disch:=omega) only [wrap64]
 refine cy (s4.swap) rfl (by simp [nP]) ?_;intro w4 s5;simp;refine hk w4 rfl ?_;have e:(wN now mv am Z).toArray.setIfInBounds 1 (.int .i64 (mv+1))=(wN now (mv+1) am Z).toArray:=by simp [wN]
 rw [e] at s5;exact s5.swap
def lQ (w:World) (b:Nat):Nat:=match w.heap[b]? with
 |some (.mapIter _ _ seen _)=>seen.size
 |_=>0
theorem nk {ts:List Tm} {D:Tm->Bool} {t:Tm} (ht:t∈ts) (hD:D t=false):(ts.filter λu=> !dW D t u).length+1<=(ts.filter λu=> !D u).length:=by
 have e:(ts.filter λu=> !dW D t u)=(ts.filter λu=> !D u).filter λu=> !decide (u.n=t.n):=by rw [List.filter_filter];refine List.filter_congr λu _=> ?_;simp [dW,Bool.and_comm]
 rw [e];refine Nat.lt_of_le_of_ne (List.length_filter_le _ _) λh=> ?_;have h2:=(List.length_filter_eq_length_iff.1 h) t (List.mem_filter.2 ⟨ht,by simp [hD]⟩);simp at h2
theorem Y8 {es:List En} {c:Nat} (h:Fp es c) {e e':En} (he:e∈es) (he':e'∈es):e'.b=e.b↔e'.k=e.k:=by
 have inj:∀(f:En->Int) (es:List En),(es.map f).Nodup->e∈es->e'∈es->f e'=f e->e'=e:=by
  intro f es
  induction es with
  |nil=>intro _ h;cases h
  |cons x r ih=>
   intro hn h1 h2 hf;rw [List.map_cons,List.nodup_cons] at hn;rcases List.mem_cons.1 h1 with h1|h1<;>rcases List.mem_cons.1 h2 with h2|h2
   ·rw [h1,h2]
   ·exact absurd (List.mem_map.2 ⟨e',h2,by rw [hf,h1]⟩) hn.1
   ·exact absurd (List.mem_map.2 ⟨e,h1,by rw [<-hf,h2]⟩) hn.1
   ·exact ih hn.2 h1 h2 hf
 constructor
 ·intro hb
  have hbn:(es.map λe=>(e.b:Int)).Nodup:=by have:=h.bn;rw [List.nodup_iff_pairwise_ne,List.pairwise_map] at*;exact this.imp λh g=>h (Int.ofNat.inj g)
  rw [inj (λe=>(e.b:Int)) es hbn he he' (by simp [hb])]
 ·intro hk
  rw [inj (·.k) es h.kn he he' hk]
theorem Ha {es:List En} {c:Nat} (h:Fp es c) {n:Int} {e:En} (he:e∈dY es n):e∈es/\e.k≠n:=by rw [yX h.kn] at he;obtain ⟨h1,h2⟩:=List.mem_filter.1 he;exact ⟨h1,of_decide_eq_true h2⟩
structure AP (to:Nat) (ts:List Tm) (l n:Nat) (D:Tm->Bool) (sn:List Int) (seen:Array Nat) (es:List En) (aes:List En) (ac:Nat) (Y:Dk) (os:List (Int×Int)):Prop where
 hD:∀t∈ts,D t=(vD l n t||(decide (gC t=l*64+n)&&decide (t.n∈sn)))
 ok:wu (dX to D ts) aes ac Y
 hs:∀e∈es,e.b∈seen↔e.k∈sn
 hp:os.Perm ((rW to D ts).map fx)
 hc:(ts.filter λu=> !D u).length+seen.size<=ts.length
section
variable {to:Nat} {ts:List Tm} {l n:Nat} {D:Tm->Bool} {sn:List Int} {seen:Array Nat} {es aes:List En} {ac:Nat} {Y:Dk} {os:List (Int×Int)}
theorem AP.nD (h:AP to ts l n D sn seen es aes ac Y os) (hn:(ts.map (·.n)).Nodup) {u:Tm} (hu:u∈ts) (hq:gC u=l*64+n):∀t∈ts,dW D u t=(vD l n t||(decide (gC t=l*64+n)&&decide (t.n∈u.n::sn))):=by
 intro t ht
 by_cases e:t.n=u.n
 ·have:=gu hn ht hu e
  subst this;simp [dW,hq]
 ·simp [dW,h.hD t ht,e]
theorem AP.nS (h:AP to ts l n D sn seen es aes ac Y os) {c:Nat} (hes:Fp es c) {e:En} (he:e∈es) {u:Tm} (hk:e.k=u.n):∀e'∈es,e'.b∈seen.push e.b↔e'.k∈u.n::sn:=by intro e' he';rw [Array.mem_push,List.mem_cons,h.hs e' he',Y8 hes he he',hk];exact Or.comm
theorem AP.due (h:AP to ts l n D sn seen es aes ac Y os) (hn:(ts.map (·.n)).Nodup) {c:Nat} (hes:Fp es c) {e:En} (he:e∈es) {u:Tm} (hk:e.k=u.n) (hu:u∈ts) (hDu:D u=false) (hq:gC u=l*64+n) (hd:u.a<=to):
  AP to ts l n (dW D u) (u.n::sn) (seen.push e.b) (dY es u.n) (dY aes u.n) ac (jQ Y (gC u) (A8 (Y (gC u)) u.n)) (os++ [fx u])/\iQ to (dW D u) ts=iQ to D ts:=by
 refine ⟨⟨h.nD hn hu hq,?_,λe' he'=> ?_,?_,?_⟩,?_⟩
 ·rw [Gn hn hu hd]
  exact h.ok.drop (sa hu hDu)
 ·exact h.nS hes he hk e' (Ha hes he').1
 ·have:=uy (λu=>decide (u.a<=to)) hn hu hDu (by simpa using hd)
  refine (List.perm_append_comm.trans ?_).trans (this.map fx).symm;exact h.hp.cons _
 ·have:=nk hu hDu
  have:=h.hc;rw [Array.size_push];omega
 ·refine uz (rT to) hn hu ?_
  have:¬to<u.a:=by omega
  simp [rT,this]
theorem AP.CS (h:AP to ts l n D sn seen es aes ac Y os) (hn:(ts.map (·.n)).Nodup) {u:Tm} (hu:u∈ts) (hd:to<u.a):os.Perm ((rW to (dW D u) ts).map fx):=by have:rW to (dW D u) ts=rW to D ts:=uz (λu=>decide (u.a<=to)) hn hu (by simp;omega);rw [this];exact h.hp
theorem AP.mov (h:AP to ts l n D sn seen es aes ac Y os) (hn:(ts.map (·.n)).Nodup) {c:Nat} (hes:Fp es c) {e:En} (he:e∈es) {u:Tm} (hk:e.k=u.n) (hu:u∈ts) (hDu:D u=false) (hq:gC u=l*64+n) (hd:to<u.a) (hne:gC (j2 u to)≠gC u) (hlv:(fO u.a to).1≠u.l) (m:Nat):
  AP to ts l n (dW D u) (u.n::sn) (seen.push e.b) (dY es u.n) aes ac (jQ (jQ Y (gC u) (A8 (Y (gC u)) u.n)) (gC (j2 u to)) (Iz m (Y (gC (j2 u to))) u)) os/\(iQ to (dW D u) ts).length=(iQ to D ts).length+1:=by
 refine ⟨⟨h.nD hn hu hq,?_,λe' he'=> ?_,h.CS hn hu hd,?_⟩,?_⟩
 ·rw [Gp hn hu hd]
  exact h.ok.move (t':=j2 u to) (sa hu hDu) rfl rfl (uX u to) hne m
 ·exact h.nS hes he hk e' (Ha hes he').1
 ·have:=nk hu hDu
  have:=h.hc;rw [Array.size_push];omega
 ·have:=(uy (rT to) hn hu hDu (by simp [rT,hd,hlv])).length_eq
  rw [List.length_cons] at this;exact this
theorem AP.same (h:AP to ts l n D sn seen es aes ac Y os) (hn:(ts.map (·.n)).Nodup) {c:Nat} (hes:Fp es c) {e:En} (he:e∈es) {u:Tm} (hk:e.k=u.n) (hu:u∈ts) (hDu:D u=false) (hq:gC u=l*64+n) (hd:to<u.a) (hg:j2 u to=u):
  AP to ts l n (dW D u) (u.n::sn) (seen.push e.b) es aes ac Y os/\iQ to (dW D u) ts=iQ to D ts/\dX to (dW D u) ts=dX to D ts:=by
 have hcur:=Kj (D:=D) hn hu hd hg;refine ⟨⟨h.nD hn hu hq,by rw [hcur];exact h.ok,λe' he'=>h.nS hes he hk e' he',h.CS hn hu hd,?_⟩,?_,hcur⟩
 ·have:=nk hu hDu
  have:=h.hc;rw [Array.size_push];omega
 ·refine uz (rT to) hn hu ?_
  have:(fO u.a to).1=u.l:=congrArg Tm.l hg;simp [rT,this]
theorem AP.done (h:AP to ts l n D sn seen es aes ac Y os) {now:Nat} (hp:kS now ts) (hn:n<64) (hq:l*64+n<257) (hY:nJ (Y (l*64+n))=es) (hall:∀e∈es,e.b∈seen):∀t∈ts,D t=vD l (n+1) t:=by
 refine vp hp hn h.hD λt ht htq=> ?_;cases hD:D t with
 |true=>rfl
 |false=>
  have hc:=sa (to:=to) ht hD;have h1:=((h.ok.sl _ hq).mem t.n (tp t)).2 ⟨t,hc,rfl,htq,rfl⟩;rw [hY] at h1;obtain ⟨e,he,hk,_⟩:=KT h1;have:=(h.hs e he).1 (hall e he);have hd:=h.hD t ht;rw [hk] at this;rw [hD] at hd;simp [htq,this] at hd
end
def rI (p to mv0:Nat) (ts:List Tm) (D:Tm->Bool) (v:Value):ak:=λh=>∃os:List (Int×Int),os.Perm ((rW to D ts).map fx)/\(outs v os*iK p to (mv0+(iQ to D ts).length) (dX to D ts)) h
theorem F7 {w0 w:World} {A:ak} {p to mv0:Nat} {ts:List Tm} {D:Tm->Bool} {v:Value} (s:St w0 (A*rI p to mv0 ts D v) w):∃os,os.Perm ((rW to D ts).map fx)/\St w0 (A*outs v os*iK p to (mv0+(iQ to D ts).length) (dX to D ts)) w:=by obtain ⟨g,h1,h2,h3,d,e,a,os,hp,b⟩:=s.holds;have s':St w0 (A*(outs v os*iK p to (mv0+(iQ to D ts).length) (dX to D ts))) w:=s.of ⟨g,h1,h2,h3,d,e,a,b⟩;exact ⟨os,hp,s'.to (by ac_rfl)⟩
theorem tH {w0 w:World} {A:ak} {p to mv0:Nat} {ts:List Tm} {D:Tm->Bool} {v:Value} {os:List (Int×Int)} (hp:os.Perm ((rW to D ts).map fx)) (s:St w0 (A*outs v os*iK p to (mv0+(iQ to D ts).length) (dX to D ts)) w):St w0 (A*rI p to mv0 ts D v) w:=by have s':St w0 (A*(outs v os*iK p to (mv0+(iQ to D ts).length) (dX to D ts))) w:=s.to (by ac_rfl);exact s'.mono (eX (λ_ h=>h) λg hg=>⟨os,hp,hg⟩)
theorem qe {p to mv0:Nat} {ts:List Tm} {D D':Tm->Bool} {v:Value} (h:∀t∈ts,D t=D' t):rI p to mv0 ts D v=rI p to mv0 ts D' v:=by unfold rI;rw [Ia h,Ja h,I3 h]
structure R8 (now to mv0:Nat) (ts:List Tm):Prop where
 pl:kS now ts
 lt:now<to
 bd:to<=1099511627776
 len:ts.length<=65536
 mv:mv0<=2305843009213693952
set_option maxHeartbeats 4000000 in
theorem Jk (p now to mv0:Nat) (ts:List Tm) (w0 w:World) (A:ak) {Q:EX->List Value->World->Prop} (l n:Nat) (v x2 x3 x4 x5 x9 x10 x11 x12:Value) (hp:R8 now to mv0 ts) (hl:l<=4) (hn:n<64) (h4:l=4->n=0) (hv:nW now to (l,n))
  (s:St w0 (A*rI p to mv0 ts (vD l n) v) w)
  (hk:∀v' y9 y10 y12 w',St w0 (A*rI p to mv0 ts (vD l (n+1)) v') w'->Q .nrm [.pointer (some ⟨p,0,none⟩),.int .i64 to,x2,x3,x4,x5,v',.int .i64 l,.int .i64 n,y9,y10,x11,y12] w'):
  nB.wp U2 Q [.pointer (some ⟨p,0,none⟩),.int .i64 to,x2,x3,x4,x5,v,.int .i64 l,.int .i64 n,x9,x10,x11,x12] w:=by
 obtain ⟨os,hos,s1⟩:=F7 s;obtain ⟨am,aes,ac,Y,hok,s2⟩:=yx s1;obtain ⟨q,hqe⟩:∃q,l*64+n=q:=⟨_,rfl⟩;have hq257:q<257:=by omega
 have hnum:=hp.pl.num;simp;refine ⟨⟨by omega,by omega,by omega⟩,?_⟩;rw [hqe];refine ag (v:=FK (Y q)) (pY s2 hq257) ?_;cases hYq:Y q with
 |none=>
  simp [FK];refine KC mA.ty s2 ?_;intro b w3 s3;simp;refine gq (λenv w'=>env= [.pointer (some ⟨p,0,none⟩),.int .i64 to,x2,x3,x4,x5,v,.int .i64 l,.int .i64 n,x9,x10,x11,.pointer (some ⟨b,0,none⟩)]/\St w0 (A*outs v os*bt (dX to (vD l n) ts)*cZ fI Y 257*ao am aes ac*wc p to (mv0+(iQ to (vD l n) ts).length) am Y*pt b (.mapIter none 0 #[] 0)) w') (λ_ _=>0) ⟨rfl,s3⟩ ?_;rintro LQ env w' ⟨rfl,s'⟩ hN hE hR;simp;refine KB s' ?_;simp;refine hE _ _ _ ?_;simp;have hend:∀t∈ts,vD l n t=vD l (n+1) t:=by
   refine vp hp.pl (l:=l) hn (sn:= []) (λt ht=>by simp) λt ht htq=> ?_;cases hD:vD l n t with
   |true=>rfl
   |false=>
    have hc:=sa (to:=to) ht hD;have h1:=((hok.sl q hq257).mem t.n (tp t)).2 ⟨t,hc,rfl,by rw [<-hqe];exact htq,rfl⟩;rw [hYq] at h1;cases h1
  refine hk v x9 x10 _ w' ?_;rw [<-qe hend];exact tH hos (oJ hok (St.cut (pt b (.mapIter none 0 #[] 0)) s' (by ac_rfl)))
 |some x=>
  obtain ⟨m,es,c⟩:=x;simp [FK];have hsl:=hok.sl q hq257;rw [hYq] at hsl;have big:∀(D:Tm->Bool) (v:Value) (os:List (Int×Int)) (aes:List En) (ac:Nat) (Y:Dk) (mv:Nat) (es:List En),Y q=some (m,es,c)->A*outs v os*bt (dX to D ts)*cZ fI Y 257*ao am aes ac*wc p to mv am Y=A*outs v os*bt (dX to D ts)*jk fI Y q 257*ao am aes ac*wc p to mv am Y*ao m es c:=by intro D v os aes ac Y mv es hY;rw [tR hq257,hY];show _*(_*ao m es c)*_*_=_;ac_rfl
  have hb:=(s2.to (big _ _ _ _ _ _ _ _ hYq)).look;refine uk mA.ty s2 hb ?_;intro b w3 s3;simp;refine gq (λenv w'=>∃(D:Tm->Bool) (sn:List Int) (seen:Array Nat) (es aes:List En) (ac:Nat) (Y:Dk) (os:List (Int×Int)) (v y9 y10:Value),env= [.pointer (some ⟨p,0,none⟩),.int .i64 to,x2,x3,x4,x5,v,.int .i64 l,.int .i64 n,y9,y10,x11,.pointer (some ⟨b,0,none⟩)]/\AP to ts l n D sn seen es aes ac Y os/\Y q=some (m,es,c)/\St w0 (A*outs v os*bt (dX to D ts)*cZ fI Y 257*ao am aes ac*wc p to (mv0+(iQ to D ts).length) am Y*pt b (.mapIter (some m) c seen c)) w') (λ_ w'=>ts.length+1 -lQ w' b)
   ⟨vD l n,[],#[],es,aes,ac,Y,os,v,x9,x10,rfl,⟨λt ht=>by simp,hok,λe he=>by simp,hos,by simpa using List.length_filter_le _ _⟩,hYq,s3⟩ ?_
  clear s3 hb hsl hYq s2 hok hos s1 s;rintro LQ env w' ⟨D,sn,seen,es,aes,ac,Y,os,v,y9,y10,rfl,hI,hYq,s'⟩ hN hE hR;have hok:=hI.ok;have hsl:=hok.sl q hq257;rw [hYq] at hsl;have hes:Fp es c:=hsl.ok;have hseen:lQ w' b=seen.size:=by unfold lQ;rw [s'.look]
  have hcnt:=hI.hc;simp;refine uj (s'.to (B:=A*outs v os*bt (dX to D ts)*jk fI Y q 257*ao am aes ac*wc p to (mv0+(iQ to D ts).length) am Y*ao m es c*pt b (.mapIter (some m) c seen c)) (by rw [big _ _ _ _ _ _ _ _ hYq])) hes.lt (λe he hns w2 s2=> ?_) (λhall w2 s2=> ?_)
  ·obtain ⟨u,hu,hun,huq,hev⟩:=(hsl.mem e.k e.v).1 (NP hes.kn he)
   have hnsn:u.n∉sn:=λg=>hns ((hI.hs e he).2 (by rw [<-hun];exact g));obtain ⟨hut,hDu,hul,hus⟩:=J0 hp.pl hp.lt hl hn h4 hv hI.hD hu (by rw [hqe];exact huq) hnsn;have hub:=hp.pl.bd u hut;have hcnt2:=nk hut hDu;have hol:os.length<=65536:=by have h1:=hI.hp.length_eq;rw [List.length_map] at h1;have h2:(rW to D ts).length<=ts.length:=List.length_filter_le _ _;have:=hp.len;omega
   have hml:(iQ to D ts).length<=ts.length:=List.length_filter_le _ _;have htslen:=hp.len;have hmv0:=hp.mv;have hbd:=hp.bd;have hseen2:∀(w3:World) (F:ak),St w0 (F*pt b (.mapIter (some m) c (seen.push e.b) c)) w3->ts.length+1 -lQ w3 b<ts.length+1 -lQ w' b:=by
    intro w3 F h;have h1:lQ w3 b=seen.size+1:=by unfold lQ;rw [h.look];exact Array.size_push _
    rw [h1,hseen];omega
   simp;refine za s2 he hes.bn ?_;rw [hev];simp;have s3:St w0 (A*outs v os*bt (eu (dX to D ts) u.n)*cZ fI Y 257*ao am aes ac*wc p to (mv0+(iQ to D ts).length) am Y*pt b (.mapIter (some m) c (seen.push e.b) c)*iJ u) w2:=by
    have h1:St w0 (A*outs v os*bt (dX to D ts)*cZ fI Y 257*ao am aes ac*wc p to (mv0+(iQ to D ts).length) am Y*pt b (.mapIter (some m) c (seen.push e.b) c)) w2:=by rw [big _ _ _ _ _ _ _ _ hYq];exact s2
    rw [kK hok.num hu] at h1;exact h1.to (by ac_rfl)
   refine ag (v:= .int .i64 u.a) (s3.ab 1 _ rfl) ?_;simp;have huq':gC u=l*64+n:=by rw [huq,hqe]
   obtain ⟨it,hit⟩:∃it,pt b (.mapIter (some m) c (seen.push e.b) c)=it:=⟨_,rfl⟩;rw [hit] at s3 hseen2;have fin:∀(D':Tm->Bool) (es' aes':List En) (Y':Dk) (os':List (Int×Int)) (v' y10':Value) (w3:World),AP to ts l n D' (u.n::sn) (seen.push e.b) es' aes' ac Y' os'->Y' q=some (m,es',c)->
     St w0 (A*outs v' os'*bt (dX to D' ts)*cZ fI Y' 257*ao am aes' ac*wc p to (mv0+(iQ to D' ts).length) am Y'*it) w3->
     LQ .nrm [.pointer (some ⟨p,0,none⟩),.int .i64 to,x2,x3,x4,x5,v',.int .i64 l,.int .i64 n,tp u,y10',x11,.pointer (some ⟨b,0,none⟩)] w3:=by
    intro D' es' aes' Y' os' v' y10' w3 hI' hY' s4;exact hN _ _ ⟨D',u.n::sn,seen.push e.b,es',aes',ac,Y',os',v',tp u,y10',rfl,hI',hY',by rw [hit];exact s4⟩ (hseen2 _ _ s4)
   refine aR (λhd=> ?_) (λhd=> ?_)
   ·simp at hd
    refine Kw p am to (mv0+(iQ to D ts).length) Y u aes ac (m,es,c) v os w0 w2 (A*bt (eu (dX to D ts) u.n)*it) _ _ _ _ _ _ _ _ _ _ (hok.tm u hu) (by rw [huq];exact hYq) hol (s3.to (by ac_rfl)) λv' w3 s4=> ?_;simp;obtain ⟨hI',hmvE⟩:=hI.due hnum hes he hun.symm hut hDu huq' hd;refine fin _ _ _ _ _ v' y10 w3 hI' (by rw [huq,km,hYq];rfl) ?_;rw [hmvE,Gn hnum hut hd,huq,hYq];rw [huq] at s4;exact s4.to (by ac_rfl)
   ·simp at hd
    simp;refine ag (v:= .int .i64 u.a) (s3.ab 1 _ rfl) ?_;simp;refine ⟨⟨by omega,by omega⟩,?_⟩;refine aR (λhlv=> ?_) (λhlv=> ?_)
    ·simp at hlv
     have hlv:(fO u.a to).1≠u.l:=by rw [hul];omega
     have hne:gC (j2 u to)≠gC u:=by
      have h1:=uX u to;have h2:=hok.tm u hu;have h3:=h1.s;have h4:=h2.s;intro g;unfold gC at g;have:(j2 u to).l=u.l:=by omega
      exact hlv this
     have hne2:A9 u to≠q:=by rw [uW,<-huq];exact hne
     have hmem:=hok.sl (A9 u to) (by rw [uW];exact AX (uX u to));refine Lt p am to (mv0+(iQ to D ts).length) Y u (m,es,c) w0 w2 (A*outs v os*bt (eu (dX to D ts) u.n)*ao am aes ac*it) l n _ _ _ _ _ _ _ _ _ hl hn h4 (by rw [hqe];exact hYq) hub.1 hp.bd (by omega) ?_ (s3.to (by ac_rfl)) λY' m' w3 hY' s4=> ?_
     ·rw [hqe,ko _ _ hne2]
      cases hg:aZ (nJ (Y (A9 u to))) u.n with
      |none=>rfl
      |some g=>
       obtain ⟨t,ht,h1,h2,_⟩:=(hmem.mem _ _).1 hg;have:=gu hok.num ht hu h1;rw [this,huq] at h2;exact absurd h2.symm hne2
     simp;obtain ⟨hI',hmvE⟩:=hI.mov hnum hes he hun.symm hut hDu huq' hd hne hlv m';subst hY';refine fin _ _ _ _ _ v _ w3 hI' ?_ ?_
     ·rw [<-uW,ko _ _ (Ne.symm hne2),huq,km,hYq];rfl
     ·rw [hmvE,Gp hnum hut hd,K1 hok.num hu (t':=j2 u to) rfl,huq,hYq,<-uW]
      rw [hqe,ko _ _ hne2] at s4;rw [<-Nat.add_assoc];exact s4.to (by ac_rfl)
    ·simp at hlv
     simp;have hg:=YE hp.pl hp.lt hv hut hul hus hd (by omega);obtain ⟨hI',hmvE,hcur⟩:=hI.same hnum hes he hun.symm hut hDu huq' hd hg;refine fin _ _ _ _ _ v _ w2 hI' hYq ?_;rw [hmvE,hcur,kK hok.num hu];exact s3.to (by ac_rfl)
  ·simp
   refine hE _ _ _ ?_;simp;have hend:=hI.done hp.pl hn (by rw [hqe];exact hq257) (by rw [hqe,hYq];rfl) hall;refine hk v y9 y10 _ w2 ?_;rw [<-qe hend];refine tH hI.hp (oJ (am:=am) hok ?_);have h1:St w0 (A*outs v os*bt (dX to D ts)*cZ fI Y 257*ao am aes ac*wc p to (mv0+(iQ to D ts).length) am Y*pt b (.mapIter (some m) c seen c)) w2:=by rw [big _ _ _ _ _ _ _ _ hYq];exact s2
   exact St.cut (pt b (.mapIter (some m) c seen c)) h1 (by ac_rfl)
end Go.HL.Wh
