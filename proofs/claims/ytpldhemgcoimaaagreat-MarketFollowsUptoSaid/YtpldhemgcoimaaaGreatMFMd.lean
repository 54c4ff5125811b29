/- Part 4. -/
import Derived.Test.YtpldhemgcoimaaaGreatMFMc
import Derived.Test.YtpldhemgcoimaaaGreatProg
set_option linter.unusedSimpArgs false
set_option linter.unusedVariables false
set_option maxRecDepth 4000
namespace Go.HL.Nm
open Go.HL Go.Proofs
noncomputable abbrev F0:PF Tryz.prog:=PF.none _
def Um:ai:=⟨[0,2],13,[.slot 1],aN tG [] 0xe6ffdc8dd7e375fdd75753be4000d20b8078d4ef90003e1757527e4000d20b3cf527e4000f35752c54000f52c54000e7dd2041⟩
theorem OG:af F0 149 400=some Um:=by kernel_rfl
def Ul:ai:=⟨[0,2,3],66,[.slot 1],aN tG [] 0x2ce6ffdc8de7e37637a07e375f8dd7f75d5d4e1900034824440511353864000d11175752454000d20910d10f52454000d10d75d2055d4ae9000c0910920b8e110b8d4ae9000c0910964845752054002c2e352054002c2e1748157527a400302cf3d49e9000c0b357523a4002c2d48e9000b0ade6ba28bc0b2ffdcdd5d4f1100040753c440011c8de7db5d2055d4e11000c0b3633d4e11000c0b35753444002c2d4d11000b0acbff72379fdd7481575347400133073d4d1d0004cd5d4c110004d4c11000472379f6d748157530d05000c0b3633d4c341400302cd5d4b11000b0b52c44002c2b2fff7482042aecae772379fdd7481575387400302cc2cf5387400302cd5d4f2814002c2d4f2814002c2bc00a772379fdd7481575284400302cc2cf5284400302cd5d4b19000b0b52c64002c2bc00a772379fdd748157524a05000c0b30b3d49281400302cd5d482814002c2d482814002c2027dd2041⟩
theorem OF:af F0 148 400=some Ul:=by kernel_rfl
def Vb:ai:=⟨[0,2,3],45,[.slot 1],aN tG [] 0x2ce6fff740006de6ba28bc0b2fff748f3c105c6d5d4ee900036353ba4000ecbffdd238605c6d5d491500036352454000ecbff7375752c5400f81d4b15003e0abb2bb2b9dc8de7f75d2055d4de9000c0b30b3d4de9000c0b35752054002c2d4815000b0af0029dc8de7e379fdd74815753c44001380b8d4f110004e17481575384400302cf3d4e11000c0b35753444002c2d4d11000b0af0029dc8de7e379fdd74815753044001380b8d4c110004e17481575307400302cf3d4c1d000c0b35752c44002c2d4b11000b0af0029dc8de7f75d2055d4a11000c0b30b3d4a11000c0b35752c64002c2d4b19000b0809f748ce81⟩
theorem P9:af F0 278 400=some Vb:=by kernel_rfl
def U9:ai:=⟨[0,1,4],18,[.slot 2],aN tG [] 0xe6ffdc71c8de79e7f75d2055f4157257104a15000a2810f30b3f4157257104a15000a2810f3c95c4128540028a073c41285cd5c95c4128557c2852c2c95c4128557c2852c2c41285f0a167dd2042⟩
theorem P7:af F0 276 400=some U9:=by kernel_rfl
def fc (u lo hi:Int):Bool:=decide (lo<=u)&&decide (u<=hi)
def dR (u:Int):Bool:=decide (u=32)||decide (u=45)||decide (u=95)
theorem Cv (u:Int) (w:World):aj Tryz.prog 149 [.int .i32 u] (λr w'=>r= .bool (dR u)/\w'=w) w:=by refine aG OG (by simp [Um]) ?_;simp [Um,dR]
def letterF (u:Int):Bool:= !(decide (u=215)||decide (u=247)||decide (u=930))&&
 (fc u 48 57||fc u 65 90||fc u 97 122||fc u 192 255||fc u 913 937||fc u 945 969||decide (u=1025)||fc u 1040 1103||decide (u=1105))
theorem CB (u:Int) (w:World):aj Tryz.prog 148 [.int .i32 u] (λr w'=>r= .bool (letterF u)/\w'=w) w:=by
 refine aG OF (by simp [Ul]) ?_;simp [Ul,kG,letterF,fc]
 repeat' split
 all_goals (try simp)
 all_goals (try (rw [Bool.eq_iff_iff];simp))
 all_goals omega
def pk (u:Int):Int:=
 if (65<=u/\u<=90)\/(192<=u/\u<=222/\u≠215)\/(913<=u/\u<=937/\u≠930)\/(1040<=u/\u<=1071) then u+32
 else if u=1025 then 1105 else if u=962 then 963 else u
theorem Ir (u:Int) (w:World) (h0:0<=u) (h1:u<2097408):aj Tryz.prog 278 [.int .i32 u] (λr w'=>r= .int .i32 (pk u)/\w'=w) w:=by
 refine aG P9 (by simp [Vb]) ?_;simp [Vb,kG,pk]
 repeat' split
 all_goals (try simp (disch:=omega) only [wrap32])
 all_goals (try (first|rfl|omega))
theorem Jj (s p:List UInt8) (w:World) (hs:s.length<=1048576):aj Tryz.prog 276 [.string (mk s),.string (mk p)] (λr w'=>r= .bool (p.isPrefixOf s)/\w'=w) w:=by
 refine aG P7 (by simp [U9]) ?_;simp [U9];rw [Bool.eq_iff_iff];simp only [Bool.and_eq_true,decide_eq_true_eq,beq_iff_eq,List.isPrefixOf_iff_prefix];constructor
 ·rintro ⟨h1,h2⟩
  exact List.prefix_iff_eq_take.2 h2.symm
 ·intro h
  exact ⟨h.length_le,(List.prefix_iff_eq_take.1 h).symm⟩
noncomputable abbrev F1:PF Tryz.prog:=PF.of []
def ints (l:List Int):List Value:=l.map (Value.int .i64)
def eWa (l:List UInt8) (n:Int):List UInt8:=l.take (kV ((dJ l).take n.toNat))
noncomputable def lB:PS Tryz.prog:=PS.ib 149 .i32 dR Cv
noncomputable def lD:PS Tryz.prog:=PS.ib 148 .i32 letterF CB
noncomputable def yj:PS Tryz.prog where
 f:=276
 val args:=match args with
  | [.string s,.string p]=> .bool (p.data.toList.isPrefixOf s.data.toList)
  |_=>undef
 ok args:=match args with
  | [.string s,.string _]=>s.data.toList.length<=1048576
  |_=>False
 sound args w h:=by
  split at h
  ·rename_i s p
   have:=Jj s.data.toList p.data.toList w h;rw [<-qG,<-qG] at this;exact this
  ·exact h.elim
noncomputable abbrev F2:PF Tryz.prog:=PF.of [lB,lD,yj]
@[simp] theorem WK (args:List Value):F2.val 276 args=yj.val args:=rfl
@[simp] theorem Yo (args:List Value):F2.ok 276 args=yj.ok args:=rfl
def UI:ai:=⟨[0,1,4],8,[.slot 2],aN tG [] 0x39bff73757d05000e3010bd05000e33fdd2042⟩
theorem Pd:af F2 202 400=some UI:=by kernel_rfl
theorem NZ (s p:List UInt8) (w:World) (hs:s.length<=1048576):aj Tryz.prog 202 [.string (mk s),.string (mk p)] (λr w'=>r= .bool (p.isPrefixOf s)/\w'=w) w:=by refine aG Pd (by simp [UI]) ?_;simp [UI,yj];exact hs
def V0 (u:Int):Int:=
 if u=48\/u=959\/u=1086\/(242<=u/\u<=246)\/u=248 then 111
 else if u=49 then 108
 else if (224<=u/\u<=229)\/u=945\/u=1072 then 97
 else if u=231\/u=1089 then 99
 else if (232<=u/\u<=235)\/u=1077\/u=1105 then 101
 else if (236<=u/\u<=239)\/u=953 then 105
 else if u=954\/u=1082 then 107
 else if u=241 then 110
 else if u=961\/u=1088 then 112
 else if u=964\/u=1090 then 116
 else if (249<=u/\u<=252)\/u=965 then 117
 else if u=957 then 118
 else if u=967\/u=1093 then 120
 else if u=253\/u=255\/u=947\/u=1091 then 121
 else if u=32\/u=95 then 45
 else u
noncomputable def Zz:PS Tryz.prog where
 f:=202
 val args:=match args with
  | [.string s,.string p]=> .bool (p.data.toList.isPrefixOf s.data.toList)
  |_=>undef
 ok args:=match args with
  | [.string s,.string _]=>s.data.toList.length<=1048576
  |_=>False
 sound args w h:=by
  split at h
  ·rename_i s p
   have:=NZ s.data.toList p.data.toList w h;rw [<-qG,<-qG] at this;exact this
  ·exact h.elim
noncomputable def xy:PS Tryz.prog where
 f:=278
 val args:=match args with
  | [.int _ u]=> .int .i32 (pk u)
  |_=>undef
 ok args:=match args with
  | [.int k u]=>k= .i32/\0<=u/\u<2097408
  |_=>False
 sound args w h:=by
  split at h
  ·obtain ⟨rfl,h1,h2⟩:=h;exact Ir _ w h1 h2
  ·exact h.elim
noncomputable abbrev F3:PF Tryz.prog:=PF.of [lB,lD,yj,Zz,xy]
@[simp] theorem WL (args:List Value):F3.val 202 args=Zz.val args:=rfl
@[simp] theorem Yp (args:List Value):F3.ok 202 args=Zz.ok args:=rfl
def Uk:ai:=⟨[0,1,2,6],22,[.slot 3],aN tG [] 0xb39bffdd0083a2f02cbff71c737572574f4140037a24a052283f83c95d3d05000de8928148a0fed3d05000de89281f4140037a72379e79f6d7481574d4f195f4140033a3fe3c1cd8cf4d4f195f4140033a3fe3c1cf53c657d05000ce8ffb3f4140033acd5d4fe90083d4fe900839f748ce83⟩
theorem OE:af F3 147 400=some Uk:=by kernel_rfl
theorem yG (l:List UInt8) (i:Nat) (w:World) (hi:i<l.length) (hl:l.length<=1048576):
  aj Tryz.prog 147 [.string (mk l),.int .i64 i,.int .i32 (eJ (bQ (l.drop i)).1)] (λr w'=>r= .int .i32 (bQ (l.drop i)).1/\w'=w) w:=by
 have hne:l.drop i≠ []:=by simp;omega
 have hu:=Re hne;have hb:=ie hne;have hd:(l.drop i).headD 0=l[i]?.getD 0:=by simp [List.headD_eq_head?_getD,List.head?_drop]
 have hc:=(l[i]?.getD 0).toNat_lt;rw [hd] at hu;refine aG OE (by simp [Uk]) ?_;simp [Uk,Zz];refine ⟨λ_=>by omega,λ_=>by omega,?_⟩;refine aR (λh=> ?_) (λh=> ?_)
 ·simp at h
  rw [if_pos ⟨by omega,h.2⟩] at hu;simp
  try simp (disch:=omega) only [wrap32]
  exact ⟨hi,hu⟩
 ·simp at h
  rw [if_neg (by rintro ⟨h1,h2⟩;rw [List.isPrefixOf_iff_prefix.2 (h (by omega))] at h2;cases h2)] at hu;simp;exact hu
noncomputable def HY:PS Tryz.prog where
 f:=147
 val args:=match args with
  | [.string s,.int _ i,.int _ _]=> .int .i32 (bQ (s.data.toList.drop i.toNat)).1
  |_=>undef
 ok args:=match args with
  | [.string s,.int k i,.int k' r]=>k= .i64/\k'= .i32/\s.data.toList.length<=1048576/\0<=i/\i<s.data.toList.length/\r=eJ (bQ (s.data.toList.drop i.toNat)).1
  |_=>False
 sound args w h:=by
  split at h
  ·rename_i s k i k' r
   obtain ⟨rfl,rfl,h1,h2,h3,rfl⟩:=h;obtain ⟨n,rfl⟩:=Int.eq_ofNat_of_zero_le h2;have:=yG s.data.toList n w (by omega) h1;rw [<-qG] at this
   simpa using this
  ·exact h.elim
noncomputable abbrev F4:PF Tryz.prog:=PF.of [lB,lD,yj,Zz,xy,HY]
@[simp] theorem Ys (args:List Value):F4.val 149 args=lB.val args:=rfl
@[simp] theorem aHa (args:List Value):F4.ok 149 args=lB.ok args:=rfl
@[simp] theorem Yt (args:List Value):F4.val 148 args=lD.val args:=rfl
@[simp] theorem aIa (args:List Value):F4.ok 148 args=lD.ok args:=rfl
@[simp] theorem Yr (args:List Value):F4.val 278 args=xy.val args:=rfl
@[simp] theorem aGa (args:List Value):F4.ok 278 args=xy.ok args:=rfl
@[simp] theorem WM (args:List Value):F4.val 147 args=HY.val args:=rfl
@[simp] theorem Yq (args:List Value):F4.ok 147 args=HY.ok args:=rfl
@[simp] theorem eea (u:Int) (k:IntKind):lB.val [.int k u]= .bool (dR u):=rfl
@[simp] theorem fha (u:Int) (k:IntKind):lB.ok [.int k u]=(k= .i32):=rfl
@[simp] theorem efa (u:Int) (k:IntKind):lD.val [.int k u]= .bool (letterF u):=rfl
@[simp] theorem fTa (u:Int) (k:IntKind):lD.ok [.int k u]=(k= .i32):=rfl
@[simp] theorem d9a (u:Int) (k:IntKind):xy.val [.int k u]= .int .i32 (pk u):=rfl
@[simp] theorem e9a (u:Int) (k:IntKind):xy.ok [.int k u]=(k= .i32/\0<=u/\u<2097408):=rfl
@[simp] theorem bMa (l:List UInt8) (i r:Int) (k k':IntKind):HY.val [.string (mk l),.int k i,.int k' r]= .int .i32 (bQ (l.drop i.toNat)).1:=by simp [HY]
@[simp] theorem d2a (l:List UInt8) (i r:Int) (k k':IntKind):HY.ok [.string (mk l),.int k i,.int k' r]=(k= .i64/\k'= .i32/\l.length<=1048576/\0<=i/\i<l.length/\r=eJ (bQ (l.drop i.toNat)).1):=by simp [HY]
def nZ (j:Bool) (u:Int):Bool:= !letterF u&&(j|| !dR u)
def qq:Bool->Nat->List (Int×Nat)->Option Nat
 |_,_,[]=>none
 |j,p,u::r=>if nZ (j||r.isEmpty) u.1 then some p else qq (dR u.1) (p+u.2) r
def gn:Bool->Nat->List (Int×Nat)->Option Nat
 |_,_,[]=>none
 |j,p,u::r=>if nZ j u.1 then some p else gn (dR u.1) (p+u.2) r
def mE:Bool->List (Int×Nat)->Bool
 |j,[]=>j
 |_,u::r=>mE (dR u.1) r
def rn:Nat->Nat->List (Int×Nat)->Nat
 |d,_,[]=>d
 |_,p,u::r=>rn p (p+u.2) r
theorem wH {u:Int} (h:dR u=true):letterF u=false:=by simp only [dR,Bool.or_eq_true,decide_eq_true_eq] at h;rcases h with (h|h)|h<;>subst h<;>decide
theorem Ca:∀(r:List (Int×Nat)) (j:Bool) (p d:Nat),r≠ []->qq j p r=(match gn j p r with|some q=>some q|none=>if mE j r then some (rn d p r) else none)
 | [],_,_,_,h=>absurd rfl h
 | [u],j,p,d,_=>by cases hj:dR u.1<;>cases hl:letterF u.1<;>cases j<;>(first|(simp [qq,gn,mE,rn,nZ,hj,hl];done)|(have:=wH hj;rw [hl] at this;cases this))
 |u::v::r,j,p,d,_=>by
  have ih:=Ca (v::r) (dR u.1) (p+u.2) p (by simp);rw [qq,gn];simp only [List.isEmpty_cons,Bool.or_false];cases nZ j u.1
  ·simp only [Bool.false_eq_true,if_false];rw [ih];rfl
  ·rfl
theorem q9:∀(r:List (Int×Nat)) (u:Int×Nat) (j:Bool) (p:Nat),gn j p (r++ [u])=(match gn j p r with|some q=>some q|none=>if nZ (mE j r) u.1 then some (p+kV r) else none)
 | [],u,j,p=>by cases h:nZ j u.1<;>simp [gn,mE,kV,h]
 |v::r,u,j,p=>by
  have ih:=q9 r u (dR v.1) (p+v.2);cases h:nZ j v.1
  ·simp only [List.cons_append,gn,mE,kV,h,Bool.false_eq_true,if_false]
   rw [ih,Nat.add_assoc];rfl
  ·simp [gn,h]
theorem vj:∀(r:List (Int×Nat)) (u:Int×Nat) (j:Bool),mE j (r++ [u])=dR u.1
 | [],u,j=>rfl
 |v::r,u,j=>by simp only [List.cons_append,mE];exact vj r u _
theorem vm:∀(r:List (Int×Nat)) (u:Int×Nat) (d p:Nat),rn d p (r++ [u])=p+kV r
 | [],u,d,p=>by simp [rn,kV]
 |v::r,u,d,p=>by simp only [List.cons_append,rn,kV];rw [vm r u];omega
def CP:Option Nat->Int
 |some q=>q
 |none=> -1
def jl (l:List UInt8):Int×Int:=
 if l= [] then (0,41)
 else if 24<(dJ l).length then (kV ((dJ l).take 24),42)
 else match qq true 0 (dJ l) with
  |some p=>(p,40)
  |none=>(0,0)
def l97:ai:=⟨[0,2,3,4,5,6,7,8,9,10,14,15],56,[.slot 1,.slot 2],aN tG [] 0x2ce79e79bff699d92002480068bc0b2ffda67648c3c109010171b57501010b098d404042c2a2f027dd01447237db5d20501b3633575010107d404041edbacb79e799f7407167737571f8c1c6c7e307a2f027dd01c472379e7e38dd7617db5d2057574c7e3073c1482442e18e110b8d31f8c1cf0510b1f8c1d1097484406e17481574c7e33e3c1cf3d31f8cf8f073c7e33ecd5d404041f50101079dcdd553de901d000eebe53de901d000eea77375750d00fe0f50d00fea2f02cbff699d922cf04240705c6d5d4af900c36352be4030e771c699d95c4b0481fa5712c13811f12c1207c4b04e041a2f0af02271b566ccc076ccb066ccc07128134d0409e2df3281f0c37fdd20869da659d9200548b0c44800e8bc0b2ffda67648e38109200171b5753034000d8d4c0d00039da676480092001⟩
theorem VX:af F4 97 400=some l97:=by kernel_rfl
theorem lh (l:List UInt8) (w0 w:World) (A:ak) (hl:l.length<=1048576) (s:St w0 A w):
  aj Tryz.prog 97 [.string (mk l)] (λr w'=>r= .tuple #[.int .i64 (jl l).1,.int .i64 (jl l).2]/\St w0 A w') w:=by
 refine aG VX (by simp [l97]) ?_;simp [l97];refine aR (λh=> ?_) (λh=> ?_)
 ·simp at h
  subst h;simp [jl];exact s
 simp at h;simp;refine B3 s ?_;intro b w1 s1;simp;refine gr (λenv w'=>∃(i:Nat) (done:List (Int×Nat)) (x y z t:Value),env= [.string (mk l),.int .i64 0,.int .i64 0,.int .i64 done.length,.int .i64 (CP (gn true 0 done)),.int .i64 (rn 0 0 done),.bool (mE true done),x,y,z,.pointer (some ⟨b,0,none⟩),t]/\
   i<=l.length/\dJ l=done++dJ (l.drop i)/\i=kV done/\done.length<=24/\St w0 (A*pt b (.stringIter (mk l) i)) w')
  (λenv _=>25 -ay env 3) ⟨0,[],_,_,_,_,by simp [CP,gn,rn,mE];exact ⟨rfl,rfl,rfl,rfl⟩,by omega,by simp,rfl,by simp,s1⟩ ?_
 rintro LQ env w' ⟨i,done,x,y,z,t,rfl,hi,hu,hsum,hd24,s'⟩ hN hE hR;simp;refine B2 s' (λh w2 s2=> ?_) (λh=> ?_)
 ·simp at h
  have hle:=Hg (l:=l) (i:=i) h;have hob:=ie (l:=l.drop i) (by simp;omega);rw [jY,nn _ (by simp;omega)] at s2;have hstep:=wh hu h;rw [jY,nn _ (by simp;omega)];simp;refine aR (λh2=> ?_) (λh2=> ?_)
  ·simp at h2
   simp;refine hR _ _ ?_;simp;refine ⟨?_,s2.drop⟩;have hlen:24<(dJ l).length:=by rw [hstep];simp;omega
   unfold jl;rw [if_neg (by assumption),if_pos hlen,hu,show (24:Nat)=done.length by omega,List.take_left,<-hsum];simp
  ·simp at h2
   simp
   try simp (disch:=omega) only [wrap64]
   refine ⟨⟨hl,h⟩,?_⟩;have hsn:=q9 done (bQ (l.drop i)) true 0;have fin:∀fv:Int,fv=CP (gn true 0 (done++ [bQ (l.drop i)]))->LQ .nrm [.string (mk l),.int .i64 0,.int .i64 0,.int .i64 (done.length+1),.int .i64 fv,.int .i64 i,.bool (dR (bQ (l.drop i)).1),.int .i64 i,.int .i32 (eJ (bQ (l.drop i)).1),.int .i32 (bQ (l.drop i)).1,.pointer (some ⟨b,0,none⟩),.tuple #[.bool true,.int .i64 i,.int .i32 (eJ (bQ (l.drop i)).1)]] w2:=by intro fv hfv;refine hN _ _ ⟨i+(bQ (l.drop i)).2,done++ [bQ (l.drop i)],.int .i64 i,.int .i32 (eJ (bQ (l.drop i)).1),.int .i32 (bQ (l.drop i)).1,.tuple #[.bool true,.int .i64 i,.int .i32 (eJ (bQ (l.drop i)).1)],?_,hle.1,hstep,by simp [Dv,kV,hsum],by simp;omega,s2⟩ (by simp [ay];omega);rw [hfv,vm,vj,Nat.zero_add,<-hsum];simp
   cases hf:gn true 0 done with
   |some q=>
    have e0:CP (some q)=(q:Int):=rfl;rw [hf] at hsn;have e1:¬((q:Int)<0):=by omega
    rw [e0];simp [e1];exact fin _ (by rw [hsn];rfl)
   |none=>
    have e0:CP none= -1:=rfl;rw [hf] at hsn;simp only at hsn;rw [e0];cases hlt:letterF (bQ (l.drop i)).1
    ·simp
     refine aR (λh3=> ?_) (λh3=> ?_)
     ·simp
      refine fin _ ?_;rw [hsn,nZ,hlt,h3];simp [CP,hsum]
     ·simp
      refine fin _ ?_;rw [hsn,nZ,hlt,h3];rfl
    ·simp
     refine fin _ ?_;rw [hsn,nZ,hlt];rfl
 ·simp at h
  simp;refine hE _ _ _ ?_;simp;have:i=l.length:=by omega
  subst this;rw [List.drop_length,nN,List.append_nil] at hu;have hne:dJ l≠ []:=by intro e;have:=FL l;rw [e] at this;simp [kV] at this;exact absurd (List.eq_nil_of_length_eq_zero this.symm) (by assumption)
  have hck:jl l=(match qq true 0 (dJ l) with|some p=>((p:Int),40)|none=>(0,0)):=by unfold jl;rw [if_neg (by assumption),if_neg (by rw [hu];omega)]
  rw [Ca _ _ _ 0 hne,hu] at hck;cases hf:gn true 0 done with
  |some q=>
   rw [hf] at hck;simp only at hck;have e0:CP (some q)=(q:Int):=rfl;rw [e0,hck];have e1:decide ((q:Int)<0)=false:=by simp
   simp [e1];exact s'.drop
  |none=>
   rw [hf] at hck;simp only at hck;have e0:CP none= -1:=rfl;rw [e0,hck];cases hj:mE true done
   ·simp
    exact s'.drop
   ·simp
    exact s'.drop
end Go.HL.Nm
namespace Go.HL
theorem HN {x:Int} (h1:0<=x) (h2:x<=4294967295):IntKind.u32.wrap x=x:=IntWalk.u32_in x ⟨h1,h2⟩
section
variable {P:Program} {K:Value->World->Prop} {w w0:World} {F:ak}
theorem cells_one {x:Value} (h1:x.oneCell'=true):x.cells= #[x]:=by cases x<;>first|rfl|(simp [Value.oneCell'] at h1)
theorem Ro (n:Nat) (z:Value):((Array.range n).map λi=>(#[z])[i %(#[z]).size]!)=(List.replicate n z).toArray:=by
 apply Array.ext
 ·simp
 ·intro i h1 h2
  simp [Nat.mod_one]
theorem ui {e:Nat} {z x y:Value} (s:St w0 F w) (h1:x.oneCell'=true) (h2:y.oneCell'=true)
  (hk:∀b w',St w0 (F*pt b (.cells #[x,y] e (0,0))) w'->K (.slice (some ⟨b,0,none⟩) 2 2) w'):aB P (.bsl e 2 1 #[z] [0,1]) [x,y] K w:=by
 refine ln (cells:= #[x,y]) s ?_ hk;rw [Ro];simp [Instr.fill,cells_one h1,cells_one h2]
theorem BX {e:Nat} {z x y u:Value} (s:St w0 F w) (h1:x.oneCell'=true) (h2:y.oneCell'=true) (h3:u.oneCell'=true)
  (hk:∀b w',St w0 (F*pt b (.cells #[x,y,u] e (0,0))) w'->K (.slice (some ⟨b,0,none⟩) 3 3) w'):aB P (.bsl e 3 1 #[z] [0,1,2]) [x,y,u] K w:=by
 refine ln (cells:= #[x,y,u]) s ?_ hk;rw [Ro];simp [Instr.fill,cells_one h1,cells_one h2,cells_one h3]
theorem Kx {e:Nat} {z x y u v:Value} (s:St w0 F w) (h1:x.oneCell'=true) (h2:y.oneCell'=true) (h3:u.oneCell'=true) (h4:v.oneCell'=true)
  (hk:∀b w',St w0 (F*pt b (.cells #[x,y,u,v] e (0,0))) w'->K (.slice (some ⟨b,0,none⟩) 4 4) w'):aB P (.bsl e 4 1 #[z] [0,1,2,3]) [x,y,u,v] K w:=by
 refine ln (cells:= #[x,y,u,v]) s ?_ hk;rw [Ro];simp [Instr.fill,cells_one h1,cells_one h2,cells_one h3,cells_one h4]
theorem sc {t e size bytes l c:Nat} {k k':IntKind} {z:Value} (s:St w0 F w) (hlc:l<=c) (hm:c<=maxLen) (hb:bytes*c<=281474976710656) (hz:z.cells.size=size)
  (hk:∀v w',St w0 (F*HL.own e size v l (((Array.range (c*size)).map (z.cells[· %z.cells.size]!)).toList.take (l*size))) w'->K v w'):aB P (.mks t e size bytes z) [.int k l,.int k' c] K w:=by
 rintro ⟨ht,i,hi,hiz,rfl,rfl⟩;have hc2:(c:Int)<=9223372036854775807:=by simp only [maxLen] at hm;omega
 have wc:IntKind.i64.wrap (c:Int)=c:=wrap64 (by omega) hc2;have wl:IntKind.i64.wrap (l:Int)=l:=wrap64 (by omega) (by omega);refine aK (w':=w.alloc (.cells ((Array.range (c*i.size)).map (z.cells[· %z.cells.size]!)) e)) (v:= .slice (some ⟨w.heap.size,0,none⟩) l c) ?_ (hk _ _ ?_)
 ·have hb':¬(281474976710656<(i.bytes:Int)*(c:Int)):=by rw [<-Int.natCast_mul];omega
  have hlt:¬((c:Int)<(l:Int)):=by omega
  have hc0:¬((c:Int)<0):=by omega
  have hl0:¬((l:Int)<0):=by omega
  have hr0:Array.range 0= #[]:=rfl;have hnew:∀cs,(newRow e cs).run P w= .ok ⟨w.heap.size,0,none⟩ (w.alloc (.cells cs e)):=λcs=>by simp [newRow]
  have hzv:(zeroValue e).run P w= .ok z w:=by simp [zeroValue,typeInfo,hi,hiz,Sem.run_bind]
  by_cases h0:c*i.size=0
  ·have e1:c=0\/i.size=0:=Nat.mul_eq_zero.1 h0
   simp [Instr.makeSlice,run_underlying ht,typeInfo,hi,sizeOf,wc,wl,asInt,asIntOf,hb',hlt,hc0,hl0,h0,e1,hnew,hr0]
  ·simp [Instr.makeSlice,run_underlying ht,typeInfo,hi,sizeOf,wc,wl,asInt,asIntOf,hb',hlt,hc0,hl0,h0,hnew,hzv]
 ·refine St.vw (s.alloc (by rfl)) hlc hm (by simp) rfl
@[simp] theorem bba {F:PF P} {env:List Value} {Kr} (a b:RT) (bvs:List Value):qc F (.bool false) true a b env Kr bvs w=b.wp F env Kr bvs w:=rfl
@[simp] theorem bca {F:PF P} {env:List Value} {Kr} (a b:RT) (bvs:List Value):qc F (.bool true) false a b env Kr bvs w=b.wp F env Kr bvs w:=rfl
def bZ (l:List UInt8):List Value:=l.map λb=> .int .u8 b.toNat
theorem C6:∀(l:List UInt8) (s:ByteArray),l.foldl (λb a=>b.push a) s=⟨s.data++l.toArray⟩
 | [],s=>by simp
 |b::l,s=>by rw [List.foldl_cons,C6 l];simp [ByteArray.push]
theorem Dc (P:Program) (w:World):∀(l:List UInt8) (s:ByteArray),(forIn (bZ l) s (λc s=>(match c with
    | .int .u8 n=>pure (ForInStep.yield (s.push (UInt8.ofNat n.toNat)))
    |x=>do
     stuck (α:=Unit) "bytesToString: byte expected"
     pure (ForInStep.yield s):Sem (ForInStep ByteArray)))).run P w= .ok ⟨s.data++l.toArray⟩ w
 | [],s=>by simp [bZ]
 |b::l,s=>by have ih:=Dc P w l (s.push b);simp only [bZ] at ih;simp only [bZ,List.map_cons,List.forIn_cons,Sem.run_bind];simp;rw [C6];apply congrArg;simp
theorem ND {t d e n:Nat} {v:Value} {bs:List UInt8} (s:St w0 (F*HL.own e 1 v n (bZ bs)) w) (hk:K (.string (mk bs)) w):aB P (.b2s t d) [v] K w:=by
 intro _;rcases s.iE with ⟨hx,rfl⟩|⟨g,cap,rfl,hn,hc⟩
 ·have:bs= []:=by simpa [bZ] using hx
  subst this;exact aK (w':=w) (v:= .string (mk [])) (by simp [Conv.bytesToString];rfl) hk
 ·refine aK (w':=w) (v:= .string (mk bs)) ?_ hk
  have hl:(bZ bs).length=n:=by simpa using s.own.1
  have:=run_loadCells_list (P:=P) w ⟨g,0,none⟩ (bZ bs) (by intro j u hj;rw [eR,Nat.zero_add];exact hc j u hj)
  rw [hl] at this;have hp:=Dc P w bs .empty;simp only [Conv.bytesToString,Sem.run_bind,this,Result.andThen_ok];rw [List.forIn_toArray];refine (congrArg (λr=>Result.andThen r _) hp).trans ?_;simp
end
section
variable {P:Program} {F:PF P} {env bvs:List Value} {w:World} {Q:EX->List Value->World->Prop} {C:World->Prop}
def DU (P:Program) (C:World->Prop) (eo:EO) (vs:List Value) (K:Value->Prop):Prop:=∃v,(∀w,C w->DW P C eo vs v w)/\K v
def RC (F:PF P) (C:World->Prop) (env:List Value) (K:List Value->Option Value->Prop) (k:RT) (bvs:List Value) (v:Value):Prop:=k.mZ F C env K (bvs++ [v])
def wz (F:PF P) (C:World->Prop) (c:Value) (v:Bool) (a b:RT) (env:List Value) (K:List Value->Option Value->Prop) (bvs:List Value):Prop:=if oa c v=true then a.mZ F C env K bvs else b.mZ F C env K bvs
def L6 (C:World->Prop) (Q:EX->List Value->World->Prop) (env:List Value) (_:Option Value):Prop:=∀w,C w->Q .nrm env w
def Sf (F:PF P) (C:World->Prop) (x y:HC) (Q:EX->List Value->World->Prop) (env:List Value) (c:Option Value):Prop:=∀w,C w->gE F (c.getD undef) x y Q env w
@[simp] theorem aFa {K} (sets:List (Nat×SE)) (c:Option SE):(RT.done sets c).mZ F C env K bvs=K (cK F env bvs sets env) (c.map (SE.val F env bvs)):=rfl
@[simp] theorem bBa {K} (g:Option (SE×Bool)) (p:PO) (xs:di) (k:RT):(RT.chk g p xs k).mZ F C env K bvs=((bD F env bvs g->p.ok F (di.dA F env bvs xs))/\k.mZ F C env K bvs):=rfl
@[simp] theorem bDa {K} (g:Option (SE×Bool)) (c:SE) (k:RT):(RT.isb g c k).mZ F C env K bvs=((bD F env bvs g->∃b,SE.val F env bvs c= .bool b)/\k.mZ F C env K bvs):=rfl
@[simp] theorem bCa {K} (eo:EO) (xs:di) (k:RT):(RT.eff eo xs k).mZ F C env K bvs=DU P C eo (di.dA F env bvs xs) (RC F C env K k bvs):=rfl
@[simp] theorem bAa {K} (e:SE) (k:RT):(RT.jK e k).mZ F C env K bvs=k.mZ F C env K (bvs++ [SE.val F env bvs e]):=rfl
@[simp] theorem bEa {K} (c:SE) (v:Bool) (a b:RT):(RT.ite c v a b).mZ F C env K bvs=wz F C (SE.val F env bvs c) v a b env K bvs:=rfl
@[simp] theorem W7 {K} (k:RT) (v:Value):RC F C env K k bvs v=k.mZ F C env K (bvs++ [v]):=rfl
@[simp] theorem baa {K} (a b:RT):wz F C (.bool true) true a b env K bvs=a.mZ F C env K bvs:=rfl
@[simp] theorem a8a {K} (a b:RT):wz F C (.bool false) true a b env K bvs=b.mZ F C env K bvs:=rfl
@[simp] theorem Ym (c:Option Value):L6 C Q env c=∀w,C w->Q .nrm env w:=rfl
@[simp] theorem YL (x y:HC) (c:Option Value):Sf F C x y Q env c=∀w,C w->gE F (c.getD undef) x y Q env w:=rfl
theorem Sh {w0:World} {A:ak} {m:MO} {t:RT} {x y:HC} (s:St w0 A w) (h:t.mZ F (St w0 A) env (Sf F (St w0 A) x y Q) []):(HC.brq m t x y).wp F Q env w:= .inl ⟨St w0 A,s.drew,h⟩
theorem L7 {w0:World} {A:ak} {m:MO} {t:RT} (s:St w0 A w) (h:t.mZ F (St w0 A) env (L6 (St w0 A) Q) []):(HC.regq m t).wp F Q env w:= .inl ⟨St w0 A,s.drew,h⟩
theorem aV {a:Addr} {n:Nat} {v:Value} {K:Value->Prop} (hc:∀w,C w->w.cell? a=some v) (hk:K v):DU P C (.ld false n) [.pointer (some a)] K:=by
 refine ⟨v,λw hw _=> ?_,hk⟩;have:=hc w hw;have hr:(tt false n (.pointer (some a))).run P w= .ok v w:=by simp [tt,Instr.sureAddr,this]
 simp only [EO.lY,dx,Sem.run_bind,hr,Result.andThen_ok,Sem.run_pure];exact ⟨rfl,rfl⟩
theorem kI {f:FuncId} {vs:List Value} {v:Value} {K:Value->Prop} (hc:∀w,C w->aj P f vs (λr w'=>r=v/\C w') w) (hk:K v):DU P C (.call f) vs K:=by refine ⟨v,λw hw hb=> ?_,hk⟩;simp only [EO.lY,dn hb];exact ⟨rfl,Calls.mono (hc w hw) λe w' ⟨r,he,hr,h⟩=>⟨hr▸he,h⟩⟩
end
section
variable {P:Program} {K:Value->World->Prop} {w w0:World} {F:ak}
theorem aC {b off m:Nat} {vs:List Value} (hc:∀j u,vs[j]?=some u->w.cell? ⟨b,off+j,none⟩=some u) (hl:vs.length=m) (hk:K (.agg vs.toArray) w):
  aB P (.ld true m) [.pointer (some ⟨b,off,none⟩)] K w:=by
 intro _;refine aK (w':=w) ?_ hk;have:=run_loadCells_list (P:=P) w ⟨b,off,none⟩ vs (by intro j v hj;rw [eR];exact hc j v hj)
 rw [hl] at this;simp [tt,Instr.sureAddr,this]
def Row (w0:World) (A:ak) (v:Value) (n size:Nat) (xs:List Value):Prop:=
 xs.length=n*size/\∃a cap,v= .slice a n cap/\n<=cap/\
  (n=0\/∃g o,a=some ⟨g,o,none⟩/\∀w,St w0 A w->∀j u,xs[j]?=some u->w.cell? ⟨g,o+j,none⟩=some u)
theorem Row.mono {A B:ak} {v:Value} {n size:Nat} {xs:List Value} (h:Row w0 A v n size xs) (hs:∀w,St w0 B w->St w0 A w):Row w0 B v n size xs:=by
 obtain ⟨hl,a,cap,rfl,hn,h⟩:=h;refine ⟨hl,a,cap,rfl,hn,?_⟩;rcases h with h|⟨g,o,rfl,hc⟩
 ·exact .inl h
 ·exact .inr ⟨g,o,rfl,λw s=>hc w (hs w s)⟩
theorem Row.val {A:ak} {v:Value} {n size:Nat} {xs:List Value} (h:Row w0 A v n size xs):∃a cap,v= .slice a n cap:=by obtain ⟨_,a,cap,rfl,_⟩:=h;exact ⟨_,_,rfl⟩
theorem Row.at {A:ak} {v:Value} {n size:Nat} {xs:List Value} (h:Row w0 A v n size xs) (hn:0<n):
  ∃g o cap,v= .slice (some ⟨g,o,none⟩) n cap/\∀w,St w0 A w->∀j u,xs[j]?=some u->w.cell? ⟨g,o+j,none⟩=some u:=by
 obtain ⟨_,a,cap,rfl,_,h|⟨g,o,rfl,hc⟩⟩:=h
 ·omega
 ·exact ⟨g,o,cap,rfl,hc⟩
theorem nH {A:ak} {e size n:Nat} {v:Value} {xs:List Value} (s:St w0 (A*own e size v n xs) w):Row w0 (A*own e size v n xs) v n size xs:=by
 refine ⟨s.own.1,?_⟩;rcases s.iE with ⟨_,rfl⟩|⟨g,cap,rfl,hn,_⟩
 ·obtain ⟨a,cap,h,hn,_⟩:=s.ax
  cases h;exact ⟨none,0,rfl,Nat.le_refl _,.inl rfl⟩
 ·refine ⟨some ⟨g,0,none⟩,cap,rfl,hn,.inr ⟨g,0,rfl,λw' s' j u hu=> ?_⟩⟩
  rcases s'.iE with ⟨_,h⟩|⟨g',cap',h,_,hc⟩
  ·cases h
  ·cases h
   rw [Nat.zero_add];exact hc j u hu
theorem cJ {e size n g cap j:Nat} {u:Value} {xs:List Value} (s:St w0 (F*HL.own e size (.slice (some ⟨g,0,none⟩) n cap) n xs) w) (hj:j<xs.length) (h1:u.oneCell'=true)
  (hk:∀w',St w0 (F*HL.own e size (.slice (some ⟨g,0,none⟩) n cap) n (xs.set j u)) w'->K undef w'):aB P (.st 1) [.pointer (some ⟨g,j,none⟩),u] K w:=by
 rcases s.own.2 with ⟨h,_⟩|⟨g',cap',cur,h,hn,hm,hc,ht,s'⟩
 ·cases h
 ·cases h
  have hl:xs.length=n*size:=s.own.1;have:n*size<=cap*size:=Nat.mul_le_mul_right _ hn;refine cy s' h1 (by omega) λw' s2=>hk w' (s2.nF hn hm (by simpa using hc) ?_);rw [Array.toList_setIfInBounds,List.take_set,ht]
end
section
variable {α:Type}
theorem cO (f:α->List Value) (c:Nat) (hf:∀a,(f a).length=c):∀l:List α,(l.flatMap f).length=l.length*c
 | []=>by simp
 |a::l=>by rw [List.flatMap_cons,List.length_append,hf,cO f c hf l,List.length_cons,Nat.add_mul];omega
theorem xw (f:α->List Value) (c:Nat) (hf:∀a,(f a).length=c):∀(l:List α) (i:Nat),(l.flatMap f).drop (i*c)=(l.drop i).flatMap f
 |l,0=>by simp
 | [],i+1=>by simp
 |a::l,i+1=>by rw [List.flatMap_cons,List.drop_succ_cons,<-xw f c hf l i,Nat.add_mul,Nat.one_mul,Nat.add_comm,<-List.drop_drop,<-hf a,List.drop_left]
theorem KQ (f:α->List Value) (c:Nat) (hf:∀a,(f a).length=c) (l:List α) (i:Nat) (h:i<l.length):((l.flatMap f).drop (i*c)).take c=f l[i]:=by rw [xw f c hf,List.drop_eq_getElem_cons h,List.flatMap_cons,<-hf l[i],List.take_left]
theorem eh (f:α->List Value) (c:Nat) (hf:∀a,(f a).length=c) (l:List α) (i k:Nat) (h:i<l.length) (hk:k<c):(l.flatMap f)[i*c+k]?=(f l[i])[k]?:=by rw [<-KQ f c hf l i h,List.getElem?_take,if_pos hk,List.getElem?_drop]
theorem uD (f:α->List Value) (c:Nat) (hf:∀a,(f a).length=c) (x:α):∀(l:List α) (i:Nat) (h:i<l.length),(l.flatMap f).take (i*c)++f x++(l.flatMap f).drop (i*c+c)=(l.set i x).flatMap f
 |a::l,0,_=>by rw [Nat.zero_mul,Nat.zero_add,List.take_zero,List.nil_append,List.set_cons_zero,List.flatMap_cons,List.flatMap_cons,<-hf a,List.drop_left]
 |a::l,i+1,h=>by
  have ih:=uD f c hf x l i (by simpa using h);have e1:(i+1)*c=c+i*c:=by rw [Nat.add_mul];omega
  have e2:(i+1)*c+c=c+(i*c+c):=by omega
  rw [List.set_cons_succ,List.flatMap_cons,List.flatMap_cons,<-ih,e2,e1,<-hf a,List.take_length_add_append,<-List.drop_drop,List.drop_left,List.append_assoc,List.append_assoc,hf a,List.append_assoc]
end
theorem qv:∀(vs:List Value) (o:Nat) (c:List Value),o+vs.length<=c.length->
  ((vs.zipIdx o).foldl (λ(cs:Array Value) x=>cs.setIfInBounds x.2 x.1) c.toArray)=(c.take o++vs++c.drop (o+vs.length)).toArray
 | [],o,c,_=>by simp
 |v::vs,o,c,h=>by
  simp only [List.length_cons] at h;rw [List.zipIdx_cons,List.foldl_cons];have e:c.toArray.setIfInBounds o v=(c.set o v).toArray:=by simp
  simp only [e];rw [qv vs (o+1) (c.set o v) (by rw [List.length_set];omega)]
  congr 1
  have hlt:o<c.length:=by omega
  rw [List.set_eq_take_append_cons_drop,if_pos hlt];have hl:(c.take o).length=o:=by simp;omega
  have t1:(c.take o++v::c.drop (o+1)).take (o+1)=c.take o++ [v]:=by rw [List.take_append,hl,List.take_take,Nat.min_eq_right (by omega),show o+1 -o=1 by omega];rfl
  have t2:(c.take o++v::c.drop (o+1)).drop (o+1+vs.length)=c.drop (o+(vs.length+1)):=by
   rw [List.drop_append,hl,List.drop_of_length_le (by rw [hl];omega),show o+1+vs.length -o=vs.length+1 by omega,List.drop_succ_cons,List.drop_drop,List.nil_append]
   congr 1;omega
  rw [t1,t2];simp
theorem Zf (z:Array Value) (size:Nat) (v:Value) (hv:v.cells.size=size):Instr.fill (λi=>some (i*size,size)) ((Array.range (1*size)).map λi=>z[i %z.size]!) [(0,v)]=some v.cells:=by
 have hf:=qv v.cells.toList 0 ((Array.range (1*size)).map λi=>z[i %z.size]!).toList (by simp [hv]);simp only [Instr.fill,Nat.zero_mul,Nat.zero_add,hv];rw [if_neg (by simp)]
 congr 1
 have e:v.cells.zipIdx=(v.cells.toList.zipIdx 0).toArray:=by apply Array.ext';simp
 rw [e,List.size_toArray,List.foldl_toArray']
 ·rw [Array.toArray_toList] at hf
  refine hf.trans ?_;have hd:List.drop (0+v.cells.toList.length) ((Array.range (1*size)).map λi=>z[i %z.size]!).toList= []:=List.drop_of_length_le (by simp [hv]);rw [hd];simp
 ·rfl
theorem bx {P:Program} {K:Value->World->Prop} {w w0:World} {F:ak} {e size:Nat} {z:Array Value} {v:Value} (s:St w0 F w) (hv:v.cells.size=size)
  (hk:∀b w',St w0 (F*pt b (.cells v.cells e (0,0))) w'->K (.slice (some ⟨b,0,none⟩) 1 1) w'):aB P (.bsl e 1 size z [0]) [v] K w:=
 ln s (Zf z size v hv) hk
theorem mm {P:Program} {K:Value->World->Prop} {w w0:World} {F:ak} {e size:Nat} {z:Array Value} (s:St w0 F w)
  (hk:∀v w',St w0 (F*own e size v 0 []) w'->K v w'):aB P (.bsl e 0 size z []) [] K w:=
 ln (cells:= #[]) s (by simp [Instr.fill]) λb w' s'=>hk _ w' (s'.vw (Nat.le_refl 0) (Nat.zero_le _) (by simp) (by simp))
@[simp] theorem qh (c:Array Value):(Value.agg c).cells=c:=rfl
theorem ar {P:Program} {env:List Value} {i n b off:Nat} {vs:List Value} {r:List RV} {K:List Value->World->Prop} {w:World} (he:env.getD i undef= .pointer (some ⟨b,off,none⟩))
  (hc:∀j u,vs[j]?=some u->w.cell? ⟨b,off+j,none⟩=some u) (hl:vs.length=n) (hk:yg P env r (λus w=>K (.agg vs.toArray::us) w) w):yg P env (.cell i true n::r) K w:=by
 have:=run_loadCells_list (P:=P) w ⟨b,off,none⟩ vs (by intro j v hj;rw [eR];exact hc j v hj)
 rw [hl] at this;show fU P (dx (tt true n (env.getD i undef))) _ w;rw [he];refine aK (w':=w) (v:= .agg vs.toArray) ?_ ⟨rfl,hk⟩;simp [tt,Instr.sureAddr,this]
theorem St.ab {w0 w:World} {F:ak} {b:Nat} {vs:List Value} {t:TypeId} {f:Nat×Nat} (s:St w0 (F*pt b (.cells vs.toArray t f)) w):∀j u,vs[j]?=some u->w.cell? ⟨b,0+j,none⟩=some u:=by
 intro j u hu;rw [cell_of s.look,Nat.zero_add]
 simpa using hu
instance:Std.Associative (α:=ak) (·*·):=⟨au⟩
instance:Std.Commutative (α:=ak) (·*·):=⟨gx⟩
theorem St.to {w0 w:World} {A B:ak} (s:St w0 A w) (h:A=B):St w0 B w:=h▸s
theorem St.cut {w0 w:World} {A B:ak} (C:ak) (s:St w0 A w) (h:A=B*C):St w0 B w:=(s.to h).drop
end Go.HL
