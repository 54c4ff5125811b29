/- Part 16. -/
import Derived.Test.YtpldhemgcoimaaaGreatMEMo
import Derived.Lib.Bytealg
set_option linter.unusedSimpArgs false
set_option linter.unusedVariables false
set_option maxRecDepth 4000
namespace Go.HL.Nm
open Go.HL Go.Proofs
def Ls:ag:=⟨[0,2,3,5,6,7,8],18,[.slot 1],aM tG [] 0x2ce79bffdd0081b6ee677375750d01be1b50d01beb6ca2f02cbffdd00c171b57d0900c463d0900c49fbdf30f4f464042c103d19010b041a2f0af01c6d5f454061d8f454061c09dc699676480195f02150004f029f74800a7dd2001⟩
theorem Hk:ai F4 199 400=some Ls:=by kernel_rfl
end Go.HL.Nm
namespace Go.HL.Nm
open Go.HL
def eua (b:UInt8):Bool:=decide (128<=b.toNat)&&decide (b.toNat<=191)
def lead:List Int->List UInt8
 | []=> []
 |u::us=>if 2097280<=u/\u<=2097343 then UInt8.ofNat (u.toNat -2097152)::lead us else []
def ZB:List Int->Prop
 | []=>True
 |u::us=>(2097152<=u->bU (UInt8.ofNat (u.toNat -2097152)::lead us)=(u,1))/\ZB us
structure e9a (f:Int->List Int):Prop where
 bad:∀u,2097152<=u->f u= [u]
 fine:∀u,u<2097152->f u≠ []/\∀x∈f u,x<2097152
def noP:List Int->Prop
 |a::b::r=>¬(a=114/\b=110)/\¬(a=118/\b=118)/\noP (b::r)
 |_=>True
end Go.HL.Nm
namespace Go.HL.Pu
open Go.HL Go.HL.Nm Go.Proofs
def strs (l:List Ac):List Value:=l.map λx=> .string (mk x.name)
def fea (x:List UInt8) (l:List Ac):Bool:=l.any λr=>decide (gh r.name=gh x)
structure Gd (rows:List Ac):Prop where
 len:1<=rows.length/\rows.length<=64
 names:∀i,(h:i<rows.length)->rows[i].name.length<=1048576
 keys:(keys rows).Nodup
def eKa (l:List Int) (i:Int):Bool:=l.any λn=>decide (n=i)
def Y9 (S:World->Prop):List Value->World->Prop
 | [],w=>S w
 |r::_,w=>r= .bool true/\S w
@[simp] theorem Za (S:World->Prop) (w:World):Y9 S [] w=S w:=rfl
@[simp] theorem Xm (S:World->Prop) (v:Value) (l:List Value) (w:World):Y9 S (v::l) w=(v= .bool true/\S w):=rfl
def sps (l:List Sp):List Value:=l.flatMap Sp.cs
end Go.HL.Pu
namespace Go.HL.Es
open Go.HL Go.Proofs
def axa:Rw:=(-71,71)
def eEa (v:Value) (l:List Rw):ak:=λh=>∃g cap,v= .slice (some ⟨g,0,none⟩) l.length cap/\l.length+1<=cap/\cap<=maxLen/\own 234 2 (.slice (some ⟨g,0,none⟩) (l.length+1) cap) (l.length+1) (jH (l++ [axa])) h
def fga (X:World->Prop) (Y:Nat->World->Prop) (Z:Value->World->Prop):List Value->World->Prop
 | [],w=>X w
 | [v],w=>∃c,v= .slice (some ⟨c,0,none⟩) 1 1/\Y c w
 |_::v::_,w=>Z v w
abbrev g8a (g:Nat):ak:=pt g (.cells #[.int .i64 5,.int .i64 6,.int .i64 7,.int .i64 (-71)] 3 (0,0))
end Go.HL.Es
namespace Go.HL.Pu
open Go.HL Go.HL.Nm Go.Proofs
end Go.HL.Pu
namespace Go.HL.Es
open Go.HL Go.Proofs Go.Deep
structure Ew where
 x:Et
 pr:Int
 wv:Value
def Ew.cs (e:Ew):List Value:=e.x.cs e.pr e.wv
def az (l:List Ew):List Value:=l.flatMap Ew.cs
section
variable {H:Type} {enc:TypeId×Value->H} {W:World} {base:Nat} {spare:Nat->Bool} {held:Bool} {fuel:Nat} {cs:List Value} {x:DataW H×List MemPlace}
end
structure Gn where
 lim:Int
 va:Value
 accs:List Pu.Ac
 sup:Int
 most:Int
 vi:Value
 ae:List Gd.It
 vr:Value
 rows:List Rw
def Gn.cs (b:Gn):List Value:= [.int .i64 b.lim,b.va,.int .u64 b.sup,.int .i64 b.most,b.vi,b.vr]
structure Gn.ok (b:Gn) (w0:World) (A:ak):Prop where
 lim: -9223372036854775808<=b.lim/\b.lim<=9223372036854775807
 most: -9223372036854775808<=b.most/\b.most<=9223372036854775807
 sup:0<=b.sup/\b.sup<18446744073709551616
 accs:Row w0 A b.va b.accs.length 2 (Pu.flat b.accs)
 ae:Row w0 A b.vi b.ae.length 4 (Gd.flat b.ae)
 rows:Row w0 A b.vr b.rows.length 2 (jH b.rows)
 laccs:b.accs.length<=1048576
 lits:b.ae.length<=1048576
 lrows:b.rows.length<=1048576
 each:∀x∈b.accs,x.name.length<=1048576/\0<=x.coins/\x.coins<18446744073709551616
 eachR:∀r∈b.rows,(-9223372036854775808<=r.1/\r.1<9223372036854775808)/\0<=r.2/\r.2<18446744073709551616
end Go.HL.Es
namespace Go.HL.Es
open Go.HL Go.Proofs
abbrev Tl:=Value×List Int
def tlA (_:Nat) (t:Tl):ak:=own 3 1 t.1 t.2.length (Gd.ints t.2)
def ZQ (T:Nat->Tl) (n:Nat):List Value:=(List.range n).map λj=>(T j).1
def aKa (U:Nat->Tl) (n:Nat):List Value:=(List.range n).map λj=>(U (j /2)).1
abbrev gHa (A:ak) (p g s:Nat) (lg:Int) (E:cq) (T U:Nat->Tl) (i:Nat) (all was:Value):ak:=
 A*aI p g s lg E*dj tlA T (2*i)*dj tlA U i*own 28 1 all (2*i) (ZQ T (2*i))*own 28 1 was (2*i) (aKa U (2*i))
def iU:List Gf->Int
 | []=>0
 |x::t=>x.coins+iU t
def toK (k:Int):List Gf->Int
 | []=>0
 |x::t=>(if x.to=k then x.coins else 0)+toK k t
theorem eY:∀a b:List Gf,iU (a++b)=iU a+iU b
 | [],b=>by simp [iU]
 |x::t,b=>by simp only [List.cons_append,iU,eY t b];omega
structure J (c:Int) (E0 E:cq) (B:List Gf):Prop where
 len:E.P.rows.length=E0.P.rows.length
 name:∀k,k<E0.P.rows.length->(E.P.rows.getD k ⟨[],0⟩).name=(E0.P.rows.getD k ⟨[],0⟩).name
 bP:∀k,k<E0.P.rows.length->Pu.bP E.P.rows k+toK k B=Pu.bP E0.P.rows k
 ck:ck E.l c=iU B
 ilen:E.ae.length=E0.ae.length
 free:∀i,i<E0.ae.length->(∀x∈B,x.item≠(i:Int)+1)->E.ae[i]? =E0.ae[i]?
 held:∀x∈B,x.item≠0->∃(i:Nat) (n k:Int),x.item=(i:Int)+1/\E0.ae[i]? =some ⟨n,k,x.to,0⟩/\E.ae[i]? =some ⟨n,k,-1,c⟩
 once:B.Pairwise λx y=>x.item≠0->x.item≠y.item
 each:∀x∈B,Pu.dA E0.P.rows x.to=0/\0<=x.coins/\(x.item≠0\/0<x.coins)
def bha (x:Et):List Gf:=(if x.item≠0 then [⟨x.acc,x.item,0⟩] else [])++(if x.coins≠0 then [⟨x.acc,0,x.coins⟩] else [])
theorem Md {c:Int} {x:Et} {E:cq} (h:(aN c x E).1=0):(Pu.aJ E.P x.acc).2=0/\(x.item≠0->(Gd.aJ E.ae x.item).2=0/\(Gd.aJ E.ae x.item).1.con=0/\(Gd.aJ E.ae x.item).1.acc=x.acc)/\(Pu.bE E.P x.acc x.coins).1=0/\
  aN c x E=(0,⟨(Pu.bE E.P x.acc x.coins).2,if x.item≠0 then (Gd.gq E.ae x.item c).2 else E.ae,fy c (ck E.l c+x.coins) E.l⟩):=by
 unfold aN at h⊢
 split at h
 ·cases h
 rename_i h1;split at h
 ·cases h
 rename_i h2;split at h
 ·rename_i h3;exact absurd h h3
 rename_i h3;rw [if_neg h1,if_neg h2,if_neg h3];refine ⟨by simpa using h1,λhi=> ?_,by simpa using h3,rfl⟩;refine ⟨?_,?_,?_⟩
 ·by_cases q:(Gd.aJ E.ae x.item).2=0
  ·exact q
  ·exact absurd ⟨hi,.inl q⟩ h2
 ·by_cases q:(Gd.aJ E.ae x.item).1.con=0
  ·exact q
  ·exact absurd ⟨hi,.inr (.inl q)⟩ h2
 ·by_cases q:(Gd.aJ E.ae x.item).1.acc=x.acc
  ·exact q
  ·exact absurd ⟨hi,.inr (.inr q)⟩ h2
theorem Rl {P:Pu.Ps} {n c:Int} (h:(Pu.bE P n c).1=0):Pu.dA P.rows n=0/\c<=Pu.bP P.rows n.toNat/\Pu.bE P n c=(0,{P with held:=P.held+c,rows:=Pu.bO P.rows n.toNat (Pu.bP P.rows n.toNat -c)}):=by
 unfold Pu.bE at h⊢
 split at h
 ·rename_i h1
  split at h
  ·cases h
  ·rename_i h2
   rw [if_pos h1,if_neg h2];exact ⟨h1,by omega,rfl⟩
 ·cases h
abbrev ffa (A:ak) (p g s:Nat) (lg:Int) (E0 E:cq) (B:List Gf) (was things back:Value):ak:=
 A*own 119 2 was E0.P.rows.length (Pu.flat E0.P.rows)*own 126 4 things E0.ae.length (Gd.flat E0.ae)*aI p g s lg E*own 73 3 back B.length (iE B)
end Go.HL.Es
namespace Go.HL.St1
open Go.HL Go.HL.Tl Go.HL.Sr Go.HL.Es Go.Proofs
attribute [local irreducible] aA
def rG (to:PE->Int) (e:PE):List Gf:=(if e.item=0 then [] else [⟨to e,e.item,0⟩])++(if e.coins=0 then [] else [⟨to e,0,e.coins⟩])
def gE (to:PE->Int) (es:List PE):List Gf:=es.flatMap (rG to)
abbrev dP (b:Nat) (e:PE) (v:Value):ak:=pt b (.cells (e.cs v).toArray 30 (0,0))
abbrev bF (b:Nat) (c:PC) (v:Value):ak:=pt b (.cells (c.cs v).toArray 33 (0,0))
abbrev bW (v:Value) (gs:List Gf):ak:=own 73 3 v gs.length (iE gs)
theorem zx (to:PE->Int) (e:PE):(rG to e).length<=2:=by unfold rG;split<;>split<;>simp
theorem j6 (to:PE->Int) (es:List PE):(gE to es).length<=2*es.length:=by
 induction es with
 |nil=>simp [gE]
 |cons e t ih=>
  have:=zx to e;simp only [gE,List.flatMap_cons,List.length_append,List.length_cons] at ih⊢;omega
structure Bw (w0:World) (A:ak) (f:FuncId) (cap:List Value) (to:PE->Int):Prop where
 body:bT Tryz.prog f=true
 call:∀(e:PE) (v:Value) (G:ak) (w:World),St w0 (A*G) w->aj Tryz.prog f (.agg (e.cs v).toArray::cap) (λr w'=>r= .int .i64 (to e)/\St w0 (A*G) w') w
def c5a:ag:=⟨[0,1,2,6,8,9,10,11],41,[.slot 3],aM tG [] 0x39e6fff74000edbb99dcdd5d43407f87d43407fade68bc0a628bbee2dd1100c910d000e0b4c910b83462c2c910b8346d31106031106cb3401301c44085edc6d5d46cc46351b3134c44180c441a8bc0a628bbee2dd1100c910d000e0b4c910b82062c2c910b8206d31105031105cb3401301c44085edc6d5d40cc4635033134c44140c44167ee28b7e04cb3e064fed3d1d0148082f47405202068bc2bc071b57d1901c763d1901c702771a659d92007571082190085c420a7dd2143⟩
theorem Pz:ai S1 207 400=some c5a:=by kernel_rfl
def c6a:ag:=⟨[0,1,3],6,[.slot 2],aM tG [] 0xe6fffbdf30b4c4128103104afe2dd2002f3a⟩
theorem PA:ai S1 208 400=some c6a:=by kernel_rfl
def c7a:ag:=⟨[0,1,3],6,[.slot 2],aM tG [] 0x39bffef7cc2d310460310469e2dd2002f3a⟩
theorem PB:ai S1 209 400=some c7a:=by kernel_rfl
def c8a:ag:=⟨[0,1,2],5,[.slot 2],aM tG [] 0xe6fffbdf30b4c41040c41fe2699d92002cc1f3a⟩
theorem PD:ai S1 210 400=some c8a:=by kernel_rfl
theorem cka (w0:World) (A:ak):Bw w0 A 210 [] PE.acc:=by
 refine ⟨by kernel_rfl,λe v G w s=> ?_⟩;refine go PD ?_
 repeat' (first|contradiction|refine aQ ?_|refine bh (λh=> ?_) (λh=> ?_)|refine oY (λh=> ?_) (λh=> ?_)|refine fg λw s=> ?_|refine fw λb w s=> ?_|refine dK λb w s=> ?_|refine jf ?_|refine wV (λh=> ?_) (λh=> ?_)|refine xb ?_|refine sj ?_|refine λw (s:St _ _ w)=> ?_)
 exact s.an
theorem ZV (w0:World) (A:ak) (b:Nat) (c:PC) (cv:Value):Bw w0 (A*pt b (.cells (c.cs cv).toArray 33 (0,0))) 208 [.pointer (some ⟨b,0,none⟩)] (λ_=>c.to'):=by
 refine ⟨by kernel_rfl,λe v G w s=> ?_⟩;refine go PA ?_
 repeat' (first|contradiction|refine aQ ?_|refine bh (λh=> ?_) (λh=> ?_)|refine oY (λh=> ?_) (λh=> ?_)|refine fg λw s=> ?_|refine fw λb w s=> ?_|refine dK λb w s=> ?_|refine jf ?_|refine wV (λh=> ?_) (λh=> ?_)|refine xb ?_|refine sj ?_|refine λw (s:St _ _ w)=> ?_)
 exact s.an
theorem ZW (w0:World) (A:ak) (b:Nat) (c:PC) (cv:Value):Bw w0 (A*pt b (.cells (c.cs cv).toArray 33 (0,0))) 209 [.pointer (some ⟨b,0,none⟩)] (λ_=>c.by'):=by
 refine ⟨by kernel_rfl,λe v G w s=> ?_⟩;refine go PB ?_
 repeat' (first|contradiction|refine aQ ?_|refine bh (λh=> ?_) (λh=> ?_)|refine oY (λh=> ?_) (λh=> ?_)|refine fg λw s=> ?_|refine fw λb w s=> ?_|refine dK λb w s=> ?_|refine jf ?_|refine wV (λh=> ?_) (λh=> ?_)|refine xb ?_|refine sj ?_|refine λw (s:St _ _ w)=> ?_)
 exact s.an
def RX (fl:Nat):RT:=
 .eff (.ld true 5) (.cons (.inp 4) .nil) (.eff .callv (.cons (.inp 1) (.cons (.bv 0) .nil)) (.chk none (.fld fl) (.cons (.inp 4) .nil) (.eff (.ld false 1) (.cons (.op (.fld fl) (.cons (.inp 4) .nil)) .nil)
  (.chk none (.build #[.int .i64 0,.int .i64 0,.int .u64 0] [(0,1),(1,1),(2,1)] [0,fl]) (.cons (.bv 1) (.cons (.bv 2) .nil))
   (.eff (.bsl 73 1 3 #[.int .i64 0,.int .i64 0,.int .u64 0] [0]) (.cons (.op (.build #[.int .i64 0,.int .i64 0,.int .u64 0] [(0,1),(1,1),(2,1)] [0,fl]) (.cons (.bv 1) (.cons (.bv 2) .nil))) .nil)
    (.eff (.app 42 42 73 3 24 (.agg #[.int .i64 0,.int .i64 0,.int .u64 0])) (.cons (.inp 0) (.cons (.bv 3) .nil)) (.done [(0,.bv 4)] none)))))))
def Tc (to:PE->Int) (e:PE) (fl:Nat):Gf:=if fl=1 then ⟨to e,e.item,0⟩ else ⟨to e,0,e.coins⟩
theorem Ct (fl:Nat) (hfl:fl=1\/fl=2) {f:FuncId} {cap:List Value} {to:PE->Int} {e:PE} {v v2 v3 v5 v6 v7 lv:Value} {p:Nat} {gs:List Gf} {w0 w:World} {A:ak} {Q:EX->List Value->World->Prop} (hT:Bw w0 A f cap to) (hg:gs.length<=4194304)
  (t:St w0 (A*dP p e v*bW lv gs) w) (hk:∀u w',St w0 (A*dP p e v*bW u (gs++ [Tc to e fl])) w'->Q .nrm [u,.func (.func f) #[] cap.toArray,v2,v3,.pointer (some ⟨p,0,none⟩),v5,v6,v7] w'):
  (HC.regq (.some 2) (RX fl)).wp S1 Q [lv,.func (.func f) #[] cap.toArray,v2,v3,.pointer (some ⟨p,0,none⟩),v5,v6,v7] w:=by
 obtain ⟨gf,hgf⟩:∃gf,Tc to e fl=gf:=⟨_,rfl⟩;rw [hgf] at hk;obtain ⟨C,hC⟩:∃C:List Value->World->Prop,C=λvs w=>match vs with
  | []=>St w0 (A*dP p e v*bW lv gs) w
  | [r]=>r= .int .i64 (to e)/\St w0 (A*dP p e v*bW lv gs) w
  | [_,x]=>∃k,x= .slice (some ⟨k,0,none⟩) 1 1/\St w0 (A*dP p e v*bW lv gs*pt k (.cells gf.cs.toArray 73 (0,0))) w
  |_::_::u::_=>St w0 (A*dP p e v*bW u (gs++ [gf])) w:=⟨_,rfl⟩
 have hp:∀vs w,C vs w->∀j u,(e.cs v)[j]? =some u->w.cell? ⟨p,0+j,none⟩=some u:=λvs w h j u hu=>by
  rw [hC] at h;rcases vs with _|⟨r,_|⟨x,_|⟨y,t⟩⟩⟩
  ·exact (h.at p).ad j u hu
  ·exact (h.2.at p).ad j u hu
  ·obtain ⟨k,_,h⟩:=h;exact (h.at p).ad j u hu
  ·exact (h.at p).ad j u hu
 rcases hfl with rfl|rfl
 all_goals
  unfold RX;refine qn C (by rw [hC];exact t.drew) ?_;refine pP (us:=e.cs v) hp ?_;refine fM (λw h=> ?_) (λr ⟨w,h⟩=> ?_)
  ·rw [hC] at h
   refine bJ hT.body ((hT.call e v _ w (h.to (au _ _ _))).mono ?_);rintro _ w ⟨rfl,h⟩;rw [hC];exact ⟨rfl,h.to (au _ _ _).symm⟩
  rw [hC] at h;obtain ⟨rfl,_⟩:=h
  first|refine gD (v:= .int .i64 e.item) (λvs w h=>by have:=hp vs w h 1 _ rfl;simpa using this) ?_|refine gD (v:= .int .u64 e.coins) (λvs w h=>by have:=hp vs w h 2 _ rfl;simpa using this) ?_
  refine fM (λw h=> ?_) (λr ⟨w,h⟩=> ?_)
  ·rw [hC] at h
   refine Eq.mp (congrArg (λx=>aA _ _ [x] _ _) (show Value.agg gf.cs.toArray=_ by rw [<-hgf];rfl)) ?_;refine bC (v:= .agg gf.cs.toArray) h.2 rfl λk w h=> ?_;rw [hC];exact ⟨k,rfl,h⟩
  rw [hC] at h;obtain ⟨k,rfl,_⟩:=h;refine fM (λw h=> ?_) (λr ⟨w,h⟩=> ?_)
  ·rw [hC] at h
   obtain ⟨k',ek,h⟩:=h;cases ek;refine bX (m:=1) (news:=gf.cs) h.swap rfl (by simpa using h.aL) (Ff _) (by decide) rfl (by unfold maxLen;omega) (by omega) λu w h=> ?_;rw [hC];have e1:iE gs++gf.cs=iE (gs++ [gf]):=by simp [iE]
   rw [e1] at h;have h:St w0 (A*dP p e v*pt k (.cells gf.cs.toArray 73 (0,0))*bW u (gs++ [gf])) w:=by simpa [bW] using h
   exact h.an
  intro w h;rw [hC] at h;exact hk _ _ h
theorem qL (f:FuncId) (cap:List Value) (to:PE->Int) (es:List PE) (cv gv:Value) (wvs:List Value) (gs:List Gf) (w0 w:World) (A:ak) (hT:Bw w0 A f cap to) (hlen:es.length<=1048576) (hg:gs.length<=1048576) (hcv:CV w0 A cv wvs es) (s:St w0 (A*bW gv gs) w):
  aj Tryz.prog 207 [gv,.func (.func f) #[] cap.toArray,cv] (λr w'=>St w0 (A*bW r (gs++gE to es)) w') w:=by
 have hwl:=hcv.len;obtain ⟨ca,cn,rfl⟩:=hcv.row.val;refine go Pz ?_;refine kA [0,4,7] (λx w=>∃(i:Nat) (lv o:Value),x= [lv,o,.int .i64 i]/\i<=es.length/\St w0 (A*bW lv (gs++gE to (es.take i))) w)
  (λenv _=>es.length -aw env 7) ⟨0,gv,_,rfl,by omega,by simpa [gE] using s⟩ ?_
 rintro LQ _ w ⟨i,lv,o,rfl,hi,t⟩ hN hX hR;simp;refine bh (λk=> ?_) (λk=> ?_)
 ·have k:i<es.length:=by simpa using k
  obtain ⟨g1,o1,c1',e1,k1⟩:=hcv.row.at (by omega);cases e1;have i1:i<wvs.length:=by omega
  have z1:i<(es.zip wvs).length:=by simp;omega
  obtain ⟨e,hee⟩:∃e,es[i]=e:=⟨_,rfl⟩;obtain ⟨v,hv⟩:∃v,wvs[i]=v:=⟨_,rfl⟩;have hv1:v.oneCell'=true:=by have:=hcv.each i i1 k;rw [hv] at this;obtain ⟨_,_,rfl⟩:=this.val;rfl
  have y1:(es.zip wvs)[i]=(e,v):=by simp [hee,hv]
  refine ⟨by simp,?_⟩;simp [k];refine aB (vs:=e.cs v) (λj u hu=>by rw [Nat.add_assoc];exact k1 _ t.an _ _ (cw z1 j u (by rw [y1];exact hu))) rfl ?_;simp;refine dK λp w t=> ?_;refine aH (cs':=(e.cs v).toArray) (h1:=cE _ _ hv1) λw t=> ?_;refine aQ ?_;clear hX hR;have hgl:=j6 to (es.take i);have htk:(es.take i).length=i:=by simp;omega
  have hst:gE to (es.take (i+1))=gE to (es.take i)++rG to e:=by rw [List.take_succ_eq_append_getElem k,hee];simp [gE]
  have t:St w0 (A*dP p e v*bW lv (gs++gE to (es.take i))) w:=t.an;have hG:(gs++gE to (es.take i)).length<=4194303:=by rw [List.length_append];omega
  obtain ⟨G,eG⟩:∃G,gs++gE to (es.take i)=G:=⟨_,rfl⟩;rw [eG] at t hG;refine bh (λq1=> ?c1) (λq1=> ?c2)
  case' c1=>
   refine Ct 1 (.inl rfl) hT (by omega) t λu w t=> ?_;simp;have hE:rG to e= [Tc to e 1]++(if e.coins=0 then [] else [Tc to e 2]):=by simp [rG,q1,Tc]
  case' c2=>
   have hE:rG to e= []++(if e.coins=0 then [] else [Tc to e 2]):=by simp [rG,q1,Tc]
  all_goals
   refine aQ ?_;refine bh (λq2=> ?_) (λq2=> ?_)
   ·refine Ct 2 (.inr rfl) hT (by first|omega|(simp;omega)) t λu w t=> ?_
    rw [if_neg q2] at hE
    try simp
    simp (disch:=omega) only [wrap64];refine hN [_,_,.int .i64 (i+1)] _ ⟨i+1,_,_,rfl,by omega,?_⟩ (by simp [aw];omega);rw [hst,<-List.append_assoc,eG,hE];simp only [List.nil_append,List.append_nil,<-List.append_assoc];exact t.an
   ·rw [if_pos q2] at hE
    try simp
    simp (disch:=omega) only [wrap64];refine hN [_,_,.int .i64 (i+1)] _ ⟨i+1,_,_,rfl,by omega,?_⟩ (by simp [aw];omega);rw [hst,<-List.append_assoc,eG,hE];simp only [List.nil_append,List.append_nil,<-List.append_assoc];exact t.an
 ·refine hX _ _ _ ?_
  obtain rfl:i=es.length:=by omega
  rw [List.take_length] at t;simp;exact t
end Go.HL.St1
namespace Go.HL.St1
open Go.HL Go.HL.Tl Go.HL.Sr Go.HL.Es Go.Proofs
structure EG (es:List En) (c:Nat) (ps:List (Int×Value)):Prop where
 perm:(es.map q6).Perm ps
 keys:(es.map (·.k)).Nodup
 borns:(es.map (·.b)).Nodup
 clock:∀e∈es,e.b<c
theorem EG.len {es:List En} {c:Nat} {ps:List (Int×Value)} (h:EG es c ps):es.length=ps.length:=by have:=h.perm.length_eq;simpa using this
theorem EG.get {es:List En} {c:Nat} {ps:List (Int×Value)} (h:EG es c ps) {k:Int} {v:Value} (hm:(k,v)∈ps):aZ es k=some v:=get_mem h.keys (h.perm.mem_iff.2 hm)
theorem EG.none {es:List En} {c:Nat} {ps:List (Int×Value)} (h:EG es c ps) {k:Int} (hm:∀p∈ps,p.1≠k):aZ es k=none:=get_none λe he hk=>hm (q6 e) (h.perm.mem_iff.1 (List.mem_map.2 ⟨e,he,rfl⟩)) hk
theorem EG.nil:EG [] 0 []:=⟨.refl _,by simp,by simp,by simp⟩
theorem EG.del {es:List En} {c:Nat} {ps:List (Int×Value)} (h:EG es c ps) (k:Int):EG (eB es k) c (ps.filter λx=>decide (x.1≠k)) where
 perm:=by rw [zn h.keys];exact h.perm.filter _
 keys:=h.keys.sublist ((Es.eC es k).map _)
 borns:=h.borns.sublist ((Es.eC es k).map _)
 clock:=λe he=>h.clock e ((Es.eC es k).subset he)
theorem EG.put {es:List En} {c:Nat} {ps:List (Int×Value)} (h:EG es c ps) {k:Int} (v:Value) (hl:∀p∈ps,p.1≠k):EG (es++ [⟨k,v,c⟩]) (c+1) (ps++ [(k,v)]) where
 perm:=by rw [List.map_append];exact h.perm.append (.refl _)
 keys:=by rw [List.map_append,List.nodup_append];refine ⟨h.keys,by simp,?_⟩;intro a ha b hb;simp only [List.map_cons,List.map_nil,List.mem_singleton] at hb;subst hb;rintro rfl;obtain ⟨e,he,he2⟩:=List.mem_map.1 ha;exact hl (q6 e) (h.perm.mem_iff.1 (List.mem_map.2 ⟨e,he,rfl⟩)) he2
 borns:=by rw [List.map_append,List.nodup_append];refine ⟨h.borns,by simp,?_⟩;intro a ha b hb;simp only [List.map_cons,List.map_nil,List.mem_singleton] at hb;subst hb;rintro rfl;obtain ⟨e,he,he2⟩:=List.mem_map.1 ha;have:=h.clock e he;omega
 clock:=by
  intro e he;rcases List.mem_append.1 he with he|he
  ·have:=h.clock e he;omega
  ·simp only [List.mem_singleton] at he;subst he;simp
theorem EG.lW {es:List En} {c:Nat} {ps:List (Int×Value)} (h:EG es c ps) {k:Int} {v u:Value} (hn:aZ es k=some u):EG (ng es k v) c ((k,v)::ps.filter λx=>decide (x.1≠k)) where
 perm:=(A5 h.keys hn).trans ((h.perm.filter _).cons _)
 keys:=by rw [rj];exact h.keys
 borns:=by rw [jI];exact h.borns
 clock:=by
  intro e he;have:e.b∈es.map (·.b):=by rw [<-jI es k v];exact List.mem_map.2 ⟨e,he,rfl⟩
  obtain ⟨e',he',h2⟩:=List.mem_map.1 this;have:=h.clock e' he';omega
theorem EG.of {es:List En} {c:Nat} {ps qs:List (Int×Value)} (h:EG es c ps) (hp:ps.Perm qs):EG es c qs:=⟨h.perm.trans hp,h.keys,h.borns,h.clock⟩
theorem EG.nodup {es:List En} {c:Nat} {ps:List (Int×Value)} (h:EG es c ps):(ps.map (·.1)).Nodup:=by have h1:=h.perm.map Prod.fst;rw [List.map_map] at h1;exact h1.nodup_iff.1 h.keys
structure OC where
 c:PC
 v:Value
 l:List (PE×Value)
def OC.val (x:OC):Value:= .agg (x.c.cs x.v).toArray
def OC.pr (x:OC):Int×Value:=(x.c.num,x.val)
abbrev fo (x:OC):ak:=ie x.v x.l
structure OM (es:List En) (k:Nat) (xs:List OC) (cs:List PC):Prop where
 ents:EG es k (xs.map OC.pr)
 data:xs.map (·.c)=cs
 own:∀x∈xs,x.l.map (·.1)=x.c.es
def omap (m:Nat) (cs:List PC):ak:=λh=>∃es k xs,OM es k xs cs/\(ao m es k*bB fo xs) h
theorem fp {w0 w:World} {A:ak} {m:Nat} {cs:List PC} (s:St w0 (A*omap m cs) w):∃es k xs,OM es k xs cs/\St w0 (A*ao m es k*bB fo xs) w:=by obtain ⟨g,h1,h2,h3,d,e,a,es,k,xs,hE,b⟩:=s.holds;exact ⟨es,k,xs,hE,(s.of ⟨g,h1,h2,h3,d,e,a,b⟩).to (au _ _ _).symm⟩
theorem bM {w0 w:World} {A:ak} {m:Nat} {cs:List PC} {es:List En} {k:Nat} {xs:List OC} (hE:OM es k xs cs) (s:St w0 (A*ao m es k*bB fo xs) w):St w0 (A*omap m cs) w:=by obtain ⟨g,h1,h2,h3,d,e,a,b⟩:=(s.to (au _ _ _)).holds;exact s.of ⟨g,h1,h2,h3,d,e,a,es,k,xs,hE,b⟩
theorem OM.nil:OM [] 0 [] []:=⟨.nil,rfl,by simp⟩
def dI (cs:List PC) (n:Int):Option PC:=cs.find? λc=>decide (c.num=n)
def oG (cs:List PC) (n:Int):List PC:=cs.filter λc=>decide (c.num≠n)
def mf (cs:List PC) (d:PC):List PC:=cs.map λc=>if c.num=d.num then d else c
theorem cJ {cs:List PC} {n:Int} {c:PC} (h:dI cs n=some c):c∈cs/\c.num=n:=⟨List.mem_of_find?_eq_some h,by simpa using List.find?_some h⟩
theorem E8 {cs:List PC} {n:Int}:dI cs n=none↔∀c∈cs,c.num≠n:=by unfold dI;rw [List.find?_eq_none];simp
theorem gp {cs:List PC} (hn:(cs.map (·.num)).Nodup) {c:PC} (h:c∈cs):dI cs c.num=some c:=by
 induction cs with
 |nil=>cases h
 |cons x r ih=>
  rw [List.map_cons,List.nodup_cons] at hn;unfold dI;rw [List.find?_cons];rcases List.mem_cons.1 h with rfl|h
  ·simp
  ·have:¬x.num=c.num:=λhk=>hn.1 (List.mem_map.2 ⟨c,h,hk.symm⟩)
   rw [decide_eq_false this];exact ih hn.2 h
theorem OM.get {es:List En} {k:Nat} {xs:List OC} {cs:List PC} (h:OM es k xs cs) (n:Int):(dI cs n=none/\aZ es n=none)\/∃x∈xs,x.c.num=n/\dI cs n=some x.c/\aZ es n=some x.val/\x.l.map (·.1)=x.c.es:=by
 cases hf:dI cs n with
 |none=>
  refine .inl ⟨rfl,h.ents.none λp hp=> ?_⟩;obtain ⟨x,hx,rfl⟩:=List.mem_map.1 hp;exact E8.1 hf x.c (by rw [<-h.data];exact List.mem_map.2 ⟨x,hx,rfl⟩)
 |some c=>
  obtain ⟨h1,h2⟩:=cJ hf;rw [<-h.data] at h1;obtain ⟨x,hx,rfl⟩:=List.mem_map.1 h1;exact .inr ⟨x,hx,h2,rfl,h.ents.get (List.mem_map.2 ⟨x,hx,by rw [OC.pr,h2]⟩),h.own x hx⟩
theorem xm {α:Type} (f:α->ak) {l l':List α} (h:l.Perm l'):bB f l=bB f l':=by
 induction h with
 |nil=>rfl
 |cons x _ ih=>show f x*_=f x*_;rw [ih]
 |swap x y l=>show f y*(f x*_)=f x*(f y*_);rw [<-au,gy (f y),au]
 |trans _ _ h1 h2=>exact h1.trans h2
theorem Kf {α:Type} (f:α->ak) (p:α->Bool) (l:List α):bB f l=bB f (l.filter p)*bB f (l.filter λx=> !p x):=by
 induction l with
 |nil=>exact (aq _).symm
 |cons x t ih=>
  have h1:bB f (x::t)=f x*bB f t:=rfl;rw [h1,ih];cases hp:p x with
  |true=>
   rw [List.filter_cons_of_pos hp,List.filter_cons_of_neg (by simp [hp])];show _=f x*_*_;rw [au]
  |false=>
   rw [List.filter_cons_of_neg (by simp [hp]),List.filter_cons_of_pos (by simp [hp])];show _=_*(f x*_);rw [<-au,<-au,gy (f x)]
theorem LV {w0 w:World} {A:ak} {xs:List OC} (n:Int) (s:St w0 (A*bB fo xs) w):St w0 (A*bB fo (xs.filter λx=>decide (x.c.num≠n))) w:=
 (s.to (by rw [Kf fo (λx=>decide (x.c.num≠n)) xs,au])).drop
theorem OM.del {es:List En} {k:Nat} {xs:List OC} {cs:List PC} (h:OM es k xs cs) (n:Int):OM (eB es n) k (xs.filter λx=>decide (x.c.num≠n)) (oG cs n) where
 ents:=by
  have:=h.ents.del n
  rwa [List.filter_map] at this
 data:=by rw [<-h.data,oG,List.filter_map];rfl
 own:=λx hx=>h.own x (List.mem_filter.1 hx).1
theorem OM.put {es:List En} {k:Nat} {xs:List OC} {cs:List PC} (h:OM es k xs cs) (x:OC) (hn:∀c∈cs,c.num≠x.c.num) (hx:x.l.map (·.1)=x.c.es):OM (es++ [⟨x.c.num,x.val,k⟩]) (k+1) (xs++ [x]) (cs++ [x.c]) where
 ents:=by
  rw [List.map_append];exact h.ents.put x.val λp hp=>by obtain ⟨y,hy,rfl⟩:=List.mem_map.1 hp;exact hn y.c (by rw [<-h.data];exact List.mem_map.2 ⟨y,hy,rfl⟩)
 data:=by rw [List.map_append,h.data];rfl
 own:=λy hy=>by
  rcases List.mem_append.1 hy with hy|hy
  ·exact h.own y hy
  ·rw [List.mem_singleton.1 hy];exact hx
def Mc (xs:List OC) (x:OC):List OC:=xs.map λy=>if y.c.num=x.c.num then x else y
theorem q9 {x:OC}:∀{xs:List OC},(xs.map λy=>y.c.num).Nodup->(∃y∈xs,y.c.num=x.c.num)->(Mc xs x).Perm (x::xs.filter λy=>decide (y.c.num≠x.c.num))
 | [],_,h=>by obtain ⟨_,h,_⟩:=h;cases h
 |y::t,hn,h=>by
  rw [List.map_cons,List.nodup_cons] at hn;unfold Mc;rw [List.map_cons]
  by_cases e:y.c.num=x.c.num
  ·rw [if_pos e,List.filter_cons_of_neg (by simp [e])]
   have hne:∀z∈t,z.c.num≠x.c.num:=λz hz hh=>hn.1 (List.mem_map.2 ⟨z,hz,hh.trans e.symm⟩);have e2:t.map (λy=>if y.c.num=x.c.num then x else y)=t:=(List.map_congr_left λz hz=>if_neg (hne z hz)).trans (List.map_id t);rw [List.filter_eq_self.2 λz hz=>by simpa using hne z hz,e2]
  ·rw [if_neg e,List.filter_cons_of_pos (by simp [e])]
   obtain ⟨z,hz,hh⟩:=h;have hz:z∈t:=by rcases List.mem_cons.1 hz with rfl|hz;exact absurd hh e;exact hz
   exact ((q9 hn.2 ⟨z,hz,hh⟩).cons y).trans (.swap _ _ _)
theorem OM.lW {es:List En} {k:Nat} {xs:List OC} {cs:List PC} (h:OM es k xs cs) (x:OC) (hc:dI cs x.c.num≠none) (hx:x.l.map (·.1)=x.c.es):OM (ng es x.c.num x.val) k (Mc xs x) (mf cs x.c) where
 ents:=by
  rcases h.get x.c.num with ⟨h1,_⟩|⟨y,hy,h1,h2,h3,h4⟩
  ·exact absurd h1 hc
  have:=h.ents.lW (v:=x.val) h3;refine this.of ?_;have hp:=(q9 (x:=x) (by have:=h.ents.nodup;rw [List.map_map] at this;exact this) ⟨y,hy,h1⟩).map OC.pr;refine .trans (.of_eq ?_) hp.symm;rw [List.map_cons,List.filter_map];rfl
 data:=by rw [<-h.data,Mc,mf,List.map_map,List.map_map];refine List.map_congr_left λy hy=> ?_;simp only [Function.comp];split<;>rfl
 own:=λy hy=>by
  obtain ⟨z,hz,rfl⟩:=List.mem_map.1 hy;split
  ·exact hx
  ·exact h.own z hz
theorem Wo {w0 w:World} {A:ak} {xs:List OC} {x:OC} (hn:(xs.map λy=>y.c.num).Nodup) (hy:∃y∈xs,y.c.num=x.c.num) (s:St w0 (A*bB fo xs*fo x) w):St w0 (A*bB fo (Mc xs x)) w:=by rw [xm fo (q9 hn hy)];have s:=LV x.c.num s.swap;exact s.to (au _ _ _)
end Go.HL.St1
