/- Part 16. -/
import Derived.Test.YtpldhemgcoimaaaGreatMFMo
import Derived.Lib.Bytealg
set_option linter.unusedSimpArgs false
set_option linter.unusedVariables false
set_option maxRecDepth 4000
namespace Go.HL.Nm
open Go.HL Go.Proofs
def Lc:ai:=⟨[0,2,3,5,6,7,8],18,[.slot 1],aN tG [] 0x2ce79bffdd0081b6ee677375750d01be1b50d01beb6ca2f02cbffdd00c171b57d0900c463d0900c49fbdf30f4f464042c103d19010b041a2f0af01c6d5f454061d8f454061c09dc699676480195f02150004f029f74800a7dd2001⟩
theorem G3:af F4 199 400=some Lc:=by kernel_rfl
end Go.HL.Nm
namespace Go.HL.Nm
open Go.HL
def d4a (b:UInt8):Bool:=decide (128<=b.toNat)&&decide (b.toNat<=191)
def lead:List Int->List UInt8
 | []=> []
 |u::us=>if 2097280<=u/\u<=2097343 then UInt8.ofNat (u.toNat -2097152)::lead us else []
def Zg:List Int->Prop
 | []=>True
 |u::us=>(2097152<=u->bQ (UInt8.ofNat (u.toNat -2097152)::lead us)=(u,1))/\Zg us
structure eKa (f:Int->List Int):Prop where
 bad:∀u,2097152<=u->f u= [u]
 fine:∀u,u<2097152->f u≠ []/\∀x∈f u,x<2097152
def noP:List Int->Prop
 |a::b::r=>¬(a=114/\b=110)/\¬(a=118/\b=118)/\noP (b::r)
 |_=>True
end Go.HL.Nm
namespace Go.HL.Pu
open Go.HL Go.HL.Nm Go.Proofs
def strs (l:List Ac):List Value:=l.map λx=> .string (mk x.name)
def ePa (x:List UInt8) (l:List Ac):Bool:=l.any λr=>decide (gg r.name=gg x)
structure Gd (rows:List Ac):Prop where
 len:1<=rows.length/\rows.length<=64
 names:∀i,(h:i<rows.length)->rows[i].name.length<=1048576
 keys:(keys rows).Nodup
def eka (l:List Int) (i:Int):Bool:=l.any λn=>decide (n=i)
def YP (S:World->Prop):List Value->World->Prop
 | [],w=>S w
 |r::_,w=>r= .bool true/\S w
@[simp] theorem YQ (S:World->Prop) (w:World):YP S [] w=S w:=rfl
@[simp] theorem WY (S:World->Prop) (v:Value) (l:List Value) (w:World):YP S (v::l) w=(v= .bool true/\S w):=rfl
def sps (l:List Sp):List Value:=l.flatMap Sp.cs
end Go.HL.Pu
namespace Go.HL.Es
open Go.HL Go.Proofs
def aaa:Rw:=(-71,71)
def eea (v:Value) (l:List Rw):ak:=λh=>∃g cap,v= .slice (some ⟨g,0,none⟩) l.length cap/\l.length+1<=cap/\cap<=maxLen/\own 234 2 (.slice (some ⟨g,0,none⟩) (l.length+1) cap) (l.length+1) (jC (l++ [aaa])) h
def eRa (X:World->Prop) (Y:Nat->World->Prop) (Z:Value->World->Prop):List Value->World->Prop
 | [],w=>X w
 | [v],w=>∃c,v= .slice (some ⟨c,0,none⟩) 1 1/\Y c w
 |_::v::_,w=>Z v w
abbrev gHa (g:Nat):ak:=pt g (.cells #[.int .i64 5,.int .i64 6,.int .i64 7,.int .i64 (-71)] 3 (0,0))
end Go.HL.Es
namespace Go.HL.Pu
open Go.HL Go.HL.Nm Go.Proofs
end Go.HL.Pu
namespace Go.HL.Es
open Go.HL Go.Proofs Go.Deep
structure Ew where
 x:Et
 pr:Int
 wv:Value
def Ew.cs (e:Ew):List Value:=e.x.cs e.pr e.wv
def aw (l:List Ew):List Value:=l.flatMap Ew.cs
section
variable {H:Type} {enc:TypeId×Value->H} {W:World} {base:Nat} {spare:Nat->Bool} {held:Bool} {fuel:Nat} {cs:List Value} {x:DataW H×List MemPlace}
end
structure F6 where
 lim:Int
 va:Value
 accs:List Pu.Ac
 sup:Int
 most:Int
 vi:Value
 ae:List Gd.It
 vr:Value
 rows:List Rw
def F6.cs (b:F6):List Value:= [.int .i64 b.lim,b.va,.int .u64 b.sup,.int .i64 b.most,b.vi,b.vr]
structure F6.ok (b:F6) (w0:World) (A:ak):Prop where
 lim: -9223372036854775808<=b.lim/\b.lim<=9223372036854775807
 most: -9223372036854775808<=b.most/\b.most<=9223372036854775807
 sup:0<=b.sup/\b.sup<18446744073709551616
 accs:Row w0 A b.va b.accs.length 2 (Pu.flat b.accs)
 ae:Row w0 A b.vi b.ae.length 4 (Gd.flat b.ae)
 rows:Row w0 A b.vr b.rows.length 2 (jC b.rows)
 laccs:b.accs.length<=1048576
 lits:b.ae.length<=1048576
 lrows:b.rows.length<=1048576
 each:∀x∈b.accs,x.name.length<=1048576/\0<=x.coins/\x.coins<18446744073709551616
 eachR:∀r∈b.rows,(-9223372036854775808<=r.1/\r.1<9223372036854775808)/\0<=r.2/\r.2<18446744073709551616
end Go.HL.Es
namespace Go.HL.Es
open Go.HL Go.Proofs
abbrev Tl:=Value×List Int
def tlA (_:Nat) (t:Tl):ak:=own 3 1 t.1 t.2.length (Gd.ints t.2)
def Zv (T:Nat->Tl) (n:Nat):List Value:=(List.range n).map λj=>(T j).1
def ana (U:Nat->Tl) (n:Nat):List Value:=(List.range n).map λj=>(U (j /2)).1
abbrev gga (A:ak) (p g s:Nat) (lg:Int) (E:ch) (T U:Nat->Tl) (i:Nat) (all was:Value):ak:=
 A*aH p g s lg E*cZ tlA T (2*i)*cZ tlA U i*own 28 1 all (2*i) (Zv T (2*i))*own 28 1 was (2*i) (ana U (2*i))
def iR:List Gf->Int
 | []=>0
 |x::t=>x.coins+iR t
def toK (k:Int):List Gf->Int
 | []=>0
 |x::t=>(if x.to=k then x.coins else 0)+toK k t
theorem eO:∀a b:List Gf,iR (a++b)=iR a+iR b
 | [],b=>by simp [iR]
 |x::t,b=>by simp only [List.cons_append,iR,eO t b];omega
structure J (c:Int) (E0 E:ch) (B:List Gf):Prop where
 len:E.P.rows.length=E0.P.rows.length
 name:∀k,k<E0.P.rows.length->(E.P.rows.getD k ⟨[],0⟩).name=(E0.P.rows.getD k ⟨[],0⟩).name
 bL:∀k,k<E0.P.rows.length->Pu.bL E.P.rows k+toK k B=Pu.bL E0.P.rows k
 b9:b9 E.l c=iR B
 ilen:E.ae.length=E0.ae.length
 free:∀i,i<E0.ae.length->(∀x∈B,x.item≠(i:Int)+1)->E.ae[i]? =E0.ae[i]?
 held:∀x∈B,x.item≠0->∃(i:Nat) (n k:Int),x.item=(i:Int)+1/\E0.ae[i]? =some ⟨n,k,x.to,0⟩/\E.ae[i]? =some ⟨n,k,-1,c⟩
 once:B.Pairwise λx y=>x.item≠0->x.item≠y.item
 each:∀x∈B,Pu.dw E0.P.rows x.to=0/\0<=x.coins/\(x.item≠0\/0<x.coins)
def aSa (x:Et):List Gf:=(if x.item≠0 then [⟨x.acc,x.item,0⟩] else [])++(if x.coins≠0 then [⟨x.acc,0,x.coins⟩] else [])
theorem LZ {c:Int} {x:Et} {E:ch} (h:(aM c x E).1=0):(Pu.aI E.P x.acc).2=0/\(x.item≠0->(Gd.aI E.ae x.item).2=0/\(Gd.aI E.ae x.item).1.con=0/\(Gd.aI E.ae x.item).1.acc=x.acc)/\(Pu.bz E.P x.acc x.coins).1=0/\
  aM c x E=(0,⟨(Pu.bz E.P x.acc x.coins).2,if x.item≠0 then (Gd.gn E.ae x.item c).2 else E.ae,ft c (b9 E.l c+x.coins) E.l⟩):=by
 unfold aM at h⊢
 split at h
 ·cases h
 rename_i h1;split at h
 ·cases h
 rename_i h2;split at h
 ·rename_i h3;exact absurd h h3
 rename_i h3;rw [if_neg h1,if_neg h2,if_neg h3];refine ⟨by simpa using h1,λhi=> ?_,by simpa using h3,rfl⟩;refine ⟨?_,?_,?_⟩
 ·by_cases q:(Gd.aI E.ae x.item).2=0
  ·exact q
  ·exact absurd ⟨hi,.inl q⟩ h2
 ·by_cases q:(Gd.aI E.ae x.item).1.con=0
  ·exact q
  ·exact absurd ⟨hi,.inr (.inl q)⟩ h2
 ·by_cases q:(Gd.aI E.ae x.item).1.acc=x.acc
  ·exact q
  ·exact absurd ⟨hi,.inr (.inr q)⟩ h2
theorem Q5 {P:Pu.Ps} {n c:Int} (h:(Pu.bz P n c).1=0):Pu.dw P.rows n=0/\c<=Pu.bL P.rows n.toNat/\Pu.bz P n c=(0,{P with held:=P.held+c,rows:=Pu.bJ P.rows n.toNat (Pu.bL P.rows n.toNat -c)}):=by
 unfold Pu.bz at h⊢
 split at h
 ·rename_i h1
  split at h
  ·cases h
  ·rename_i h2
   rw [if_pos h1,if_neg h2];exact ⟨h1,by omega,rfl⟩
 ·cases h
abbrev eQa (A:ak) (p g s:Nat) (lg:Int) (E0 E:ch) (B:List Gf) (was things back:Value):ak:=
 A*own 119 2 was E0.P.rows.length (Pu.flat E0.P.rows)*own 126 4 things E0.ae.length (Gd.flat E0.ae)*aH p g s lg E*own 73 3 back B.length (iC B)
end Go.HL.Es
namespace Go.HL.St1
open Go.HL Go.HL.Tl Go.HL.Sr Go.HL.Es Go.Proofs
attribute [local irreducible] aA
def rh (to:PE->Int) (e:PE):List Gf:=(if e.item=0 then [] else [⟨to e,e.item,0⟩])++(if e.coins=0 then [] else [⟨to e,0,e.coins⟩])
def gB (to:PE->Int) (es:List PE):List Gf:=es.flatMap (rh to)
abbrev dG (b:Nat) (e:PE) (v:Value):ak:=pt b (.cells (e.cs v).toArray 30 (0,0))
abbrev bA (b:Nat) (c:PC) (v:Value):ak:=pt b (.cells (c.cs v).toArray 33 (0,0))
abbrev bS (v:Value) (gs:List Gf):ak:=own 73 3 v gs.length (iC gs)
theorem zj (to:PE->Int) (e:PE):(rh to e).length<=2:=by unfold rh;split<;>split<;>simp
theorem j1 (to:PE->Int) (es:List PE):(gB to es).length<=2*es.length:=by
 induction es with
 |nil=>simp [gB]
 |cons e t ih=>
  have:=zj to e;simp only [gB,List.flatMap_cons,List.length_append,List.length_cons] at ih⊢;omega
structure Bh (w0:World) (A:ak) (f:FuncId) (cap:List Value) (to:PE->Int):Prop where
 body:bP Tryz.prog f=true
 call:∀(e:PE) (v:Value) (G:ak) (w:World),St w0 (A*G) w->aj Tryz.prog f (.agg (e.cs v).toArray::cap) (λr w'=>r= .int .i64 (to e)/\St w0 (A*G) w') w
def cHa:ai:=⟨[0,1,2,6,8,9,10,11],41,[.slot 3],aN tG [] 0x39e6fff74000edbb99dcdd5d43407f87d43407fade68bc0a628bbee2dd1100c910d000e0b4c910b83462c2c910b8346d31106031106cb3401301c44085edc6d5d46cc46351b3134c44180c441a8bc0a628bbee2dd1100c910d000e0b4c910b82062c2c910b8206d31105031105cb3401301c44085edc6d5d40cc4635033134c44140c44167ee28b7e04cb3e064fed3d1d0148082f47405202068bc2bc071b57d1901c763d1901c702771a659d92007571082190085c420a7dd2143⟩
theorem Pj:af S1 207 400=some cHa:=by kernel_rfl
def cIa:ai:=⟨[0,1,3],6,[.slot 2],aN tG [] 0xe6fffbdf30b4c4128103104afe2dd2002f3a⟩
theorem Pk:af S1 208 400=some cIa:=by kernel_rfl
def cJa:ai:=⟨[0,1,3],6,[.slot 2],aN tG [] 0x39bffef7cc2d310460310469e2dd2002f3a⟩
theorem Pm:af S1 209 400=some cJa:=by kernel_rfl
def cKa:ai:=⟨[0,1,2],5,[.slot 2],aN tG [] 0xe6fffbdf30b4c41040c41fe2699d92002cc1f3a⟩
theorem Pn:af S1 210 400=some cKa:=by kernel_rfl
theorem bWa (w0:World) (A:ak):Bh w0 A 210 [] PE.acc:=by
 refine ⟨by kernel_rfl,λe v G w s=> ?_⟩;refine go Pn ?_
 repeat' (first|contradiction|refine aQ ?_|refine bq (λh=> ?_) (λh=> ?_)|refine oM (λh=> ?_) (λh=> ?_)|refine eY λw s=> ?_|refine fo λb w s=> ?_|refine dF λb w s=> ?_|refine jc ?_|refine wD (λh=> ?_) (λh=> ?_)|refine wM ?_|refine tS ?_|refine λw (s:St _ _ w)=> ?_)
 exact s.an
theorem ZA (w0:World) (A:ak) (b:Nat) (c:PC) (cv:Value):Bh w0 (A*pt b (.cells (c.cs cv).toArray 33 (0,0))) 208 [.pointer (some ⟨b,0,none⟩)] (λ_=>c.to'):=by
 refine ⟨by kernel_rfl,λe v G w s=> ?_⟩;refine go Pk ?_
 repeat' (first|contradiction|refine aQ ?_|refine bq (λh=> ?_) (λh=> ?_)|refine oM (λh=> ?_) (λh=> ?_)|refine eY λw s=> ?_|refine fo λb w s=> ?_|refine dF λb w s=> ?_|refine jc ?_|refine wD (λh=> ?_) (λh=> ?_)|refine wM ?_|refine tS ?_|refine λw (s:St _ _ w)=> ?_)
 exact s.an
theorem ZB (w0:World) (A:ak) (b:Nat) (c:PC) (cv:Value):Bh w0 (A*pt b (.cells (c.cs cv).toArray 33 (0,0))) 209 [.pointer (some ⟨b,0,none⟩)] (λ_=>c.by'):=by
 refine ⟨by kernel_rfl,λe v G w s=> ?_⟩;refine go Pm ?_
 repeat' (first|contradiction|refine aQ ?_|refine bq (λh=> ?_) (λh=> ?_)|refine oM (λh=> ?_) (λh=> ?_)|refine eY λw s=> ?_|refine fo λb w s=> ?_|refine dF λb w s=> ?_|refine jc ?_|refine wD (λh=> ?_) (λh=> ?_)|refine wM ?_|refine tS ?_|refine λw (s:St _ _ w)=> ?_)
 exact s.an
def RG (fl:Nat):RT:=
 .eff (.ld true 5) (.cons (.inp 4) .nil) (.eff .callv (.cons (.inp 1) (.cons (.bv 0) .nil)) (.chk none (.fld fl) (.cons (.inp 4) .nil) (.eff (.ld false 1) (.cons (.op (.fld fl) (.cons (.inp 4) .nil)) .nil)
  (.chk none (.build #[.int .i64 0,.int .i64 0,.int .u64 0] [(0,1),(1,1),(2,1)] [0,fl]) (.cons (.bv 1) (.cons (.bv 2) .nil))
   (.eff (.bsl 73 1 3 #[.int .i64 0,.int .i64 0,.int .u64 0] [0]) (.cons (.op (.build #[.int .i64 0,.int .i64 0,.int .u64 0] [(0,1),(1,1),(2,1)] [0,fl]) (.cons (.bv 1) (.cons (.bv 2) .nil))) .nil)
    (.eff (.app 42 42 73 3 24 (.agg #[.int .i64 0,.int .i64 0,.int .u64 0])) (.cons (.inp 0) (.cons (.bv 3) .nil)) (.done [(0,.bv 4)] none)))))))
def SN (to:PE->Int) (e:PE) (fl:Nat):Gf:=if fl=1 then ⟨to e,e.item,0⟩ else ⟨to e,0,e.coins⟩
theorem Cf (fl:Nat) (hfl:fl=1\/fl=2) {f:FuncId} {cap:List Value} {to:PE->Int} {e:PE} {v v2 v3 v5 v6 v7 lv:Value} {p:Nat} {gs:List Gf} {w0 w:World} {A:ak} {Q:EX->List Value->World->Prop} (hT:Bh w0 A f cap to) (hg:gs.length<=4194304)
  (t:St w0 (A*dG p e v*bS lv gs) w) (hk:∀u w',St w0 (A*dG p e v*bS u (gs++ [SN to e fl])) w'->Q .nrm [u,.func (.func f) #[] cap.toArray,v2,v3,.pointer (some ⟨p,0,none⟩),v5,v6,v7] w'):
  (HC.regq (.some 2) (RG fl)).wp S1 Q [lv,.func (.func f) #[] cap.toArray,v2,v3,.pointer (some ⟨p,0,none⟩),v5,v6,v7] w:=by
 obtain ⟨gf,hgf⟩:∃gf,SN to e fl=gf:=⟨_,rfl⟩;rw [hgf] at hk;obtain ⟨C,hC⟩:∃C:List Value->World->Prop,C=λvs w=>match vs with
  | []=>St w0 (A*dG p e v*bS lv gs) w
  | [r]=>r= .int .i64 (to e)/\St w0 (A*dG p e v*bS lv gs) w
  | [_,x]=>∃k,x= .slice (some ⟨k,0,none⟩) 1 1/\St w0 (A*dG p e v*bS lv gs*pt k (.cells gf.cs.toArray 73 (0,0))) w
  |_::_::u::_=>St w0 (A*dG p e v*bS u (gs++ [gf])) w:=⟨_,rfl⟩
 have hp:∀vs w,C vs w->∀j u,(e.cs v)[j]? =some u->w.cell? ⟨p,0+j,none⟩=some u:=λvs w h j u hu=>by
  rw [hC] at h;rcases vs with _|⟨r,_|⟨x,_|⟨y,t⟩⟩⟩
  ·exact (h.at p).ab j u hu
  ·exact (h.2.at p).ab j u hu
  ·obtain ⟨k,_,h⟩:=h;exact (h.at p).ab j u hu
  ·exact (h.at p).ab j u hu
 rcases hfl with rfl|rfl
 all_goals
  unfold RG;refine p5 C (by rw [hC];exact t.drew) ?_;refine pB (us:=e.cs v) hp ?_;refine fK (λw h=> ?_) (λr ⟨w,h⟩=> ?_)
  ·rw [hC] at h
   refine bE hT.body ((hT.call e v _ w (h.to (au _ _ _))).mono ?_);rintro _ w ⟨rfl,h⟩;rw [hC];exact ⟨rfl,h.to (au _ _ _).symm⟩
  rw [hC] at h;obtain ⟨rfl,_⟩:=h
  first|refine gz (v:= .int .i64 e.item) (λvs w h=>by have:=hp vs w h 1 _ rfl;simpa using this) ?_|refine gz (v:= .int .u64 e.coins) (λvs w h=>by have:=hp vs w h 2 _ rfl;simpa using this) ?_
  refine fK (λw h=> ?_) (λr ⟨w,h⟩=> ?_)
  ·rw [hC] at h
   refine Eq.mp (congrArg (λx=>aA _ _ [x] _ _) (show Value.agg gf.cs.toArray=_ by rw [<-hgf];rfl)) ?_;refine bx (v:= .agg gf.cs.toArray) h.2 rfl λk w h=> ?_;rw [hC];exact ⟨k,rfl,h⟩
  rw [hC] at h;obtain ⟨k,rfl,_⟩:=h;refine fK (λw h=> ?_) (λr ⟨w,h⟩=> ?_)
  ·rw [hC] at h
   obtain ⟨k',ek,h⟩:=h;cases ek;refine bT (m:=1) (news:=gf.cs) h.swap rfl (by simpa using h.aL) (EZ _) (by decide) rfl (by unfold maxLen;omega) (by omega) λu w h=> ?_;rw [hC];have e1:iC gs++gf.cs=iC (gs++ [gf]):=by simp [iC]
   rw [e1] at h;have h:St w0 (A*dG p e v*pt k (.cells gf.cs.toArray 73 (0,0))*bS u (gs++ [gf])) w:=by simpa [bS] using h
   exact h.an
  intro w h;rw [hC] at h;exact hk _ _ h
theorem qx (f:FuncId) (cap:List Value) (to:PE->Int) (es:List PE) (cv gv:Value) (wvs:List Value) (gs:List Gf) (w0 w:World) (A:ak) (hT:Bh w0 A f cap to) (hlen:es.length<=1048576) (hg:gs.length<=1048576) (hcv:CV w0 A cv wvs es) (s:St w0 (A*bS gv gs) w):
  aj Tryz.prog 207 [gv,.func (.func f) #[] cap.toArray,cv] (λr w'=>St w0 (A*bS r (gs++gB to es)) w') w:=by
 have hwl:=hcv.len;obtain ⟨ca,cn,rfl⟩:=hcv.row.val;refine go Pj ?_;refine lZ [0,4,7] (λx w=>∃(i:Nat) (lv o:Value),x= [lv,o,.int .i64 i]/\i<=es.length/\St w0 (A*bS lv (gs++gB to (es.take i))) w)
  (λenv _=>es.length -ay env 7) ⟨0,gv,_,rfl,by omega,by simpa [gB] using s⟩ ?_
 rintro LQ _ w ⟨i,lv,o,rfl,hi,t⟩ hN hX hR;simp;refine bq (λk=> ?_) (λk=> ?_)
 ·have k:i<es.length:=by simpa using k
  obtain ⟨g1,o1,c1',e1,k1⟩:=hcv.row.at (by omega);cases e1;have i1:i<wvs.length:=by omega
  have z1:i<(es.zip wvs).length:=by simp;omega
  obtain ⟨e,hee⟩:∃e,es[i]=e:=⟨_,rfl⟩;obtain ⟨v,hv⟩:∃v,wvs[i]=v:=⟨_,rfl⟩;have hv1:v.oneCell'=true:=by have:=hcv.each i i1 k;rw [hv] at this;obtain ⟨_,_,rfl⟩:=this.val;rfl
  have y1:(es.zip wvs)[i]=(e,v):=by simp [hee,hv]
  refine ⟨by simp,?_⟩;simp [k];refine aB (vs:=e.cs v) (λj u hu=>by rw [Nat.add_assoc];exact k1 _ t.an _ _ (cq z1 j u (by rw [y1];exact hu))) rfl ?_;simp;refine dF λp w t=> ?_;refine aJ (cs':=(e.cs v).toArray) (h1:=cw _ _ hv1) λw t=> ?_;refine aQ ?_;clear hX hR;have hgl:=j1 to (es.take i);have htk:(es.take i).length=i:=by simp;omega
  have hst:gB to (es.take (i+1))=gB to (es.take i)++rh to e:=by rw [List.take_succ_eq_append_getElem k,hee];simp [gB]
  have t:St w0 (A*dG p e v*bS lv (gs++gB to (es.take i))) w:=t.an;have hG:(gs++gB to (es.take i)).length<=4194303:=by rw [List.length_append];omega
  obtain ⟨G,eG⟩:∃G,gs++gB to (es.take i)=G:=⟨_,rfl⟩;rw [eG] at t hG;refine bq (λq1=> ?c1) (λq1=> ?c2)
  case' c1=>
   refine Cf 1 (.inl rfl) hT (by omega) t λu w t=> ?_;simp;have hE:rh to e= [SN to e 1]++(if e.coins=0 then [] else [SN to e 2]):=by simp [rh,q1,SN]
  case' c2=>
   have hE:rh to e= []++(if e.coins=0 then [] else [SN to e 2]):=by simp [rh,q1,SN]
  all_goals
   refine aQ ?_;refine bq (λq2=> ?_) (λq2=> ?_)
   ·refine Cf 2 (.inr rfl) hT (by first|omega|(simp;omega)) t λu w t=> ?_
    rw [if_neg q2] at hE
    try simp
    simp (disch:=omega) only [wrap64];refine hN [_,_,.int .i64 (i+1)] _ ⟨i+1,_,_,rfl,by omega,?_⟩ (by simp [ay];omega);rw [hst,<-List.append_assoc,eG,hE];simp only [List.nil_append,List.append_nil,<-List.append_assoc];exact t.an
   ·rw [if_pos q2] at hE
    try simp
    simp (disch:=omega) only [wrap64];refine hN [_,_,.int .i64 (i+1)] _ ⟨i+1,_,_,rfl,by omega,?_⟩ (by simp [ay];omega);rw [hst,<-List.append_assoc,eG,hE];simp only [List.nil_append,List.append_nil,<-List.append_assoc];exact t.an
 ·refine hX _ _ _ ?_
  obtain rfl:i=es.length:=by omega
  rw [List.take_length] at t;simp;exact t
end Go.HL.St1
namespace Go.HL.St1
open Go.HL Go.HL.Tl Go.HL.Sr Go.HL.Es Go.Proofs
structure EG (es:List En) (c:Nat) (ps:List (Int×Value)):Prop where
 perm:(es.map qO).Perm ps
 keys:(es.map (·.k)).Nodup
 borns:(es.map (·.b)).Nodup
 clock:∀e∈es,e.b<c
theorem EG.len {es:List En} {c:Nat} {ps:List (Int×Value)} (h:EG es c ps):es.length=ps.length:=by have:=h.perm.length_eq;simpa using this
theorem EG.get {es:List En} {c:Nat} {ps:List (Int×Value)} (h:EG es c ps) {k:Int} {v:Value} (hm:(k,v)∈ps):aZ es k=some v:=get_mem h.keys (h.perm.mem_iff.2 hm)
theorem EG.none {es:List En} {c:Nat} {ps:List (Int×Value)} (h:EG es c ps) {k:Int} (hm:∀p∈ps,p.1≠k):aZ es k=none:=get_none λe he hk=>hm (qO e) (h.perm.mem_iff.1 (List.mem_map.2 ⟨e,he,rfl⟩)) hk
theorem EG.nil:EG [] 0 []:=⟨.refl _,by simp,by simp,by simp⟩
theorem EG.del {es:List En} {c:Nat} {ps:List (Int×Value)} (h:EG es c ps) (k:Int):EG (dY es k) c (ps.filter λx=>decide (x.1≠k)) where
 perm:=by rw [yY h.keys];exact h.perm.filter _
 keys:=h.keys.sublist ((Es.dZ es k).map _)
 borns:=h.borns.sublist ((Es.dZ es k).map _)
 clock:=λe he=>h.clock e ((Es.dZ es k).subset he)
theorem EG.put {es:List En} {c:Nat} {ps:List (Int×Value)} (h:EG es c ps) {k:Int} (v:Value) (hl:∀p∈ps,p.1≠k):EG (es++ [⟨k,v,c⟩]) (c+1) (ps++ [(k,v)]) where
 perm:=by rw [List.map_append];exact h.perm.append (.refl _)
 keys:=by rw [List.map_append,List.nodup_append];refine ⟨h.keys,by simp,?_⟩;intro a ha b hb;simp only [List.map_cons,List.map_nil,List.mem_singleton] at hb;subst hb;rintro rfl;obtain ⟨e,he,he2⟩:=List.mem_map.1 ha;exact hl (qO e) (h.perm.mem_iff.1 (List.mem_map.2 ⟨e,he,rfl⟩)) he2
 borns:=by rw [List.map_append,List.nodup_append];refine ⟨h.borns,by simp,?_⟩;intro a ha b hb;simp only [List.map_cons,List.map_nil,List.mem_singleton] at hb;subst hb;rintro rfl;obtain ⟨e,he,he2⟩:=List.mem_map.1 ha;have:=h.clock e he;omega
 clock:=by
  intro e he;rcases List.mem_append.1 he with he|he
  ·have:=h.clock e he;omega
  ·simp only [List.mem_singleton] at he;subst he;simp
theorem EG.lM {es:List En} {c:Nat} {ps:List (Int×Value)} (h:EG es c ps) {k:Int} {v u:Value} (hn:aZ es k=some u):EG (mT es k v) c ((k,v)::ps.filter λx=>decide (x.1≠k)) where
 perm:=(AO h.keys hn).trans ((h.perm.filter _).cons _)
 keys:=by rw [qU];exact h.keys
 borns:=by rw [jD];exact h.borns
 clock:=by
  intro e he;have:e.b∈es.map (·.b):=by rw [<-jD es k v];exact List.mem_map.2 ⟨e,he,rfl⟩
  obtain ⟨e',he',h2⟩:=List.mem_map.1 this;have:=h.clock e' he';omega
theorem EG.of {es:List En} {c:Nat} {ps qs:List (Int×Value)} (h:EG es c ps) (hp:ps.Perm qs):EG es c qs:=⟨h.perm.trans hp,h.keys,h.borns,h.clock⟩
theorem EG.nodup {es:List En} {c:Nat} {ps:List (Int×Value)} (h:EG es c ps):(ps.map (·.1)).Nodup:=by have h1:=h.perm.map Prod.fst;rw [List.map_map] at h1;exact h1.nodup_iff.1 h.keys
structure OC where
 c:PC
 v:Value
 l:List (PE×Value)
def OC.val (x:OC):Value:= .agg (x.c.cs x.v).toArray
def OC.pr (x:OC):Int×Value:=(x.c.num,x.val)
abbrev fh (x:OC):ak:=gY x.v x.l
structure OM (es:List En) (k:Nat) (xs:List OC) (cs:List PC):Prop where
 ents:EG es k (xs.map OC.pr)
 data:xs.map (·.c)=cs
 own:∀x∈xs,x.l.map (·.1)=x.c.es
def omap (m:Nat) (cs:List PC):ak:=λh=>∃es k xs,OM es k xs cs/\(ao m es k*bw fh xs) h
theorem fi {w0 w:World} {A:ak} {m:Nat} {cs:List PC} (s:St w0 (A*omap m cs) w):∃es k xs,OM es k xs cs/\St w0 (A*ao m es k*bw fh xs) w:=by obtain ⟨g,h1,h2,h3,d,e,a,es,k,xs,hE,b⟩:=s.holds;exact ⟨es,k,xs,hE,(s.of ⟨g,h1,h2,h3,d,e,a,b⟩).to (au _ _ _).symm⟩
theorem bG {w0 w:World} {A:ak} {m:Nat} {cs:List PC} {es:List En} {k:Nat} {xs:List OC} (hE:OM es k xs cs) (s:St w0 (A*ao m es k*bw fh xs) w):St w0 (A*omap m cs) w:=by obtain ⟨g,h1,h2,h3,d,e,a,b⟩:=(s.to (au _ _ _)).holds;exact s.of ⟨g,h1,h2,h3,d,e,a,es,k,xs,hE,b⟩
theorem OM.nil:OM [] 0 [] []:=⟨.nil,rfl,by simp⟩
def dH (cs:List PC) (n:Int):Option PC:=cs.find? λc=>decide (c.num=n)
def ou (cs:List PC) (n:Int):List PC:=cs.filter λc=>decide (c.num≠n)
def lX (cs:List PC) (d:PC):List PC:=cs.map λc=>if c.num=d.num then d else c
theorem cC {cs:List PC} {n:Int} {c:PC} (h:dH cs n=some c):c∈cs/\c.num=n:=⟨List.mem_of_find?_eq_some h,by simpa using List.find?_some h⟩
theorem ES {cs:List PC} {n:Int}:dH cs n=none↔∀c∈cs,c.num≠n:=by unfold dH;rw [List.find?_eq_none];simp
theorem iz {cs:List PC} (hn:(cs.map (·.num)).Nodup) {c:PC} (h:c∈cs):dH cs c.num=some c:=by
 induction cs with
 |nil=>cases h
 |cons x r ih=>
  rw [List.map_cons,List.nodup_cons] at hn;unfold dH;rw [List.find?_cons];rcases List.mem_cons.1 h with rfl|h
  ·simp
  ·have:¬x.num=c.num:=λhk=>hn.1 (List.mem_map.2 ⟨c,h,hk.symm⟩)
   rw [decide_eq_false this];exact ih hn.2 h
theorem OM.get {es:List En} {k:Nat} {xs:List OC} {cs:List PC} (h:OM es k xs cs) (n:Int):(dH cs n=none/\aZ es n=none)\/∃x∈xs,x.c.num=n/\dH cs n=some x.c/\aZ es n=some x.val/\x.l.map (·.1)=x.c.es:=by
 cases hf:dH cs n with
 |none=>
  refine .inl ⟨rfl,h.ents.none λp hp=> ?_⟩;obtain ⟨x,hx,rfl⟩:=List.mem_map.1 hp;exact ES.1 hf x.c (by rw [<-h.data];exact List.mem_map.2 ⟨x,hx,rfl⟩)
 |some c=>
  obtain ⟨h1,h2⟩:=cC hf;rw [<-h.data] at h1;obtain ⟨x,hx,rfl⟩:=List.mem_map.1 h1;exact .inr ⟨x,hx,h2,rfl,h.ents.get (List.mem_map.2 ⟨x,hx,by rw [OC.pr,h2]⟩),h.own x hx⟩
theorem wV {α:Type} (f:α->ak) {l l':List α} (h:l.Perm l'):bw f l=bw f l':=by
 induction h with
 |nil=>rfl
 |cons x _ ih=>show f x*_=f x*_;rw [ih]
 |swap x y l=>show f y*(f x*_)=f x*(f y*_);rw [<-au,gw (f y),au]
 |trans _ _ h1 h2=>exact h1.trans h2
theorem JX {α:Type} (f:α->ak) (p:α->Bool) (l:List α):bw f l=bw f (l.filter p)*bw f (l.filter λx=> !p x):=by
 induction l with
 |nil=>exact (aq _).symm
 |cons x t ih=>
  have h1:bw f (x::t)=f x*bw f t:=rfl;rw [h1,ih];cases hp:p x with
  |true=>
   rw [List.filter_cons_of_pos hp,List.filter_cons_of_neg (by simp [hp])];show _=f x*_*_;rw [au]
  |false=>
   rw [List.filter_cons_of_neg (by simp [hp]),List.filter_cons_of_pos (by simp [hp])];show _=_*(f x*_);rw [<-au,<-au,gw (f x)]
theorem LG {w0 w:World} {A:ak} {xs:List OC} (n:Int) (s:St w0 (A*bw fh xs) w):St w0 (A*bw fh (xs.filter λx=>decide (x.c.num≠n))) w:=
 (s.to (by rw [JX fh (λx=>decide (x.c.num≠n)) xs,au])).drop
theorem OM.del {es:List En} {k:Nat} {xs:List OC} {cs:List PC} (h:OM es k xs cs) (n:Int):OM (dY es n) k (xs.filter λx=>decide (x.c.num≠n)) (ou cs n) where
 ents:=by
  have:=h.ents.del n
  rwa [List.filter_map] at this
 data:=by rw [<-h.data,ou,List.filter_map];rfl
 own:=λx hx=>h.own x (List.mem_filter.1 hx).1
theorem OM.put {es:List En} {k:Nat} {xs:List OC} {cs:List PC} (h:OM es k xs cs) (x:OC) (hn:∀c∈cs,c.num≠x.c.num) (hx:x.l.map (·.1)=x.c.es):OM (es++ [⟨x.c.num,x.val,k⟩]) (k+1) (xs++ [x]) (cs++ [x.c]) where
 ents:=by
  rw [List.map_append];exact h.ents.put x.val λp hp=>by obtain ⟨y,hy,rfl⟩:=List.mem_map.1 hp;exact hn y.c (by rw [<-h.data];exact List.mem_map.2 ⟨y,hy,rfl⟩)
 data:=by rw [List.map_append,h.data];rfl
 own:=λy hy=>by
  rcases List.mem_append.1 hy with hy|hy
  ·exact h.own y hy
  ·rw [List.mem_singleton.1 hy];exact hx
def LY (xs:List OC) (x:OC):List OC:=xs.map λy=>if y.c.num=x.c.num then x else y
theorem qQ {x:OC}:∀{xs:List OC},(xs.map λy=>y.c.num).Nodup->(∃y∈xs,y.c.num=x.c.num)->(LY xs x).Perm (x::xs.filter λy=>decide (y.c.num≠x.c.num))
 | [],_,h=>by obtain ⟨_,h,_⟩:=h;cases h
 |y::t,hn,h=>by
  rw [List.map_cons,List.nodup_cons] at hn;unfold LY;rw [List.map_cons]
  by_cases e:y.c.num=x.c.num
  ·rw [if_pos e,List.filter_cons_of_neg (by simp [e])]
   have hne:∀z∈t,z.c.num≠x.c.num:=λz hz hh=>hn.1 (List.mem_map.2 ⟨z,hz,hh.trans e.symm⟩);have e2:t.map (λy=>if y.c.num=x.c.num then x else y)=t:=(List.map_congr_left λz hz=>if_neg (hne z hz)).trans (List.map_id t);rw [List.filter_eq_self.2 λz hz=>by simpa using hne z hz,e2]
  ·rw [if_neg e,List.filter_cons_of_pos (by simp [e])]
   obtain ⟨z,hz,hh⟩:=h;have hz:z∈t:=by rcases List.mem_cons.1 hz with rfl|hz;exact absurd hh e;exact hz
   exact ((qQ hn.2 ⟨z,hz,hh⟩).cons y).trans (.swap _ _ _)
theorem OM.lM {es:List En} {k:Nat} {xs:List OC} {cs:List PC} (h:OM es k xs cs) (x:OC) (hc:dH cs x.c.num≠none) (hx:x.l.map (·.1)=x.c.es):OM (mT es x.c.num x.val) k (LY xs x) (lX cs x.c) where
 ents:=by
  rcases h.get x.c.num with ⟨h1,_⟩|⟨y,hy,h1,h2,h3,h4⟩
  ·exact absurd h1 hc
  have:=h.ents.lM (v:=x.val) h3;refine this.of ?_;have hp:=(qQ (x:=x) (by have:=h.ents.nodup;rw [List.map_map] at this;exact this) ⟨y,hy,h1⟩).map OC.pr;refine .trans (.of_eq ?_) hp.symm;rw [List.map_cons,List.filter_map];rfl
 data:=by rw [<-h.data,LY,lX,List.map_map,List.map_map];refine List.map_congr_left λy hy=> ?_;simp only [Function.comp];split<;>rfl
 own:=λy hy=>by
  obtain ⟨z,hz,rfl⟩:=List.mem_map.1 hy;split
  ·exact hx
  ·exact h.own z hz
theorem V5 {w0 w:World} {A:ak} {xs:List OC} {x:OC} (hn:(xs.map λy=>y.c.num).Nodup) (hy:∃y∈xs,y.c.num=x.c.num) (s:St w0 (A*bw fh xs*fh x) w):St w0 (A*bw fh (LY xs x)) w:=by rw [wV fh (qQ hn hy)];have s:=LG x.c.num s.swap;exact s.to (au _ _ _)
end Go.HL.St1
