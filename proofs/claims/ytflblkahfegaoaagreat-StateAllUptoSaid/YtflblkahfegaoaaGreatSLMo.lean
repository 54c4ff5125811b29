/- Part 15. -/
import Derived.Test.YtflblkahfegaoaaGreatSLMn
import Derived.Lib.Bytealg
set_option linter.unusedSimpArgs false
set_option linter.unusedVariables false
set_option maxRecDepth 4000
namespace Go.HL.Nm
open Go.HL Go.Proofs
end Go.HL.Nm
namespace Go.HL.Nm
open Go.HL
def iva (b:UInt8):Bool:=decide (128<=b.toNat)&&decide (b.toNat<=191)
def lead:List Int->List UInt8
 | []=> []
 |u::us=>if 2097280<=u/\u<=2097343 then UInt8.ofNat (u.toNat -2097152)::lead us else []
def aZa:List Int->Prop
 | []=>True
 |u::us=>(2097152<=u->bJ (UInt8.ofNat (u.toNat -2097152)::lead us)=(u,1))/\aZa us
structure jua (f:Int->List Int):Prop where
 bad:∀u,2097152<=u->f u= [u]
 fine:∀u,u<2097152->f u≠ []/\∀x∈f u,x<2097152
def noP:List Int->Prop
 |a::b::r=>¬(a=114/\b=110)/\¬(a=118/\b=118)/\noP (b::r)
 |_=>True
end Go.HL.Nm
namespace Go.HL.Pu
open Go.HL Go.HL.Nm Go.Proofs
theorem uY {k:List UInt8}:∀{ks:List (List UInt8)} {j n:Nat},jv k ks j=some n->j<=n/\ks[n -j]?=some k
 | [],_,_,h=>by cases h
 |x::r,j,n,h=>by
  simp only [jv] at h;split at h
  ·rename_i e
   cases h;simp [e]
  ·obtain ⟨h1,h2⟩:=uY h
   refine ⟨by omega,?_⟩;have:n -j=(n -(j+1))+1:=by omega
   rw [this,List.getElem?_cons_succ];exact h2
theorem uX {k:List UInt8}:∀{ks:List (List UInt8)} {j:Nat},jv k ks j=none->k∉ks
 | [],_,_=>by simp
 |x::r,j,h=>by
  simp only [jv] at h;split at h
  ·cases h
  ·rename_i e
   simp only [List.mem_cons,not_or];exact ⟨e,uX h⟩
theorem Kz (k:List UInt8) (ks:List (List UInt8)):tI k ks=true↔k∈ks:=by
 unfold tI;cases h:jv k ks 0 with
 |none=>simpa using uX h
 |some n=>
  obtain ⟨_,h2⟩:=uY h
  simpa using List.mem_of_getElem? h2
def strs (l:List Ac):List Value:=l.map λx=> .string (mk x.name)
def jwa (x:List UInt8) (l:List Ac):Bool:=l.any λr=>decide (gU r.name=gU x)
structure Gd (rows:List Ac):Prop where
 len:1<=rows.length/\rows.length<=64
 names:∀i,(h:i<rows.length)->rows[i].name.length<=1048576
 keys:(keys rows).Nodup
def iNa (l:List Int) (i:Int):Bool:=l.any λn=>decide (n=i)
def Zi (S:World->Prop):List Value->World->Prop
 | [],w=>S w
 |r::_,w=>r= .bool true/\S w
@[simp] theorem Zj (S:World->Prop) (w:World):Zi S [] w=S w:=rfl
@[simp] theorem W9 (S:World->Prop) (v:Value) (l:List Value) (w:World):Zi S (v::l) w=(v= .bool true/\S w):=rfl
def sps (l:List Sp):List Value:=l.flatMap Sp.cs
end Go.HL.Pu
namespace Go.HL.Es
open Go.HL Go.Proofs
def dda:Rw:=(-71,71)
def iGa (v:Value) (l:List Rw):al:=λh=>∃g cap,v= .slice (some ⟨g,0,none⟩) l.length cap/\l.length+1<=cap/\cap<=maxLen/\own 231 2 (.slice (some ⟨g,0,none⟩) (l.length+1) cap) (l.length+1) (Dz (l++ [dda])) h
def jza (X:World->Prop) (Y:Nat->World->Prop) (Z:Value->World->Prop):List Value->World->Prop
 | [],w=>X w
 | [v],w=>∃c,v= .slice (some ⟨c,0,none⟩) 1 1/\Y c w
 |_::v::_,w=>Z v w
abbrev kIa (g:Nat):al:=pt g (.cells #[.int .i64 5,.int .i64 6,.int .i64 7,.int .i64 (-71)] 3 (0,0))
end Go.HL.Es
namespace Go.HL.Pu
open Go.HL Go.HL.Nm Go.Proofs
end Go.HL.Pu
namespace Go.HL.Es
open Go.HL Go.Proofs Go.Deep
structure Ew where
 x:Et
 pr:Int
 wv:Value
def Ew.cs (e:Ew):List Value:=e.x.cs e.pr e.wv
def az (l:List Ew):List Value:=l.flatMap Ew.cs
section
variable {H:Type} {enc:TypeId×Value->H} {W:World} {base:Nat} {spare:Nat->Bool} {held:Bool} {fuel:Nat} {cs:List Value} {x:DataW H×List MemPlace}
end
structure Gp where
 lim:Int
 va:Value
 accs:List Pu.Ac
 sup:Int
 most:Int
 vi:Value
 ae:List Gd.It
 vr:Value
 rows:List Rw
def Gp.cs (b:Gp):List Value:= [.int .i64 b.lim,b.va,.int .u64 b.sup,.int .i64 b.most,b.vi,b.vr]
structure Gp.ok (b:Gp) (w0:World) (A:al):Prop where
 lim: -9223372036854775808<=b.lim/\b.lim<=9223372036854775807
 most: -9223372036854775808<=b.most/\b.most<=9223372036854775807
 sup:0<=b.sup/\b.sup<18446744073709551616
 accs:Row w0 A b.va b.accs.length 2 (Pu.flat b.accs)
 ae:Row w0 A b.vi b.ae.length 4 (Gd.flat b.ae)
 rows:Row w0 A b.vr b.rows.length 2 (Dz b.rows)
 laccs:b.accs.length<=1048576
 lits:b.ae.length<=1048576
 lrows:b.rows.length<=1048576
 each:∀x∈b.accs,x.name.length<=1048576/\0<=x.ab/\x.ab<18446744073709551616
 eachR:∀r∈b.rows,(-9223372036854775808<=r.1/\r.1<9223372036854775808)/\0<=r.2/\r.2<18446744073709551616
end Go.HL.Es
namespace Go.HL.Es
open Go.HL Go.Proofs
abbrev Tl:=Value×List Int
def tlA (_:Nat) (t:Tl):al:=own 3 1 t.1 t.2.length (Gd.ints t.2)
def a9a (T:Nat->Tl) (n:Nat):List Value:=(List.range n).map λj=>(T j).1
def dHa (U:Nat->Tl) (n:Nat):List Value:=(List.range n).map λj=>(U (j /2)).1
abbrev kDa (A:al) (p g s:Nat) (lg:Int) (E:bD) (T U:Nat->Tl) (i:Nat) (all was:Value):al:=
 A*aV p g s lg E*Y9 tlA T (2*i)*Y9 tlA U i*own 32 1 all (2*i) (a9a T (2*i))*own 32 1 was (2*i) (dHa U (2*i))
def gN:List Gf->Int
 | []=>0
 |x::t=>x.ab+gN t
def toK (k:Int):List Gf->Int
 | []=>0
 |x::t=>(if x.to=k then x.ab else 0)+toK k t
theorem dY:∀a b:List Gf,gN (a++b)=gN a+gN b
 | [],b=>by simp [gN]
 |x::t,b=>by simp only [List.cons_append,gN,dY t b];omega
structure J (c:Int) (E0 E:bD) (B:List Gf):Prop where
 len:E.P.rows.length=E0.P.rows.length
 name:∀k,k<E0.P.rows.length->(E.P.rows.getD k ⟨[],0⟩).name=(E0.P.rows.getD k ⟨[],0⟩).name
 bR:∀k,k<E0.P.rows.length->Pu.bR E.P.rows k+toK k B=Pu.bR E0.P.rows k
 ck:ck E.l c=gN B
 ilen:E.ae.length=E0.ae.length
 free:∀i,i<E0.ae.length->(∀x∈B,x.item≠(i:Int)+1)->E.ae[i]?=E0.ae[i]?
 held:∀x∈B,x.item≠0->∃(i:Nat) (n k:Int),x.item=(i:Int)+1/\E0.ae[i]?=some ⟨n,k,x.to,0⟩/\E.ae[i]?=some ⟨n,k,-1,c⟩
 once:B.Pairwise λx y=>x.item≠0->x.item≠y.item
 each:∀x∈B,Pu.dz E0.P.rows x.to=0/\0<=x.ab/\(x.item≠0\/0<x.ab)
def fsa (x:Et):List Gf:=(if x.item≠0 then [⟨x.acc,x.item,0⟩] else [])++(if x.ab≠0 then [⟨x.acc,0,x.ab⟩] else [])
theorem gn {c:Int} {x:Et} {E:bD} (h:(aK c x E).1=0):(Pu.aA E.P x.acc).2=0/\(x.item≠0->(Gd.aA E.ae x.item).2=0/\(Gd.aA E.ae x.item).1.bp=0/\(Gd.aA E.ae x.item).1.acc=x.acc)/\(Pu.bz E.P x.acc x.ab).1=0/\
  aK c x E=(0,⟨(Pu.bz E.P x.acc x.ab).2,if x.item≠0 then (Gd.ff E.ae x.item c).2 else E.ae,fR c (ck E.l c+x.ab) E.l⟩):=by
 unfold aK at h⊢
 split at h
 ·cases h
 rename_i h1;split at h
 ·cases h
 rename_i h2;split at h
 ·rename_i h3;exact absurd h h3
 rename_i h3;rw [if_neg h1,if_neg h2,if_neg h3];refine ⟨by simpa using h1,λhi=> ?_,by simpa using h3,rfl⟩;refine ⟨?_,?_,?_⟩
 ·by_cases q:(Gd.aA E.ae x.item).2=0
  ·exact q
  ·exact absurd ⟨hi,.inl q⟩ h2
 ·by_cases q:(Gd.aA E.ae x.item).1.bp=0
  ·exact q
  ·exact absurd ⟨hi,.inr (.inl q)⟩ h2
 ·by_cases q:(Gd.aA E.ae x.item).1.acc=x.acc
  ·exact q
  ·exact absurd ⟨hi,.inr (.inr q)⟩ h2
theorem Ra {P:Pu.Ps} {n c:Int} (h:(Pu.bz P n c).1=0):Pu.dz P.rows n=0/\c<=Pu.bR P.rows n.toNat/\Pu.bz P n c=(0,{P with held:=P.held+c,rows:=Pu.bM P.rows n.toNat (Pu.bR P.rows n.toNat -c)}):=by
 unfold Pu.bz at h⊢
 split at h
 ·rename_i h1
  split at h
  ·cases h
  ·rename_i h2
   rw [if_pos h1,if_neg h2];exact ⟨h1,by omega,rfl⟩
 ·cases h
abbrev jxa (A:al) (p g s:Nat) (lg:Int) (E0 E:bD) (B:List Gf) (was things back:Value):al:=
 A*own 139 2 was E0.P.rows.length (Pu.flat E0.P.rows)*own 123 4 things E0.ae.length (Gd.flat E0.ae)*aV p g s lg E*own 90 3 back B.length (ic B)
end Go.HL.Es
namespace Go.HL.St1
open Go.HL Go.HL.Tl Go.HL.Sr Go.HL.Es Go.Proofs
attribute [local irreducible] aI
def rF (to:PE->Int) (e:PE):List Gf:=(if e.item=0 then [] else [⟨to e,e.item,0⟩])++(if e.ab=0 then [] else [⟨to e,0,e.ab⟩])
def gT (to:PE->Int) (es:List PE):List Gf:=es.flatMap (rF to)
abbrev eM (b:Nat) (e:PE) (v:Value):al:=pt b (.cells (e.cs v).toArray 34 (0,0))
abbrev bI (b:Nat) (c:PC) (v:Value):al:=pt b (.cells (c.cs v).toArray 37 (0,0))
abbrev cm (v:Value) (gs:List Gf):al:=own 90 3 v gs.length (ic gs)
theorem zo (to:PE->Int) (e:PE):(rF to e).length<=2:=by unfold rF;split<;>split<;>simp
theorem kD (to:PE->Int) (es:List PE):(gT to es).length<=2*es.length:=by
 induction es with
 |nil=>simp [gT]
 |cons e t ih=>
  have:=zo to e;simp only [gT,List.flatMap_cons,List.length_append,List.length_cons] at ih⊢;omega
structure BJ (w0:World) (A:al) (f:FuncId) (cap:List Value) (to:PE->Int):Prop where
 body:bZ Tryz.prog f=true
 call:∀(e:PE) (v:Value) (G:al) (w:World),St w0 (A*G) w->ak Tryz.prog f (.agg (e.cs v).toArray::cap) (λr w'=>r= .int .i64 (to e)/\St w0 (A*G) w') w
def cVa:Nat->PO
 |0=> .lenL
 |1=>(.bin .lss)
 |2=>(.idxL 5)
 |3=>(.fld 1)
 |4=>(.bin .neq)
 |5=>(.build #[(.int .i64 0),(.int .i64 0),(.int .u64 0)] [(0,1),(1,1),(2,1)] [0,1])
 |6=>(.fld 2)
 |7=>(.build #[(.int .i64 0),(.int .i64 0),(.int .u64 0)] [(0,1),(1,1),(2,1)] [0,2])
 |8=>(.bin .add)
 |9=>(.fld 4)
 |10=>(.fld 0)
 |_=> .same
def aQa:Nat->EO
 |0=>(.ld true 5)
 |1=>(.new 34 (.agg #[(.int .i64 0),(.int .i64 0),(.int .u64 0),(.int .u64 0),(.slice none 0 0)]))
 |2=>(.st 5)
 |3=>(.ld false 1)
 |4=> .callv
 |5=>(.bsl 90 1 3 #[(.int .i64 0),(.int .i64 0),(.int .u64 0)] [0])
 |6=>(.app 44 44 90 3 24 (.agg #[(.int .i64 0),(.int .i64 0),(.int .u64 0)]))
 |7=>(.box 34)
 |_=> .an
def e9a:Nat->Value
 |0=>(.slice none 0 0)
 |1=>(.int .i64 0)
 |2=>(.int .u64 0)
 |3=>(.int .i64 1)
 |_=>undef
def HW:dk:=⟨cVa,aQa,e9a⟩
def g1a:ai:=⟨[0,1,2,6,8,9,10,11],41,[.slot 3],aW HW [] 0x39e6fff74000edbb99dcdd5d43407e87d43407eade68bc0a628bbee2dd1100c910d0006d32442e07172442e07d311060f1106cb340113110017b71b5750b3118d42cc4d311060f1106a2f0298a2efb8b74440324434001b4c910b8145c910b8174c440c3c440f2cd0044c44005edc6d5d41cc4635073134c440c3c440e7ee28b7e04cb3e024c1d3d1d014203d1d0142068bc2bc071b57d1901c163d1901c102771a659d92047571080190085c42027dd2003⟩
theorem Pt:aj S1 282 400=some g1a:=by kernel_rfl
def g2a:ai:=⟨[0,1,3],6,[.slot 2],aW HW [] 0x39bffef7cc2d3107e0f107e9e2dd2042f07⟩
theorem Pv:aj S1 283 400=some g2a:=by kernel_rfl
def g3a:ai:=⟨[0,1,3],6,[.slot 2],aW HW [] 0x39bffef7cc2d310460f10469e2dd2042f07⟩
theorem Pw:aj S1 284 400=some g3a:=by kernel_rfl
def g4a:ai:=⟨[0,1,2],5,[.slot 2],aW HW [] 0xe6fffbdf30b4c412810f104afe2699d92042cc1f07⟩
theorem Px:aj S1 285 400=some g4a:=by kernel_rfl
theorem gga (w0:World) (A:al):BJ w0 A 285 [] PE.acc:=by
 refine ⟨by kernel_rfl,λe v G w s=> ?_⟩;refine go Px ?_
 repeat' (first|contradiction|refine aX ?_|refine bU (λh=> ?_) (λh=> ?_)|refine qq (λh=> ?_) (λh=> ?_)|refine kP λw s=> ?_|refine gY λb w s=> ?_|refine ft λb w s=> ?_|refine kL ?_|refine wG (λh=> ?_) (λh=> ?_)|refine yk ?_|refine wz ?_|refine λw (s:St _ _ w)=> ?_)
 exact s.an
theorem bfa (w0:World) (A:al) (b:Nat) (c:PC) (cv:Value):BJ w0 (A*pt b (.cells (c.cs cv).toArray 37 (0,0))) 283 [.pointer (some ⟨b,0,none⟩)] (λ_=>c.to'):=by
 refine ⟨by kernel_rfl,λe v G w s=> ?_⟩;refine go Pv ?_
 repeat' (first|contradiction|refine aX ?_|refine bU (λh=> ?_) (λh=> ?_)|refine qq (λh=> ?_) (λh=> ?_)|refine kP λw s=> ?_|refine gY λb w s=> ?_|refine ft λb w s=> ?_|refine kL ?_|refine wG (λh=> ?_) (λh=> ?_)|refine yk ?_|refine wz ?_|refine λw (s:St _ _ w)=> ?_)
 exact s.an
theorem bga (w0:World) (A:al) (b:Nat) (c:PC) (cv:Value):BJ w0 (A*pt b (.cells (c.cs cv).toArray 37 (0,0))) 284 [.pointer (some ⟨b,0,none⟩)] (λ_=>c.by'):=by
 refine ⟨by kernel_rfl,λe v G w s=> ?_⟩;refine go Pw ?_
 repeat' (first|contradiction|refine aX ?_|refine bU (λh=> ?_) (λh=> ?_)|refine qq (λh=> ?_) (λh=> ?_)|refine kP λw s=> ?_|refine gY λb w s=> ?_|refine ft λb w s=> ?_|refine kL ?_|refine wG (λh=> ?_) (λh=> ?_)|refine yk ?_|refine wz ?_|refine λw (s:St _ _ w)=> ?_)
 exact s.an
def RF (fl:Nat):RT:=
 .eff (.ld true 5) (.cons (.inp 4) .nil) (.eff .callv (.cons (.inp 1) (.cons (.bv 0) .nil)) (.chk none (.fld fl) (.cons (.inp 4) .nil) (.eff (.ld false 1) (.cons (.op (.fld fl) (.cons (.inp 4) .nil)) .nil)
  (.chk none (.build #[.int .i64 0,.int .i64 0,.int .u64 0] [(0,1),(1,1),(2,1)] [0,fl]) (.cons (.bv 1) (.cons (.bv 2) .nil))
   (.eff (.bsl 90 1 3 #[.int .i64 0,.int .i64 0,.int .u64 0] [0]) (.cons (.op (.build #[.int .i64 0,.int .i64 0,.int .u64 0] [(0,1),(1,1),(2,1)] [0,fl]) (.cons (.bv 1) (.cons (.bv 2) .nil))) .nil)
    (.eff (.app 44 44 90 3 24 (.agg #[.int .i64 0,.int .i64 0,.int .u64 0])) (.cons (.inp 0) (.cons (.bv 3) .nil)) (.done [(0,.bv 4)] none)))))))
def SP (to:PE->Int) (e:PE) (fl:Nat):Gf:=if fl=1 then ⟨to e,e.item,0⟩ else ⟨to e,0,e.ab⟩
theorem CC (fl:Nat) (hfl:fl=1\/fl=2) {f:FuncId} {cap:List Value} {to:PE->Int} {e:PE} {v v2 v3 v5 v6 v7 lv:Value} {p:Nat} {gs:List Gf} {w0 w:World} {A:al} {Q:EX->List Value->World->Prop} (hT:BJ w0 A f cap to) (hg:gs.length<=4194304)
  (t:St w0 (A*eM p e v*cm lv gs) w) (hk:∀u w',St w0 (A*eM p e v*cm u (gs++ [SP to e fl])) w'->Q .nrm [u,.func (.func f) #[] cap.toArray,v2,v3,.pointer (some ⟨p,0,none⟩),v5,v6,v7] w'):
  (HC.regq (.some 2) (RF fl)).wp S1 Q [lv,.func (.func f) #[] cap.toArray,v2,v3,.pointer (some ⟨p,0,none⟩),v5,v6,v7] w:=by
 obtain ⟨gf,hgf⟩:∃gf,SP to e fl=gf:=⟨_,rfl⟩;rw [hgf] at hk;obtain ⟨C,hC⟩:∃C:List Value->World->Prop,C=λvs w=>match vs with
  | []=>St w0 (A*eM p e v*cm lv gs) w
  | [r]=>r= .int .i64 (to e)/\St w0 (A*eM p e v*cm lv gs) w
  | [_,x]=>∃k,x= .slice (some ⟨k,0,none⟩) 1 1/\St w0 (A*eM p e v*cm lv gs*pt k (.cells gf.cs.toArray 90 (0,0))) w
  |_::_::u::_=>St w0 (A*eM p e v*cm u (gs++ [gf])) w:=⟨_,rfl⟩
 have hp:∀vs w,C vs w->∀j u,(e.cs v)[j]?=some u->w.cell? ⟨p,0+j,none⟩=some u:=λvs w h j u hu=>by
  rw [hC] at h;rcases vs with _|⟨r,_|⟨x,_|⟨y,t⟩⟩⟩
  ·exact (h.at p).ah j u hu
  ·exact (h.2.at p).ah j u hu
  ·obtain ⟨k,_,h⟩:=h;exact (h.at p).ah j u hu
  ·exact (h.at p).ah j u hu
 rcases hfl with rfl|rfl
 all_goals
  unfold RF;refine wk C (by rw [hC];exact t.drew) ?_;refine r5 (us:=e.cs v) hp ?_;refine ir (λw h=> ?_) (λr ⟨w,h⟩=> ?_)
  ·rw [hC] at h
   refine bO hT.body ((hT.call e v _ w (h.to (aw _ _ _))).mono ?_);rintro _ w ⟨rfl,h⟩;rw [hC];exact ⟨rfl,h.to (aw _ _ _).symm⟩
  rw [hC] at h;obtain ⟨rfl,_⟩:=h
  first|refine jF (v:= .int .i64 e.item) (λvs w h=>by have:=hp vs w h 1 _ rfl;simpa using this) ?_|refine jF (v:= .int .u64 e.ab) (λvs w h=>by have:=hp vs w h 2 _ rfl;simpa using this) ?_
  refine ir (λw h=> ?_) (λr ⟨w,h⟩=> ?_)
  ·rw [hC] at h
   refine Eq.mp (congrArg (λx=>aI _ _ [x] _ _) (show Value.agg gf.cs.toArray=_ by rw [<-hgf];rfl)) ?_;refine cx (v:= .agg gf.cs.toArray) h.2 rfl λk w h=> ?_;rw [hC];exact ⟨k,rfl,h⟩
  rw [hC] at h;obtain ⟨k,rfl,_⟩:=h;refine ir (λw h=> ?_) (λr ⟨w,h⟩=> ?_)
  ·rw [hC] at h
   obtain ⟨k',ek,h⟩:=h;cases ek;refine bE (m:=1) (news:=gf.cs) h.swap rfl (by simpa using h.aJ) (Fq _) (by decide) rfl (by unfold maxLen;omega) (by omega) λu w h=> ?_;rw [hC];have e1:ic gs++gf.cs=ic (gs++ [gf]):=by simp [ic]
   rw [e1] at h;have h:St w0 (A*eM p e v*pt k (.cells gf.cs.toArray 90 (0,0))*cm u (gs++ [gf])) w:=by simpa [cm] using h
   exact h.an
  intro w h;rw [hC] at h;exact hk _ _ h
theorem qL (f:FuncId) (cap:List Value) (to:PE->Int) (es:List PE) (cv gv:Value) (wvs:List Value) (gs:List Gf) (w0 w:World) (A:al) (hT:BJ w0 A f cap to) (hlen:es.length<=1048576) (hg:gs.length<=1048576) (hcv:CV w0 A cv wvs es) (s:St w0 (A*cm gv gs) w):
  ak Tryz.prog 282 [gv,.func (.func f) #[] cap.toArray,cv] (λr w'=>St w0 (A*cm r (gs++gT to es)) w') w:=by
 have hwl:=hcv.len;obtain ⟨ca,cn,rfl⟩:=hcv.row.val;refine go Pt ?_;refine pT [0,4,7] (λx w=>∃(i:Nat) (lv o:Value),x= [lv,o,.int .i64 i]/\i<=es.length/\St w0 (A*cm lv (gs++gT to (es.take i))) w)
  (λenv _=>es.length -ax env 7) ⟨0,gv,_,rfl,by omega,by simpa [gT] using s⟩ ?_
 rintro LQ _ w ⟨i,lv,o,rfl,hi,t⟩ hN hX hR;simp;refine bU (λk=> ?_) (λk=> ?_)
 ·have k:i<es.length:=by simpa using k
  obtain ⟨g1,o1,c1',e1,k1⟩:=hcv.row.at (by omega);cases e1;have i1:i<wvs.length:=by omega
  have z1:i<(es.zip wvs).length:=by simp;omega
  obtain ⟨e,hee⟩:∃e,es[i]=e:=⟨_,rfl⟩;obtain ⟨v,hv⟩:∃v,wvs[i]=v:=⟨_,rfl⟩;have hv1:v.oneCell'=true:=by have:=hcv.each i i1 k;rw [hv] at this;obtain ⟨_,_,rfl⟩:=this.val;rfl
  have y1:(es.zip wvs)[i]=(e,v):=by simp [hee,hv]
  refine ⟨by simp,?_⟩;simp [k];refine aB (vs:=e.cs v) (λj u hu=>by rw [Nat.add_assoc];exact k1 _ t.an _ _ (cO z1 j u (by rw [y1];exact hu))) rfl ?_;simp;refine ft λp w t=> ?_;refine aO (cs':=(e.cs v).toArray) (h1:=cV _ _ hv1) λw t=> ?_;refine aX ?_;clear hX hR;have hgl:=kD to (es.take i);have htk:(es.take i).length=i:=by simp;omega
  have hst:gT to (es.take (i+1))=gT to (es.take i)++rF to e:=by rw [List.take_succ_eq_append_getElem k,hee];simp [gT]
  have t:St w0 (A*eM p e v*cm lv (gs++gT to (es.take i))) w:=t.an;have hG:(gs++gT to (es.take i)).length<=4194303:=by rw [List.length_append];omega
  obtain ⟨G,eG⟩:∃G,gs++gT to (es.take i)=G:=⟨_,rfl⟩;rw [eG] at t hG;refine bU (λq1=> ?c1) (λq1=> ?c2)
  case' c1=>
   refine CC 1 (.inl rfl) hT (by omega) t λu w t=> ?_;simp;have hE:rF to e= [SP to e 1]++(if e.ab=0 then [] else [SP to e 2]):=by simp [rF,q1,SP]
  case' c2=>
   have hE:rF to e= []++(if e.ab=0 then [] else [SP to e 2]):=by simp [rF,q1,SP]
  all_goals
   refine aX ?_;refine bU (λq2=> ?_) (λq2=> ?_)
   ·refine CC 2 (.inr rfl) hT (by first|omega|(simp;omega)) t λu w t=> ?_
    rw [if_neg q2] at hE
    try simp
    simp (disch:=omega) only [wrap64];refine hN [_,_,.int .i64 (i+1)] _ ⟨i+1,_,_,rfl,by omega,?_⟩ (by simp [ax];omega);rw [hst,<-List.append_assoc,eG,hE];simp only [List.nil_append,List.append_nil,<-List.append_assoc];exact t.an
   ·rw [if_pos q2] at hE
    try simp
    simp (disch:=omega) only [wrap64];refine hN [_,_,.int .i64 (i+1)] _ ⟨i+1,_,_,rfl,by omega,?_⟩ (by simp [ax];omega);rw [hst,<-List.append_assoc,eG,hE];simp only [List.nil_append,List.append_nil,<-List.append_assoc];exact t.an
 ·refine hX _ _ _ ?_
  obtain rfl:i=es.length:=by omega
  rw [List.take_length] at t;simp;exact t
end Go.HL.St1
namespace Go.HL.St1
open Go.HL Go.HL.Tl Go.HL.Sr Go.HL.Es Go.Proofs
structure EG (es:List En) (c:Nat) (ps:List (Int×Value)):Prop where
 perm:(es.map wh).Perm ps
 keys:(es.map (·.k)).Nodup
 borns:(es.map (·.b)).Nodup
 clock:∀e∈es,e.b<c
theorem EG.len {es:List En} {c:Nat} {ps:List (Int×Value)} (h:EG es c ps):es.length=ps.length:=by have:=h.perm.length_eq;simpa using this
theorem EG.get {es:List En} {c:Nat} {ps:List (Int×Value)} (h:EG es c ps) {k:Int} {v:Value} (hm:(k,v)∈ps):dp es k=some v:=get_mem h.keys (h.perm.mem_iff.2 hm)
theorem EG.none {es:List En} {c:Nat} {ps:List (Int×Value)} (h:EG es c ps) {k:Int} (hm:∀p∈ps,p.1≠k):dp es k=none:=get_none λe he hk=>hm (wh e) (h.perm.mem_iff.1 (List.mem_map.2 ⟨e,he,rfl⟩)) hk
theorem EG.nil:EG [] 0 []:=⟨.refl _,by simp,by simp,by simp⟩
theorem EG.del {es:List En} {c:Nat} {ps:List (Int×Value)} (h:EG es c ps) (k:Int):EG (py es k) c (ps.filter λx=>decide (x.1≠k)) where
 perm:=by rw [zg h.keys];exact h.perm.filter _
 keys:=h.keys.sublist ((Es.jX es k).map _)
 borns:=h.borns.sublist ((Es.jX es k).map _)
 clock:=λe he=>h.clock e ((Es.jX es k).subset he)
theorem EG.put {es:List En} {c:Nat} {ps:List (Int×Value)} (h:EG es c ps) {k:Int} (v:Value) (hl:∀p∈ps,p.1≠k):EG (es++ [⟨k,v,c⟩]) (c+1) (ps++ [(k,v)]) where
 perm:=by rw [List.map_append];exact h.perm.append (.refl _)
 keys:=by rw [List.map_append,List.nodup_append];refine ⟨h.keys,by simp,?_⟩;intro a ha b hb;simp only [List.map_cons,List.map_nil,List.mem_singleton] at hb;subst hb;rintro rfl;obtain ⟨e,he,he2⟩:=List.mem_map.1 ha;exact hl (wh e) (h.perm.mem_iff.1 (List.mem_map.2 ⟨e,he,rfl⟩)) he2
 borns:=by rw [List.map_append,List.nodup_append];refine ⟨h.borns,by simp,?_⟩;intro a ha b hb;simp only [List.map_cons,List.map_nil,List.mem_singleton] at hb;subst hb;rintro rfl;obtain ⟨e,he,he2⟩:=List.mem_map.1 ha;have:=h.clock e he;omega
 clock:=by
  intro e he;rcases List.mem_append.1 he with he|he
  ·have:=h.clock e he;omega
  ·simp only [List.mem_singleton] at he;subst he;simp
theorem EG.lK {es:List En} {c:Nat} {ps:List (Int×Value)} (h:EG es c ps) {k:Int} {v u:Value} (hn:dp es k=some u):EG (od es k v) c ((k,v)::ps.filter λx=>decide (x.1≠k)) where
 perm:=(Bo h.keys hn).trans ((h.perm.filter _).cons _)
 keys:=by rw [ri];exact h.keys
 borns:=by rw [ka];exact h.borns
 clock:=by
  intro e he;have:e.b∈es.map (·.b):=by rw [<-ka es k v];exact List.mem_map.2 ⟨e,he,rfl⟩
  obtain ⟨e',he',h2⟩:=List.mem_map.1 this;have:=h.clock e' he';omega
theorem EG.of {es:List En} {c:Nat} {ps qs:List (Int×Value)} (h:EG es c ps) (hp:ps.Perm qs):EG es c qs:=⟨h.perm.trans hp,h.keys,h.borns,h.clock⟩
theorem EG.nodup {es:List En} {c:Nat} {ps:List (Int×Value)} (h:EG es c ps):(ps.map (·.1)).Nodup:=by have h1:=h.perm.map Prod.fst;rw [List.map_map] at h1;exact h1.nodup_iff.1 h.keys
structure OC where
 c:PC
 v:Value
 l:List (PE×Value)
def OC.val (x:OC):Value:= .agg (x.c.cs x.v).toArray
def OC.pr (x:OC):Int×Value:=(x.c.num,x.val)
abbrev ie (x:OC):al:=iY x.v x.l
structure OM (es:List En) (k:Nat) (xs:List OC) (cs:List PC):Prop where
 ents:EG es k (xs.map OC.pr)
 data:xs.map (·.c)=cs
 own:∀x∈xs,x.l.map (·.1)=x.c.es
def omap (m:Nat) (cs:List PC):al:=λh=>∃es k xs,OM es k xs cs/\(aF m es k*ct ie xs) h
theorem fJ {w0 w:World} {A:al} {m:Nat} {cs:List PC} (s:St w0 (A*omap m cs) w):∃es k xs,OM es k xs cs/\St w0 (A*aF m es k*ct ie xs) w:=by obtain ⟨g,h1,h2,h3,d,e,a,es,k,xs,hE,b⟩:=s.holds;exact ⟨es,k,xs,hE,(s.of ⟨g,h1,h2,h3,d,e,a,b⟩).to (aw _ _ _).symm⟩
theorem b9 {w0 w:World} {A:al} {m:Nat} {cs:List PC} {es:List En} {k:Nat} {xs:List OC} (hE:OM es k xs cs) (s:St w0 (A*aF m es k*ct ie xs) w):St w0 (A*omap m cs) w:=by obtain ⟨g,h1,h2,h3,d,e,a,b⟩:=(s.to (aw _ _ _)).holds;exact s.of ⟨g,h1,h2,h3,d,e,a,es,k,xs,hE,b⟩
theorem OM.nil:OM [] 0 [] []:=⟨.nil,rfl,by simp⟩
def du (cs:List PC) (n:Int):Option PC:=cs.find? λc=>decide (c.num=n)
def qD (cs:List PC) (n:Int):List PC:=cs.filter λc=>decide (c.num≠n)
def ly (cs:List PC) (d:PC):List PC:=cs.map λc=>if c.num=d.num then d else c
theorem dn {cs:List PC} {n:Int} {c:PC} (h:du cs n=some c):c∈cs/\c.num=n:=⟨List.mem_of_find?_eq_some h,by simpa using List.find?_some h⟩
theorem oB {cs:List PC} {n:Int}:du cs n=none↔∀c∈cs,c.num≠n:=by unfold du;rw [List.find?_eq_none];simp
theorem K9 {cs:List PC} (hn:(cs.map (·.num)).Nodup) {c:PC} (h:c∈cs):du cs c.num=some c:=by
 induction cs with
 |nil=>cases h
 |cons x r ih=>
  rw [List.map_cons,List.nodup_cons] at hn;unfold du;rw [List.find?_cons];rcases List.mem_cons.1 h with rfl|h
  ·simp
  ·have:¬x.num=c.num:=λhk=>hn.1 (List.mem_map.2 ⟨c,h,hk.symm⟩)
   rw [decide_eq_false this];exact ih hn.2 h
theorem OM.get {es:List En} {k:Nat} {xs:List OC} {cs:List PC} (h:OM es k xs cs) (n:Int):(du cs n=none/\dp es n=none)\/∃x∈xs,x.c.num=n/\du cs n=some x.c/\dp es n=some x.val/\x.l.map (·.1)=x.c.es:=by
 cases hf:du cs n with
 |none=>
  refine .inl ⟨rfl,h.ents.none λp hp=> ?_⟩;obtain ⟨x,hx,rfl⟩:=List.mem_map.1 hp;exact oB.1 hf x.c (by rw [<-h.data];exact List.mem_map.2 ⟨x,hx,rfl⟩)
 |some c=>
  obtain ⟨h1,h2⟩:=dn hf;rw [<-h.data] at h1;obtain ⟨x,hx,rfl⟩:=List.mem_map.1 h1;exact .inr ⟨x,hx,h2,rfl,h.ents.get (List.mem_map.2 ⟨x,hx,by rw [OC.pr,h2]⟩),h.own x hx⟩
theorem Im {α:Type} (f:α->al) {l l':List α} (h:l.Perm l'):ct f l=ct f l':=by
 induction h with
 |nil=>rfl
 |cons x _ ih=>show f x*_=f x*_;rw [ih]
 |swap x y l=>show f y*(f x*_)=f x*(f y*_);rw [<-aw,jd (f y),aw]
 |trans _ _ h1 h2=>exact h1.trans h2
theorem Kw {α:Type} (f:α->al) (p:α->Bool) (l:List α):ct f l=ct f (l.filter p)*ct f (l.filter λx=> !p x):=by
 induction l with
 |nil=>exact (aq _).symm
 |cons x t ih=>
  have h1:ct f (x::t)=f x*ct f t:=rfl;rw [h1,ih];cases hp:p x with
  |true=>
   rw [List.filter_cons_of_pos hp,List.filter_cons_of_neg (by simp [hp])];show _=f x*_*_;rw [aw]
  |false=>
   rw [List.filter_cons_of_neg (by simp [hp]),List.filter_cons_of_pos (by simp [hp])];show _=_*(f x*_);rw [<-aw,<-aw,jd (f x)]
theorem LV {w0 w:World} {A:al} {xs:List OC} (n:Int) (s:St w0 (A*ct ie xs) w):St w0 (A*ct ie (xs.filter λx=>decide (x.c.num≠n))) w:=
 (s.to (by rw [Kw ie (λx=>decide (x.c.num≠n)) xs,aw])).drop
theorem OM.del {es:List En} {k:Nat} {xs:List OC} {cs:List PC} (h:OM es k xs cs) (n:Int):OM (py es n) k (xs.filter λx=>decide (x.c.num≠n)) (qD cs n) where
 ents:=by
  have:=h.ents.del n
  rwa [List.filter_map] at this
 data:=by rw [<-h.data,qD,List.filter_map];rfl
 own:=λx hx=>h.own x (List.mem_filter.1 hx).1
theorem OM.put {es:List En} {k:Nat} {xs:List OC} {cs:List PC} (h:OM es k xs cs) (x:OC) (hn:∀c∈cs,c.num≠x.c.num) (hx:x.l.map (·.1)=x.c.es):OM (es++ [⟨x.c.num,x.val,k⟩]) (k+1) (xs++ [x]) (cs++ [x.c]) where
 ents:=by
  rw [List.map_append];exact h.ents.put x.val λp hp=>by obtain ⟨y,hy,rfl⟩:=List.mem_map.1 hp;exact hn y.c (by rw [<-h.data];exact List.mem_map.2 ⟨y,hy,rfl⟩)
 data:=by rw [List.map_append,h.data];rfl
 own:=λy hy=>by
  rcases List.mem_append.1 hy with hy|hy
  ·exact h.own y hy
  ·rw [List.mem_singleton.1 hy];exact hx
def Md (xs:List OC) (x:OC):List OC:=xs.map λy=>if y.c.num=x.c.num then x else y
theorem qZ {x:OC}:∀{xs:List OC},(xs.map λy=>y.c.num).Nodup->(∃y∈xs,y.c.num=x.c.num)->(Md xs x).Perm (x::xs.filter λy=>decide (y.c.num≠x.c.num))
 | [],_,h=>by obtain ⟨_,h,_⟩:=h;cases h
 |y::t,hn,h=>by
  rw [List.map_cons,List.nodup_cons] at hn;unfold Md;rw [List.map_cons]
  by_cases e:y.c.num=x.c.num
  ·rw [if_pos e,List.filter_cons_of_neg (by simp [e])]
   have hne:∀z∈t,z.c.num≠x.c.num:=λz hz hh=>hn.1 (List.mem_map.2 ⟨z,hz,hh.trans e.symm⟩);have e2:t.map (λy=>if y.c.num=x.c.num then x else y)=t:=(List.map_congr_left λz hz=>if_neg (hne z hz)).trans (List.map_id t);rw [List.filter_eq_self.2 λz hz=>by simpa using hne z hz,e2]
  ·rw [if_neg e,List.filter_cons_of_pos (by simp [e])]
   obtain ⟨z,hz,hh⟩:=h;have hz:z∈t:=by rcases List.mem_cons.1 hz with rfl|hz;exact absurd hh e;exact hz
   exact ((qZ hn.2 ⟨z,hz,hh⟩).cons y).trans (.swap _ _ _)
theorem OM.lK {es:List En} {k:Nat} {xs:List OC} {cs:List PC} (h:OM es k xs cs) (x:OC) (hc:du cs x.c.num≠none) (hx:x.l.map (·.1)=x.c.es):OM (od es x.c.num x.val) k (Md xs x) (ly cs x.c) where
 ents:=by
  rcases h.get x.c.num with ⟨h1,_⟩|⟨y,hy,h1,h2,h3,h4⟩
  ·exact absurd h1 hc
  have:=h.ents.lK (v:=x.val) h3;refine this.of ?_;have hp:=(qZ (x:=x) (by have:=h.ents.nodup;rw [List.map_map] at this;exact this) ⟨y,hy,h1⟩).map OC.pr;refine .trans (.of_eq ?_) hp.symm;rw [List.map_cons,List.filter_map];rfl
 data:=by rw [<-h.data,Md,ly,List.map_map,List.map_map];refine List.map_congr_left λy hy=> ?_;simp only [Function.comp];split<;>rfl
 own:=λy hy=>by
  obtain ⟨z,hz,rfl⟩:=List.mem_map.1 hy;split
  ·exact hx
  ·exact h.own z hz
theorem V5 {w0 w:World} {A:al} {xs:List OC} {x:OC} (hn:(xs.map λy=>y.c.num).Nodup) (hy:∃y∈xs,y.c.num=x.c.num) (s:St w0 (A*ct ie xs*ie x) w):St w0 (A*ct ie (Md xs x)) w:=by rw [Im ie (qZ hn hy)];have s:=LV x.c.num s.swap;exact s.to (aw _ _ _)
end Go.HL.St1
