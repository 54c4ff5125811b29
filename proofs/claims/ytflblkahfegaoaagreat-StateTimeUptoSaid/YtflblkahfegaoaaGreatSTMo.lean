/- Part 15. -/
import Derived.Test.YtflblkahfegaoaaGreatSTMn
import Derived.Lib.Bytealg
set_option linter.unusedSimpArgs false
set_option linter.unusedVariables false
set_option maxRecDepth 4000
namespace Go.HL.Nm
open Go.HL Go.Proofs
end Go.HL.Nm
namespace Go.HL.Nm
open Go.HL
def hWa (b:UInt8):Bool:=decide (128≤b.toNat)&&decide (b.toNat≤191)
def lead:List Int→List UInt8
 | []=> []
 |u::us=>if 2097280≤u∧u≤2097343 then UInt8.ofNat (u.toNat -2097152)::lead us else []
def aoa:List Int→Prop
 | []=>True
 |u::us=>(2097152≤u→bK (UInt8.ofNat (u.toNat -2097152)::lead us)=(u,1))∧aoa us
structure iPa (f:Int→List Int):Prop where
 bad:∀u,2097152≤u→f u= [u]
 fine:∀u,u<2097152→f u≠ []∧∀x∈f u,x<2097152
def noP:List Int→Prop
 |a::b::r=>¬(a=114∧b=110)∧¬(a=118∧b=118)∧noP (b::r)
 |_=>True
end Go.HL.Nm
namespace Go.HL.Pu
open Go.HL Go.HL.Nm Go.Proofs
def strs (l:List Ac):List Value:=l.map fun x=> .string (mk x.name)
def iRa (x:List UInt8) (l:List Ac):Bool:=l.any fun r=>decide (iP r.name=iP x)
structure Gd (rows:List Ac):Prop where
 len:1≤rows.length∧rows.length≤64
 names:∀i,(h:i<rows.length)→rows[i].name.length≤1048576
 keys:(keys rows).Nodup
def ida (l:List Int) (i:Int):Bool:=l.any fun n=>decide (n=i)
def YG (S:World→Prop):List Value→World→Prop
 | [],w=>S w
 |r::_,w=>r= .bool true∧S w
@[simp] theorem YH (S:World→Prop) (w:World):YG S [] w=S w:=rfl
@[simp] theorem Wo (S:World→Prop) (v:Value) (l:List Value) (w:World):YG S (v::l) w=(v= .bool true∧S w):=rfl
def sps (l:List Sp):List Value:=l.flatMap Sp.cs
end Go.HL.Pu
namespace Go.HL.Es
open Go.HL Go.Proofs
def cCa:Rw:=(-71,71)
def h6a (v:Value) (l:List Rw):al:=fun h=>∃g cap,v= .slice (some ⟨g,0,none⟩) l.length cap∧l.length+1≤cap∧cap≤maxLen∧own 231 2 (.slice (some ⟨g,0,none⟩) (l.length+1) cap) (l.length+1) (jG (l++ [cCa])) h
def iUa (X:World→Prop) (Y:Nat→World→Prop) (Z:Value→World→Prop):List Value→World→Prop
 | [],w=>X w
 | [v],w=>∃c,v= .slice (some ⟨c,0,none⟩) 1 1∧Y c w
 |_::v::_,w=>Z v w
abbrev j1a (g:Nat):al:=pt g (.cells #[.int .i64 5,.int .i64 6,.int .i64 7,.int .i64 (-71)] 3 (0,0))
end Go.HL.Es
namespace Go.HL.Pu
open Go.HL Go.HL.Nm Go.Proofs
end Go.HL.Pu
namespace Go.HL.Es
open Go.HL Go.Proofs Go.Deep
structure Ew where
 x:Et
 pr:Int
 wv:Value
def Ew.cs (e:Ew):List Value:=e.x.cs e.pr e.wv
def aA (l:List Ew):List Value:=l.flatMap Ew.cs
section
variable {H:Type} {enc:TypeId×Value→H} {W:World} {base:Nat} {spare:Nat→Bool} {held:Bool} {fuel:Nat} {cs:List Value} {x:DataW H×List MemPlace}
end
structure FM where
 lim:Int
 va:Value
 accs:List Pu.Ac
 sup:Int
 most:Int
 vi:Value
 af:List Gd.It
 vr:Value
 rows:List Rw
def FM.cs (b:FM):List Value:= [.int .i64 b.lim,b.va,.int .u64 b.sup,.int .i64 b.most,b.vi,b.vr]
structure FM.ok (b:FM) (w0:World) (A:al):Prop where
 lim: -9223372036854775808≤b.lim∧b.lim≤9223372036854775807
 most: -9223372036854775808≤b.most∧b.most≤9223372036854775807
 sup:0≤b.sup∧b.sup<18446744073709551616
 accs:Row w0 A b.va b.accs.length 2 (Pu.flat b.accs)
 af:Row w0 A b.vi b.af.length 4 (Gd.flat b.af)
 rows:Row w0 A b.vr b.rows.length 2 (jG b.rows)
 laccs:b.accs.length≤1048576
 lits:b.af.length≤1048576
 lrows:b.rows.length≤1048576
 each:∀x∈b.accs,x.name.length≤1048576∧0≤x.ab∧x.ab<18446744073709551616
 eachR:∀r∈b.rows,(-9223372036854775808≤r.1∧r.1<9223372036854775808)∧0≤r.2∧r.2<18446744073709551616
end Go.HL.Es
namespace Go.HL.Es
open Go.HL Go.Proofs
abbrev Tl:=Value×List Int
def tlA (_:Nat) (t:Tl):al:=own 3 1 t.1 t.2.length (Gd.ints t.2)
def aya (T:Nat→Tl) (n:Nat):List Value:=(List.range n).map fun j=>(T j).1
def c9a (U:Nat→Tl) (n:Nat):List Value:=(List.range n).map fun j=>(U (j /2)).1
abbrev jWa (A:al) (p g s:Nat) (lg:Int) (E:b9) (T U:Nat→Tl) (i:Nat) (all was:Value):al:=
 A*aI p g s lg E*Yx tlA T (2*i)*Yx tlA U i*own 32 1 all (2*i) (aya T (2*i))*own 32 1 was (2*i) (c9a U (2*i))
def iV:List Gf→Int
 | []=>0
 |x::t=>x.ab+iV t
def toK (k:Int):List Gf→Int
 | []=>0
 |x::t=>(if x.to=k then x.ab else 0)+toK k t
theorem eL:∀a b:List Gf,iV (a++b)=iV a+iV b
 | [],b=>by simp [iV]
 |x::t,b=>by simp only [List.cons_append,iV,eL t b];omega
structure J (c:Int) (E0 E:b9) (B:List Gf):Prop where
 len:E.P.rows.length=E0.P.rows.length
 name:∀k,k<E0.P.rows.length→(E.P.rows.getD k ⟨[],0⟩).name=(E0.P.rows.getD k ⟨[],0⟩).name
 bP:∀k,k<E0.P.rows.length→Pu.bP E.P.rows k+toK k B=Pu.bP E0.P.rows k
 bX:bX E.l c=iV B
 ilen:E.af.length=E0.af.length
 free:∀i,i<E0.af.length→(∀x∈B,x.item≠(i:Int)+1)→E.af[i]?=E0.af[i]?
 held:∀x∈B,x.item≠0→∃(i:Nat) (n k:Int),x.item=(i:Int)+1∧E0.af[i]?=some ⟨n,k,x.to,0⟩∧E.af[i]?=some ⟨n,k,-1,c⟩
 once:B.Pairwise fun x y=>x.item≠0→x.item≠y.item
 each:∀x∈B,Pu.de E0.P.rows x.to=0∧0≤x.ab∧(x.item≠0∨0<x.ab)
def eSa (x:Et):List Gf:=(if x.item≠0 then [⟨x.acc,x.item,0⟩] else [])++(if x.ab≠0 then [⟨x.acc,0,x.ab⟩] else [])
theorem gu {c:Int} {x:Et} {E:b9} (h:(aQ c x E).1=0):(Pu.aD E.P x.acc).2=0∧(x.item≠0→(Gd.aD E.af x.item).2=0∧(Gd.aD E.af x.item).1.bA=0∧(Gd.aD E.af x.item).1.acc=x.acc)∧(Pu.bJ E.P x.acc x.ab).1=0∧
  aQ c x E=(0,⟨(Pu.bJ E.P x.acc x.ab).2,if x.item≠0 then (Gd.fC E.af x.item c).2 else E.af,fw c (bX E.l c+x.ab) E.l⟩):=by
 unfold aQ at h⊢
 split at h
 ·cases h
 rename_i h1;split at h
 ·cases h
 rename_i h2;split at h
 ·rename_i h3;exact absurd h h3
 rename_i h3;rw [if_neg h1,if_neg h2,if_neg h3];refine ⟨by simpa using h1,fun hi=> ?_,by simpa using h3,rfl⟩;refine ⟨?_,?_,?_⟩
 ·by_cases q:(Gd.aD E.af x.item).2=0
  ·exact q
  ·exact absurd ⟨hi,.inl q⟩ h2
 ·by_cases q:(Gd.aD E.af x.item).1.bA=0
  ·exact q
  ·exact absurd ⟨hi,.inr (.inl q)⟩ h2
 ·by_cases q:(Gd.aD E.af x.item).1.acc=x.acc
  ·exact q
  ·exact absurd ⟨hi,.inr (.inr q)⟩ h2
theorem Qz {P:Pu.Ps} {n c:Int} (h:(Pu.bJ P n c).1=0):Pu.de P.rows n=0∧c≤Pu.bP P.rows n.toNat∧Pu.bJ P n c=(0,{P with held:=P.held+c,rows:=Pu.bN P.rows n.toNat (Pu.bP P.rows n.toNat -c)}):=by
 unfold Pu.bJ at h⊢
 split at h
 ·rename_i h1
  split at h
  ·cases h
  ·rename_i h2
   rw [if_pos h1,if_neg h2];exact ⟨h1,by omega,rfl⟩
 ·cases h
abbrev iSa (A:al) (p g s:Nat) (lg:Int) (E0 E:b9) (B:List Gf) (was things back:Value):al:=
 A*own 139 2 was E0.P.rows.length (Pu.flat E0.P.rows)*own 123 4 things E0.af.length (Gd.flat E0.af)*aI p g s lg E*own 90 3 back B.length (iz B)
end Go.HL.Es
namespace Go.HL.St1
open Go.HL Go.HL.Tl Go.HL.Sr Go.HL.Es Go.Proofs
attribute [local irreducible] aG
def qU (to:PE→Int) (e:PE):List Gf:=(if e.item=0 then [] else [⟨to e,e.item,0⟩])++(if e.ab=0 then [] else [⟨to e,0,e.ab⟩])
def gC (to:PE→Int) (es:List PE):List Gf:=es.flatMap (qU to)
abbrev dU (b:Nat) (e:PE) (v:Value):al:=pt b (.cells (e.cs v).toArray 34 (0,0))
abbrev bC (b:Nat) (c:PC) (v:Value):al:=pt b (.cells (c.cs v).toArray 37 (0,0))
abbrev cf (v:Value) (gs:List Gf):al:=own 90 3 v gs.length (iz gs)
theorem yO (to:PE→Int) (e:PE):(qU to e).length≤2:=by unfold qU;split<;>split<;>simp
theorem j4 (to:PE→Int) (es:List PE):(gC to es).length≤2*es.length:=by
 induction es with
 |nil=>simp [gC]
 |cons e t ih=>
  have:=yO to e;simp only [gC,List.flatMap_cons,List.length_append,List.length_cons] at ih⊢;omega
structure Bc (w0:World) (A:al) (f:FuncId) (cap:List Value) (to:PE→Int):Prop where
 body:bW Tryz.prog f=true
 call:∀(e:PE) (v:Value) (G:al) (w:World),St w0 (A*G) w→ak Tryz.prog f (.agg (e.cs v).toArray::cap) (fun r w'=>r= .int .i64 (to e)∧St w0 (A*G) w') w
def cla:Nat→PO
 |0=> .lenL
 |1=>(.bin .lss)
 |2=>(.idxL 5)
 |3=>(.fld 1)
 |4=>(.bin .neq)
 |5=>(.build #[(.int .i64 0),(.int .i64 0),(.int .u64 0)] [(0,1),(1,1),(2,1)] [0,1])
 |6=>(.fld 2)
 |7=>(.build #[(.int .i64 0),(.int .i64 0),(.int .u64 0)] [(0,1),(1,1),(2,1)] [0,2])
 |8=>(.bin .add)
 |9=>(.fld 4)
 |10=>(.fld 0)
 |_=> .same
def aea:Nat→EO
 |0=>(.ld true 5)
 |1=>(.new 34 (.agg #[(.int .i64 0),(.int .i64 0),(.int .u64 0),(.int .u64 0),(.slice none 0 0)]))
 |2=>(.st 5)
 |3=>(.ld false 1)
 |4=> .callv
 |5=>(.bsl 90 1 3 #[(.int .i64 0),(.int .i64 0),(.int .u64 0)] [0])
 |6=>(.app 44 44 90 3 24 (.agg #[(.int .i64 0),(.int .i64 0),(.int .u64 0)]))
 |7=>(.box 34)
 |_=> .an
def eAa:Nat→Value
 |0=>(.slice none 0 0)
 |1=>(.int .i64 0)
 |2=>(.int .u64 0)
 |3=>(.int .i64 1)
 |_=>undef
def Hs:cX:=⟨cla,aea,eAa⟩
def gra:ai:=⟨[0,1,2,6,8,9,10,11],41,[.slot 3],aP Hs [] 0x39e6fff74000edbb99dcdd5d43407e87d43407eade68bc0a628bbee2dd1100c910d0006d32442e07172442e07d311060f1106cb340113110017b71b5750b3118d42cc4d311060f1106a2f0298a2efb8b74440324434001b4c910b8145c910b8174c440c3c440f2cd0044c44005edc6d5d41cc4635073134c440c3c440e7ee28b7e04cb3e024c1d3d1d014203d1d0142068bc2bc071b57d1901c163d1901c102771a659d92047571080190085c42027dd2003⟩
theorem OS:aj S1 282 400=some gra:=by kernel_rfl
def gsa:ai:=⟨[0,1,3],6,[.slot 2],aP Hs [] 0x39bffef7cc2d3107e0f107e9e2dd2042f07⟩
theorem OT:aj S1 283 400=some gsa:=by kernel_rfl
def gta:ai:=⟨[0,1,3],6,[.slot 2],aP Hs [] 0x39bffef7cc2d310460f10469e2dd2042f07⟩
theorem OU:aj S1 284 400=some gta:=by kernel_rfl
def gua:ai:=⟨[0,1,2],5,[.slot 2],aP Hs [] 0xe6fffbdf30b4c412810f104afe2699d92042cc1f07⟩
theorem OV:aj S1 285 400=some gua:=by kernel_rfl
theorem fGa (w0:World) (A:al):Bc w0 A 285 [] PE.acc:=by
 refine ⟨by kernel_rfl,fun e v G w s=> ?_⟩;refine go OV ?_
 repeat' (first|contradiction|refine aY ?_|refine bS (fun h=> ?_) (fun h=> ?_)|refine pT (fun h=> ?_) (fun h=> ?_)|refine jQ fun w s=> ?_|refine gI fun b w s=> ?_|refine eh fun b w s=> ?_|refine jO ?_|refine vO (fun h=> ?_) (fun h=> ?_)|refine vU ?_|refine tf ?_|refine fun w (s:St _ _ w)=> ?_)
 exact s.an
theorem aFa (w0:World) (A:al) (b:Nat) (c:PC) (cv:Value):Bc w0 (A*pt b (.cells (c.cs cv).toArray 37 (0,0))) 283 [.pointer (some ⟨b,0,none⟩)] (fun _=>c.to'):=by
 refine ⟨by kernel_rfl,fun e v G w s=> ?_⟩;refine go OT ?_
 repeat' (first|contradiction|refine aY ?_|refine bS (fun h=> ?_) (fun h=> ?_)|refine pT (fun h=> ?_) (fun h=> ?_)|refine jQ fun w s=> ?_|refine gI fun b w s=> ?_|refine eh fun b w s=> ?_|refine jO ?_|refine vO (fun h=> ?_) (fun h=> ?_)|refine vU ?_|refine tf ?_|refine fun w (s:St _ _ w)=> ?_)
 exact s.an
theorem aGa (w0:World) (A:al) (b:Nat) (c:PC) (cv:Value):Bc w0 (A*pt b (.cells (c.cs cv).toArray 37 (0,0))) 284 [.pointer (some ⟨b,0,none⟩)] (fun _=>c.by'):=by
 refine ⟨by kernel_rfl,fun e v G w s=> ?_⟩;refine go OU ?_
 repeat' (first|contradiction|refine aY ?_|refine bS (fun h=> ?_) (fun h=> ?_)|refine pT (fun h=> ?_) (fun h=> ?_)|refine jQ fun w s=> ?_|refine gI fun b w s=> ?_|refine eh fun b w s=> ?_|refine jO ?_|refine vO (fun h=> ?_) (fun h=> ?_)|refine vU ?_|refine tf ?_|refine fun w (s:St _ _ w)=> ?_)
 exact s.an
def Q1 (fl:Nat):RT:=
 .eff (.ld true 5) (.cons (.inp 4) .nil) (.eff .callv (.cons (.inp 1) (.cons (.bv 0) .nil)) (.chk none (.fld fl) (.cons (.inp 4) .nil) (.eff (.ld false 1) (.cons (.op (.fld fl) (.cons (.inp 4) .nil)) .nil)
  (.chk none (.build #[.int .i64 0,.int .i64 0,.int .u64 0] [(0,1),(1,1),(2,1)] [0,fl]) (.cons (.bv 1) (.cons (.bv 2) .nil))
   (.eff (.bsl 90 1 3 #[.int .i64 0,.int .i64 0,.int .u64 0] [0]) (.cons (.op (.build #[.int .i64 0,.int .i64 0,.int .u64 0] [(0,1),(1,1),(2,1)] [0,fl]) (.cons (.bv 1) (.cons (.bv 2) .nil))) .nil)
    (.eff (.app 44 44 90 3 24 (.agg #[.int .i64 0,.int .i64 0,.int .u64 0])) (.cons (.inp 0) (.cons (.bv 3) .nil)) (.done [(0,.bv 4)] none)))))))
def Sa (to:PE→Int) (e:PE) (fl:Nat):Gf:=if fl=1 then ⟨to e,e.item,0⟩ else ⟨to e,0,e.ab⟩
theorem Cc (fl:Nat) (hfl:fl=1∨fl=2) {f:FuncId} {cap:List Value} {to:PE→Int} {e:PE} {v v2 v3 v5 v6 v7 lv:Value} {p:Nat} {gs:List Gf} {w0 w:World} {A:al} {Q:EX→List Value→World→Prop} (hT:Bc w0 A f cap to) (hg:gs.length≤4194304)
  (t:St w0 (A*dU p e v*cf lv gs) w) (hk:∀u w',St w0 (A*dU p e v*cf u (gs++ [Sa to e fl])) w'→Q .nrm [u,.func (.func f) #[] cap.toArray,v2,v3,.pointer (some ⟨p,0,none⟩),v5,v6,v7] w'):
  (HC.regq (.some 2) (Q1 fl)).wp S1 Q [lv,.func (.func f) #[] cap.toArray,v2,v3,.pointer (some ⟨p,0,none⟩),v5,v6,v7] w:=by
 obtain ⟨gf,hgf⟩:∃gf,Sa to e fl=gf:=⟨_,rfl⟩;rw [hgf] at hk;obtain ⟨C,hC⟩:∃C:List Value→World→Prop,C=fun vs w=>match vs with
  | []=>St w0 (A*dU p e v*cf lv gs) w
  | [r]=>r= .int .i64 (to e)∧St w0 (A*dU p e v*cf lv gs) w
  | [_,x]=>∃k,x= .slice (some ⟨k,0,none⟩) 1 1∧St w0 (A*dU p e v*cf lv gs*pt k (.cells gf.cs.toArray 90 (0,0))) w
  |_::_::u::_=>St w0 (A*dU p e v*cf u (gs++ [gf])) w:=⟨_,rfl⟩
 have hp:∀vs w,C vs w→∀j u,(e.cs v)[j]?=some u→w.cell? ⟨p,0+j,none⟩=some u:=fun vs w h j u hu=>by
  rw [hC] at h;rcases vs with _|⟨r,_|⟨x,_|⟨y,t⟩⟩⟩
  ·exact (h.at p).ah j u hu
  ·exact (h.2.at p).ah j u hu
  ·obtain ⟨k,_,h⟩:=h;exact (h.at p).ah j u hu
  ·exact (h.at p).ah j u hu
 rcases hfl with rfl|rfl
 all_goals
  unfold Q1;refine rC C (by rw [hC];exact t.drew) ?_;refine rr (us:=e.cs v) hp ?_;refine gB (fun w h=> ?_) (fun r ⟨w,h⟩=> ?_)
  ·rw [hC] at h
   refine bM hT.body ((hT.call e v _ w (h.to (au _ _ _))).mono ?_);rintro _ w ⟨rfl,h⟩;rw [hC];exact ⟨rfl,h.to (au _ _ _).symm⟩
  rw [hC] at h;obtain ⟨rfl,_⟩:=h
  first|refine iH (v:= .int .i64 e.item) (fun vs w h=>by have:=hp vs w h 1 _ rfl;simpa using this) ?_|refine iH (v:= .int .u64 e.ab) (fun vs w h=>by have:=hp vs w h 2 _ rfl;simpa using this) ?_
  refine gB (fun w h=> ?_) (fun r ⟨w,h⟩=> ?_)
  ·rw [hC] at h
   refine Eq.mp (congrArg (fun x=>aG _ _ [x] _ _) (show Value.agg gf.cs.toArray=_ by rw [←hgf];rfl)) ?_;refine bV (v:= .agg gf.cs.toArray) h.2 rfl fun k w h=> ?_;rw [hC];exact ⟨k,rfl,h⟩
  rw [hC] at h;obtain ⟨k,rfl,_⟩:=h;refine gB (fun w h=> ?_) (fun r ⟨w,h⟩=> ?_)
  ·rw [hC] at h
   obtain ⟨k',ek,h⟩:=h;cases ek;refine bu (m:=1) (news:=gf.cs) h.swap rfl (by simpa using h.aH) (ER _) (by decide) rfl (by unfold maxLen;omega) (by omega) fun u w h=> ?_;rw [hC];have e1:iz gs++gf.cs=iz (gs++ [gf]):=by simp [iz]
   rw [e1] at h;have h:St w0 (A*dU p e v*pt k (.cells gf.cs.toArray 90 (0,0))*cf u (gs++ [gf])) w:=by simpa [cf] using h
   exact h.an
  intro w h;rw [hC] at h;exact hk _ _ h
theorem qk (f:FuncId) (cap:List Value) (to:PE→Int) (es:List PE) (cv gv:Value) (wvs:List Value) (gs:List Gf) (w0 w:World) (A:al) (hT:Bc w0 A f cap to) (hlen:es.length≤1048576) (hg:gs.length≤1048576) (hcv:CV w0 A cv wvs es) (s:St w0 (A*cf gv gs) w):
  ak Tryz.prog 282 [gv,.func (.func f) #[] cap.toArray,cv] (fun r w'=>St w0 (A*cf r (gs++gC to es)) w') w:=by
 have hwl:=hcv.len;obtain ⟨ca,cn,rfl⟩:=hcv.row.val;refine go OS ?_;refine oF [0,4,7] (fun x w=>∃(i:Nat) (lv o:Value),x= [lv,o,.int .i64 i]∧i≤es.length∧St w0 (A*cf lv (gs++gC to (es.take i))) w)
  (fun env _=>es.length -ax env 7) ⟨0,gv,_,rfl,by omega,by simpa [gC] using s⟩ ?_
 rintro LQ _ w ⟨i,lv,o,rfl,hi,t⟩ hN hX hR;simp;refine bS (fun k=> ?_) (fun k=> ?_)
 ·have k:i<es.length:=by simpa using k
  obtain ⟨g1,o1,c1',e1,k1⟩:=hcv.row.at (by omega);cases e1;have i1:i<wvs.length:=by omega
  have z1:i<(es.zip wvs).length:=by simp;omega
  obtain ⟨e,hee⟩:∃e,es[i]=e:=⟨_,rfl⟩;obtain ⟨v,hv⟩:∃v,wvs[i]=v:=⟨_,rfl⟩;have hv1:v.oneCell'=true:=by
   have:=hcv.each i i1 k;rw [hv] at this;obtain ⟨_,_,rfl⟩:=this.val;rfl
  have y1:(es.zip wvs)[i]=(e,v):=by simp [hee,hv]
  refine ⟨by simp,?_⟩;simp [k];refine az (vs:=e.cs v) (fun j u hu=>by rw [Nat.add_assoc];exact k1 _ t.an _ _ (cN z1 j u (by rw [y1];exact hu))) rfl ?_;simp;refine eh fun p w t=> ?_;refine aL (cs':=(e.cs v).toArray) (h1:=cF _ _ hv1) fun w t=> ?_;refine aY ?_;clear hX hR;have hgl:=j4 to (es.take i);have htk:(es.take i).length=i:=by simp;omega
  have hst:gC to (es.take (i+1))=gC to (es.take i)++qU to e:=by
   rw [List.take_succ_eq_append_getElem k,hee];simp [gC]
  have t:St w0 (A*dU p e v*cf lv (gs++gC to (es.take i))) w:=t.an;have hG:(gs++gC to (es.take i)).length≤4194303:=by rw [List.length_append];omega
  obtain ⟨G,eG⟩:∃G,gs++gC to (es.take i)=G:=⟨_,rfl⟩;rw [eG] at t hG;refine bS (fun q1=> ?c1) (fun q1=> ?c2)
  case' c1=>
   refine Cc 1 (.inl rfl) hT (by omega) t fun u w t=> ?_;simp;have hE:qU to e= [Sa to e 1]++(if e.ab=0 then [] else [Sa to e 2]):=by simp [qU,q1,Sa]
  case' c2=>
   have hE:qU to e= []++(if e.ab=0 then [] else [Sa to e 2]):=by simp [qU,q1,Sa]
  all_goals
   refine aY ?_;refine bS (fun q2=> ?_) (fun q2=> ?_)
   ·refine Cc 2 (.inr rfl) hT (by first|omega|(simp;omega)) t fun u w t=> ?_
    rw [if_neg q2] at hE
    try simp
    simp (disch:=omega) only [wrap64];refine hN [_,_,.int .i64 (i+1)] _ ⟨i+1,_,_,rfl,by omega,?_⟩ (by simp [ax];omega);rw [hst,←List.append_assoc,eG,hE];simp only [List.nil_append,List.append_nil,←List.append_assoc];exact t.an
   ·rw [if_pos q2] at hE
    try simp
    simp (disch:=omega) only [wrap64];refine hN [_,_,.int .i64 (i+1)] _ ⟨i+1,_,_,rfl,by omega,?_⟩ (by simp [ax];omega);rw [hst,←List.append_assoc,eG,hE];simp only [List.nil_append,List.append_nil,←List.append_assoc];exact t.an
 ·refine hX _ _ _ ?_
  obtain rfl:i=es.length:=by omega
  rw [List.take_length] at t;simp;exact t
end Go.HL.St1
namespace Go.HL.St1
open Go.HL Go.HL.Tl Go.HL.Sr Go.HL.Es Go.Proofs
structure EG (es:List En) (c:Nat) (ps:List (Int×Value)):Prop where
 perm:(es.map qC).Perm ps
 keys:(es.map (·.k)).Nodup
 borns:(es.map (·.b)).Nodup
 clock:∀e∈es,e.b<c
theorem EG.len {es:List En} {c:Nat} {ps:List (Int×Value)} (h:EG es c ps):es.length=ps.length:=by
 have:=h.perm.length_eq;simpa using this
theorem EG.get {es:List En} {c:Nat} {ps:List (Int×Value)} (h:EG es c ps) {k:Int} {v:Value} (hm:(k,v)∈ps):cO es k=some v:=get_mem h.keys (h.perm.mem_iff.2 hm)
theorem EG.none {es:List En} {c:Nat} {ps:List (Int×Value)} (h:EG es c ps) {k:Int} (hm:∀p∈ps,p.1≠k):cO es k=none:=get_none fun e he hk=>hm (qC e) (h.perm.mem_iff.1 (List.mem_map.2 ⟨e,he,rfl⟩)) hk
theorem EG.nil:EG [] 0 []:=⟨.refl _,by simp,by simp,by simp⟩
theorem EG.del {es:List En} {c:Nat} {ps:List (Int×Value)} (h:EG es c ps) (k:Int):EG (oX es k) c (ps.filter fun x=>decide (x.1≠k)) where
 perm:=by rw [yG h.keys];exact h.perm.filter _
 keys:=h.keys.sublist ((Es.js es k).map _)
 borns:=h.borns.sublist ((Es.js es k).map _)
 clock:=fun e he=>h.clock e ((Es.js es k).subset he)
theorem EG.put {es:List En} {c:Nat} {ps:List (Int×Value)} (h:EG es c ps) {k:Int} (v:Value) (hl:∀p∈ps,p.1≠k):EG (es++ [⟨k,v,c⟩]) (c+1) (ps++ [(k,v)]) where
 perm:=by rw [List.map_append];exact h.perm.append (.refl _)
 keys:=by
  rw [List.map_append,List.nodup_append];refine ⟨h.keys,by simp,?_⟩;intro a ha b hb;simp only [List.map_cons,List.map_nil,List.mem_singleton] at hb;subst hb;rintro rfl;obtain ⟨e,he,he2⟩:=List.mem_map.1 ha;exact hl (qC e) (h.perm.mem_iff.1 (List.mem_map.2 ⟨e,he,rfl⟩)) he2
 borns:=by
  rw [List.map_append,List.nodup_append];refine ⟨h.borns,by simp,?_⟩;intro a ha b hb;simp only [List.map_cons,List.map_nil,List.mem_singleton] at hb;subst hb;rintro rfl;obtain ⟨e,he,he2⟩:=List.mem_map.1 ha;have:=h.clock e he;omega
 clock:=by
  intro e he;rcases List.mem_append.1 he with he|he
  ·have:=h.clock e he;omega
  ·simp only [List.mem_singleton] at he;subst he;simp
theorem EG.lh {es:List En} {c:Nat} {ps:List (Int×Value)} (h:EG es c ps) {k:Int} {v u:Value} (hn:cO es k=some u):EG (nO es k v) c ((k,v)::ps.filter fun x=>decide (x.1≠k)) where
 perm:=(AR h.keys hn).trans ((h.perm.filter _).cons _)
 keys:=by rw [qI];exact h.keys
 borns:=by rw [jI];exact h.borns
 clock:=by
  intro e he;have:e.b∈es.map (·.b):=by rw [←jI es k v];exact List.mem_map.2 ⟨e,he,rfl⟩
  obtain ⟨e',he',h2⟩:=List.mem_map.1 this;have:=h.clock e' he';omega
theorem EG.of {es:List En} {c:Nat} {ps qs:List (Int×Value)} (h:EG es c ps) (hp:ps.Perm qs):EG es c qs:=⟨h.perm.trans hp,h.keys,h.borns,h.clock⟩
theorem EG.nodup {es:List En} {c:Nat} {ps:List (Int×Value)} (h:EG es c ps):(ps.map (·.1)).Nodup:=by
 have h1:=h.perm.map Prod.fst;rw [List.map_map] at h1;exact h1.nodup_iff.1 h.keys
structure OC where
 c:PC
 v:Value
 l:List (PE×Value)
def OC.val (x:OC):Value:= .agg (x.c.cs x.v).toArray
def OC.pr (x:OC):Int×Value:=(x.c.num,x.val)
abbrev eI (x:OC):al:=gT x.v x.l
structure OM (es:List En) (k:Nat) (xs:List OC) (cs:List PC):Prop where
 ents:EG es k (xs.map OC.pr)
 data:xs.map (·.c)=cs
 own:∀x∈xs,x.l.map (·.1)=x.c.es
def omap (m:Nat) (cs:List PC):al:=fun h=>∃es k xs,OM es k xs cs∧(ay m es k*bz eI xs) h
theorem eA {w0 w:World} {A:al} {m:Nat} {cs:List PC} (s:St w0 (A*omap m cs) w):∃es k xs,OM es k xs cs∧St w0 (A*ay m es k*bz eI xs) w:=by
 obtain ⟨g,h1,h2,h3,d,e,a,es,k,xs,hE,b⟩:=s.holds;exact ⟨es,k,xs,hE,(s.of ⟨g,h1,h2,h3,d,e,a,b⟩).to (au _ _ _).symm⟩
theorem bH {w0 w:World} {A:al} {m:Nat} {cs:List PC} {es:List En} {k:Nat} {xs:List OC} (hE:OM es k xs cs) (s:St w0 (A*ay m es k*bz eI xs) w):St w0 (A*omap m cs) w:=by
 obtain ⟨g,h1,h2,h3,d,e,a,b⟩:=(s.to (au _ _ _)).holds;exact s.of ⟨g,h1,h2,h3,d,e,a,es,k,xs,hE,b⟩
theorem OM.nil:OM [] 0 [] []:=⟨.nil,rfl,by simp⟩
def eR (cs:List PC) (n:Int):Option PC:=cs.find? fun c=>decide (c.num=n)
def rn (cs:List PC) (n:Int):List PC:=cs.filter fun c=>decide (c.num≠n)
def nN (cs:List PC) (d:PC):List PC:=cs.map fun c=>if c.num=d.num then d else c
theorem eZ {cs:List PC} {n:Int} {c:PC} (h:eR cs n=some c):c∈cs∧c.num=n:=⟨List.mem_of_find?_eq_some h,by simpa using List.find?_some h⟩
theorem EK {cs:List PC} {n:Int}:eR cs n=none↔∀c∈cs,c.num≠n:=by
 unfold eR;rw [List.find?_eq_none];simp
theorem B7 {cs:List PC} (hn:(cs.map (·.num)).Nodup) {c:PC} (h:c∈cs):eR cs c.num=some c:=by
 induction cs with
 |nil=>cases h
 |cons x r ih=>
  rw [List.map_cons,List.nodup_cons] at hn;unfold eR;rw [List.find?_cons];rcases List.mem_cons.1 h with rfl|h
  ·simp
  ·have:¬x.num=c.num:=fun hk=>hn.1 (List.mem_map.2 ⟨c,h,hk.symm⟩)
   rw [decide_eq_false this];exact ih hn.2 h
theorem OM.get {es:List En} {k:Nat} {xs:List OC} {cs:List PC} (h:OM es k xs cs) (n:Int):(eR cs n=none∧cO es n=none)∨∃x∈xs,x.c.num=n∧eR cs n=some x.c∧cO es n=some x.val∧x.l.map (·.1)=x.c.es:=by
 cases hf:eR cs n with
 |none=>
  refine .inl ⟨rfl,h.ents.none fun p hp=> ?_⟩;obtain ⟨x,hx,rfl⟩:=List.mem_map.1 hp;exact EK.1 hf x.c (by rw [←h.data];exact List.mem_map.2 ⟨x,hx,rfl⟩)
 |some c=>
  obtain ⟨h1,h2⟩:=eZ hf;rw [←h.data] at h1;obtain ⟨x,hx,rfl⟩:=List.mem_map.1 h1;exact .inr ⟨x,hx,h2,rfl,h.ents.get (List.mem_map.2 ⟨x,hx,by rw [OC.pr,h2]⟩),h.own x hx⟩
theorem wm {α:Type} (f:α→al) {l l':List α} (h:l.Perm l'):bz f l=bz f l':=by
 induction h with
 |nil=>rfl
 |cons x _ ih=>show f x*_=f x*_;rw [ih]
 |swap x y l=>show f y*(f x*_)=f x*(f y*_);rw [←au,iD (f y),au]
 |trans _ _ h1 h2=>exact h1.trans h2
theorem JP {α:Type} (f:α→al) (p:α→Bool) (l:List α):bz f l=bz f (l.filter p)*bz f (l.filter fun x=> !p x):=by
 induction l with
 |nil=>exact (ao _).symm
 |cons x t ih=>
  have h1:bz f (x::t)=f x*bz f t:=rfl;rw [h1,ih];cases hp:p x with
  |true=>
   rw [List.filter_cons_of_pos hp,List.filter_cons_of_neg (by simp [hp])];show _=f x*_*_;rw [au]
  |false=>
   rw [List.filter_cons_of_neg (by simp [hp]),List.filter_cons_of_pos (by simp [hp])];show _=_*(f x*_);rw [←au,←au,iD (f x)]
theorem Lb {w0 w:World} {A:al} {xs:List OC} (n:Int) (s:St w0 (A*bz eI xs) w):St w0 (A*bz eI (xs.filter fun x=>decide (x.c.num≠n))) w:=
 (s.to (by rw [JP eI (fun x=>decide (x.c.num≠n)) xs,au])).drop
theorem OM.del {es:List En} {k:Nat} {xs:List OC} {cs:List PC} (h:OM es k xs cs) (n:Int):OM (oX es n) k (xs.filter fun x=>decide (x.c.num≠n)) (rn cs n) where
 ents:=by
  have:=h.ents.del n
  rwa [List.filter_map] at this
 data:=by rw [←h.data,rn,List.filter_map];rfl
 own:=fun x hx=>h.own x (List.mem_filter.1 hx).1
theorem OM.put {es:List En} {k:Nat} {xs:List OC} {cs:List PC} (h:OM es k xs cs) (x:OC) (hn:∀c∈cs,c.num≠x.c.num) (hx:x.l.map (·.1)=x.c.es):OM (es++ [⟨x.c.num,x.val,k⟩]) (k+1) (xs++ [x]) (cs++ [x.c]) where
 ents:=by
  rw [List.map_append];exact h.ents.put x.val fun p hp=>by
   obtain ⟨y,hy,rfl⟩:=List.mem_map.1 hp;exact hn y.c (by rw [←h.data];exact List.mem_map.2 ⟨y,hy,rfl⟩)
 data:=by rw [List.map_append,h.data];rfl
 own:=fun y hy=>by
  rcases List.mem_append.1 hy with hy|hy
  ·exact h.own y hy
  ·rw [List.mem_singleton.1 hy];exact hx
def Ls (xs:List OC) (x:OC):List OC:=xs.map fun y=>if y.c.num=x.c.num then x else y
theorem qE {x:OC}:∀{xs:List OC},(xs.map fun y=>y.c.num).Nodup→(∃y∈xs,y.c.num=x.c.num)→(Ls xs x).Perm (x::xs.filter fun y=>decide (y.c.num≠x.c.num))
 | [],_,h=>by obtain ⟨_,h,_⟩:=h;cases h
 |y::t,hn,h=>by
  rw [List.map_cons,List.nodup_cons] at hn;unfold Ls;rw [List.map_cons]
  by_cases e:y.c.num=x.c.num
  ·rw [if_pos e,List.filter_cons_of_neg (by simp [e])]
   have hne:∀z∈t,z.c.num≠x.c.num:=fun z hz hh=>hn.1 (List.mem_map.2 ⟨z,hz,hh.trans e.symm⟩);have e2:t.map (fun y=>if y.c.num=x.c.num then x else y)=t:=(List.map_congr_left fun z hz=>if_neg (hne z hz)).trans (List.map_id t);rw [List.filter_eq_self.2 fun z hz=>by simpa using hne z hz,e2]
  ·rw [if_neg e,List.filter_cons_of_pos (by simp [e])]
   obtain ⟨z,hz,hh⟩:=h;have hz:z∈t:=by rcases List.mem_cons.1 hz with rfl|hz;exact absurd hh e;exact hz
   exact ((qE hn.2 ⟨z,hz,hh⟩).cons y).trans (.swap _ _ _)
theorem OM.lh {es:List En} {k:Nat} {xs:List OC} {cs:List PC} (h:OM es k xs cs) (x:OC) (hc:eR cs x.c.num≠none) (hx:x.l.map (·.1)=x.c.es):OM (nO es x.c.num x.val) k (Ls xs x) (nN cs x.c) where
 ents:=by
  rcases h.get x.c.num with ⟨h1,_⟩|⟨y,hy,h1,h2,h3,h4⟩
  ·exact absurd h1 hc
  have:=h.ents.lh (v:=x.val) h3;refine this.of ?_;have hp:=(qE (x:=x) (by have:=h.ents.nodup;rw [List.map_map] at this;exact this) ⟨y,hy,h1⟩).map OC.pr;refine .trans (.of_eq ?_) hp.symm;rw [List.map_cons,List.filter_map];rfl
 data:=by
  rw [←h.data,Ls,nN,List.map_map,List.map_map];refine List.map_congr_left fun y hy=> ?_;simp only [Function.comp];split<;>rfl
 own:=fun y hy=>by
  obtain ⟨z,hz,rfl⟩:=List.mem_map.1 hy;split
  ·exact hx
  ·exact h.own z hz
theorem Vy {w0 w:World} {A:al} {xs:List OC} {x:OC} (hn:(xs.map fun y=>y.c.num).Nodup) (hy:∃y∈xs,y.c.num=x.c.num) (s:St w0 (A*bz eI xs*eI x) w):St w0 (A*bz eI (Ls xs x)) w:=by
 rw [wm eI (qE hn hy)];have s:=Lb x.c.num s.swap;exact s.to (au _ _ _)
end Go.HL.St1
