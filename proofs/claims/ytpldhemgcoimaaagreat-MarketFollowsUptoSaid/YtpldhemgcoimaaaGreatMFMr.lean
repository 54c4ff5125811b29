/- Part 18. -/
import Derived.Test.YtpldhemgcoimaaaGreatMFMq
set_option linter.unusedSimpArgs false
set_option linter.unusedVariables false
set_option maxRecDepth 4000
namespace Go.HL
theorem Cz {p:Nat->Prop} (h:∃f,p f):∃f,p f/\∀g,p g->f<=g:=by
 obtain ⟨f,hf⟩:=h
 induction f using Nat.strongRecOn with
 |ind f ih=>
  by_cases hg:∃g,g<f/\p g
  ·obtain ⟨g,h1,h2⟩:=hg;exact ih g h1 h2
  ·exact ⟨f,hf,λg hg'=>Nat.le_of_not_lt λh=>hg ⟨g,h,hg'⟩⟩
open Classical in
noncomputable def Am (p:Nat->Prop):Nat:=if h:∃f,p f then Classical.choose (Cz h) else 0
theorem rp {p:Nat->Prop} {f:Nat} (h:p f):p (Am p)/\Am p<=f:=by have he:∃f,p f:=⟨f,h⟩;unfold Am;rw [dif_pos he];have:=Classical.choose_spec (Cz he);exact ⟨this.1,this.2 f h⟩
theorem lpG {P:Program} {F:PF P} {env:List Value} {w:World} {Q:EX->List Value->World->Prop} {x:HC} (ks:List Nat) (I:Nat->List Value->World->Prop) {f0:Nat} {vs0:List Value} (h0:I f0 vs0 w)
  (h:∀(LQ:EX->List Value->World->Prop) (f:Nat) (vs:List Value) (w:World),I f vs w->(∀f' vs' w',I f' vs' w'->f'<f->LQ .nrm (lM env ks vs') w')->(∀i env' w',Q (.ex i) env' w'->LQ (.ex i) env' w')->
   (∀env' w',Q .ret env' w'->LQ .ret env' w')->x.wp F LQ (lM env ks vs) w) (hu:lM env ks vs0=env:=by rfl):Bf F x Q env w:=by
 refine lZ ks (λvs w=>∃f,I f vs w) (λe w=>Am λf=>∃vs,lM env ks vs=e/\I f vs w) ⟨f0,h0⟩ ?_ hu;rintro LQ vs w ⟨f,hf⟩ hN hX hR;obtain ⟨⟨vs1,e1,h1⟩,_⟩:=rp (p:=λf=>∃vs',lM env ks vs'=lM env ks vs/\I f vs' w) ⟨vs,rfl,hf⟩;have:=h LQ _ vs1 w h1 (λf' vs' w' h' hlt=>hN vs' w' ⟨f',h'⟩ ?_) hX hR
 ·rw [e1] at this;exact this
 ·exact Nat.lt_of_le_of_lt (rp (p:=λf=>∃vs'',lM env ks vs''=lM env ks vs'/\I f vs'' w') ⟨vs',rfl,h'⟩).2 hlt
end Go.HL
namespace Go.HL.St1
open Go.HL Go.HL.Tl Go.HL.Sr Go.HL.Es Go.Proofs
structure BS where
 at':Nat
 way:List Nat
 gone:List Bool
 fN:List Int
def dy (s:BS):List Nat:=if s.way= [] then [s.at'] else s.way
def fp (l:List Nat):Nat:=l.getLastD 0
def eh (gone:List Bool) (cyc:List Nat):Nat->List Bool
 |0=>gone
 |k+1=>(eh gone cyc k).set (cyc.getD k 0) true
def nV (xs fN:List Int) (cyc:List Nat):Nat->List Int
 |0=>fN
 |k+1=>(nV xs fN cyc k).set (cyc.getD k 0) (xs.getD (cyc.getD ((k+1) %cyc.length) 0) 0)
def jW (l:List Nat) (x:Nat):List Nat:=l.drop (l.idxOf x)
def kA (xs:List Int) (wss:List (List Int)) (s:BS):BS:=
 if s.way= []/\s.gone.getD s.at' false=true then ⟨s.at'+1,[],s.gone,s.fN⟩
 else if nx xs wss s.gone (fp (dy s))∈dy s then
  ⟨s.at',[],eh s.gone (jW (dy s) (nx xs wss s.gone (fp (dy s)))) (jW (dy s) (nx xs wss s.gone (fp (dy s)))).length,nV xs s.fN (jW (dy s) (nx xs wss s.gone (fp (dy s)))) (jW (dy s) (nx xs wss s.gone (fp (dy s)))).length⟩
 else ⟨s.at',dy s++ [nx xs wss s.gone (fp (dy s))],s.gone,s.fN⟩
def kz (n:Nat) (s:BS):Prop:=n<=s.at'/\s.way= []
instance (n:Nat) (s:BS):Decidable (kz n s):=inferInstanceAs (Decidable (_/\_))
def iu (xs:List Int) (wss:List (List Int)):Nat->BS->BS
 |0,s=>s
 |f+1,s=>if kz xs.length s then s else iu xs wss f (kA xs wss s)
def rV (n:Nat) (l:List Nat):Nat:=(List.range n).countP λk=>decide (k∉l)
def left (g:List Bool):Nat:=g.countP λb=> !b
structure BV (n:Nat) (s:BS):Prop where
 at':s.at'<=n
 nodup:s.way.Nodup
 way:∀k∈s.way,k<n/\s.gone.getD k false=false
 len:s.way.length+rV n s.way<=n
 gone:s.gone.length=n
 fN:s.fN.length=n
def iv (n:Nat) (s:BS):Nat:=(n -s.at')+(n+2)*left s.gone+rV n s.way
theorem xi {p q:Nat->Bool} {x:Nat}:∀{l:List Nat},(∀k,q k=true->p k=true)->x∈l->p x=true->q x=false->l.countP q<l.countP p
 |a::t,h,hx,hp,hq=>by
  have hle:t.countP q<=t.countP p:=List.countP_mono_left λk _ hk=>h k hk;rw [List.countP_cons,List.countP_cons];rcases List.mem_cons.1 hx with e|hx
  ·subst e;rw [hp,hq];simp;omega
  ·have ih:=xi (l:=t) h hx hp hq
   cases hqa:q a with
   |false=>simp;omega
   |true=>rw [h a hqa];simp;omega
theorem mM (n:Nat):rV n []=n:=by simp [rV]
theorem QN (n:Nat) (l:List Nat):rV n l<=n:=by
 have:=List.countP_le_length (p:=λk=>decide (k∉l)) (l:=List.range n)
 simpa [rV] using this
theorem xT {n x:Nat} {l:List Nat} (hx:x<n) (h:x∉l):rV n (l++ [x])<rV n l:=by unfold rV;refine xi (x:=x) (λk hk=> ?_) (by simpa using hx) (by simpa using h) (by simp);simp only [List.mem_append,List.mem_singleton,not_or,decide_eq_true_eq] at hk⊢;exact hk.1
theorem rq:∀(g:List Bool) (i:Nat),left (g.set i true)<=left g
 | [],i=>by simp [left]
 |b::t,0=>by simp [left,List.countP_cons]
 |b::t,i+1=>by have:=rq t i;simp only [left,List.set_cons_succ,List.countP_cons] at this⊢;omega
theorem rr:∀(g:List Bool) (i:Nat),i<g.length->g.getD i false=false->left (g.set i true)<left g
 | [],i,h,_=>by simp at h
 |b::t,0,_,h=>by
  have:b=false:=by simpa using h
  subst this;simp [left,List.countP_cons]
 |b::t,i+1,hl,h=>by have:=rr t i (by simpa using hl) (by simpa using h);simp only [left,List.set_cons_succ,List.countP_cons] at this⊢;omega
theorem nw (gone:List Bool) (cyc:List Nat):∀k,(eh gone cyc k).length=gone.length
 |0=>rfl
 |k+1=>by rw [eh,List.length_set,nw gone cyc k]
theorem mw (xs fN:List Int) (cyc:List Nat):∀k,(nV xs fN cyc k).length=fN.length
 |0=>rfl
 |k+1=>by rw [nV,List.length_set,mw xs fN cyc k]
theorem oA (gone:List Bool) (cyc:List Nat) (j:Nat) (h:gone.getD j false=true):∀k,(eh gone cyc k).getD j false=true
 |0=>h
 |k+1=>by
  have ih:=oA gone cyc j h k;rw [eh]
  by_cases e:cyc.getD k 0=j
  ·rw [e]
   have hj:j<(eh gone cyc k).length:=by
    rcases Nat.lt_or_ge j (eh gone cyc k).length with h|h2
    ·exact h
    ·rw [List.getD_eq_getElem?_getD,List.getElem?_eq_none (by omega)] at ih;cases ih
   simp [List.getD,hj]
  ·rw [List.getD_eq_getElem?_getD,List.getElem?_set_ne e,<-List.getD_eq_getElem?_getD];exact ih
theorem uM {gone:List Bool} {cyc:List Nat} (h0:cyc.getD 0 0<gone.length) (h1:gone.getD (cyc.getD 0 0) false=false):∀k,0<k->left (eh gone cyc k)<left gone
 |0,h=>by omega
 |1,_=>by rw [eh,eh];exact rr _ _ h0 h1
 |k+2,_=>by have:=uM h0 h1 (k+1) (by omega);rw [eh];exact Nat.lt_of_le_of_lt (rq _ _) this
theorem vk {l:List Nat} (h:l≠ []):fp l∈l:=by unfold fp;rw [List.getLastD_eq_getLast?,List.getLast?_eq_some_getLast h];exact List.getLast_mem h
theorem QI {xs:List Int} {wss:List (List Int)} {gone:List Bool} {i:Nat} (hi:gone.getD i false=false):gone.getD (nx xs wss gone i) false=false:=by
 unfold nx;cases h:(wss.getD i []).findSome? (nf xs gone) with
 |none=>exact hi
 |some k=>
  obtain ⟨x,_,hx⟩:=List.exists_of_findSome?_eq_some h;exact (RO hx).2.1
theorem qm {l:List Nat} {x:Nat} (h:x∈l):0<(jW l x).length/\(jW l x).getD 0 0=x/\∀y∈jW l x,y∈l:=by have hi:l.idxOf x<l.length:=List.idxOf_lt_length_iff.2 h;unfold jW;refine ⟨by rw [List.length_drop];omega,?_,λy hy=>List.mem_of_mem_drop hy⟩;rw [List.getD_eq_getElem?_getD,List.getElem?_drop,Nat.add_zero,List.getElem?_eq_getElem hi];simp
theorem wh {n:Nat} {s:BS} (h:BV n s) (hd:¬kz n s) (hg:¬(s.way= []/\s.gone.getD s.at' false=true)):dy s≠ []/\(dy s).Nodup/\(∀k∈dy s,k<n/\s.gone.getD k false=false)/\(dy s).length+rV n (dy s)<=n/\rV n (dy s)<=rV n s.way:=by
 unfold dy
 by_cases e:s.way= []
 ·rw [if_pos e]
  have hat:s.at'<n:=by
   have:=h.at';rcases Nat.lt_or_ge s.at' n with h1|h1
   ·exact h1
   ·exact absurd ⟨h1,e⟩ hd
  have hp:=xT (l:= []) hat (by simp);rw [List.nil_append,mM] at hp;refine ⟨by simp,by simp,λk hk=> ?_,by simp only [List.length_singleton];omega,by rw [e,mM];omega⟩;have:k=s.at':=by simpa using hk
  subst this;refine ⟨hat,?_⟩;cases hgg:s.gone.getD s.at' false with
  |false=>rfl
  |true=>exact absurd ⟨e,hgg⟩ hg
 ·rw [if_neg e]
  exact ⟨e,h.nodup,h.way,h.len,Nat.le_refl _⟩
theorem me {xs:List Int} {wss:List (List Int)} {s:BS} (h:BV xs.length s) (hd:¬kz xs.length s):BV xs.length (kA xs wss s)/\iv xs.length (kA xs wss s)<iv xs.length s:=by
 obtain ⟨n,hn⟩:∃n,xs.length=n:=⟨_,rfl⟩;rw [hn] at h hd⊢;unfold kA
 by_cases h1:s.way= []/\s.gone.getD s.at' false=true
 ·rw [if_pos h1]
  have hat:s.at'<n:=by
   rcases Nat.lt_or_ge s.at' n with h2|h2
   ·exact h2
   ·exact absurd ⟨h2,h1.1⟩ hd
  refine ⟨⟨hat,by simp,by simp,by simp [mM],h.gone,h.fN⟩,?_⟩;simp only [iv,h1.1];omega
 rw [if_neg h1];obtain ⟨w1,w2,w3,w4,w5⟩:=wh h hd h1;obtain ⟨W,hW⟩:∃W,dy s=W:=⟨_,rfl⟩;rw [hW] at w1 w2 w3 w4 w5⊢;have hlast:=w3 _ (vk w1);obtain ⟨x,hx⟩:∃x,nx xs wss s.gone (fp W)=x:=⟨_,rfl⟩;have hxl:x<n:=by rw [<-hx,<-hn];exact RQ (by rw [hn];exact hlast.1)
 have hxg:s.gone.getD x false=false:=by rw [<-hx];exact QI hlast.2
 rw [hx]
 by_cases h2:x∈W
 ·rw [if_pos h2]
  obtain ⟨c1,c2,c3⟩:=qm h2;refine ⟨⟨h.at',by simp,by simp,by simp [mM],by rw [nw];exact h.gone,by rw [mw];exact h.fN⟩,?_⟩;have hlt:=uM (gone:=s.gone) (cyc:=jW W x) (by rw [c2,h.gone];exact hxl) (by rw [c2];exact hxg) _ c1;have hm:(n+2)*(left (eh s.gone (jW W x) (jW W x).length)+1)<=(n+2)*left s.gone:=Nat.mul_le_mul_left _ hlt;rw [Nat.mul_add] at hm;have:=QN n [];simp only [iv];omega
 ·rw [if_neg h2]
  have hp:=xT hxl h2;refine ⟨⟨h.at',?_,λk hk=> ?_,?_,h.gone,h.fN⟩,?_⟩
  ·rw [List.nodup_append]
   exact ⟨w2,by simp,λa ha b hb=>by
    have:b=x:=by simpa using hb
    subst this;exact λe=>h2 (e▸ha)⟩
  ·rcases List.mem_append.1 hk with hk|hk
   ·exact w3 k hk
   ·have:k=x:=by simpa using hk
    subst this;exact ⟨hxl,hxg⟩
  ·simp only [List.length_append,List.length_singleton];omega
  ·simp only [iv];omega
def nU (n:Nat):BS:=⟨0,[],List.replicate n false,List.replicate n 0⟩
theorem yM (n:Nat):BV n (nU n):=⟨by simp [nU],by simp [nU],by simp [nU],by simp [nU,mM],by simp [nU],by simp [nU]⟩
def ma (xs:List Int) (wss:List (List Int)):List Int:=(iu xs wss (iv xs.length (nU xs.length)) (nU xs.length)).fN
theorem Ed {xs:List Int} {wss:List (List Int)} {s:BS} {f:Nat} (h:BV xs.length s) (hd:¬kz xs.length s) (hf:iv xs.length s<=f):∃f',iv xs.length (kA xs wss s)<=f'/\iu xs wss f' (kA xs wss s)=iu xs wss f s:=by have:=(me (wss:=wss) h hd).2;obtain ⟨f',rfl⟩:∃f',f=f'+1:=⟨f -1,by omega⟩;exact ⟨f',by omega,by rw [iu,if_neg hd]⟩
theorem Ec {xs:List Int} {wss:List (List Int)} {s:BS} (h:kz xs.length s):∀f,iu xs wss f s=s
 |0=>rfl
 |f+1=>by rw [iu,if_pos h]
def jA (n:Nat) (f:Nat->Int):List Int:=(List.range n).map f
theorem lJ (n:Nat) (f:Nat->Int):(jA n f).length=n:=by simp [jA]
theorem Fz {n i:Nat} (f:Nat->Int) (h:i<n):(jA n f).getD i 0=f i:=by simp [jA,List.getD,h]
theorem AB (n x:Nat) (f:Nat->Int) (v:Int):(jA n f).set x v=jA n λk=>if k=x then v else f k:=by
 apply List.ext_getElem?;intro k
 by_cases hk:k<n
 ·by_cases e:k=x
  ·subst e;simp [jA,hk]
  ·rw [List.getElem?_set_ne (Ne.symm e)];simp [jA,hk,e]
 ·rw [List.getElem?_eq_none (by simp [jA];omega),List.getElem?_eq_none (by simp [jA];omega)]
theorem AA {n:Nat} {f g:Nat->Int} (h:∀k,k<n->f k=g k):jA n f=jA n g:=by unfold jA;exact List.map_congr_left λk hk=>h k (by simpa using hk)
def kY (l:List Nat) (k:Nat):Int:=if k∈l then (l.idxOf k:Int)+1 else 0
theorem Cn {l:List Nat} {x:Nat} (h:x∉l) (n:Nat):(jA n (kY l)).set x ((l.length:Int)+1)=jA n (kY (l++ [x])):=by
 rw [AB];refine AA λk hk=> ?_;unfold kY
 by_cases e:k=x
 ·subst e
  rw [if_pos rfl,if_pos (by simp),List.idxOf_append,if_neg h];simp
 ·rw [if_neg e]
  by_cases hm:k∈l
  ·rw [if_pos hm,if_pos (by simp [hm]),List.idxOf_append,if_pos hm]
  ·rw [if_neg hm,if_neg (by simp [hm,e])]
end Go.HL.St1
namespace Go.HL.St1
open Go.HL Go.HL.Tl Go.HL.Sr Go.HL.Es Go.Proofs
attribute [local irreducible] aA
def nR (es:List PE):List Int:=es.map (·.item)
def DS (es:List PE):List (List Int):=es.map (·.ws)
def J1 (es:List PE) (g:List Int) (i:Nat):List Gf:=(if g.getD i 0=0 then [] else [⟨(en es i).acc,g.getD i 0,0⟩])++cg (en es i).acc (en es i).coins
def oU (es:List PE) (g:List Int) (n:Nat):List Gf:=(List.range n).flatMap (J1 es g)
def tN (es:List PE):List Gf:=oU es (ma (nR es) (DS es)) es.length
theorem wZ (es:List PE) (g:List Int) (n:Nat):oU es g (n+1)=oU es g n++J1 es g n:=by simp [oU,List.range_succ]
theorem Nb (es:List PE) (g:List Int) (i:Nat):(J1 es g i).length<=2:=by unfold J1;have:=tY (en es i).acc (en es i).coins;split<;>simp<;>omega
theorem tP (es:List PE) (g:List Int):∀n,(oU es g n).length<=2*n
 |0=>by simp [oU]
 |n+1=>by have:=tP es g n;have:=Nb es g n;rw [wZ,List.length_append];omega
def LL (d:ak) (f:Value->ak):Option Value->ak
 |none=>d
 |some v=>f v
@[simp] theorem pJ (d:ak) (f:Value->ak):LL d f none=d:=rfl
@[simp] theorem LM (d:ak) (f:Value->ak) (v:Value):LL d f (some v)=f v:=rfl
def FJ (n:Nat) (v:Value) (o:Obj):ak:=λh=>∃b,v= .slice (some ⟨b,0,none⟩) n n/\pt b o h
@[simp] theorem Mp (n b:Nat) (o:Obj):FJ n (.slice (some ⟨b,0,none⟩) n n) o=pt b o:=by
 funext h;apply propext;constructor
 ·rintro ⟨b',e,hh⟩
  cases e;exact hh
 ·intro hh;exact ⟨b,rfl,hh⟩
theorem Hw {w0 w:World} {A:ak} {n:Nat} {v:Value} {o:Obj} (s:St w0 (A*FJ n v o) w):∃b,v= .slice (some ⟨b,0,none⟩) n n:=by obtain ⟨g,h1,h2,h3,d,e,a,b,hb,_⟩:=s.holds;exact ⟨b,hb⟩
end Go.HL.St1
namespace Go.HL.Pu
open Go.HL Go.HL.Nm Go.Proofs
def nms (l:List Ac):List (List UInt8):=l.map Ac.name
structure NI (ns:List (List UInt8)):Prop where
 chk:∀n∈ns,(jl n).2=0
 nod:(ns.map gg).Nodup
 bank:ns[0]? =some cF
theorem Lw {lim:Int} (h:1<=lim/\lim<=64):PI lim ⟨lim,[⟨cF,0⟩],0,0⟩:=
 ⟨rfl,h,by simp;omega,by simp,Int.le_refl _,rfl,by show (0:Int)<=_;decide,λi hi=>by
  have:i=0:=by simpa using hi
  subst this;simp [cF]⟩
end Go.HL.Pu
namespace Go.HL.St0
open Go.HL Go.Proofs
attribute [local irreducible] aA
structure SU where
 seats:Int
 queue:Int
 quantum:Int
 settle:Int
 rate:Int
 burst:Int
 idle:Int
 acc:Int
 ae:Int
 con:Int
 log:Int
 slot:Int
def SU.cs (x:SU):List Value:= [.int .i64 x.seats,.int .i64 x.queue,.int .i64 x.quantum,.int .i64 x.settle,.int .i64 x.rate,.int .i64 x.burst,.int .i64 x.idle,.int .i64 x.acc,.int .i64 x.ae,.int .i64 x.con,.int .i64 x.log,.int .i64 x.slot]
def rS (x:SU):Prop:=1<=x.acc/\x.acc<=64/\0<=x.ae/\x.ae<=512/\1<=x.con/\x.con<=64
instance (x:SU):Decidable (rS x):=inferInstanceAs (Decidable (_/\_))
noncomputable abbrev S0:PF Tryz.prog:=PF.none _
def l32:ai:=⟨[0,1,2],31,[.slot 2],aN tG [] 0x39bffedc8de95f7df7dfdd2042481481481481e2271f8de95f7df7f74810920520520510e271f8de95f7dfdd204248148144589c7e37a57dfdd204248144789c7e37a57f7481091fa271fdd5d480d1281302091fb520344a04c0a65d2115c4134347e011fb104d0d1f95d4347a2c2447d4347a2c299748457104d0d11c0447c413434475753c3446302445d4f0d118c0a65d2115c4130344501117104c0d1155d404442c2443d404442c299748457104c0d10c0443c41303443575203442302e3520344230299748457104e0b8038c41382e15d43ccb0b50f32c2d3104e080c413829e2699d92042cc1f0f2c1⟩
theorem Vj:af S0 32 400=some l32:=by kernel_rfl
def l8:ai:=⟨[0,1,2,3,4,6,8],38,[.slot 2,.slot 3],aN tG [] 0x39e79bff8a2eda6764800d1082d14514cb8406405404ccc3413cc0d4514cb8406405404ccc3414c9301c4120cfe271cdd59b33011a6cce066ccc07d15010f2c39fb89c737566e0c0459b83819b83019b338a0f4c4130303104c0e7ee271cdd59b8301126e0e066e0c066ccd283d3104e080c41382a2f02cbff699d921c34ba0a289c6d59b83c1626e0f066ccc283c4120cfe26996764800d2e82cc1f0f2c1⟩
theorem ZJ:af S0 8 400=some l8:=by kernel_rfl
def T9:ai:=⟨[0,2],9,[.slot 1],aN tG [] 0xb39bff73bdf3074d3c00a100d3c00a13c028bc0b2fff74ba05c6d5f08118f08127dd2e81⟩
theorem GZ:af S0 131 400=some T9:=by kernel_rfl
def l74:ai:=⟨[0,1,4,5],12,[.slot 2,.slot 3],aN tG [] 0x39bff8a271c699d959b83810d59b83010a6e0e066e0c07d0732cf0fc28cfda6764810d2002⟩
theorem Ld:af S0 74 400=some l74:=by kernel_rfl
theorem Lp (x:SU) (w0 w:World) (A:ak) (s:St w0 A w):aj Tryz.prog 32 [.agg x.cs.toArray] (λr w'=>r= .bool (decide (rS x))/\St w0 A w') w:=by
 refine go Vj ?_;refine fo λb w s=> ?_;refine aQ ?_
 by_cases c1:1<=x.acc
 case neg=>simp [c1,rS];exact s.an
 simp [c1];refine aQ ?_
 by_cases c2:x.acc<=64
 case neg=>simp [c2,rS];exact s.an
 simp [c2];refine aQ ?_
 by_cases c3:0<=x.ae
 case neg=>simp [c3,rS];exact s.an
 simp [c3];refine aQ ?_
 by_cases c4:x.ae<=512
 case neg=>simp [c4,rS];exact s.an
 simp [c4];refine aQ ?_
 by_cases c5:1<=x.con
 case neg=>simp [c5,rS];exact s.an
 simp [c5];refine aQ ?_;simp [c1,c2,c3,c4,c5,rS];exact s.an
def Dp (x:SU) (clock last:Int) (p g e m:Nat):List Value:=x.cs++([.int .i64 clock,.pointer (some ⟨p,0,none⟩),.pointer (some ⟨g,0,none⟩),.pointer (some ⟨e,0,none⟩),.int .i64 last,.map (some m)]:List Value)
abbrev vR (q:Nat) (x:SU) (clock last:Int) (p g e m:Nat):ak:=pt q (.cells (Dp x clock last p g e m).toArray 94 (0,0))
abbrev QG (q:Nat) (x:SU) (p g e m:Nat):ak:=vR q x 0 0 p g e m*Es.aH p g e x.ae ⟨⟨x.acc,[⟨Pu.cF,0⟩],0,0⟩,[],[]⟩*ao m [] 0
set_option maxHeartbeats 1000000 in
theorem fy (x:SU) (w0 w:World) (A:ak) (s:St w0 A w):aj Tryz.prog 8 [.agg x.cs.toArray] (λr w'=>(rS x/\∃q p g e m,r= .tuple #[.pointer (some ⟨q,0,none⟩),.int .i64 0]/\St w0 (A*QG q x p g e m) w')\/(¬rS x/\r= .tuple #[.pointer none,.int .i64 2]/\St w0 A w')) w:=by
 refine go ZJ ?_;refine fo λb w s=> ?_;refine bI (vs:=x.cs) ?_;refine fJ (Lp x w0 w _ s) λw s=> ?_
 by_cases hm:rS x
 case neg=>simp [hm];exact s.an
 simp [hm];refine aQ ?_;refine ad ((Pu.fy x.acc w0 w _ s).mono ?_);intro _ w h;rw [if_pos ⟨hm.1,hm.2.1⟩] at h;obtain ⟨p,rfl,s⟩:=h;simp;refine aQ ?_;refine ad ((Gd.fy x.ae w0 w _ s).mono ?_);intro _ w h;rw [if_pos ⟨hm.2.2.1,hm.2.2.2.1⟩] at h;obtain ⟨g,rfl,s⟩:=h;simp;refine ad ((Es.fy p g x.acc x.ae ⟨x.acc,[⟨Pu.cF,0⟩],0,0⟩ [] w0 w _ (Pu.Lw ⟨hm.1,hm.2.1⟩) rfl s).mono ?_);rintro _ w ⟨e,rfl,s⟩;simp;refine bI (vs:=x.cs) ?_;refine iy s λm w s=> ?_;simp [SU.cs];refine fo λq w s=> ?_;have h:St w0 (_*vR q x 0 0 p g e m) w:=s;exact ⟨p,g,e,m,h.an⟩
end Go.HL.St0
namespace Go.HL.Tl
open Go.HL Go.Proofs
def FI:Nat->Nat->List UInt8
 |0,n=> [UInt8.ofNat n]
 |k+1,n=>if n<128 then [UInt8.ofNat n] else UInt8.ofNat (n %128+128)::FI k (n /128)
def vP (n:Nat):List UInt8:=FI 9 n
structure ShS (n:Nat) (m:Int) (k:Nat) (acc:List UInt8):Prop where
 pos:0<=m
 lt:m<2*128^k
 len:acc.length+k=9
 eq:vP n=acc++FI k m.toNat
 big:m<18446744073709551616
theorem ShS.start {n:Int} (h:0<=n/\n<18446744073709551616):ShS n.toNat n 9 []:=⟨h.1,by omega,rfl,rfl,h.2⟩
noncomputable abbrev T0:PF Tryz.prog:=PF.none _
def Ru:Value->Value
 | .slice a n _=> .slice a n n
 |v=>v
theorem add_zero:(λx:Addr=>x.add 0)=id:=by funext x;cases x;rfl
end Go.HL.Tl
