/- Part 18. -/
import Derived.Test.YtpldhemgcoimaaaGreatMEMq
set_option linter.unusedSimpArgs false
set_option linter.unusedVariables false
set_option maxRecDepth 4000
namespace Go.HL
theorem CL {p:Nat->Prop} (h:∃f,p f):∃f,p f/\∀g,p g->f<=g:=by
 obtain ⟨f,hf⟩:=h
 induction f using Nat.strongRecOn with
 |ind f ih=>
  by_cases hg:∃g,g<f/\p g
  ·obtain ⟨g,h1,h2⟩:=hg;exact ih g h1 h2
  ·exact ⟨f,hf,λg hg'=>Nat.le_of_not_lt λh=>hg ⟨g,h,hg'⟩⟩
open Classical in
noncomputable def AD (p:Nat->Prop):Nat:=if h:∃f,p f then Classical.choose (CL h) else 0
theorem rL {p:Nat->Prop} {f:Nat} (h:p f):p (AD p)/\AD p<=f:=by have he:∃f,p f:=⟨f,h⟩;unfold AD;rw [dif_pos he];have:=Classical.choose_spec (CL he);exact ⟨this.1,this.2 f h⟩
theorem lpG {P:Program} {F:PF P} {env:List Value} {w:World} {Q:EX->List Value->World->Prop} {x:HC} (ks:List Nat) (I:Nat->List Value->World->Prop) {f0:Nat} {vs0:List Value} (h0:I f0 vs0 w)
  (h:∀(LQ:EX->List Value->World->Prop) (f:Nat) (vs:List Value) (w:World),I f vs w->(∀f' vs' w',I f' vs' w'->f'<f->LQ .nrm (lW env ks vs') w')->(∀i env' w',Q (.ex i) env' w'->LQ (.ex i) env' w')->
   (∀env' w',Q .ret env' w'->LQ .ret env' w')->x.wp F LQ (lW env ks vs) w) (hu:lW env ks vs0=env:=by rfl):Bt F x Q env w:=by
 refine kA ks (λvs w=>∃f,I f vs w) (λe w=>AD λf=>∃vs,lW env ks vs=e/\I f vs w) ⟨f0,h0⟩ ?_ hu;rintro LQ vs w ⟨f,hf⟩ hN hX hR;obtain ⟨⟨vs1,e1,h1⟩,_⟩:=rL (p:=λf=>∃vs',lW env ks vs'=lW env ks vs/\I f vs' w) ⟨vs,rfl,hf⟩;have:=h LQ _ vs1 w h1 (λf' vs' w' h' hlt=>hN vs' w' ⟨f',h'⟩ ?_) hX hR
 ·rw [e1] at this;exact this
 ·exact Nat.lt_of_le_of_lt (rL (p:=λf=>∃vs'',lW env ks vs''=lW env ks vs'/\I f vs'' w') ⟨vs',rfl,h'⟩).2 hlt
end Go.HL
namespace Go.HL.St1
open Go.HL Go.HL.Tl Go.HL.Sr Go.HL.Es Go.Proofs
structure BS where
 at':Nat
 way:List Nat
 gone:List Bool
 fQ:List Int
def dD (s:BS):List Nat:=if s.way= [] then [s.at'] else s.way
def fx (l:List Nat):Nat:=l.getLastD 0
def eE (gone:List Bool) (cyc:List Nat):Nat->List Bool
 |0=>gone
 |k+1=>(eE gone cyc k).set (cyc.getD k 0) true
def oh (xs fQ:List Int) (cyc:List Nat):Nat->List Int
 |0=>fQ
 |k+1=>(oh xs fQ cyc k).set (cyc.getD k 0) (xs.getD (cyc.getD ((k+1) %cyc.length) 0) 0)
def j1 (l:List Nat) (x:Nat):List Nat:=l.drop (l.idxOf x)
def kG (xs:List Int) (wss:List (List Int)) (s:BS):BS:=
 if s.way= []/\s.gone.getD s.at' false=true then ⟨s.at'+1,[],s.gone,s.fQ⟩
 else if nx xs wss s.gone (fx (dD s))∈dD s then
  ⟨s.at',[],eE s.gone (j1 (dD s) (nx xs wss s.gone (fx (dD s)))) (j1 (dD s) (nx xs wss s.gone (fx (dD s)))).length,oh xs s.fQ (j1 (dD s) (nx xs wss s.gone (fx (dD s)))) (j1 (dD s) (nx xs wss s.gone (fx (dD s)))).length⟩
 else ⟨s.at',dD s++ [nx xs wss s.gone (fx (dD s))],s.gone,s.fQ⟩
def kF (n:Nat) (s:BS):Prop:=n<=s.at'/\s.way= []
instance (n:Nat) (s:BS):Decidable (kF n s):=inferInstanceAs (Decidable (_/\_))
def iy (xs:List Int) (wss:List (List Int)):Nat->BS->BS
 |0,s=>s
 |f+1,s=>if kF xs.length s then s else iy xs wss f (kG xs wss s)
def sg (n:Nat) (l:List Nat):Nat:=(List.range n).countP λk=>decide (k∉l)
def left (g:List Bool):Nat:=g.countP λb=> !b
structure BV (n:Nat) (s:BS):Prop where
 at':s.at'<=n
 nodup:s.way.Nodup
 way:∀k∈s.way,k<n/\s.gone.getD k false=false
 len:s.way.length+sg n s.way<=n
 gone:s.gone.length=n
 fQ:s.fQ.length=n
def iz (n:Nat) (s:BS):Nat:=(n -s.at')+(n+2)*left s.gone+sg n s.way
theorem xD {p q:Nat->Bool} {x:Nat}:∀{l:List Nat},(∀k,q k=true->p k=true)->x∈l->p x=true->q x=false->l.countP q<l.countP p
 |a::t,h,hx,hp,hq=>by
  have hle:t.countP q<=t.countP p:=List.countP_mono_left λk _ hk=>h k hk;rw [List.countP_cons,List.countP_cons];rcases List.mem_cons.1 hx with e|hx
  ·subst e;rw [hp,hq];simp;omega
  ·have ih:=xD (l:=t) h hx hp hq
   cases hqa:q a with
   |false=>simp;omega
   |true=>rw [h a hqa];simp;omega
theorem mV (n:Nat):sg n []=n:=by simp [sg]
theorem Q2 (n:Nat) (l:List Nat):sg n l<=n:=by
 have:=List.countP_le_length (p:=λk=>decide (k∉l)) (l:=List.range n)
 simpa [sg] using this
theorem yj {n x:Nat} {l:List Nat} (hx:x<n) (h:x∉l):sg n (l++ [x])<sg n l:=by unfold sg;refine xD (x:=x) (λk hk=> ?_) (by simpa using hx) (by simpa using h) (by simp);simp only [List.mem_append,List.mem_singleton,not_or,decide_eq_true_eq] at hk⊢;exact hk.1
theorem rM:∀(g:List Bool) (i:Nat),left (g.set i true)<=left g
 | [],i=>by simp [left]
 |b::t,0=>by simp [left,List.countP_cons]
 |b::t,i+1=>by have:=rM t i;simp only [left,List.set_cons_succ,List.countP_cons] at this⊢;omega
theorem rN:∀(g:List Bool) (i:Nat),i<g.length->g.getD i false=false->left (g.set i true)<left g
 | [],i,h,_=>by simp at h
 |b::t,0,_,h=>by
  have:b=false:=by simpa using h
  subst this;simp [left,List.countP_cons]
 |b::t,i+1,hl,h=>by have:=rN t i (by simpa using hl) (by simpa using h);simp only [left,List.set_cons_succ,List.countP_cons] at this⊢;omega
theorem nJ (gone:List Bool) (cyc:List Nat):∀k,(eE gone cyc k).length=gone.length
 |0=>rfl
 |k+1=>by rw [eE,List.length_set,nJ gone cyc k]
theorem mH (xs fQ:List Int) (cyc:List Nat):∀k,(oh xs fQ cyc k).length=fQ.length
 |0=>rfl
 |k+1=>by rw [oh,List.length_set,mH xs fQ cyc k]
theorem oM (gone:List Bool) (cyc:List Nat) (j:Nat) (h:gone.getD j false=true):∀k,(eE gone cyc k).getD j false=true
 |0=>h
 |k+1=>by
  have ih:=oM gone cyc j h k;rw [eE]
  by_cases e:cyc.getD k 0=j
  ·rw [e]
   have hj:j<(eE gone cyc k).length:=by
    rcases Nat.lt_or_ge j (eE gone cyc k).length with h|h2
    ·exact h
    ·rw [List.getD_eq_getElem?_getD,List.getElem?_eq_none (by omega)] at ih;cases ih
   simp [List.getD,hj]
  ·rw [List.getD_eq_getElem?_getD,List.getElem?_set_ne e,<-List.getD_eq_getElem?_getD];exact ih
theorem vf {gone:List Bool} {cyc:List Nat} (h0:cyc.getD 0 0<gone.length) (h1:gone.getD (cyc.getD 0 0) false=false):∀k,0<k->left (eE gone cyc k)<left gone
 |0,h=>by omega
 |1,_=>by rw [eE,eE];exact rN _ _ h0 h1
 |k+2,_=>by have:=vf h0 h1 (k+1) (by omega);rw [eE];exact Nat.lt_of_le_of_lt (rM _ _) this
theorem vJ {l:List Nat} (h:l≠ []):fx l∈l:=by unfold fx;rw [List.getLastD_eq_getLast?,List.getLast?_eq_some_getLast h];exact List.getLast_mem h
theorem QX {xs:List Int} {wss:List (List Int)} {gone:List Bool} {i:Nat} (hi:gone.getD i false=false):gone.getD (nx xs wss gone i) false=false:=by
 unfold nx;cases h:(wss.getD i []).findSome? (nf xs gone) with
 |none=>exact hi
 |some k=>
  obtain ⟨x,_,hx⟩:=List.exists_of_findSome?_eq_some h;exact (R6 hx).2.1
theorem qB {l:List Nat} {x:Nat} (h:x∈l):0<(j1 l x).length/\(j1 l x).getD 0 0=x/\∀y∈j1 l x,y∈l:=by have hi:l.idxOf x<l.length:=List.idxOf_lt_length_iff.2 h;unfold j1;refine ⟨by rw [List.length_drop];omega,?_,λy hy=>List.mem_of_mem_drop hy⟩;rw [List.getD_eq_getElem?_getD,List.getElem?_drop,Nat.add_zero,List.getElem?_eq_getElem hi];simp
theorem wL {n:Nat} {s:BS} (h:BV n s) (hd:¬kF n s) (hg:¬(s.way= []/\s.gone.getD s.at' false=true)):dD s≠ []/\(dD s).Nodup/\(∀k∈dD s,k<n/\s.gone.getD k false=false)/\(dD s).length+sg n (dD s)<=n/\sg n (dD s)<=sg n s.way:=by
 unfold dD
 by_cases e:s.way= []
 ·rw [if_pos e]
  have hat:s.at'<n:=by
   have:=h.at';rcases Nat.lt_or_ge s.at' n with h1|h1
   ·exact h1
   ·exact absurd ⟨h1,e⟩ hd
  have hp:=yj (l:= []) hat (by simp);rw [List.nil_append,mV] at hp;refine ⟨by simp,by simp,λk hk=> ?_,by simp only [List.length_singleton];omega,by rw [e,mV];omega⟩;have:k=s.at':=by simpa using hk
  subst this;refine ⟨hat,?_⟩;cases hgg:s.gone.getD s.at' false with
  |false=>rfl
  |true=>exact absurd ⟨e,hgg⟩ hg
 ·rw [if_neg e]
  exact ⟨e,h.nodup,h.way,h.len,Nat.le_refl _⟩
theorem mq {xs:List Int} {wss:List (List Int)} {s:BS} (h:BV xs.length s) (hd:¬kF xs.length s):BV xs.length (kG xs wss s)/\iz xs.length (kG xs wss s)<iz xs.length s:=by
 obtain ⟨n,hn⟩:∃n,xs.length=n:=⟨_,rfl⟩;rw [hn] at h hd⊢;unfold kG
 by_cases h1:s.way= []/\s.gone.getD s.at' false=true
 ·rw [if_pos h1]
  have hat:s.at'<n:=by
   rcases Nat.lt_or_ge s.at' n with h2|h2
   ·exact h2
   ·exact absurd ⟨h2,h1.1⟩ hd
  refine ⟨⟨hat,by simp,by simp,by simp [mV],h.gone,h.fQ⟩,?_⟩;simp only [iz,h1.1];omega
 rw [if_neg h1];obtain ⟨w1,w2,w3,w4,w5⟩:=wL h hd h1;obtain ⟨W,hW⟩:∃W,dD s=W:=⟨_,rfl⟩;rw [hW] at w1 w2 w3 w4 w5⊢;have hlast:=w3 _ (vJ w1);obtain ⟨x,hx⟩:∃x,nx xs wss s.gone (fx W)=x:=⟨_,rfl⟩;have hxl:x<n:=by rw [<-hx,<-hn];exact R8 (by rw [hn];exact hlast.1)
 have hxg:s.gone.getD x false=false:=by rw [<-hx];exact QX hlast.2
 rw [hx]
 by_cases h2:x∈W
 ·rw [if_pos h2]
  obtain ⟨c1,c2,c3⟩:=qB h2;refine ⟨⟨h.at',by simp,by simp,by simp [mV],by rw [nJ];exact h.gone,by rw [mH];exact h.fQ⟩,?_⟩;have hlt:=vf (gone:=s.gone) (cyc:=j1 W x) (by rw [c2,h.gone];exact hxl) (by rw [c2];exact hxg) _ c1;have hm:(n+2)*(left (eE s.gone (j1 W x) (j1 W x).length)+1)<=(n+2)*left s.gone:=Nat.mul_le_mul_left _ hlt;rw [Nat.mul_add] at hm;have:=Q2 n [];simp only [iz];omega
 ·rw [if_neg h2]
  have hp:=yj hxl h2;refine ⟨⟨h.at',?_,λk hk=> ?_,?_,h.gone,h.fQ⟩,?_⟩
  ·rw [List.nodup_append]
   exact ⟨w2,by simp,λa ha b hb=>by
    have:b=x:=by simpa using hb
    subst this;exact λe=>h2 (e▸ha)⟩
  ·rcases List.mem_append.1 hk with hk|hk
   ·exact w3 k hk
   ·have:k=x:=by simpa using hk
    subst this;exact ⟨hxl,hxg⟩
  ·simp only [List.length_append,List.length_singleton];omega
  ·simp only [iz];omega
def og (n:Nat):BS:=⟨0,[],List.replicate n false,List.replicate n 0⟩
theorem za (n:Nat):BV n (og n):=⟨by simp [og],by simp [og],by simp [og],by simp [og,mV],by simp [og],by simp [og]⟩
def mm (xs:List Int) (wss:List (List Int)):List Int:=(iy xs wss (iz xs.length (og xs.length)) (og xs.length)).fQ
theorem Eu {xs:List Int} {wss:List (List Int)} {s:BS} {f:Nat} (h:BV xs.length s) (hd:¬kF xs.length s) (hf:iz xs.length s<=f):∃f',iz xs.length (kG xs wss s)<=f'/\iy xs wss f' (kG xs wss s)=iy xs wss f s:=by have:=(mq (wss:=wss) h hd).2;obtain ⟨f',rfl⟩:∃f',f=f'+1:=⟨f -1,by omega⟩;exact ⟨f',by omega,by rw [iy,if_neg hd]⟩
theorem Er {xs:List Int} {wss:List (List Int)} {s:BS} (h:kF xs.length s):∀f,iy xs wss f s=s
 |0=>rfl
 |f+1=>by rw [iy,if_pos h]
def jF (n:Nat) (f:Nat->Int):List Int:=(List.range n).map f
theorem lQ (n:Nat) (f:Nat->Int):(jF n f).length=n:=by simp [jF]
theorem FN {n i:Nat} (f:Nat->Int) (h:i<n):(jF n f).getD i 0=f i:=by simp [jF,List.getD,h]
theorem AQ (n x:Nat) (f:Nat->Int) (v:Int):(jF n f).set x v=jF n λk=>if k=x then v else f k:=by
 apply List.ext_getElem?;intro k
 by_cases hk:k<n
 ·by_cases e:k=x
  ·subst e;simp [jF,hk]
  ·rw [List.getElem?_set_ne (Ne.symm e)];simp [jF,hk,e]
 ·rw [List.getElem?_eq_none (by simp [jF];omega),List.getElem?_eq_none (by simp [jF];omega)]
theorem AP {n:Nat} {f g:Nat->Int} (h:∀k,k<n->f k=g k):jF n f=jF n g:=by unfold jF;exact List.map_congr_left λk hk=>h k (by simpa using hk)
def ll (l:List Nat) (k:Nat):Int:=if k∈l then (l.idxOf k:Int)+1 else 0
theorem CA {l:List Nat} {x:Nat} (h:x∉l) (n:Nat):(jF n (ll l)).set x ((l.length:Int)+1)=jF n (ll (l++ [x])):=by
 rw [AQ];refine AP λk hk=> ?_;unfold ll
 by_cases e:k=x
 ·subst e
  rw [if_pos rfl,if_pos (by simp),List.idxOf_append,if_neg h];simp
 ·rw [if_neg e]
  by_cases hm:k∈l
  ·rw [if_pos hm,if_pos (by simp [hm]),List.idxOf_append,if_pos hm]
  ·rw [if_neg hm,if_neg (by simp [hm,e])]
end Go.HL.St1
namespace Go.HL.St1
open Go.HL Go.HL.Tl Go.HL.Sr Go.HL.Es Go.Proofs
attribute [local irreducible] aA
def od (es:List PE):List Int:=es.map (·.item)
def D9 (es:List PE):List (List Int):=es.map (·.ws)
def Kj (es:List PE) (g:List Int) (i:Nat):List Gf:=(if g.getD i 0=0 then [] else [⟨(en es i).acc,g.getD i 0,0⟩])++cg (en es i).acc (en es i).coins
def pj (es:List PE) (g:List Int) (n:Nat):List Gf:=(List.range n).flatMap (Kj es g)
def ue (es:List PE):List Gf:=pj es (mm (od es) (D9 es)) es.length
theorem xr (es:List PE) (g:List Int) (n:Nat):pj es g (n+1)=pj es g n++Kj es g n:=by simp [pj,List.range_succ]
theorem Np (es:List PE) (g:List Int) (i:Nat):(Kj es g i).length<=2:=by unfold Kj;have:=ur (en es i).acc (en es i).coins;split<;>simp<;>omega
theorem uf (es:List PE) (g:List Int):∀n,(pj es g n).length<=2*n
 |0=>by simp [pj]
 |n+1=>by have:=uf es g n;have:=Np es g n;rw [xr,List.length_append];omega
def LZ (d:ak) (f:Value->ak):Option Value->ak
 |none=>d
 |some v=>f v
@[simp] theorem pV (d:ak) (f:Value->ak):LZ d f none=d:=rfl
@[simp] theorem L0 (d:ak) (f:Value->ak) (v:Value):LZ d f (some v)=f v:=rfl
def FZ (n:Nat) (v:Value) (o:Obj):ak:=λh=>∃b,v= .slice (some ⟨b,0,none⟩) n n/\pt b o h
@[simp] theorem MA (n b:Nat) (o:Obj):FZ n (.slice (some ⟨b,0,none⟩) n n) o=pt b o:=by
 funext h;apply propext;constructor
 ·rintro ⟨b',e,hh⟩
  cases e;exact hh
 ·intro hh;exact ⟨b,rfl,hh⟩
theorem HM {w0 w:World} {A:ak} {n:Nat} {v:Value} {o:Obj} (s:St w0 (A*FZ n v o) w):∃b,v= .slice (some ⟨b,0,none⟩) n n:=by obtain ⟨g,h1,h2,h3,d,e,a,b,hb,_⟩:=s.holds;exact ⟨b,hb⟩
end Go.HL.St1
namespace Go.HL.Pu
open Go.HL Go.HL.Nm Go.Proofs
def nms (l:List Ac):List (List UInt8):=l.map Ac.name
structure NI (ns:List (List UInt8)):Prop where
 chk:∀n∈ns,(jo n).2=0
 nod:(ns.map gh).Nodup
 bank:ns[0]? =some cN
theorem LN {lim:Int} (h:1<=lim/\lim<=64):PI lim ⟨lim,[⟨cN,0⟩],0,0⟩:=
 ⟨rfl,h,by simp;omega,by simp,Int.le_refl _,rfl,by show (0:Int)<=_;decide,λi hi=>by
  have:i=0:=by simpa using hi
  subst this;simp [cN]⟩
end Go.HL.Pu
namespace Go.HL.St0
open Go.HL Go.Proofs
attribute [local irreducible] aA
structure SU where
 seats:Int
 queue:Int
 quantum:Int
 settle:Int
 rate:Int
 burst:Int
 idle:Int
 acc:Int
 ae:Int
 con:Int
 log:Int
 slot:Int
def SU.cs (x:SU):List Value:= [.int .i64 x.seats,.int .i64 x.queue,.int .i64 x.quantum,.int .i64 x.settle,.int .i64 x.rate,.int .i64 x.burst,.int .i64 x.idle,.int .i64 x.acc,.int .i64 x.ae,.int .i64 x.con,.int .i64 x.log,.int .i64 x.slot]
def sd (x:SU):Prop:=1<=x.acc/\x.acc<=64/\0<=x.ae/\x.ae<=512/\1<=x.con/\x.con<=64
instance (x:SU):Decidable (sd x):=inferInstanceAs (Decidable (_/\_))
noncomputable abbrev S0:PF Tryz.prog:=PF.none _
def l32:ag:=⟨[0,1,2],31,[.slot 2],aM tG [] 0x39bffedc8de95f7df7dfdd2042481481481481e2271f8de95f7df7f74810920520520510e271f8de95f7dfdd204248148144589c7e37a57dfdd204248144789c7e37a57f7481091fa271fdd5d480d1281302091fb520344a04c0a65d2115c4134347e011fb104d0d1f95d4347a2c2447d4347a2c299748457104d0d11c0447c413434475753c3446302445d4f0d118c0a65d2115c4130344501117104c0d1155d404442c2443d404442c299748457104c0d10c0443c41303443575203442302e3520344230299748457104e0b8038c41382e15d43ccb0b50f32c2d3104e080c413829e2699d92042cc1f0f2c1⟩
theorem VB:ai S0 32 400=some l32:=by kernel_rfl
def l8:ag:=⟨[0,1,2,3,4,6,8],38,[.slot 2,.slot 3],aM tG [] 0x39e79bff8a2eda6764800d1082d14514cb8406405404ccc3413cc0d4514cb8406405404ccc3414c9301c4120cfe271cdd59b33011a6cce066ccc07d15010f2c39fb89c737566e0c0459b83819b83019b338a0f4c4130303104c0e7ee271cdd59b8301126e0e066e0c066ccd283d3104e080c41382a2f02cbff699d921c34ba0a289c6d59b83c1626e0f066ccc283c4120cfe26996764800d2e82cc1f0f2c1⟩
theorem Z5:ai S0 8 400=some l8:=by kernel_rfl
def Uq:ag:=⟨[0,2],9,[.slot 1],aM tG [] 0xb39bff73bdf3074d3c00a100d3c00a13c028bc0b2fff74ba05c6d5f08118f08127dd2e81⟩
theorem Hj:ai S0 131 400=some Uq:=by kernel_rfl
def l74:ag:=⟨[0,1,4,5],12,[.slot 2,.slot 3],aM tG [] 0x39bff8a271c699d959b83810d59b83010a6e0e066e0c07d0732cf0fc28cfda6764810d2002⟩
theorem Lt:ai S0 74 400=some l74:=by kernel_rfl
theorem LG (x:SU) (w0 w:World) (A:ak) (s:St w0 A w):aj Tryz.prog 32 [.agg x.cs.toArray] (λr w'=>r= .bool (decide (sd x))/\St w0 A w') w:=by
 refine go VB ?_;refine fw λb w s=> ?_;refine aQ ?_
 by_cases c1:1<=x.acc
 case neg=>simp [c1,sd];exact s.an
 simp [c1];refine aQ ?_
 by_cases c2:x.acc<=64
 case neg=>simp [c2,sd];exact s.an
 simp [c2];refine aQ ?_
 by_cases c3:0<=x.ae
 case neg=>simp [c3,sd];exact s.an
 simp [c3];refine aQ ?_
 by_cases c4:x.ae<=512
 case neg=>simp [c4,sd];exact s.an
 simp [c4];refine aQ ?_
 by_cases c5:1<=x.con
 case neg=>simp [c5,sd];exact s.an
 simp [c5];refine aQ ?_;simp [c1,c2,c3,c4,c5,sd];exact s.an
def DF (x:SU) (clock last:Int) (p g e m:Nat):List Value:=x.cs++([.int .i64 clock,.pointer (some ⟨p,0,none⟩),.pointer (some ⟨g,0,none⟩),.pointer (some ⟨e,0,none⟩),.int .i64 last,.map (some m)]:List Value)
abbrev wq (q:Nat) (x:SU) (clock last:Int) (p g e m:Nat):ak:=pt q (.cells (DF x clock last p g e m).toArray 94 (0,0))
abbrev QU (q:Nat) (x:SU) (p g e m:Nat):ak:=wq q x 0 0 p g e m*Es.aI p g e x.ae ⟨⟨x.acc,[⟨Pu.cN,0⟩],0,0⟩,[],[]⟩*ao m [] 0
set_option maxHeartbeats 1000000 in
theorem fB (x:SU) (w0 w:World) (A:ak) (s:St w0 A w):aj Tryz.prog 8 [.agg x.cs.toArray] (λr w'=>(sd x/\∃q p g e m,r= .tuple #[.pointer (some ⟨q,0,none⟩),.int .i64 0]/\St w0 (A*QU q x p g e m) w')\/(¬sd x/\r= .tuple #[.pointer none,.int .i64 2]/\St w0 A w')) w:=by
 refine go Z5 ?_;refine fw λb w s=> ?_;refine bL (vs:=x.cs) ?_;refine gC (LG x w0 w _ s) λw s=> ?_
 by_cases hm:sd x
 case neg=>simp [hm];exact s.an
 simp [hm];refine aQ ?_;refine ab ((Pu.fB x.acc w0 w _ s).mono ?_);intro _ w h;rw [if_pos ⟨hm.1,hm.2.1⟩] at h;obtain ⟨p,rfl,s⟩:=h;simp;refine aQ ?_;refine ab ((Gd.fB x.ae w0 w _ s).mono ?_);intro _ w h;rw [if_pos ⟨hm.2.2.1,hm.2.2.2.1⟩] at h;obtain ⟨g,rfl,s⟩:=h;simp;refine ab ((Es.fB p g x.acc x.ae ⟨x.acc,[⟨Pu.cN,0⟩],0,0⟩ [] w0 w _ (Pu.LN ⟨hm.1,hm.2.1⟩) rfl s).mono ?_);rintro _ w ⟨e,rfl,s⟩;simp;refine bL (vs:=x.cs) ?_;refine iC s λm w s=> ?_;simp [SU.cs];refine fw λq w s=> ?_;have h:St w0 (_*wq q x 0 0 p g e m) w:=s;exact ⟨p,g,e,m,h.an⟩
end Go.HL.St0
namespace Go.HL.Tl
open Go.HL Go.Proofs
def FY:Nat->Nat->List UInt8
 |0,n=> [UInt8.ofNat n]
 |k+1,n=>if n<128 then [UInt8.ofNat n] else UInt8.ofNat (n %128+128)::FY k (n /128)
def wm (n:Nat):List UInt8:=FY 9 n
structure ShS (n:Nat) (m:Int) (k:Nat) (acc:List UInt8):Prop where
 pos:0<=m
 lt:m<2*128^k
 len:acc.length+k=9
 eq:wm n=acc++FY k m.toNat
 big:m<18446744073709551616
theorem ShS.start {n:Int} (h:0<=n/\n<18446744073709551616):ShS n.toNat n 9 []:=⟨h.1,by omega,rfl,rfl,h.2⟩
noncomputable abbrev T0:PF Tryz.prog:=PF.none _
def RL:Value->Value
 | .slice a n _=> .slice a n n
 |v=>v
theorem add_zero:(λx:Addr=>x.add 0)=id:=by funext x;cases x;rfl
end Go.HL.Tl
