/- Part 20. -/
import Derived.Test.YtpldhemgcoimaaaGreatMFMs
set_option linter.unusedSimpArgs false
set_option linter.unusedVariables false
set_option maxRecDepth 4000
namespace Go.HL.Wh
open Go.HL
def dY (to:Nat) (D:Tm->Bool) (ts:List Tm):List Tm:=(ts.filter λt=> !(D t&&decide (t.a<=to))).map λt=>if D t=true then j2 t to else t
def rW (to:Nat) (D:Tm->Bool) (ts:List Tm):List Tm:=ts.filter λt=>D t&&decide (t.a<=to)
def rT (to:Nat) (t:Tm):Bool:=decide (to<t.a)&&decide ((fQ t.a to).1≠t.l)
def iQ (to:Nat) (D:Tm->Bool) (ts:List Tm):List Tm:=ts.filter λt=>D t&&rT to t
def dX (D:Tm->Bool) (t:Tm):Tm->Bool:=λu=>D u||decide (u.n=t.n)
section
variable {ts:List Tm} {to:Nat} {D D':Tm->Bool} {t:Tm}
theorem Ia (h:∀t∈ts,D t=D' t):dY to D ts=dY to D' ts:=by
 unfold dY;have e:(ts.filter λt=> !(D t&&decide (t.a<=to)))=ts.filter λt=> !(D' t&&decide (t.a<=to)):=List.filter_congr λt ht=>by rw [h t ht]
 rw [e];exact List.map_congr_left λt ht=>by rw [h t (List.mem_filter.1 ht).1]
theorem Ja (h:∀t∈ts,D t=D' t):rW to D ts=rW to D' ts:=List.filter_congr λt ht=>by rw [h t ht]
theorem I3 (h:∀t∈ts,D t=D' t):iQ to D ts=iQ to D' ts:=List.filter_congr λt ht=>by rw [h t ht]
theorem uy (p:Tm->Bool):∀{ts:List Tm},(ts.map (·.n)).Nodup->t∈ts->D t=false->p t=true->
  (ts.filter λu=>dX D t u&&p u).Perm (t::ts.filter λu=>D u&&p u)
 | [],_,h,_,_=>by cases h
 |x::r,hn,ht,hD,hp=>by
  rw [List.map_cons,List.nodup_cons] at hn;rcases List.mem_cons.1 ht with rfl|ht
  ·have e:(r.filter λu=>dX D t u&&p u)=r.filter λu=>D u&&p u:=List.filter_congr λu hu=>by have:u.n≠t.n:=λg=>hn.1 (List.mem_map.2 ⟨u,hu,g⟩);simp [dX,this]
   rw [List.filter_cons_of_pos (by simp [dX,hp]),List.filter_cons_of_neg (by simp [hD]),e]
  ·have hne:x.n≠t.n:=λg=>hn.1 (List.mem_map.2 ⟨t,ht,g.symm⟩)
   have ih:=uy p hn.2 ht hD hp
   by_cases hx:(D x&&p x)=true
   ·rw [List.filter_cons_of_pos (by simpa [dX,hne] using hx),show (x::r).filter (λu=>D u&&p u)=x::r.filter (λu=>D u&&p u) from List.filter_cons_of_pos hx]
    exact (ih.cons x).trans (List.Perm.swap t x _)
   ·rw [List.filter_cons_of_neg (by simpa [dX,hne] using hx),show (x::r).filter (λu=>D u&&p u)=r.filter (λu=>D u&&p u) from List.filter_cons_of_neg hx]
    exact ih
theorem uz (p:Tm->Bool) (hn:(ts.map (·.n)).Nodup) (ht:t∈ts) (hp:p t=false):(ts.filter λu=>dX D t u&&p u)=ts.filter λu=>D u&&p u:=by
 refine List.filter_congr λu hu=> ?_
 by_cases e:u.n=t.n
 ·have:=fL hn hu ht e
  subst this;simp [hp]
 ·simp [dX,e]
theorem Gn (hn:(ts.map (·.n)).Nodup) (ht:t∈ts) (hd:t.a<=to):dY to (dX D t) ts=eB (dY to D ts) t.n:=by
 unfold dY eB;rw [List.filter_map,List.filter_filter];have e:(ts.filter λu=> !(dX D t u&&decide (u.a<=to)))=ts.filter λu=>((λu:Tm=>decide (u.n≠t.n))∘λt=>if D t=true then j2 t to else t) u&& !(D u&&decide (u.a<=to)):=by
  refine List.filter_congr λu hu=> ?_;have hfn:(if D u=true then j2 u to else u).n=u.n:=by split<;>rfl
  simp only [Function.comp_apply,hfn]
  by_cases e:u.n=t.n
  ·have:=fL hn hu ht e
   subst this;simp [dX,hd]
  ·simp [dX,e]
 rw [e];refine List.map_congr_left λu hu=> ?_;have h:=(List.mem_filter.1 hu).2;have hfn:(if D u=true then j2 u to else u).n=u.n:=by split<;>rfl
 simp only [Function.comp_apply,hfn,Bool.and_eq_true,decide_eq_true_eq] at h;simp [dX,h.1]
theorem Gp (hn:(ts.map (·.n)).Nodup) (ht:t∈ts) (hd:to<t.a):dY to (dX D t) ts=Fq (dY to D ts) (j2 t to):=by
 unfold dY Fq;rw [List.map_map];have e:(ts.filter λu=> !(dX D t u&&decide (u.a<=to)))=ts.filter λu=> !(D u&&decide (u.a<=to)):=by
  refine List.filter_congr λu hu=> ?_
  by_cases e:u.n=t.n
  ·have:=fL hn hu ht e
   subst this;have:¬u.a<=to:=by omega
   simp [this]
  ·simp [dX,e]
 rw [e];refine List.map_congr_left λu hu=> ?_;have hu:=(List.mem_filter.1 hu).1;have hfn:(if D u=true then j2 u to else u).n=u.n:=by split<;>rfl
 simp only [Function.comp_apply,hfn];show _=if u.n=t.n then j2 t to else _
 by_cases e:u.n=t.n
 ·have:=fL hn hu ht e
  subst this;simp [dX]
 ·simp [dX,e]
theorem Kj (hn:(ts.map (·.n)).Nodup) (ht:t∈ts) (hd:to<t.a) (hg:j2 t to=t):dY to (dX D t) ts=dY to D ts:=by
 unfold dY;have e:(ts.filter λu=> !(dX D t u&&decide (u.a<=to)))=ts.filter λu=> !(D u&&decide (u.a<=to)):=by
  refine List.filter_congr λu hu=> ?_
  by_cases e:u.n=t.n
  ·have:=fL hn hu ht e
   subst this;have:¬u.a<=to:=by omega
   simp [this]
  ·simp [dX,e]
 rw [e];refine List.map_congr_left λu hu=> ?_;have hu:=(List.mem_filter.1 hu).1
 by_cases e:u.n=t.n
 ·have:=fL hn hu ht e
  subst this;simp [dX,hg]
 ·simp [dX,e]
theorem QC {u:Tm} (h:u∈dY to D ts):∃t∈ts,u=(if D t=true then j2 t to else t)/\(D t=true->to<t.a):=by obtain ⟨t,ht,rfl⟩:=List.mem_map.1 h;obtain ⟨h1,h2⟩:=List.mem_filter.1 ht;refine ⟨t,h1,rfl,λhD=> ?_⟩;simp [hD] at h2;exact h2
theorem sa {t:Tm} (ht:t∈ts) (hD:D t=false):t∈dY to D ts:=List.mem_map.2 ⟨t,List.mem_filter.2 ⟨ht,by simp [hD]⟩,by simp [hD]⟩
end
structure kS (now:Nat) (ts:List Tm):Prop where
 num:(ts.map (·.n)).Nodup
 pl:∀t∈ts,t.l=(fQ t.a now).1/\t.s=(fQ t.a now).2
 ah:∀t∈ts,now<t.a
 bd:∀t∈ts,t.a<=1099511627776/\1<=t.n
def j6 (to:Nat) (ts:List Tm):List Tm:=(ts.filter λt=>decide (to<t.a)).map λt=>j2 t to
def ug (to:Nat) (ts:List Tm):List Tm:=ts.filter λt=>decide (t.a<=to)
def kh (to:Nat) (ts:List Tm):List Tm:=ts.filter (rT to)
theorem kS.rest {now to:Nat} {ts:List Tm} (h:kS now ts):kS to (j6 to ts):=by
 have hm:∀u∈j6 to ts,∃t∈ts,to<t.a/\u=j2 t to:=λu hu=>by obtain ⟨t,ht,rfl⟩:=List.mem_map.1 hu;obtain ⟨h1,h2⟩:=List.mem_filter.1 ht;exact ⟨t,h1,of_decide_eq_true h2,rfl⟩
 refine ⟨?_,λu hu=> ?_,λu hu=> ?_,λu hu=> ?_⟩
 ·unfold j6
  rw [List.map_map];exact h.num.sublist (List.filter_sublist.map _)
 ·obtain ⟨t,ht,h1,rfl⟩:=hm u hu;exact ⟨rfl,rfl⟩
 ·obtain ⟨t,ht,h1,rfl⟩:=hm u hu;exact h1
 ·obtain ⟨t,ht,h1,rfl⟩:=hm u hu;exact h.bd t ht
theorem uY {t:Tm} {to:Nat} (h1:(fQ t.a to).1=t.l) (h2:(fQ t.a to).2=t.s):j2 t to=t:=by unfold j2;rw [h1,h2]
def vD (l n:Nat):Tm->Bool:=λt=>decide (t.l<l)||(decide (t.l=l)&&decide (t.s<n))
section
variable {ts:List Tm} {now to:Nat} {D:Tm->Bool}
theorem NM (h:kS now ts) (hto:now<to) (hD:∀t∈ts,D t=true↔nW now to (t.l,t.s)):dY to D ts=j6 to ts/\rW to D ts=ug to ts/\iQ to D ts=kh to ts:=by
 have key:∀t∈ts,D t=false->to<t.a/\j2 t to=t:=λt ht hd=>by
  obtain ⟨p1,p2⟩:=h.pl t ht;have hv:¬nW now to (fQ t.a now):=by rw [show fQ t.a now=(t.l,t.s) by rw [p1,p2]];intro g;rw [(hD t ht).2 g] at hd;cases hd
  obtain ⟨q1,q2⟩:=(Ff t.a now to (h.ah t ht) hto).2 hv;exact ⟨q1,uY (by rw [q2,p1]) (by rw [q2,p2])⟩
 refine ⟨?_,?_,?_⟩
 ·unfold dY j6
  have e:(ts.filter λt=> !(D t&&decide (t.a<=to)))=ts.filter λt=>decide (to<t.a):=List.filter_congr λt ht=>by
   cases hd:D t with
   |true=>by_cases g:t.a<=to<;>simp [g]<;>omega
   |false=>simp [(key t ht hd).1]
  rw [e];refine List.map_congr_left λt ht=> ?_;cases hd:D t with
  |true=>simp
  |false=>simp [(key t (List.mem_filter.1 ht).1 hd).2]
 ·refine List.filter_congr λt ht=> ?_
  cases hd:D t with
  |true=>simp
  |false=>have:=(key t ht hd).1;simp;omega
 ·refine List.filter_congr λt ht=> ?_
  cases hd:D t with
  |true=>simp
  |false=>
   have:=(key t ht hd).2;have:(fQ t.a to).1=t.l:=congrArg Tm.l this;simp [rT,this]
theorem J0 (h:kS now ts) (hto:now<to) {l n:Nat} (hl:l<=4) (hn:n<64) (h4:l=4->n=0) (hv:nW now to (l,n)) {sn:List Int} (hD:∀t∈ts,D t=(vD l n t||(decide (gD t=l*64+n)&&decide (t.n∈sn)))) {u:Tm} (hu:u∈dY to D ts) (hq:gD u=l*64+n) (hs:u.n∉sn):
  u∈ts/\D u=false/\u.l=l/\u.s=n:=by
 obtain ⟨t,ht,he,hd⟩:=QC hu;have htn:u.n=t.n:=by rw [he];split<;>rfl
 have ok:∀t:Tm,t.l=(fQ t.a now).1->t.s=(fQ t.a now).2->t.s<64/\t.l<=4:=λt h1 h2=>by have:=lF t.a now;rw [h1,h2];exact ⟨this.2.1,this.1⟩
 have hDf:D t=false:=by
  cases hDt:D t with
  |false=>rfl
  |true=>
   exfalso;have hta:=hd hDt;rw [hDt,if_pos rfl] at he;rw [hD t ht] at hDt;obtain ⟨p1,p2⟩:=h.pl t ht;have hlt:t.l<l\/t.l=l/\t.s<n:=by
    rcases Bool.or_eq_true _ _▸hDt with g|g
    ·simp only [vD,Bool.or_eq_true,Bool.and_eq_true,decide_eq_true_eq] at g;exact g
    ·simp only [Bool.and_eq_true,decide_eq_true_eq] at g
     exact absurd (htn▸g.2) hs
   have hv2:nW now to (fQ t.a now):=by rw [show fQ t.a now=(t.l,t.s) by rw [p1,p2]];unfold nW at hv⊢;simp only at hv⊢;omega
   have:=((Ff t.a now to (h.ah t ht) hto).1 hv2 hta).1;rw [show fQ t.a now=(t.l,t.s) by rw [p1,p2]] at this;unfold nW at hv;rw [<-this] at hv;simp only at hv;omega
 rw [hDf] at he;simp at he;subst he;obtain ⟨p1,p2⟩:=h.pl u ht;obtain ⟨b1,b2⟩:=ok u p1 p2;unfold gD at hq;exact ⟨ht,hDf,by omega,by omega⟩
theorem YG (h:kS now ts) (hto:now<to) {l n:Nat} (hv:nW now to (l,n)) {u:Tm} (hu:u∈ts) (hl:u.l=l) (hs:u.s=n) (hd:to<u.a):(fQ u.a to).1=l->j2 u to=u:=by
 obtain ⟨p1,p2⟩:=h.pl u hu;have e:fQ u.a now=(l,n):=by rw [<-hl,<-hs,p1,p2]
 obtain ⟨q1,q2⟩:=(Ff u.a now to (h.ah u hu) hto).1 (e▸hv) hd;intro g;rcases q2 with q2|q2
 ·rw [<-q1,e] at q2;simp only at q2;omega
 ·exact uY (by rw [q2,<-p1]) (by rw [q2,<-p2])
theorem vp (h:kS now ts) {l n:Nat} (hn:n<64) {sn:List Int} (hD:∀t∈ts,D t=(vD l n t||(decide (gD t=l*64+n)&&decide (t.n∈sn)))) (hall:∀t∈ts,gD t=l*64+n->D t=true):∀t∈ts,D t=vD l (n+1) t:=by
 intro t ht;obtain ⟨p1,p2⟩:=h.pl t ht;have hs:t.s<64:=by rw [p2];exact (lF t.a now).2.1
 by_cases hq:gD t=l*64+n
 ·rw [hall t ht hq]
  unfold gD at hq;have e1:t.l=l:=by omega
  have e2:t.s=n:=by omega
  simp [vD,e1,e2]
 ·rw [hD t ht]
  unfold gD at hq;have hq2:¬(t.l=l/\t.s=n):=λg=>hq (by rw [g.1,g.2]);unfold vD;rw [Bool.eq_iff_iff];simp only [Bool.or_eq_true,Bool.and_eq_true,decide_eq_true_eq,gD,hq,false_and,or_false];omega
theorem Fk (h:kS now ts) (l:Nat):∀t∈ts,vD l 64 t=vD (l+1) 0 t:=by
 intro t ht;obtain ⟨p1,p2⟩:=h.pl t ht;have hs:t.s<64:=by rw [p2];exact (lF t.a now).2.1
 unfold vD;rw [Bool.eq_iff_iff];simp only [Bool.or_eq_true,Bool.and_eq_true,decide_eq_true_eq];omega
end
end Go.HL.Wh
namespace Go.HL.Wh
open Go.HL Go.Proofs
def U8:ai:=⟨[0,2],6,[.slot 1],aN tG [] 0xe6ffdcdd553c40010153c400127dd2041⟩
theorem P6:af U2 274 400=some U8:=by kernel_rfl
def Lc:ai:=⟨[0,2,3,5,6,7,8],18,[.slot 1],aN tG [] 0x2ce79bffdd0081b6ee677375750d01be1b50d01beb6ca2f02cbffdd00c171b57d0900c463d0900c49fbdf30f4f464042c103d19010b041a2f0af01c6d5f454061d8f454061c09dc699676480195f02150004f029f74800a7dd2001⟩
theorem G3:af U2 199 400=some Lc:=by kernel_rfl
theorem ve (u:Int) (w:World):aj Tryz.prog 274 [.int .i64 u] (λr w'=>r= .bool false/\w'=w) w:=by refine aG P6 (by simp [U8]) ?_;simp [U8]
def rM (a b:Int):Int:=if a<b then -1 else if b<a then 1 else 0
def UG:ai:=⟨[0,1,4,5,6],20,[.slot 2],aN tG [] 0xe79e79bffdd2002a2f02cbffdd20c271b57d05000a098f41400282a2f02cbffdd22c309c6d5f414001d8f414001e8bc0b2fff748309b404628bc0e6fff748b0c2a2f02cbffdd20026d01186d00d89e2df313104d2029e2df30fc3480a7dd2002⟩
theorem Pb:af U2 200 400=some UG:=by kernel_rfl
theorem H6 (a b:Int) (w:World):aj Tryz.prog 200 [.int .i64 a,.int .i64 b] (λr w'=>r= .int .i64 (rM a b)/\w'=w) w:=by
 refine aG Pb (by simp [UG]) ?_;simp [UG];refine ad ((ve a w).mono ?_);rintro r w1 ⟨rfl,rfl⟩;simp;refine ad ((ve b w1).mono ?_);rintro r w2 ⟨rfl,rfl⟩;simp;unfold rM;refine aR (λh=> ?_) (λh=> ?_)
 ·simp at h
  simp [h]
 simp at h;simp;refine aR (λh2=> ?_) (λh2=> ?_)
 ·simp at h2
  simp [h2,show¬a<b by omega]
 ·simp at h2
  simp [show¬a<b by omega,show¬b<a by omega]
noncomputable def Ke:PS Tryz.prog where
 f:=200
 val args:=match args with
  | [.int _ a,.int _ b]=> .int .i64 (rM a b)
  |_=>undef
 ok args:=match args with
  | [.int k a,.int k' b]=>k= .i64/\k'= .i64
  |_=>False
 sound args w h:=by
  split at h
  ·obtain ⟨rfl,rfl⟩:=h;exact H6 _ _ w
  ·exact h.elim
noncomputable abbrev U3:PF Tryz.prog:=PF.of [Ke]
@[simp] theorem YF (args:List Value):U3.val 200 args=Ke.val args:=rfl
@[simp] theorem aPa (args:List Value):U3.ok 200 args=Ke.ok args:=rfl
@[simp] theorem YT (a b:Int):Ke.val [.int .i64 a,.int .i64 b]= .int .i64 (rM a b):=rfl
@[simp] theorem aUa (a b:Int):Ke.ok [.int .i64 a,.int .i64 b]=(IntKind.i64= .i64/\IntKind.i64= .i64):=rfl
theorem QS (a b:Int) (bk:Nat) (w0 w:World) (A:ak) (s:St w0 (A*pt bk (.cells #[.int .i64 a,.int .i64 b] 3 (0,0))) w):
  aj Tryz.prog 199 [.slice (some ⟨bk,0,none⟩) 2 2] (λr w'=>r= .int .i64 (if a=0 then b else a)/\St w0 A w') w:=by
 have h0:w.cell? ⟨bk,0,none⟩=some (.int .i64 a):=by rw [cell_of s.look];rfl
 have h1:w.cell? ⟨bk,1,none⟩=some (.int .i64 b):=by rw [cell_of s.look];rfl
 refine aG G3 (by simp [Lc]) ?_;simp [Lc];refine gr (λenv w'=>∃(i:Nat) (o:Value),env= [.slice (some ⟨bk,0,none⟩) 2 2,.int .i64 0,.int .i64 0,o,.slice (some ⟨bk,0,none⟩) 2 2,.int .i64 2,.int .i64 i]/\i<=2/\(0<i->a=0)/\(1<i->b=0)/\w'=w)
  (λenv _=>2 -ay env 6) ⟨0,_,rfl,by omega,by omega,by omega,rfl⟩ ?_
 rintro LQ env w' ⟨i,o,rfl,hi,ha,hb,rfl⟩ hN hE hR;simp;refine aR (λh2=> ?_) (λh2=> ?_)
 ·simp at h2
  have hi2:i=0\/i=1:=by omega
  rcases hi2 with rfl|rfl
  ·simp
   refine ag h0 ?_;simp
   by_cases e:a=0
   ·simp [e]
    try simp (disch:=omega) only [wrap64]
    exact hN _ _ ⟨1,_,by simp;rfl,by omega,λ_=>e,by omega,rfl⟩ (by simp [ay])
   ·simp [e]
    refine hR _ _ ?_;simp [e];exact s.drop
  ·simp
   refine ag h1 ?_;simp
   by_cases e:b=0
   ·simp [e]
    try simp (disch:=omega) only [wrap64]
    exact hN _ _ ⟨2,_,by simp;rfl,by omega,λ_=>ha (by omega),λ_=>e,rfl⟩ (by simp [ay])
   ·simp [e]
    refine hR _ _ ?_;simp [ha (by omega)];exact s.drop
 ·simp at h2
  simp;refine hE _ _ _ ?_;simp [ha (by omega),hb (by omega)];exact s.drop
def Uh:ai:=⟨[0,1,2,3,4],17,[.slot 4],aN tG [] 0xe6f069efb73befb8b744512644434c1325724434423c7572e333c733ac910d108f1f4c43040c43074c42040c42072e333c7d310c50310c5d310850310850e78a26996764801380f30b104f202f0f202⟩
theorem OA:af U3 144 400=some Uh:=by kernel_rfl
def qL (x y:Int×Int):Int:=if rM x.2 y.2=0 then rM x.1 y.1 else rM x.2 y.2
abbrev dz (x:Int×Int):List Value:= [.int .i64 x.1,.int .i64 x.2]
def odC (w0:World) (A B:ak) (c1 c2 o:Int):List Value->World->Prop
 | [],w=>St w0 B w
 | [v],w=>∃bk,v= .slice (some ⟨bk,0,none⟩) 2 2/\St w0 (B*pt bk (.cells #[.int .i64 c1,.int .i64 c2] 3 (0,0))) w
 |_::r::_,w=>r= .int .i64 o/\St w0 A w
theorem Ft (x y:Int×Int) (w0 w:World) (A:ak) (s:St w0 A w):
  aj Tryz.prog 144 [.agg (dz x).toArray,.agg (dz y).toArray] (λr w'=>r= .int .i64 (qL x y)/\St w0 A w') w:=by
 refine aG OA (by simp [Uh]) ?_;simp [Uh];refine bu s ?_;intro b1 w1 s1;simp;refine bu s1 ?_;intro b2 w2 s2;simp;obtain ⟨B,hB⟩:∃B,A*pt b1 (.cells (dz x).toArray 164 (0,0))*pt b2 (.cells (dz y).toArray 164 (0,0))=B:=⟨_,rfl⟩;have s2:St w0 (A*pt b1 (.cells (dz x).toArray 164 (0,0))*pt b2 (.cells (dz y).toArray 164 (0,0))) w2:=s2;have hx:∀w,St w0 B w->∀(j:Nat) u,(dz x)[j]?=some u->w.cell? ⟨b1,j,none⟩=some u:=λw h j u hu=>by
  rw [<-hB] at h;have:=h.drop.ab j u hu
  rwa [Nat.zero_add] at this
 have hy:∀w,St w0 B w->∀(j:Nat) u,(dz y)[j]?=some u->w.cell? ⟨b2,j,none⟩=some u:=λw h j u hu=>by
  rw [<-hB] at h;have:=h.ab j u hu
  rwa [Nat.zero_add] at this
 have hA:∀w,St w0 B w->St w0 A w:=λw h=>by rw [<-hB] at h;exact h.drop.drop
 rw [hB] at s2;refine fH (odC w0 A B (rM x.2 y.2) (rM x.1 y.1) (qL x y)) s2.drew ?_;have ld:∀(b j:Nat) (u:Value),(∀w,St w0 B w->w.cell? ⟨b,j,none⟩=some u)->∀(vs':List Value) (w:World),era 1 vs'=era 1 []->odC w0 A B (rM x.2 y.2) (rM x.1 y.1) (qL x y) vs' w->w.cell? ⟨b,j,none⟩=some u:=by
  intro b j u h vs' w he hw
  match vs',hw with
  | [],hw=>exact h w hw
  |_::_,hw=>simp [era] at he
 simp;refine al (v:= .int .i64 x.2) (λvs' w he hw=>ld b1 1 _ (λw h=>hx w h 1 _ rfl) vs' w he hw) ?_;simp;refine al (v:= .int .i64 y.2) (λvs' w he hw=>ld b2 1 _ (λw h=>hy w h 1 _ rfl) vs' w he hw) ?_;simp;refine al (v:= .int .i64 x.1) (λvs' w he hw=>ld b1 0 _ (λw h=>hx w h 0 _ rfl) vs' w he hw) ?_;simp;refine al (v:= .int .i64 y.1) (λvs' w he hw=>ld b2 0 _ (λw h=>hy w h 0 _ rfl) vs' w he hw) ?_;simp;refine aO rfl (λw hw=>ui (show St w0 B w from hw) rfl rfl λbk w' h=> ?_) (λv hv=> ?_)
 ·exact ⟨bk,rfl,h⟩
 obtain ⟨w3,bk,rfl,_⟩:=hv;simp;refine aO rfl (λw hw=> ?_) (λv hv=> ?_)
 ·obtain ⟨bk',e,hw⟩:=hw
  cases e;refine ad ((QS _ _ bk w0 w B hw).mono ?_);rintro r w' ⟨rfl,s'⟩;exact ⟨rfl,hA _ s'⟩
 obtain ⟨w4,rfl,_⟩:=hv;simp;intro w5 h5;exact h5.2
def zp:HC:=(.seq (.reg (.done [(2,(.inp 6)),(3,(.cst (.int .i64 0)))] none)) .ret)
@[simp] theorem Xh:type_of%(@aF zp _ zp.eq_1):=aF zp.eq_1
def zq:HC:=(.seq (.reg (.eff (.call 143) (.cons (.inp 6) (.cons (.cst (.func (.func 144) #[] #[])) .nil)) (.done [] none))) zp)
@[simp] theorem Xi:type_of%(@aF zq _ zq.eq_1):=aF zq.eq_1
def uO:HC:=(.reg (.chk none (.bin .add) (.cons (.inp 7) (.cons (.cst (.int .i64 1)) .nil)) (.done [(7,(.op (.bin .add) (.cons (.inp 7) (.cons (.cst (.int .i64 1)) .nil))))] none)))
@[simp] theorem Xj:type_of%(@aF uO _ uO.eq_1):=aF uO.eq_1
def zr:HC:=(.reg (.chk none (.bin .add) (.cons (.inp 11) (.cons (.cst (.int .i64 1)) .nil)) (.done [(11,(.op (.bin .add) (.cons (.inp 11) (.cons (.cst (.int .i64 1)) .nil))))] none)))
@[simp] theorem Xk:type_of%(@aF zr _ zr.eq_1):=aF zr.eq_1
def zt:HC:=(.reg (.eff (.call 138) (.cons (.inp 0) (.cons (.inp 9) .nil)) (.done [] none)))
@[simp] theorem Xl:type_of%(@aF zt _ zt.eq_1):=aF zt.eq_1
def uP:HC:=(.seq (.reg (.chk none .chkp (.cons (.inp 9) .nil) (.chk none (.fld 0) (.cons (.op .chkp (.cons (.inp 9) .nil)) .nil) (.eff (.ld true 2) (.cons (.op (.fld 0) (.cons (.op .chkp (.cons (.inp 9) .nil)) .nil)) .nil) (.eff (.bsl 164 1 2 #[(.int .i64 0),(.int .i64 0)] [0]) (.cons (.bv 0) .nil) (.eff (.app 161 161 164 2 16 (.agg #[(.int .i64 0),(.int .i64 0)])) (.cons (.inp 6) (.cons (.bv 1) .nil)) (.done [(6,(.bv 2))] none))))))) zt)
@[simp] theorem Xm:type_of%(@aF uP _ uP.eq_1):=aF uP.eq_1
def zu:HC:=(.reg (.chk none .chkp (.cons (.inp 0) .nil) (.chk none (.fld 1) (.cons (.op .chkp (.cons (.inp 0) .nil)) .nil) (.eff (.ld false 1) (.cons (.op (.fld 1) (.cons (.op .chkp (.cons (.inp 0) .nil)) .nil)) .nil) (.chk none (.bin .add) (.cons (.bv 0) (.cons (.cst (.int .i64 1)) .nil)) (.chk none .chkp (.cons (.inp 0) .nil) (.chk none (.fld 1) (.cons (.op .chkp (.cons (.inp 0) .nil)) .nil) (.eff (.st 1) (.cons (.op (.fld 1) (.cons (.op .chkp (.cons (.inp 0) .nil)) .nil)) (.cons (.op (.bin .add) (.cons (.bv 0) (.cons (.cst (.int .i64 1)) .nil))) .nil)) (.done [] none)))))))))
@[simp] theorem Xn:type_of%(@aF zu _ zu.eq_1):=aF zu.eq_1
def zv:HC:=(.seq (.reg (.eff (.call 136) (.cons (.inp 0) (.cons (.inp 9) .nil)) (.done [] none))) zu)
@[simp] theorem Xo:type_of%(@aF zv _ zv.eq_1):=aF zv.eq_1
def uQ:HC:=(.seq (.regq (.some 1) (.chk none (.cal 191) (.cons (.inp 0) (.cons (.inp 7) (.cons (.inp 8) .nil))) (.chk none .chkp (.cons (.op (.cal 191) (.cons (.inp 0) (.cons (.inp 7) (.cons (.inp 8) .nil)))) .nil) (.eff (.ld false 1) (.cons (.op .chkp (.cons (.op (.cal 191) (.cons (.inp 0) (.cons (.inp 7) (.cons (.inp 8) .nil)))) .nil)) .nil) (.chk none .chkp (.cons (.inp 9) .nil) (.chk none (.fld 0) (.cons (.op .chkp (.cons (.inp 9) .nil)) .nil) (.chk none (.fld 0) (.cons (.op (.fld 0) (.cons (.op .chkp (.cons (.inp 9) .nil)) .nil)) .nil) (.eff (.ld false 1) (.cons (.op (.fld 0) (.cons (.op (.fld 0) (.cons (.op .chkp (.cons (.inp 9) .nil)) .nil)) .nil)) .nil) (.eff (.bi .delete #[213,3] 0 #[false,false]) (.cons (.bv 0) (.cons (.bv 1) .nil)) (.done [] none)))))))))) zv)
@[simp] theorem Xp:type_of%(@aF uQ _ uQ.eq_1):=aF uQ.eq_1
def zw:HC:=(.br (.chk none (.bin .neq) (.cons (.inp 10) (.cons (.inp 7) .nil)) (.done [] (some (.op (.bin .neq) (.cons (.inp 10) (.cons (.inp 7) .nil)))))) uQ .skip)
@[simp] theorem Xq:type_of%(@aF zw _ zw.eq_1):=aF zw.eq_1
def sh:HC:=(.seq (.reg (.chk none .chkp (.cons (.inp 9) .nil) (.chk none (.fld 0) (.cons (.op .chkp (.cons (.inp 9) .nil)) .nil) (.chk none (.fld 1) (.cons (.op (.fld 0) (.cons (.op .chkp (.cons (.inp 9) .nil)) .nil)) .nil) (.eff (.ld false 1) (.cons (.op (.fld 1) (.cons (.op (.fld 0) (.cons (.op .chkp (.cons (.inp 9) .nil)) .nil)) .nil)) .nil) (.chk none (.cal 190) (.cons (.bv 0) (.cons (.inp 1) .nil)) (.chk none (.ext 0) (.cons (.op (.cal 190) (.cons (.bv 0) (.cons (.inp 1) .nil))) .nil) (.chk none (.ext 1) (.cons (.op (.cal 190) (.cons (.bv 0) (.cons (.inp 1) .nil))) .nil) (.done [(10,(.op (.ext 0) (.cons (.op (.cal 190) (.cons (.bv 0) (.cons (.inp 1) .nil))) .nil)))] none))))))))) zw)
@[simp] theorem SV:type_of%(@aF sh _ sh.eq_1):=aF sh.eq_1
def si:HC:=(.br (.chk none .chkp (.cons (.inp 9) .nil) (.chk none (.fld 0) (.cons (.op .chkp (.cons (.inp 9) .nil)) .nil) (.chk none (.fld 1) (.cons (.op (.fld 0) (.cons (.op .chkp (.cons (.inp 9) .nil)) .nil)) .nil) (.eff (.ld false 1) (.cons (.op (.fld 1) (.cons (.op (.fld 0) (.cons (.op .chkp (.cons (.inp 9) .nil)) .nil)) .nil)) .nil) (.chk none (.bin .leq) (.cons (.bv 0) (.cons (.inp 1) .nil)) (.done [] (some (.op (.bin .leq) (.cons (.bv 0) (.cons (.inp 1) .nil)))))))))) uP sh)
@[simp] theorem SX:type_of%(@aF si _ si.eq_1):=aF si.eq_1
def sj:HC:=(.seq (.reg (.eff .an (.cons (.inp 12) .nil) (.chk none (.ext 1) (.cons (.bv 0) .nil) (.done [(9,(.op (.ext 1) (.cons (.bv 0) .nil)))] none)))) si)
@[simp] theorem SY:type_of%(@aF sj _ sj.eq_1):=aF sj.eq_1
def sk:HC:=(.block 6 sj)
@[simp] theorem SZ:type_of%(@aF sk _ sk.eq_1):=aF sk.eq_1
def sm:HC:=(.seq (.br (.eff (.nxt false 0) (.cons (.inp 12) .nil) (.chk none (.ext 0) (.cons (.bv 0) .nil) (.done [] (some (.op (.ext 0) (.cons (.bv 0) .nil)))))) .skip (.exit 5)) sk)
@[simp] theorem S4:type_of%(@aF sm _ sm.eq_1):=aF sm.eq_1
def so:HC:=(.loop sm)
@[simp] theorem S5:type_of%(@aF so _ so.eq_1):=aF so.eq_1
def sq:HC:=(.block 5 so)
@[simp] theorem S6:type_of%(@aF sq _ sq.eq_1):=aF sq.eq_1
def nB:HC:=(.seq (.reg (.chk none (.cal 191) (.cons (.inp 0) (.cons (.inp 7) (.cons (.inp 8) .nil))) (.chk none .chkp (.cons (.op (.cal 191) (.cons (.inp 0) (.cons (.inp 7) (.cons (.inp 8) .nil)))) .nil) (.eff (.ld false 1) (.cons (.op .chkp (.cons (.op (.cal 191) (.cons (.inp 0) (.cons (.inp 7) (.cons (.inp 8) .nil)))) .nil)) .nil) (.eff (.rng 213) (.cons (.bv 0) .nil) (.done [(12,(.bv 1))] none)))))) sq)
@[simp] theorem S7:type_of%(@aF nB _ nB.eq_1):=aF nB.eq_1
def sr:HC:=(.seq (.br (.chk none (.bin .eql) (.cons (.inp 7) (.cons (.cst (.int .i64 4)) .nil)) (.jK (.op (.bin .eql) (.cons (.inp 7) (.cons (.cst (.int .i64 4)) .nil))) (.chk (some ((.bv 0),true)) (.bin .gtr) (.cons (.inp 8) (.cons (.cst (.int .i64 0)) .nil)) (.isb none (.bv 0) (.jK (.ite (.bv 0) true (.op (.bin .gtr) (.cons (.inp 8) (.cons (.cst (.int .i64 0)) .nil))) (.cst (.bool false))) (.chk (some ((.bv 1),false)) (.bin .eql) (.cons (.inp 7) (.cons (.inp 4) .nil)) (.jK (.ite (.bv 1) false (.op (.bin .eql) (.cons (.inp 7) (.cons (.inp 4) .nil))) (.cst (.tuple #[]))) (.chk (some ((.bv 2),true)) (.bin .gtr) (.cons (.inp 8) (.cons (.inp 5) .nil)) (.isb (some ((.bv 1),false)) (.bv 2) (.isb none (.bv 1) (.done [] (some (.ite (.bv 1) true (.cst (.bool true)) (.ite (.bv 2) true (.op (.bin .gtr) (.cons (.inp 8) (.cons (.inp 5) .nil))) (.cst (.bool false)))))))))))))))) (.exit 3) .skip) nB)
@[simp] theorem S8:type_of%(@aF sr _ sr.eq_1):=aF sr.eq_1
def su:HC:=(.seq (.reg (.done [(8,(.inp 11))] none)) sr)
@[simp] theorem S9:type_of%(@aF su _ su.eq_1):=aF su.eq_1
def sv:HC:=(.seq (.block 4 su) zr)
@[simp] theorem Ta:type_of%(@aF sv _ sv.eq_1):=aF sv.eq_1
def sx:HC:=(.seq (.br (.chk none (.bin .lss) (.cons (.inp 11) (.cons (.cst (.int .i64 64)) .nil)) (.done [] (some (.op (.bin .lss) (.cons (.inp 11) (.cons (.cst (.int .i64 64)) .nil)))))) .skip (.exit 3)) sv)
@[simp] theorem Tb:type_of%(@aF sx _ sx.eq_1):=aF sx.eq_1
def sy:HC:=(.loop sx)
@[simp] theorem Tc:type_of%(@aF sy _ sy.eq_1):=aF sy.eq_1
def sC:HC:=(.block 3 sy)
@[simp] theorem Td:type_of%(@aF sC _ sC.eq_1):=aF sC.eq_1
def nC:HC:=(.seq (.reg (.done [(11,(.cst (.int .i64 0)))] none)) sC)
@[simp] theorem Te:type_of%(@aF nC _ nC.eq_1):=aF nC.eq_1
def NV:HC:=(.seq (.block 2 nC) uO)
def sD:HC:=(.seq (.br (.chk none (.bin .leq) (.cons (.inp 7) (.cons (.inp 4) .nil)) (.done [] (some (.op (.bin .leq) (.cons (.inp 7) (.cons (.inp 4) .nil)))))) .skip (.exit 1)) NV)
@[simp] theorem Tf:type_of%(@aF sD _ sD.eq_1):=aF sD.eq_1
def sF:HC:=(.loop sD)
@[simp] theorem Tg:type_of%(@aF sF _ sF.eq_1):=aF sF.eq_1
def sG:HC:=(.seq (.block 1 sF) zq)
@[simp] theorem Th:type_of%(@aF sG _ sG.eq_1):=aF sG.eq_1
def sH:HC:=(.seq (.reg (.done [(7,(.cst (.int .i64 0)))] none)) sG)
@[simp] theorem Ti:type_of%(@aF sH _ sH.eq_1):=aF sH.eq_1
def sI:HC:=(.seq (.reg (.done [(6,(.cst (.slice none 0 0)))] none)) sH)
@[simp] theorem Tj:type_of%(@aF sI _ sI.eq_1):=aF sI.eq_1
def sJ:HC:=(.seq (.reg (.chk none .chkp (.cons (.inp 0) .nil) (.chk none (.fld 0) (.cons (.op .chkp (.cons (.inp 0) .nil)) .nil) (.eff (.st 1) (.cons (.op (.fld 0) (.cons (.op .chkp (.cons (.inp 0) .nil)) .nil)) (.cons (.inp 1) .nil)) (.done [] none))))) sI)
@[simp] theorem Tk:type_of%(@aF sJ _ sJ.eq_1):=aF sJ.eq_1
def sK:HC:=(.seq (.reg (.chk none .chkp (.cons (.inp 0) .nil) (.chk none (.fld 0) (.cons (.op .chkp (.cons (.inp 0) .nil)) .nil) (.eff (.ld false 1) (.cons (.op (.fld 0) (.cons (.op .chkp (.cons (.inp 0) .nil)) .nil)) .nil) (.chk none (.cal 190) (.cons (.inp 1) (.cons (.bv 0) .nil)) (.chk none (.ext 0) (.cons (.op (.cal 190) (.cons (.inp 1) (.cons (.bv 0) .nil))) .nil) (.chk none (.ext 1) (.cons (.op (.cal 190) (.cons (.inp 1) (.cons (.bv 0) .nil))) .nil) (.done [(4,(.op (.ext 0) (.cons (.op (.cal 190) (.cons (.inp 1) (.cons (.bv 0) .nil))) .nil))),(5,(.op (.ext 1) (.cons (.op (.cal 190) (.cons (.inp 1) (.cons (.bv 0) .nil))) .nil)))] none)))))))) sJ)
@[simp] theorem Tp:type_of%(@aF sK _ sK.eq_1):=aF sK.eq_1
def NW:HC:=(.seq (.reg (.done [(2,(.cst (.slice none 0 0))),(3,(.cst (.int .i64 1)))] none)) .ret)
def sL:HC:=(.seq (.reg (.done [(2,(.cst (.slice none 0 0))),(3,(.cst (.int .i64 90)))] none)) .ret)
@[simp] theorem Tq:type_of%(@aF sL _ sL.eq_1):=aF sL.eq_1
def sM:HC:=(.seq (.reg (.done [(2,(.cst (.slice none 0 0))),(3,(.cst (.int .i64 0)))] none)) .ret)
@[simp] theorem Tr:type_of%(@aF sM _ sM.eq_1):=aF sM.eq_1
def sN:HC:=(.br (.chk none .chkp (.cons (.inp 0) .nil) (.chk none (.fld 0) (.cons (.op .chkp (.cons (.inp 0) .nil)) .nil) (.eff (.ld false 1) (.cons (.op (.fld 0) (.cons (.op .chkp (.cons (.inp 0) .nil)) .nil)) .nil) (.chk none (.bin .eql) (.cons (.inp 1) (.cons (.bv 0) .nil)) (.done [] (some (.op (.bin .eql) (.cons (.inp 1) (.cons (.bv 0) .nil))))))))) sM .skip)
@[simp] theorem Ts:type_of%(@aF sN _ sN.eq_1):=aF sN.eq_1
def sO:HC:=(.br (.chk none .chkp (.cons (.inp 0) .nil) (.chk none (.fld 0) (.cons (.op .chkp (.cons (.inp 0) .nil)) .nil) (.eff (.ld false 1) (.cons (.op (.fld 0) (.cons (.op .chkp (.cons (.inp 0) .nil)) .nil)) .nil) (.chk none (.bin .lss) (.cons (.inp 1) (.cons (.bv 0) .nil)) (.jK (.op (.bin .lss) (.cons (.inp 1) (.cons (.bv 0) .nil))) (.chk (some ((.bv 1),false)) (.bin .gtr) (.cons (.inp 1) (.cons (.cst (.int .i64 1099511627776)) .nil)) (.isb none (.bv 1) (.done [] (some (.ite (.bv 1) true (.cst (.bool true)) (.op (.bin .gtr) (.cons (.inp 1) (.cons (.cst (.int .i64 1099511627776)) .nil))))))))))))) sL sN)
@[simp] theorem Tt:type_of%(@aF sO _ sO.eq_1):=aF sO.eq_1
def sP:HC:=(.br (.chk none (.eqNil false (.pointer 217) (.pointer none)) (.cons (.inp 0) .nil) (.done [] (some (.op (.eqNil false (.pointer 217) (.pointer none)) (.cons (.inp 0) .nil))))) NW sO)
@[simp] theorem Tu:type_of%(@aF sP _ sP.eq_1):=aF sP.eq_1
def sQ:HC:=(.seq (.block 0 sP) sK)
@[simp] theorem Tv:type_of%(@aF sQ _ sQ.eq_1):=aF sQ.eq_1
def Ue:ai:=⟨[0,1,4,5,6,7,8,9,10,12,13,54,79],139,[.slot 2,.slot 3],(.seq (.reg (.done [(2,(.cst (.slice none 0 0))),(3,(.cst (.int .i64 0)))] none)) sQ)⟩
theorem Ox:af U2 137 400=some Ue:=by kernel_rfl
def fx (t:Tm):Int×Int:=(t.n,(t.a:Int))
abbrev outs (v:Value) (os:List (Int×Int)):ak:=own 164 2 v os.length (os.flatMap dz)
theorem Kw (p am now mv:Nat) (Y:Dk) (u:Tm) (aes:List En) (ac:Nat) (x:Nat×List En×Nat) (v:Value) (os:List (Int×Int)) (w0 w:World) (A:ak) {Q:EX->List Value->World->Prop} (x1 x2 x3 x4 x5 x7 x8 x10 x11 x12:Value) (ht:FN u) (hY:Y (gD u)=some x) (hos:os.length<=65536)
  (s:St w0 (A*ao am aes ac*cZ fI Y 257*wc p now mv am Y*outs v os*iJ u) w)
  (hk:∀v' w',St w0 (A*ao am (dZ aes u.n) ac*cZ fI (jQ Y (gD u) (A9 (some x) u.n)) 257*wc p now mv am (jQ Y (gD u) (A9 (some x) u.n))*outs v' (os++ [fx u])) w'->Q .nrm [.pointer (some ⟨p,0,none⟩),x1,x2,x3,x4,x5,v',x7,x8,tp u,x10,x11,x12] w'):
  uP.wp U2 Q [.pointer (some ⟨p,0,none⟩),x1,x2,x3,x4,x5,v,x7,x8,tp u,x10,x11,x12] w:=by
 simp;refine aC (vs:=dz (fx u)) (λj y hy=> ?_) rfl ?_
 ·have hj:u.cs[j]?=some y:=by
   match j,hy with
   |0,hy=>exact hy
   |1,hy=>exact hy
  exact s.ab j y hj
 simp;refine bx s rfl ?_;intro c w1 s1;simp;refine bU (m:=1) (news:=dz (fx u)) (s1.to (B:=A*ao am aes ac*cZ fI Y 257*wc p now mv am Y*iJ u*pt c (.cells (dz (fx u)).toArray 164 (0,0))*outs v os) (by ac_rfl)) rfl s1.aL (λy hy=>by simp at hy;rcases hy with rfl|rfl<;>rfl) (by decide) rfl (by unfold maxLen;omega) (by omega) ?_;intro v2 w2 s2;simp;have e:own 164 2 v2 (os.length+1) (os.flatMap dz++dz (fx u))=outs v2 (os++ [fx u]):=by show _=own _ 2 v2 (os++ [fx u]).length ((os++ [fx u]).flatMap dz);rw [List.length_append,List.flatMap_append];simp
 rw [e] at s2;refine ad (xl p am now mv Y u aes ac x w0 w2 (A*outs v2 (os++ [fx u])) ht hY (St.cut (pt c (.cells (dz (fx u)).toArray 164 (0,0))) s2 (by ac_rfl)) λr w3 s3=> ?_);simp;exact hk _ _ (St.cut (iJ u) s3 (by ac_rfl))
theorem Lt (p am now mv:Nat) (Y:Dk) (u:Tm) (x:Nat×List En×Nat) (w0 w:World) (A:ak) {Q:EX->List Value->World->Prop} (l n:Nat) (x1 x2 x3 x4 x5 x6 x10 x11 x12:Value) (hl:l<=4) (hn:n<64) (h4:l=4->n=0) (hY:Y (l*64+n)=some x) (ha:u.a<=1099511627776) (hnow:now<=1099511627776) (hmv:mv<=4611686018427387904)
  (hfree:aY (nJ (jQ Y (l*64+n) (A9 (some x) u.n) (Ba u now))) u.n=none)
  (s:St w0 (A*cZ fI Y 257*wc p now mv am Y*iJ u) w)
  (hk:∀Y' m w',Y'=jQ Y (l*64+n) (A9 (some x) u.n)->St w0 (A*cZ fI (jQ Y' (Ba u now) (Iz m (Y' (Ba u now)) u)) 257*wc p now (mv+1) am (jQ Y' (Ba u now) (Iz m (Y' (Ba u now)) u))*iJ (j2 u now)) w'->Q .nrm [.pointer (some ⟨p,0,none⟩),x1,x2,x3,x4,x5,x6,.int .i64 l,.int .i64 n,tp u,x10,x11,x12] w'):
  uQ.wp U2 Q [.pointer (some ⟨p,0,none⟩),x1,x2,x3,x4,x5,x6,.int .i64 l,.int .i64 n,tp u,x10,x11,x12] w:=by
 obtain ⟨q,hqe⟩:∃q,l*64+n=q:=⟨_,rfl⟩;have hq257:q<257:=by omega
 rw [hqe] at hY hk hfree;rw [tR hq257,hY] at s;have s:St w0 (A*(jk fI Y q 257*ao x.1 x.2.1 x.2.2)*wc p now mv am Y*iJ u) w:=s;simp;refine fH (QV (St w0 (A*(jk fI Y q 257*ao x.1 x.2.1 x.2.2)*wc p now mv am Y*iJ u)) (St w0 (A*(jk fI Y q 257*ao x.1 (dZ x.2.1 u.n) x.2.2)*wc p now mv am Y*iJ u))) s.drew ?_;simp;refine ⟨⟨by omega,by omega,by omega⟩,?_⟩;rw [hqe];refine al (v:= .map (some x.1)) (λvs' w he hw=> ?_) ?_
 ·match vs',hw with
  | [],hw=>
   have:=pY (show St w0 _ w from hw).drop hq257;rw [hY] at this;exact this
  |_::_,hw=>simp [era] at he
 simp;refine al (v:= .int .i64 u.n) (λvs' w he hw=> ?_) ?_
 ·match vs',hw with
  | [],hw=>exact (show St w0 _ w from hw).ab 0 _ rfl
  |_::_,hw=>simp [era] at he
 simp;refine aO rfl (λw hw=>mn mA (St.to (show St w0 _ w from hw) (B:=A*jk fI Y q 257*wc p now mv am Y*iJ u*ao x.1 x.2.1 x.2.2) (by ac_rfl)) λw' h=> ?_) (λv _=> ?_)
 ·show St w0 _ w'
  exact h.to (by ac_rfl)
 simp;intro w2 s2;have s2:St w0 (A*(jk fI Y q 257*ao x.1 (dZ x.2.1 u.n) x.2.2)*wc p now mv am Y*iJ u) w2:=s2;obtain ⟨Y',hY'⟩:∃Y',jQ Y q (A9 (some x) u.n)=Y':=⟨_,rfl⟩;have s3:St w0 (A*cZ fI Y' 257*wc p now mv am Y'*iJ u) w2:=by rw [<-hY',yL hq257,MN p now mv am Y hq257 (x:=A9 (some x) u.n) (by rw [hY];rfl),show fI q (A9 (some x) u.n)=ao x.1 (dZ x.2.1 u.n) x.2.2 from rfl];exact s2
 rw [hY'] at hfree hk;refine ad (xD p am now mv Y' u w0 w2 A (by omega) (by omega) hfree s3 λr m w3 hm s4=> ?_);obtain ⟨Z,hZ⟩:∃Z,jQ Y' (Ba u now) (Iz m (Y' (Ba u now)) u)=Z:=⟨_,rfl⟩;have hk:=hk Y' m;rw [hZ] at s4 hk;simp;refine ag (v:= .int .i64 mv) (s4.drop.ab 1 _ rfl) ?_;simp
 try simp (disch:=omega) only [wrap64]
 refine cy (s4.swap) rfl (by simp [nP]) ?_;intro w4 s5;simp;refine hk w4 rfl ?_;have e:(wP now mv am Z).toArray.setIfInBounds 1 (.int .i64 (mv+1))=(wP now (mv+1) am Z).toArray:=by simp [wP]
 rw [e] at s5;exact s5.swap
def lQ (w:World) (b:Nat):Nat:=match w.heap[b]? with
 |some (.mapIter _ _ seen _)=>seen.size
 |_=>0
theorem nk {ts:List Tm} {D:Tm->Bool} {t:Tm} (ht:t∈ts) (hD:D t=false):(ts.filter λu=> !dX D t u).length+1<=(ts.filter λu=> !D u).length:=by
 have e:(ts.filter λu=> !dX D t u)=(ts.filter λu=> !D u).filter λu=> !decide (u.n=t.n):=by rw [List.filter_filter];refine List.filter_congr λu _=> ?_;simp [dX,Bool.and_comm]
 rw [e];refine Nat.lt_of_le_of_ne (List.length_filter_le _ _) λh=> ?_;have h2:=(List.length_filter_eq_length_iff.1 h) t (List.mem_filter.2 ⟨ht,by simp [hD]⟩);simp at h2
theorem Za {es:List En} {c:Nat} (h:Fp es c) {e e':En} (he:e∈es) (he':e'∈es):e'.b=e.b↔e'.k=e.k:=by
 have inj:∀(f:En->Int) (es:List En),(es.map f).Nodup->e∈es->e'∈es->f e'=f e->e'=e:=by
  intro f es
  induction es with
  |nil=>intro _ h;cases h
  |cons x r ih=>
   intro hn h1 h2 hf;rw [List.map_cons,List.nodup_cons] at hn;rcases List.mem_cons.1 h1 with h1|h1<;>rcases List.mem_cons.1 h2 with h2|h2
   ·rw [h1,h2]
   ·exact absurd (List.mem_map.2 ⟨e',h2,by rw [hf,h1]⟩) hn.1
   ·exact absurd (List.mem_map.2 ⟨e,h1,by rw [<-hf,h2]⟩) hn.1
   ·exact ih hn.2 h1 h2 hf
 constructor
 ·intro hb
  have hbn:(es.map λe=>(e.b:Int)).Nodup:=by have:=h.bn;rw [List.nodup_iff_pairwise_ne,List.pairwise_map] at*;exact this.imp λh g=>h (Int.ofNat.inj g)
  rw [inj (λe=>(e.b:Int)) es hbn he he' (by simp [hb])]
 ·intro hk
  rw [inj (·.k) es h.kn he he' hk]
theorem Ha {es:List En} {c:Nat} (h:Fp es c) {n:Int} {e:En} (he:e∈dZ es n):e∈es/\e.k≠n:=by rw [yZ h.kn] at he;obtain ⟨h1,h2⟩:=List.mem_filter.1 he;exact ⟨h1,of_decide_eq_true h2⟩
structure AQ (to:Nat) (ts:List Tm) (l n:Nat) (D:Tm->Bool) (sn:List Int) (seen:Array Nat) (es:List En) (aes:List En) (ac:Nat) (Y:Dk) (os:List (Int×Int)):Prop where
 hD:∀t∈ts,D t=(vD l n t||(decide (gD t=l*64+n)&&decide (t.n∈sn)))
 ok:wy (dY to D ts) aes ac Y
 hs:∀e∈es,e.b∈seen↔e.k∈sn
 hp:os.Perm ((rW to D ts).map fx)
 hc:(ts.filter λu=> !D u).length+seen.size<=ts.length
section
variable {to:Nat} {ts:List Tm} {l n:Nat} {D:Tm->Bool} {sn:List Int} {seen:Array Nat} {es aes:List En} {ac:Nat} {Y:Dk} {os:List (Int×Int)}
theorem AQ.nD (h:AQ to ts l n D sn seen es aes ac Y os) (hn:(ts.map (·.n)).Nodup) {u:Tm} (hu:u∈ts) (hq:gD u=l*64+n):∀t∈ts,dX D u t=(vD l n t||(decide (gD t=l*64+n)&&decide (t.n∈u.n::sn))):=by
 intro t ht
 by_cases e:t.n=u.n
 ·have:=fL hn ht hu e
  subst this;simp [dX,hq]
 ·simp [dX,h.hD t ht,e]
theorem AQ.nS (h:AQ to ts l n D sn seen es aes ac Y os) {c:Nat} (hes:Fp es c) {e:En} (he:e∈es) {u:Tm} (hk:e.k=u.n):∀e'∈es,e'.b∈seen.push e.b↔e'.k∈u.n::sn:=by intro e' he';rw [Array.mem_push,List.mem_cons,h.hs e' he',Za hes he he',hk];exact Or.comm
theorem AQ.due (h:AQ to ts l n D sn seen es aes ac Y os) (hn:(ts.map (·.n)).Nodup) {c:Nat} (hes:Fp es c) {e:En} (he:e∈es) {u:Tm} (hk:e.k=u.n) (hu:u∈ts) (hDu:D u=false) (hq:gD u=l*64+n) (hd:u.a<=to):
  AQ to ts l n (dX D u) (u.n::sn) (seen.push e.b) (dZ es u.n) (dZ aes u.n) ac (jQ Y (gD u) (A9 (Y (gD u)) u.n)) (os++ [fx u])/\iQ to (dX D u) ts=iQ to D ts:=by
 refine ⟨⟨h.nD hn hu hq,?_,λe' he'=> ?_,?_,?_⟩,?_⟩
 ·rw [Gn hn hu hd]
  exact h.ok.drop (sa hu hDu)
 ·exact h.nS hes he hk e' (Ha hes he').1
 ·have:=uy (λu=>decide (u.a<=to)) hn hu hDu (by simpa using hd)
  refine (List.perm_append_comm.trans ?_).trans (this.map fx).symm;exact h.hp.cons _
 ·have:=nk hu hDu
  have:=h.hc;rw [Array.size_push];omega
 ·refine uz (rT to) hn hu ?_
  have:¬to<u.a:=by omega
  simp [rT,this]
theorem AQ.CS (h:AQ to ts l n D sn seen es aes ac Y os) (hn:(ts.map (·.n)).Nodup) {u:Tm} (hu:u∈ts) (hd:to<u.a):os.Perm ((rW to (dX D u) ts).map fx):=by have:rW to (dX D u) ts=rW to D ts:=uz (λu=>decide (u.a<=to)) hn hu (by simp;omega);rw [this];exact h.hp
theorem AQ.mov (h:AQ to ts l n D sn seen es aes ac Y os) (hn:(ts.map (·.n)).Nodup) {c:Nat} (hes:Fp es c) {e:En} (he:e∈es) {u:Tm} (hk:e.k=u.n) (hu:u∈ts) (hDu:D u=false) (hq:gD u=l*64+n) (hd:to<u.a) (hne:gD (j2 u to)≠gD u) (hlv:(fQ u.a to).1≠u.l) (m:Nat):
  AQ to ts l n (dX D u) (u.n::sn) (seen.push e.b) (dZ es u.n) aes ac (jQ (jQ Y (gD u) (A9 (Y (gD u)) u.n)) (gD (j2 u to)) (Iz m (Y (gD (j2 u to))) u)) os/\(iQ to (dX D u) ts).length=(iQ to D ts).length+1:=by
 refine ⟨⟨h.nD hn hu hq,?_,λe' he'=> ?_,h.CS hn hu hd,?_⟩,?_⟩
 ·rw [Gp hn hu hd]
  exact h.ok.move (t':=j2 u to) (sa hu hDu) rfl rfl (uX u to) hne m
 ·exact h.nS hes he hk e' (Ha hes he').1
 ·have:=nk hu hDu
  have:=h.hc;rw [Array.size_push];omega
 ·have:=(uy (rT to) hn hu hDu (by simp [rT,hd,hlv])).length_eq
  rw [List.length_cons] at this;exact this
theorem AQ.same (h:AQ to ts l n D sn seen es aes ac Y os) (hn:(ts.map (·.n)).Nodup) {c:Nat} (hes:Fp es c) {e:En} (he:e∈es) {u:Tm} (hk:e.k=u.n) (hu:u∈ts) (hDu:D u=false) (hq:gD u=l*64+n) (hd:to<u.a) (hg:j2 u to=u):
  AQ to ts l n (dX D u) (u.n::sn) (seen.push e.b) es aes ac Y os/\iQ to (dX D u) ts=iQ to D ts/\dY to (dX D u) ts=dY to D ts:=by
 have hcur:=Kj (D:=D) hn hu hd hg;refine ⟨⟨h.nD hn hu hq,by rw [hcur];exact h.ok,λe' he'=>h.nS hes he hk e' he',h.CS hn hu hd,?_⟩,?_,hcur⟩
 ·have:=nk hu hDu
  have:=h.hc;rw [Array.size_push];omega
 ·refine uz (rT to) hn hu ?_
  have:(fQ u.a to).1=u.l:=congrArg Tm.l hg;simp [rT,this]
theorem AQ.done (h:AQ to ts l n D sn seen es aes ac Y os) {now:Nat} (hp:kS now ts) (hn:n<64) (hq:l*64+n<257) (hY:nJ (Y (l*64+n))=es) (hall:∀e∈es,e.b∈seen):∀t∈ts,D t=vD l (n+1) t:=by
 refine vp hp hn h.hD λt ht htq=> ?_;cases hD:D t with
 |true=>rfl
 |false=>
  have hc:=sa (to:=to) ht hD;have h1:=((h.ok.sl _ hq).mem t.n (tp t)).2 ⟨t,hc,rfl,htq,rfl⟩;rw [hY] at h1;obtain ⟨e,he,hk,_⟩:=KT h1;have:=(h.hs e he).1 (hall e he);have hd:=h.hD t ht;rw [hk] at this;rw [hD] at hd;simp [htq,this] at hd
end
def rI (p to mv0:Nat) (ts:List Tm) (D:Tm->Bool) (v:Value):ak:=λh=>∃os:List (Int×Int),os.Perm ((rW to D ts).map fx)/\(outs v os*iK p to (mv0+(iQ to D ts).length) (dY to D ts)) h
theorem F7 {w0 w:World} {A:ak} {p to mv0:Nat} {ts:List Tm} {D:Tm->Bool} {v:Value} (s:St w0 (A*rI p to mv0 ts D v) w):∃os,os.Perm ((rW to D ts).map fx)/\St w0 (A*outs v os*iK p to (mv0+(iQ to D ts).length) (dY to D ts)) w:=by obtain ⟨g,h1,h2,h3,d,e,a,os,hp,b⟩:=s.holds;have s':St w0 (A*(outs v os*iK p to (mv0+(iQ to D ts).length) (dY to D ts))) w:=s.of ⟨g,h1,h2,h3,d,e,a,b⟩;exact ⟨os,hp,s'.to (by ac_rfl)⟩
theorem tH {w0 w:World} {A:ak} {p to mv0:Nat} {ts:List Tm} {D:Tm->Bool} {v:Value} {os:List (Int×Int)} (hp:os.Perm ((rW to D ts).map fx)) (s:St w0 (A*outs v os*iK p to (mv0+(iQ to D ts).length) (dY to D ts)) w):St w0 (A*rI p to mv0 ts D v) w:=by have s':St w0 (A*(outs v os*iK p to (mv0+(iQ to D ts).length) (dY to D ts))) w:=s.to (by ac_rfl);exact s'.mono (eY (λ_ h=>h) λg hg=>⟨os,hp,hg⟩)
theorem qe {p to mv0:Nat} {ts:List Tm} {D D':Tm->Bool} {v:Value} (h:∀t∈ts,D t=D' t):rI p to mv0 ts D v=rI p to mv0 ts D' v:=by unfold rI;rw [Ia h,Ja h,I3 h]
structure R9 (now to mv0:Nat) (ts:List Tm):Prop where
 pl:kS now ts
 lt:now<to
 bd:to<=1099511627776
 len:ts.length<=65536
 mv:mv0<=2305843009213693952
set_option maxHeartbeats 4000000 in
theorem Jk (p now to mv0:Nat) (ts:List Tm) (w0 w:World) (A:ak) {Q:EX->List Value->World->Prop} (l n:Nat) (v x2 x3 x4 x5 x9 x10 x11 x12:Value) (hp:R9 now to mv0 ts) (hl:l<=4) (hn:n<64) (h4:l=4->n=0) (hv:nW now to (l,n))
  (s:St w0 (A*rI p to mv0 ts (vD l n) v) w)
  (hk:∀v' y9 y10 y12 w',St w0 (A*rI p to mv0 ts (vD l (n+1)) v') w'->Q .nrm [.pointer (some ⟨p,0,none⟩),.int .i64 to,x2,x3,x4,x5,v',.int .i64 l,.int .i64 n,y9,y10,x11,y12] w'):
  nB.wp U2 Q [.pointer (some ⟨p,0,none⟩),.int .i64 to,x2,x3,x4,x5,v,.int .i64 l,.int .i64 n,x9,x10,x11,x12] w:=by
 obtain ⟨os,hos,s1⟩:=F7 s;obtain ⟨am,aes,ac,Y,hok,s2⟩:=yz s1;obtain ⟨q,hqe⟩:∃q,l*64+n=q:=⟨_,rfl⟩;have hq257:q<257:=by omega
 have hnum:=hp.pl.num;simp;refine ⟨⟨by omega,by omega,by omega⟩,?_⟩;rw [hqe];refine ag (v:=FK (Y q)) (pY s2 hq257) ?_;cases hYq:Y q with
 |none=>
  simp [FK];refine KC mA.ty s2 ?_;intro b w3 s3;simp;refine gr (λenv w'=>env= [.pointer (some ⟨p,0,none⟩),.int .i64 to,x2,x3,x4,x5,v,.int .i64 l,.int .i64 n,x9,x10,x11,.pointer (some ⟨b,0,none⟩)]/\St w0 (A*outs v os*bt (dY to (vD l n) ts)*cZ fI Y 257*ao am aes ac*wc p to (mv0+(iQ to (vD l n) ts).length) am Y*pt b (.mapIter none 0 #[] 0)) w') (λ_ _=>0) ⟨rfl,s3⟩ ?_;rintro LQ env w' ⟨rfl,s'⟩ hN hE hR;simp;refine KB s' ?_;simp;refine hE _ _ _ ?_;simp;have hend:∀t∈ts,vD l n t=vD l (n+1) t:=by
   refine vp hp.pl (l:=l) hn (sn:= []) (λt ht=>by simp) λt ht htq=> ?_;cases hD:vD l n t with
   |true=>rfl
   |false=>
    have hc:=sa (to:=to) ht hD;have h1:=((hok.sl q hq257).mem t.n (tp t)).2 ⟨t,hc,rfl,by rw [<-hqe];exact htq,rfl⟩;rw [hYq] at h1;cases h1
  refine hk v x9 x10 _ w' ?_;rw [<-qe hend];exact tH hos (oJ hok (St.cut (pt b (.mapIter none 0 #[] 0)) s' (by ac_rfl)))
 |some x=>
  obtain ⟨m,es,c⟩:=x;simp [FK];have hsl:=hok.sl q hq257;rw [hYq] at hsl;have big:∀(D:Tm->Bool) (v:Value) (os:List (Int×Int)) (aes:List En) (ac:Nat) (Y:Dk) (mv:Nat) (es:List En),Y q=some (m,es,c)->A*outs v os*bt (dY to D ts)*cZ fI Y 257*ao am aes ac*wc p to mv am Y=A*outs v os*bt (dY to D ts)*jk fI Y q 257*ao am aes ac*wc p to mv am Y*ao m es c:=by intro D v os aes ac Y mv es hY;rw [tR hq257,hY];show _*(_*ao m es c)*_*_=_;ac_rfl
  have hb:=(s2.to (big _ _ _ _ _ _ _ _ hYq)).look;refine uk mA.ty s2 hb ?_;intro b w3 s3;simp;refine gr (λenv w'=>∃(D:Tm->Bool) (sn:List Int) (seen:Array Nat) (es aes:List En) (ac:Nat) (Y:Dk) (os:List (Int×Int)) (v y9 y10:Value),env= [.pointer (some ⟨p,0,none⟩),.int .i64 to,x2,x3,x4,x5,v,.int .i64 l,.int .i64 n,y9,y10,x11,.pointer (some ⟨b,0,none⟩)]/\AQ to ts l n D sn seen es aes ac Y os/\Y q=some (m,es,c)/\St w0 (A*outs v os*bt (dY to D ts)*cZ fI Y 257*ao am aes ac*wc p to (mv0+(iQ to D ts).length) am Y*pt b (.mapIter (some m) c seen c)) w') (λ_ w'=>ts.length+1 -lQ w' b)
   ⟨vD l n,[],#[],es,aes,ac,Y,os,v,x9,x10,rfl,⟨λt ht=>by simp,hok,λe he=>by simp,hos,by simpa using List.length_filter_le _ _⟩,hYq,s3⟩ ?_
  clear s3 hb hsl hYq s2 hok hos s1 s;rintro LQ env w' ⟨D,sn,seen,es,aes,ac,Y,os,v,y9,y10,rfl,hI,hYq,s'⟩ hN hE hR;have hok:=hI.ok;have hsl:=hok.sl q hq257;rw [hYq] at hsl;have hes:Fp es c:=hsl.ok;have hseen:lQ w' b=seen.size:=by unfold lQ;rw [s'.look]
  have hcnt:=hI.hc;simp;refine uj (s'.to (B:=A*outs v os*bt (dY to D ts)*jk fI Y q 257*ao am aes ac*wc p to (mv0+(iQ to D ts).length) am Y*ao m es c*pt b (.mapIter (some m) c seen c)) (by rw [big _ _ _ _ _ _ _ _ hYq])) hes.lt (λe he hns w2 s2=> ?_) (λhall w2 s2=> ?_)
  ·obtain ⟨u,hu,hun,huq,hev⟩:=(hsl.mem e.k e.v).1 (NQ hes.kn he)
   have hnsn:u.n∉sn:=λg=>hns ((hI.hs e he).2 (by rw [<-hun];exact g));obtain ⟨hut,hDu,hul,hus⟩:=J0 hp.pl hp.lt hl hn h4 hv hI.hD hu (by rw [hqe];exact huq) hnsn;have hub:=hp.pl.bd u hut;have hcnt2:=nk hut hDu;have hol:os.length<=65536:=by have h1:=hI.hp.length_eq;rw [List.length_map] at h1;have h2:(rW to D ts).length<=ts.length:=List.length_filter_le _ _;have:=hp.len;omega
   have hml:(iQ to D ts).length<=ts.length:=List.length_filter_le _ _;have htslen:=hp.len;have hmv0:=hp.mv;have hbd:=hp.bd;have hseen2:∀(w3:World) (F:ak),St w0 (F*pt b (.mapIter (some m) c (seen.push e.b) c)) w3->ts.length+1 -lQ w3 b<ts.length+1 -lQ w' b:=by
    intro w3 F h;have h1:lQ w3 b=seen.size+1:=by unfold lQ;rw [h.look];exact Array.size_push _
    rw [h1,hseen];omega
   simp;refine zc s2 he hes.bn ?_;rw [hev];simp;have s3:St w0 (A*outs v os*bt (eB (dY to D ts) u.n)*cZ fI Y 257*ao am aes ac*wc p to (mv0+(iQ to D ts).length) am Y*pt b (.mapIter (some m) c (seen.push e.b) c)*iJ u) w2:=by
    have h1:St w0 (A*outs v os*bt (dY to D ts)*cZ fI Y 257*ao am aes ac*wc p to (mv0+(iQ to D ts).length) am Y*pt b (.mapIter (some m) c (seen.push e.b) c)) w2:=by rw [big _ _ _ _ _ _ _ _ hYq];exact s2
    rw [kK hok.num hu] at h1;exact h1.to (by ac_rfl)
   refine ag (v:= .int .i64 u.a) (s3.ab 1 _ rfl) ?_;simp;have huq':gD u=l*64+n:=by rw [huq,hqe]
   obtain ⟨it,hit⟩:∃it,pt b (.mapIter (some m) c (seen.push e.b) c)=it:=⟨_,rfl⟩;rw [hit] at s3 hseen2;have fin:∀(D':Tm->Bool) (es' aes':List En) (Y':Dk) (os':List (Int×Int)) (v' y10':Value) (w3:World),AQ to ts l n D' (u.n::sn) (seen.push e.b) es' aes' ac Y' os'->Y' q=some (m,es',c)->
     St w0 (A*outs v' os'*bt (dY to D' ts)*cZ fI Y' 257*ao am aes' ac*wc p to (mv0+(iQ to D' ts).length) am Y'*it) w3->
     LQ .nrm [.pointer (some ⟨p,0,none⟩),.int .i64 to,x2,x3,x4,x5,v',.int .i64 l,.int .i64 n,tp u,y10',x11,.pointer (some ⟨b,0,none⟩)] w3:=by
    intro D' es' aes' Y' os' v' y10' w3 hI' hY' s4;exact hN _ _ ⟨D',u.n::sn,seen.push e.b,es',aes',ac,Y',os',v',tp u,y10',rfl,hI',hY',by rw [hit];exact s4⟩ (hseen2 _ _ s4)
   refine aR (λhd=> ?_) (λhd=> ?_)
   ·simp at hd
    refine Kw p am to (mv0+(iQ to D ts).length) Y u aes ac (m,es,c) v os w0 w2 (A*bt (eB (dY to D ts) u.n)*it) _ _ _ _ _ _ _ _ _ _ (hok.tm u hu) (by rw [huq];exact hYq) hol (s3.to (by ac_rfl)) λv' w3 s4=> ?_;simp;obtain ⟨hI',hmvE⟩:=hI.due hnum hes he hun.symm hut hDu huq' hd;refine fin _ _ _ _ _ v' y10 w3 hI' (by rw [huq,km,hYq];rfl) ?_;rw [hmvE,Gn hnum hut hd,huq,hYq];rw [huq] at s4;exact s4.to (by ac_rfl)
   ·simp at hd
    simp;refine ag (v:= .int .i64 u.a) (s3.ab 1 _ rfl) ?_;simp;refine ⟨⟨by omega,by omega⟩,?_⟩;refine aR (λhlv=> ?_) (λhlv=> ?_)
    ·simp at hlv
     have hlv:(fQ u.a to).1≠u.l:=by rw [hul];omega
     have hne:gD (j2 u to)≠gD u:=by
      have h1:=uX u to;have h2:=hok.tm u hu;have h3:=h1.s;have h4:=h2.s;intro g;unfold gD at g;have:(j2 u to).l=u.l:=by omega
      exact hlv this
     have hne2:Ba u to≠q:=by rw [uW,<-huq];exact hne
     have hmem:=hok.sl (Ba u to) (by rw [uW];exact AY (uX u to));refine Lt p am to (mv0+(iQ to D ts).length) Y u (m,es,c) w0 w2 (A*outs v os*bt (eB (dY to D ts) u.n)*ao am aes ac*it) l n _ _ _ _ _ _ _ _ _ hl hn h4 (by rw [hqe];exact hYq) hub.1 hp.bd (by omega) ?_ (s3.to (by ac_rfl)) λY' m' w3 hY' s4=> ?_
     ·rw [hqe,ko _ _ hne2]
      cases hg:aY (nJ (Y (Ba u to))) u.n with
      |none=>rfl
      |some g=>
       obtain ⟨t,ht,h1,h2,_⟩:=(hmem.mem _ _).1 hg;have:=fL hok.num ht hu h1;rw [this,huq] at h2;exact absurd h2.symm hne2
     simp;obtain ⟨hI',hmvE⟩:=hI.mov hnum hes he hun.symm hut hDu huq' hd hne hlv m';subst hY';refine fin _ _ _ _ _ v _ w3 hI' ?_ ?_
     ·rw [<-uW,ko _ _ (Ne.symm hne2),huq,km,hYq];rfl
     ·rw [hmvE,Gp hnum hut hd,K1 hok.num hu (t':=j2 u to) rfl,huq,hYq,<-uW]
      rw [hqe,ko _ _ hne2] at s4;rw [<-Nat.add_assoc];exact s4.to (by ac_rfl)
    ·simp at hlv
     simp;have hg:=YG hp.pl hp.lt hv hut hul hus hd (by omega);obtain ⟨hI',hmvE,hcur⟩:=hI.same hnum hes he hun.symm hut hDu huq' hd hg;refine fin _ _ _ _ _ v _ w2 hI' hYq ?_;rw [hmvE,hcur,kK hok.num hu];exact s3.to (by ac_rfl)
  ·simp
   refine hE _ _ _ ?_;simp;have hend:=hI.done hp.pl hn (by rw [hqe];exact hq257) (by rw [hqe,hYq];rfl) hall;refine hk v y9 y10 _ w2 ?_;rw [<-qe hend];refine tH hI.hp (oJ (am:=am) hok ?_);have h1:St w0 (A*outs v os*bt (dY to D ts)*cZ fI Y 257*ao am aes ac*wc p to (mv0+(iQ to D ts).length) am Y*pt b (.mapIter (some m) c seen c)) w2:=by rw [big _ _ _ _ _ _ _ _ hYq];exact s2
   exact St.cut (pt b (.mapIter (some m) c seen c)) h1 (by ac_rfl)
end Go.HL.Wh
