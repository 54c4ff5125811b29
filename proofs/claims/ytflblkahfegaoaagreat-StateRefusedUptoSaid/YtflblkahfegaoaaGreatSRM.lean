/-
  What the claim leans on, part 20 of 20. Conditions: as each theorem says.
-/
import Derived.Test.YtflblkahfegaoaaGreatSRMs
set_option linter.unusedSimpArgs false
set_option linter.unusedVariables false
set_option maxRecDepth 4000
namespace Go.HL.St1
open Go.HL Go.HL.Tl Go.HL.Sr Go.HL.Es Go.Proofs
attribute [local irreducible] aE
def bla:Nat→PO
 |0=>(.ext 0)
 |1=>(.ext 1)
 |_=> .same
def Zj:Nat→EO
 |0=>(.box 39)
 |1=>(.call 30)
 |2=>(.ld true 24)
 |3=>(.call 17)
 |4=>(.new 46 (.agg #[(.int .i64 0),(.int .i64 0),(.slice none 0 0)]))
 |5=>(.st 3)
 |_=> .ak
def dva:Nat→Value
 |0=>(.int .i64 0)
 |_=>undef
def cka:cE:=⟨bla,Zj,dva⟩
def l25:ag:=⟨[0,1,3,4,6],15,[.slot 3],aM cka [] 0xb2cb2f067699610103a628a271c8a26996155134420445144d55134420110c54c45134420544d10805144d10510035134020944d000130820824820920838820824820c20830820c20820824820920c30820a20820920812789a6596120034400944d0040⟩
theorem SZ:ah S1 25 400=some l25:=by kernel_rfl
def PU (S S':ST):Option Value→ST
 |none=>S
 |some _=>S'
@[simp] theorem Jd (S S':ST):PU S S' none=S:=rfl
@[simp] theorem Yb (S S':ST) (v:Value):PU S S' (some v)=S':=rfl
def LY (X:ST) (v:Value):aj:=Hf fun q2:Nat=>fun h=>v= .pointer (some ⟨q2,0,none⟩)∧Pk q2 X h
theorem Jc {w0 w:World} {A:aj} {X:ST} {q2:Nat} (s:St w0 (A*Pk q2 X) w):St w0 (A*LY X (.pointer (some ⟨q2,0,none⟩))) w:=s.mono (gb (fun _ h=>h) fun h hh=>⟨q2,rfl,hh⟩)
theorem AX {w0 w:World} {A:aj} {X:ST} {v:Value} (s:St w0 (A*LY X v) w):∃q2:Nat,v= .pointer (some ⟨q2,0,none⟩)∧St w0 (A*Pk q2 X) w:=by
 obtain ⟨g,h1,h2,h3,d,e,a,q2,hv,b⟩:=s.holds
 exact ⟨q2,hv,s.of ⟨g,h1,h2,h3,d,e,a,b⟩⟩
def L3 (o:DN×Int×ST) (v:Value):aj:=Hf fun gv:Value=>fun h=>v= .tuple #[.agg (dk o.1 gv).toArray,.int .i64 o.2.1]∧bR gv o.1.gs h
theorem QU {w0 w:World} {A:aj} {o:DN×Int×ST} {gv:Value} (s:St w0 (A*bR gv o.1.gs) w):St w0 (A*L3 o (.tuple #[.agg (dk o.1 gv).toArray,.int .i64 o.2.1])) w:=s.mono (gb (fun _ h=>h) fun h hh=>⟨gv,rfl,hh⟩)
theorem Ji {w0 w:World} {A:aj} {o:DN×Int×ST} {v:Value} (s:St w0 (A*L3 o v) w):∃gv:Value,v= .tuple #[.agg (dk o.1 gv).toArray,.int .i64 o.2.1]∧St w0 (A*bR gv o.1.gs) w:=by
 obtain ⟨g,h1,h2,h3,d,e,a,gv,hv,b⟩:=s.holds
 exact ⟨gv,hv,s.of ⟨g,h1,h2,h3,d,e,a,b⟩⟩
def Ln (v:Value):aj:=Hf fun b:Nat=>Hf fun x:Value=>Hf fun y:Value=>Hf fun z:Value=>fun h=>v= .pointer (some ⟨b,0,none⟩)∧pt b (.cells #[x,y,z] 46 (0,0)) h
theorem J9 {w0 w:World} {A:aj} {b:Nat} {x y z:Value} (s:St w0 (A*pt b (.cells #[x,y,z] 46 (0,0))) w):St w0 (A*Ln (.pointer (some ⟨b,0,none⟩))) w:=s.mono (gb (fun _ h=>h) fun h hh=>⟨b,x,y,z,rfl,hh⟩)
theorem BX {w0 w:World} {A:aj} {v:Value} (s:St w0 (A*Ln v) w):∃(b:Nat) (x y z:Value),v= .pointer (some ⟨b,0,none⟩)∧St w0 (A*pt b (.cells #[x,y,z] 46 (0,0))) w:=by
 obtain ⟨g,h1,h2,h3,d,e,a,b,x,y,z,hv,h⟩:=s.holds
 exact ⟨b,x,y,z,hv,s.of ⟨g,h1,h2,h3,d,e,a,h⟩⟩
set_option maxHeartbeats 1000000 in
theorem od (q:Nat) (S:ST) (r:PR) (ev cv:Value) (wvs:List Value) (p g e m:Nat) (w0 w:World) (A:aj) (h0:w0.drawn=0) (hS:SW S) (hrows:S.E.l.length≤64) (hr:r.ok) (hwr:WR w0 A ev r.en.ws) (hcv:CV w0 A cv wvs r.co.es) (s:St w0 (A*bL q S p g e m) w):
  ai Tryz.prog 25 [.pointer (some ⟨q,0,none⟩),.agg (r.cs ev cv).toArray] (fun v w'=>v= .int .i64 (cF S r).2.1∧St w0 (A*bL q S p g e m) w') w:=by
 refine go SZ ?_
 refine gj fun b2 w s=> ?_
 obtain ⟨o,ho⟩:∃o,cF S r=o:=⟨_,rfl⟩
 rw [ho]
 have s:St w0 (A*bL q S p g e m*Iv b2 r ev cv) w:=s
 obtain ⟨D,hD⟩:∃D,A*bL q S p g e m*Iv b2 r ev cv=D:=⟨_,rfl⟩
 rw [hD] at s
 have hf:∀{Z:aj} {w:World},St w0 (D*Z) w→∀j u,(r.cs ev cv)[j]?=some u→w.cell? ⟨b2,j,none⟩=some u:=fun s j u hu=>by
  rw [←hD] at s
  have:=(s.prt (Iv b2 r ev cv)).af j u hu;simpa using this
 have hDA:∀{Z:aj} {w:World},St w0 (D*Z) w→St w0 A w:=fun s=>by
  rw [←hD] at s
  exact s.ak
 obtain ⟨M,hM⟩:∃M:Fm→aj,M=fun ρ=>D*(jF (LY (PU S o.2.2 (ρ 3))) (ρ 1)*jF (L3 o) (ρ 3)*jF Ln (ρ 7)):=⟨_,rfl⟩
 refine EC M ?_ (h0:=by rw [hM];simp [al])
 refine rj (fun ρ' w hq h1 hp s=> ?_) (fun v1 ⟨ρ',w,hle,s⟩=> ?_)
 ·simp at hp
  obtain ⟨hp3,hp8⟩:=hp
  rw [hM] at s
  obtain ⟨X,hX⟩:∃X,jF Ln (ρ' 7)=X:=⟨_,rfl⟩
  simp only [h1,hp3,hX,cf,al,Tl.dX] at s
  rw [←hD] at s
  refine ab ((GZ q S p g e m w0 w (A*Iv b2 r ev cv*X) h0 hS hrows (s.to (by ac_rfl))).mono ?_)
  rintro _ w ⟨q2,rfl,s⟩
  have s:=Jc s
  rw [hM]
  simp [h1,hp3,hX,al,Tl.dX]
  rw [←hD]
  exact s.to (by ac_rfl)
 obtain ⟨q2,rfl⟩:∃b:Nat,v1= .pointer (some ⟨b,0,none⟩):=by
  rw [hM] at s
  simp only [hle 1 v1 rfl,aQ] at s
  obtain ⟨q2,h,_⟩:=AX (show St w0 (D*(jF (L3 o) (ρ' 3)*jF Ln (ρ' 7))*LY (PU S o.2.2 (ρ' 3)) v1) w from s.to (by ac_rfl))
  exact ⟨q2,h⟩
 clear s hle
 refine JS (us:=r.cs ev cv) (fun ρ' w _ s j u hu=>by simpa using hf (by rw [hM] at s;exact s) j u hu) ?_
 refine rj (fun ρ' w hq h1 hp s=> ?_) (fun v3 ⟨ρ',w,hle,s⟩=> ?_)
 ·simp at hp hq
  rw [hM] at s
  obtain ⟨X,hX⟩:∃X,jF Ln (ρ' 7)=X:=⟨_,rfl⟩
  simp only [h1,hp,hq,hX,cf,aQ,Jd,al,Tl.dX] at s
  obtain ⟨q3,e3,s⟩:=AX (show St w0 (D*X*LY S (.pointer (some ⟨q2,0,none⟩))) w from s.to (by ac_rfl))
  cases e3
  obtain ⟨p2,g2,e2,m2,s⟩:=bYa s
  refine ab ((n0 q2 S r ev cv wvs p2 g2 e2 m2 w0 w (D*X) hS hr (hwr.mono fun w s=>hDA s) (hcv.mono fun w s=>hDA s) (s.to (by simp only [bL,bT,aG];ac_rfl))).mono ?_)
  rintro _ w ⟨gv,rfl,s⟩
  rw [ho] at s⊢
  have s:=QU s
  have s:=Jc (KI (A:=D*X*L3 o (.tuple #[.agg (dk o.1 gv).toArray,.int .i64 o.2.1])) (q:=q2) (S:=o.2.2) (p:=p2) (g:=g2) (e:=e2) (m:=m2) (s.to (by simp only [bL,bT,aG];ac_rfl)))
  rw [hM]
  simp [h1,hp,hq,hX]
  exact s.to (by ac_rfl)
 obtain ⟨gv,rfl,hgv⟩:∃gv,v3= .tuple #[.agg (dk o.1 gv).toArray,.int .i64 o.2.1]∧gv.oneCell'=true:=by
  rw [hM] at s
  simp only [hle 3 v3 rfl,aQ] at s
  obtain ⟨gv,h,s⟩:=Ji (show St w0 (D*(jF (LY (PU S o.2.2 (some v3))) (ρ' 1)*jF Ln (ρ' 7))*L3 o v3) w from s.to (by ac_rfl))
  exact ⟨gv,h,cX s⟩
 clear s hle
 simp
 refine rj (fun ρ' w hq h1 hp s=> ?_) (fun v7 ⟨ρ',w,hle,s⟩=> ?_)
 ·simp at hp
  rw [hM] at s
  simp only [h1,cf,al] at s
  refine bz s fun p2 w s=> ?_
  have s:St w0 (_*pt p2 (.cells #[.int .i64 0,.int .i64 0,.slice none 0 0] 46 (0,0))) w:=s
  have s:=J9 s
  rw [hM]
  simp [h1]
  exact s.to (by ac_rfl)
 obtain ⟨d8,rfl⟩:∃b:Nat,v7= .pointer (some ⟨b,0,none⟩):=by
  rw [hM] at s
  simp only [hle 7 v7 rfl,aQ] at s
  obtain ⟨b,_,_,_,h,_⟩:=BX (show St w0 (D*(jF (LY (PU S o.2.2 (ρ' 3))) (ρ' 1)*jF (L3 o) (ρ' 3))*Ln v7) w from s.to (by ac_rfl))
  exact ⟨b,h⟩
 clear s hle
 refine rj (fun ρ' w hq h1 hp s=> ?_) (fun _ _=> ?_)
 ·simp at hq
  obtain ⟨hq1,hq2,hq3⟩:=hq
  rw [hM] at s
  simp only [hq1,hq2,hq3,aQ] at s
  obtain ⟨b,x,y,z,h,s⟩:=BX (show St w0 (D*(LY (PU S o.2.2 (some (.tuple #[.agg (dk o.1 gv).toArray,.int .i64 o.2.1]))) (.pointer (some ⟨q2,0,none⟩))*L3 o (.tuple #[.agg (dk o.1 gv).toArray,.int .i64 o.2.1]))*Ln (.pointer (some ⟨d8,0,none⟩))) w from s.to (by ac_rfl))
  cases h
  refine aL (cs':=(dk o.1 gv).toArray) (b:=d8) (fun w s=> ?_) (s:=s) (h1:=ji _ _ hgv) (e:=fun w'=>rfl)
  have s:St w0 (D*(LY (PU S o.2.2 (some (.tuple #[.agg (dk o.1 gv).toArray,.int .i64 o.2.1]))) (.pointer (some ⟨q2,0,none⟩))*L3 o (.tuple #[.agg (dk o.1 gv).toArray,.int .i64 o.2.1]))*Ln (.pointer (some ⟨d8,0,none⟩))) w:=J9 s
  rw [hM]
  simp [hq1,hq2,hq3]
  exact s.to (by ac_rfl)
 intro w s
 rw [hM] at s
 have s:=s.drop
 rw [←hD] at s
 exact s.drop
end Go.HL.St1
namespace Go.HL.St1
open Go.HL Go.HL.Tl Go.HL.Sr Go.HL.Es Go.Proofs
structure KL (c:PC):Prop where
 kind:nM c.kind
 ok:c.ok
 len:c.es.length≤16
 ws:∀e∈c.es,e.ws.length≤16
 one:c.kind=1→gO c=0
 two:c.kind=2→c.es.length≤2
 item:c.kind=4→∀e∈c.es,1≤e.item
 call:c.kind=5→∀e∈c.es,Qt e
theorem K5 {c:PC} (h:lQ c=0) (hc:c.ok):KL c∧(∀e∈c.es,e.acc=c.by')∧c.es.length≤1:=by
 unfold lQ at h
 split at h
 ·rename_i hk
  have h0:=h
  unfold gO at h
  split at h
  ·cases h
  split at h
  ·cases h
  rename_i h1 h2
  split at h
  ·rename_i e he
   split at h
   ·cases h
   rename_i h3
   unfold jB at h3
   refine ⟨⟨⟨by omega,by omega⟩,hc,by rw [he];simp,fun x hx=> ?_,fun _=>h0,fun h=>by omega,fun h=>by omega,fun h=>by omega⟩,fun x hx=> ?_,by rw [he];simp⟩
   ·rw [he,List.mem_singleton] at hx;subst hx;omega
   ·rw [he,List.mem_singleton] at hx;subst hx;omega
  ·cases h
 split at h
 ·rename_i hk0 hk
  unfold mV at h
  split at h
  ·cases h
  split at h
  ·cases h
  rename_i h1 h2
  split at h
  ·rename_i e he
   split at h
   ·cases h
   rename_i h3
   unfold jB at h3
   refine ⟨⟨⟨by omega,by omega⟩,hc,by rw [he];simp,fun x hx=> ?_,fun h=>by omega,fun h=>by rw [he];simp,fun h=>by omega,fun h=>by omega⟩,fun x hx=> ?_,by rw [he];simp⟩
   ·rw [he,List.mem_singleton] at hx;subst hx;omega
   ·rw [he,List.mem_singleton] at hx;subst hx;omega
  ·cases h
 split at h
 ·rename_i hk0 hk1 hk
  unfold lj at h
  split at h
  ·cases h
  rename_i h1
  obtain ⟨e,he⟩:∃e,c.es= [e]:=List.length_eq_one_iff.1 (by omega)
  split at h
  ·cases h
  rename_i h3
  have e0:en c.es 0=e:=by rw [he];rfl
  rw [e0] at h3
  have h4:fR e=1:=by omega
  unfold fR at h4
  split at h4
  ·rename_i h5
   unfold jB at h5
   refine ⟨⟨⟨by omega,by omega⟩,hc,by rw [he];simp,fun x hx=> ?_,fun h=>by omega,fun h=>by omega,fun h x hx=> ?_,fun h=>by omega⟩,fun x hx=> ?_,by rw [he];simp⟩
   ·rw [he,List.mem_singleton] at hx;subst hx;omega
   ·rw [he,List.mem_singleton] at hx;subst hx;omega
   ·rw [he,List.mem_singleton] at hx;subst hx;omega
  ·omega
 split at h
 ·rename_i hk0 hk1 hk2 hk
  unfold rq at h
  split at h
  ·cases h
  rename_i h1
  have he:c.es= []:=List.eq_nil_of_length_eq_zero (by omega)
  refine ⟨⟨⟨by omega,by omega⟩,hc,by rw [he];simp,fun x hx=> ?_,fun h=>by omega,fun h=>by omega,fun h x hx=> ?_,fun h x hx=> ?_⟩,fun x hx=> ?_,by rw [he];simp⟩
  all_goals (rw [he] at hx;cases hx)
 ·cases h
theorem BF {c:PC}:∀e∈eC c,e∈c.es:=by
 intro e he
 unfold eC at he
 split at he
 ·exact he
 ·exact (List.dropLast_sublist _).subset he
theorem Mq {c:PC} {e:PE} (hk:KL c) (he:e.ok) (h:(bg c e).no=0) (hen:(bg c e).ends=false):KL (bg c e).d:=by
 have hok:=hk.ok
 have hkd:=hk.kind
 unfold bg at h hen⊢
 split at hen
 ·cases hen
 rename_i h1
 rw [if_neg h1] at h⊢
 split at h
 ·rename_i h2
  rw [if_pos h2]
  simp only at h⊢
  have h3:=h
  unfold gr at h3
  split at h3
  ·cases h3
  split at h3
  ·cases h3
  rename_i h4 h5
  split at h3
  ·cases h3
  split at h3
  ·cases h3
  split at h3
  ·cases h3
  rename_i h6 h7 h8
  unfold jB at h5
  have hlen:(eC c).length≤15∧(c.kind=2→(eC c).length≤1):=by
   unfold eC
   split
   ·rename_i h9
    refine ⟨?_,?_⟩
    ·rcases h9 with h9|h9<;>omega
    ·intro h;omega
   ·rename_i h9
    have:=hk.two (by omega)
    simp
    omega
  refine ⟨hkd,⟨hok.price,hok.res,hok.step,?_,fun x hx=> ?_⟩,?_,fun x hx=> ?_,fun h=>absurd h h1,fun h=> ?_,fun h=> ?_,fun h=> ?_⟩
  ·simp;omega
  ·rcases List.mem_append.1 hx with hx|hx
   ·exact hok.each x (BF x hx)
   ·rw [List.mem_singleton.1 hx];exact he
  ·simp;omega
  ·rcases List.mem_append.1 hx with hx|hx
   ·exact hk.ws x (BF x hx)
   ·rw [List.mem_singleton.1 hx];omega
  ·have:=hlen.2 h
   simp;omega
  ·simp only at h;omega
  ·simp only at h;omega
 rename_i h2
 rw [if_neg h2]
 split at h
 ·rename_i h3
  rw [if_pos h3]
  simp only at h⊢
  unfold ma at h
  split at h
  ·cases h
  split at h
  ·cases h
  split at h
  ·cases h
  split at h
  ·cases h
  rename_i h4 h5 h6 h7
  have h8:fR e=1:=by omega
  unfold fR at h8
  split at h8
  ·rename_i h9
   unfold jB at h9
   refine ⟨hkd,⟨hok.price,hok.res,hok.step,?_,fun x hx=> ?_⟩,?_,fun x hx=> ?_,fun h=>absurd h h1,fun h=> ?_,fun h x hx=> ?_,fun h=> ?_⟩
   ·simp;omega
   ·rcases List.mem_append.1 hx with hx|hx
    ·exact hok.each x hx
    ·rw [List.mem_singleton.1 hx];exact he
   ·simp;omega
   ·rcases List.mem_append.1 hx with hx|hx
    ·exact hk.ws x hx
    ·rw [List.mem_singleton.1 hx];omega
   ·simp only at h;omega
   ·rcases List.mem_append.1 hx with hx|hx
    ·exact hk.item h3 x hx
    ·rw [List.mem_singleton.1 hx];omega
   ·simp only at h;omega
  ·omega
 ·rename_i h3
  rw [if_neg h3]
  simp only at h⊢
  unfold mg at h
  split at h
  ·cases h
  split at h
  ·cases h
  split at h
  ·cases h
  split at h
  ·cases h
  rename_i h4 h5 h6 h7
  unfold jB at h4
  have h8:oP e=1:=by omega
  unfold oP at h8
  split at h8
  ·rename_i h9
   have hep:=he.price
   refine ⟨hkd,⟨hok.price,hok.res,hok.step,?_,fun x hx=> ?_⟩,?_,fun x hx=> ?_,fun h=>absurd h h1,fun h=> ?_,fun h x hx=> ?_,fun h x hx=> ?_⟩
   ·simp;omega
   ·rcases List.mem_append.1 hx with hx|hx
    ·exact hok.each x hx
    ·rw [List.mem_singleton.1 hx];exact he
   ·simp;omega
   ·rcases List.mem_append.1 hx with hx|hx
    ·exact hk.ws x hx
    ·rw [List.mem_singleton.1 hx];omega
   ·simp only at h;omega
   ·simp only at h;omega
   ·rcases List.mem_append.1 hx with hx|hx
    ·exact hk.call h x hx
    ·rw [List.mem_singleton.1 hx];unfold Qt;omega
  ·omega
end Go.HL.St1
namespace Go.HL.St1
open Go.HL Go.HL.Tl Go.HL.Sr Go.HL.Es Go.Proofs
structure Still (n:Int) (E E':ck):Prop where
 len:E'.P.rows.length=E.P.rows.length
 bX:∀k,k≠n→bX E'.l k=bX E.l k
 dZ:∀k,k≠n→Gd.dZ E'.ae k=Gd.dZ E.ae k
theorem Still.refl (n:Int) (E:ck):Still n E E:=⟨rfl,fun _ _=>rfl,fun _ _=>rfl⟩
theorem Still.trans {n:Int} {E E' E2:ck} (h:Still n E E') (k:Still n E' E2):Still n E E2:=⟨k.len.trans h.len,fun j hj=>(k.bX j hj).trans (h.bX j hj),fun j hj=>(k.dZ j hj).trans (h.dZ j hj)⟩
theorem DW {lp lg n:Int} (hn:1≤n∧n<9223372036854775808) {x:Gf} {E:ck} (hE:EI lp lg E) (hx:0≤x.coins) (h:(ct n x E).1=0):Still n E (ct n x E).2:=by
 obtain ⟨g,e⟩:=(jn n x E).resolve_right fun q=>q.2.1 h
 have hM:=om hE hn hx h
 refine ⟨hM.len,fun k hk=> ?_,fun k hk=> ?_⟩
 ·rw [e]
  show bX (eX n (bX E.l n -x.coins) E.l) k=_
  have:=g.coins
  rw [kA hE.R hn (by omega),if_neg hk]
 ·rw [hM.ae,ua]
  refine List.filter_eq_self.2 fun j hj=> ?_
  obtain ⟨it,h1,h2,h3,h4⟩:=lC.1 hj
  have hp:=px hE.G h1
  simp only [decide_eq_true_eq]
  intro hji
  obtain ⟨_,h5⟩:=g.item (by omega)
  rw [←hji,←h2,DT hE.G h1] at h5
  exact hk (h4.symm.trans h5)
theorem mq {lp lg n:Int} (hn:1≤n∧n<9223372036854775808):∀{gs:List Gf} {E:ck},EI lp lg E→(∀x∈gs,0≤x.coins)→(aW n gs E).1=0→Still n E (aW n gs E).2
 | [],E,_,_,_=>Still.refl n E
 |x::t,E,hE,hx,h=>by
  unfold aW at h⊢
  by_cases h1:(ct n x E).1=0
  ·rw [if_neg (by simp [h1])] at h⊢
   exact (DW hn hE (hx x (.head _)) h1).trans (mq hn (rD (x:=x) hE hn (hx x (.head _))) (fun y hy=>hx y (.tail _ hy)) h)
  ·rw [if_pos h1] at h
   exact absurd h h1
theorem yb (c:Int) (x:Et) (it:Gd.It):(eW c x it).num=it.num:=by unfold eW;split<;>rfl
theorem qA {lp lg n:Int} (hn:1≤n∧n<9223372036854775808) {x:Et} {E:ck} (hE:EI lp lg E) (hx:0≤x.coins∧x.coins<18446744073709551616) (h:(aK n x E).1=0):
  Still n E (aK n x E).2∧bX (aK n x E).2.l n=bX E.l n+x.coins∧(Gd.dZ (aK n x E).2.ae n).Perm (Gd.dZ E.ae n++if x.item≠0 then [x.item] else [])∧Pu.dn E.P.rows x.acc=0:=by
 obtain ⟨g1,g2,g3,e⟩:=fZ h
 have hM:=HW hE hn hx.1 h
 have hE1:=qz (x:=x) hE hn hx
 have hzero:∀it∈E.ae,it.num=x.item→it.bB=0:=fun it hm hi=>by
  have hp:=px hE.G hm
  obtain ⟨_,h2,_⟩:=g2 (by omega)
  rw [←hi,DT hE.G hm] at h2
  exact h2
 have hcn:=(hE.lq n).1
 refine ⟨⟨hM.len,fun k hk=> ?_,fun k hk=> ?_⟩,hM.bX,?_,nk.1 g1⟩
 ·rw [e]
  show bX (eX n (bX E.l n+x.coins) E.l) k=_
  rw [kA hE.R hn (by omega),if_neg hk]
 ·rw [hM.ae]
  unfold Gd.dZ
  rw [List.filter_map,List.map_map]
  have e1:(E.ae.filter ((fun x:Gd.It=>decide (0<x.bB)&&decide (x.bB=k))∘eW n x))=E.ae.filter fun x=>decide (0<x.bB)&&decide (x.bB=k):=by
   refine List.filter_congr fun it hm=> ?_
   simp only [Function.comp]
   unfold eW
   split
   ·rename_i hi
    have:=hzero it hm hi.symm
    have hkn:¬n=k:=fun h=>hk h.symm
    simp [this,hkn]
   ·rfl
  rw [e1]
  exact List.map_congr_left fun it _=>yb n x it
 ·refine (List.perm_ext_iff_of_nodup (kH hE1.G n) ?_).2 fun k=> ?_
  ·rw [List.nodup_append]
   refine ⟨kH hE.G n,by split<;>simp,fun a ha b hb hab=> ?_⟩
   split at hb
   ·rw [List.mem_singleton.1 hb] at hab
    obtain ⟨it,h1,h2,h3,_⟩:=lC.1 ha
    have:=hzero it h1 (h2.trans hab)
    omega
   ·cases hb
  ·rw [List.mem_append,lC,lC,hM.ae]
   constructor
   ·rintro ⟨it,h1,h2,h3,h4⟩
    obtain ⟨y,hy,rfl⟩:=List.mem_map.1 h1
    rw [yb] at h2
    by_cases hi:x.item=y.num
    ·right
     have hp:=px hE.G hy
     rw [if_pos (by omega),List.mem_singleton]
     omega
    ·left
     unfold eW at h3 h4
     rw [if_neg hi] at h3 h4
     exact ⟨y,hy,h2,h3,h4⟩
   ·rintro (⟨y,hy,h2,h3,h4⟩|hk)
    ·refine ⟨eW n x y,List.mem_map.2 ⟨y,hy,rfl⟩,(yb n x y).trans h2,?_⟩
     by_cases hi:x.item=y.num
     ·have:=hzero y hy hi.symm
      omega
     ·unfold eW
      rw [if_neg hi]
      exact ⟨h3,h4⟩
    ·split at hk
     ·rename_i h0
      rw [List.mem_singleton.1 hk]
      obtain ⟨h5,_,_⟩:=g2 h0
      obtain ⟨y,hy,hyn⟩:∃y∈E.ae,y.num=x.item:=by
       unfold Gd.aH at h5
       split at h5
       ·rename_i h6
        have hl:(x.item -1).toNat<E.ae.length:=by omega
        exact ⟨E.ae[(x.item -1).toNat],List.getElem_mem hl,by rw [hE.G.num _ hl];omega⟩
       ·simp at h5
      refine ⟨eW n x y,List.mem_map.2 ⟨y,hy,rfl⟩,(yb n x y).trans hyn,?_⟩
      unfold eW
      rw [if_pos hyn.symm]
      exact ⟨hn.1,rfl⟩
     ·cases hk
theorem tS {lp lg n:Int} (hn:1≤n∧n<9223372036854775808):∀{gs:List Gf} {E:ck},EI lp lg E→(∀x∈gs,0≤x.coins)→(aW n gs E).1=0→
  bX (aW n gs E).2.l n=bX E.l n -iM gs∧Gd.dZ (aW n gs E).2.ae n=(Gd.dZ E.ae n).filter fun k=>decide (k∉kZ gs)
 | [],E,_,_,_=>⟨by simp [aW,iM],by simp only [aW,kZ];exact (List.filter_eq_self.2 fun k _=>by simp).symm⟩
 |x::t,E,hE,hx,h=>by
  unfold aW at h⊢
  by_cases h1:(ct n x E).1=0
  ·rw [if_neg (by simp [h1])] at h⊢
   have hM:=om hE hn (hx x (.head _)) h1
   obtain ⟨h2,h3⟩:=tS hn (rD (x:=x) hE hn (hx x (.head _))) (fun y hy=>hx y (.tail _ hy)) h
   refine ⟨by rw [h2,hM.bX];simp only [iM];omega,?_⟩
   rw [h3,hM.ae,ua,List.filter_filter]
   refine List.filter_congr fun k hk=> ?_
   obtain ⟨it,h4,h5,_⟩:=lC.1 hk
   have hp:=px hE.G h4
   rw [BB]
   by_cases h6:x.item=0
   ·have:k≠x.item:=by omega
    simp [h6,List.mem_append]
    omega
   ·simp [h6,List.mem_append,not_or,Bool.and_comm]
  ·rw [if_pos h1] at h
   exact absurd h h1
end Go.HL.St1
namespace Go.HL.St1
open Go.HL Go.HL.Tl Go.HL.Sr Go.HL.Es Go.Proofs
def Holds (E:ck) (c:PC):Prop:=bX E.l c.num=re c.es∧(qk c.es).Perm (Gd.dZ E.ae c.num)
structure Vp (S:ST):Prop where
 E:EI S.x.acc S.x.ae S.E
 bB:1≤S.x.bB∧S.x.bB≤64
 clock:0≤S.clock∧S.clock≤1099511627776
 last:0≤S.last∧S.last<9223372036854775808
 each:∀c∈S.cs,KL c
 num:∀c∈S.cs,1≤c.num∧c.num≤S.last
 sort:(eh S.cs).Pairwise (·<·)
 few:(S.cs.length:Int)≤S.x.bB
 part:∀c∈S.cs,dU S c.by'∧(c.kind=1→dU S c.to')∧∀e∈c.es,dU S e.acc
structure SI (S:ST):Prop where
 base:Vp S
 hold:∀c∈S.cs,Holds S.E c
 free:∀n,(∀c∈S.cs,c.num≠n)→bX S.E.l n=0∧Gd.dZ S.E.ae n= []
theorem mT {S:ST} {n:Int}:dU S n↔Pu.dn S.E.P.rows n=0:=by
 unfold dU Pu.dn
 split<;>omega
theorem JK {es:List PE} (h:∀e∈es,1≤e.item):qk es=es.map (·.item):=by
 unfold qk
 refine List.filter_eq_self.2 fun n hn=> ?_
 obtain ⟨e,he,rfl⟩:=List.mem_map.1 hn
 have:=h e he
 simp;omega
theorem SI.sw {S:ST} (h:SI S):SW S where
 E:=h.base.E
 clock:=h.base.clock
 last:=h.base.last
 few:=by have h1:=h.base.few;have h2:=h.base.bB;omega
 top:=fun c hc=>(h.base.num c hc).2
 each:=fun c hc=>by
  have hk:=h.base.each c hc
  have hn:=h.base.num c hc
  have hl:=h.base.last
  obtain ⟨h1,h2⟩:=h.hold c hc
  have hb:=h.base.E.lq c.num
  refine ⟨hk.kind,hk.len,hk.ok.each,hk.ok.res.1,⟨hn.1,by omega⟩,fun h4=>⟨hk.item h4,?_⟩,by omega,hk.call⟩
  rw [←JK (hk.item h4)]
  exact h2.nodup_iff.2 (kH h.base.E.G _)
theorem SI.ne {S:ST} (h:SI S):∀r∈S.E.l,∃c∈S.cs,c.num=r.1:=fun r hr=>Classical.byContradiction fun hno=>by
 have h1:=(h.free r.1 fun c hc e=>hno ⟨c,hc,e⟩).1
 rw [jM h.base.E.R.ne hr] at h1
 have:=h.base.E.R.2 r hr
 omega
theorem SI.rows {S:ST} (h:SI S):S.E.l.length≤64:=by
 have hnd:(S.E.l.map (·.1)).Nodup:=by
  rw [List.nodup_iff_pairwise_ne,List.pairwise_map]
  exact h.base.E.R.ne
 have:=qp (m:=eh S.cs) hnd fun k hk=>by
  obtain ⟨r,hr,rfl⟩:=List.mem_map.1 hk
  obtain ⟨c,hc,e⟩:=h.ne r hr
  exact List.mem_map.2 ⟨c,hc,e⟩
 have h1:=h.base.few
 have h2:=h.base.bB
 simp [eh] at this
 omega
theorem AY {cs:List PC} {n:Int} {c:PC}:c∈tp cs n↔c∈cs∧c.num≠n:=by simp [tp]
theorem Vp.less {S:ST} (h:Vp S) {E':ck} {cs':List PC} (hE:EI S.x.acc S.x.ae E') (hl:E'.P.rows.length=S.E.P.rows.length) (hs:cs'.Sublist S.cs):Vp {S with E:=E',cs:=cs'} where
 E:=hE
 bB:=h.bB
 clock:=h.clock
 last:=h.last
 each:=fun c hc=>h.each c (hs.subset hc)
 num:=fun c hc=>h.num c (hs.subset hc)
 sort:=h.sort.sublist (hs.map _)
 few:=by have h1:=h.few;have h2:=hs.length_le;show (cs'.length:Int)≤S.x.bB;omega
 part:=fun c hc=>by
  have:=h.part c (hs.subset hc)
  simp only [dU] at this⊢
  rw [hl]
  exact this
theorem DH {S:ST} {n:Int} {c:PC} {gs:List Gf} (h:Vp S) (ho:∀c∈S.cs,c.num≠n→Holds S.E c) (hf:∀k,(∀c∈S.cs,c.num≠k)→bX S.E.l k=0∧Gd.dZ S.E.ae k= []) (hc:iI S.cs n=some c)
  (hx:Fair (dU S) gs) (ht:iM gs=bX S.E.l n) (hi:(kZ gs).Perm (Gd.dZ S.E.ae n)):
  iC S n gs=(⟨0,n,gs⟩,0,{S with E:=(aW n gs S.E).2,cs:=tp S.cs n})∧SI {S with E:=(aW n gs S.E).2,cs:=tp S.cs n}∧(aW n gs S.E).2.P.rows.length=S.E.P.rows.length:=by
 obtain ⟨hm,hcn⟩:=fJ hc
 have hn:1≤n∧n<9223372036854775808:=by
  have h1:=h.num c hm
  have h2:=h.last
  omega
 have hx0:∀x∈gs,0≤x.coins:=fun x hx'=>(hx x hx').1
 have hx1:∀x∈gs,0≤x.coins∧Pu.dn S.E.P.rows x.to=0:=fun x hx'=>⟨(hx x hx').1,mT.1 (hx x hx').2⟩
 obtain ⟨e1,e2,e3⟩:=Mc hn h.E hx1 ht hi
 obtain ⟨e4,_,_⟩:=zK hn h.E hx1 ht hi
 have hS:=mq hn h.E hx0 e4
 have hE:=pf hn h.E hx0 (gs:=gs)
 refine ⟨by unfold iC;rw [e1];rfl,⟨h.less hE hS.len (List.filter_sublist),fun d hd=> ?_,fun k hk=> ?_⟩,hS.len⟩
 ·obtain ⟨h1,h2⟩:=AY.1 hd
  obtain ⟨h3,h4⟩:=ho d h1 h2
  exact ⟨(hS.bX d.num h2).trans h3,by rw [hS.dZ d.num h2];exact h4⟩
 ·by_cases hkn:k=n
  ·subst hkn;exact ⟨e2,e3⟩
  ·have:=hf k fun d hd hdk=>hk d (AY.2 ⟨hd,by omega⟩) hdk
   exact ⟨(hS.bX k hkn).trans this.1,(hS.dZ k hkn).trans this.2⟩
theorem H4 {S:ST} {n:Int} {c:PC} (h:SI S) (hc:iI S.cs n=some c) (hd:c.dead≤S.clock):
  cQ S n=(⟨0,n,ly c⟩,0,{S with E:=(aW n (ly c) S.E).2,cs:=tp S.cs n})∧SI (cQ S n).2.2:=by
 obtain ⟨hm,hcn⟩:=fJ hc
 have hCW:=h.sw.each c hm
 obtain ⟨h1,h2⟩:=tv hCW
 obtain ⟨h3,h4⟩:=h.hold c hm
 rw [hcn] at h3 h4
 obtain ⟨e1,e2,_⟩:=DH h.base (fun d hd _=>h.hold d hd) h.free hc (vX hCW (h.base.part c hm).2.2) (h1.trans h3.symm) (h2.trans h4)
 have e0:cQ S n=iC S n (ly c):=by
  unfold cQ
  rw [hc]
  exact if_neg (by omega)
 rw [e0,e1]
 exact ⟨rfl,e2⟩
theorem GW {S:ST} {n a:Int} (h:SI S):SI (dI S n a).2.2∧((dI S n a).2.1≠0→(dI S n a).2.2=S∧(dI S n a).1= .zero):=by
 unfold dI
 cases hc:iI S.cs n with
 |none=>exact ⟨h,fun _=>⟨rfl,rfl⟩⟩
 |some c=>
  simp only
  split
  ·exact ⟨h,fun _=>⟨rfl,rfl⟩⟩
  split
  ·exact ⟨h,fun _=>⟨rfl,rfl⟩⟩
  split
  ·exact ⟨h,fun _=>⟨rfl,rfl⟩⟩
  split
  ·exact ⟨h,fun _=>⟨rfl,rfl⟩⟩
  obtain ⟨hm,hcn⟩:=fJ hc
  have hCW:=h.sw.each c hm
  obtain ⟨h1,h2⟩:=qe PE.acc c.es
  obtain ⟨h3,h4⟩:=h.hold c hm
  rw [hcn] at h3 h4
  obtain ⟨e1,e2,_⟩:=DH h.base (fun d hd _=>h.hold d hd) h.free hc (mv (to:=PE.acc) fun e he=>⟨(hCW.ok e he).coins.1,(h.base.part c hm).2.2 e he⟩) (h1.trans h3.symm) (h2.trans h4)
  rw [e1]
  exact ⟨e2,fun hh=>absurd rfl hh⟩
theorem EF {S:ST} {n:Int} (h:SI S):SI (cQ S n).2.2∧((cQ S n).2.1≠0→(cQ S n).2.2=S∧(cQ S n).1= .zero):=by
 cases hc:iI S.cs n with
 |none=>unfold cQ;rw [hc];exact ⟨h,fun _=>⟨rfl,rfl⟩⟩
 |some c=>
  by_cases hd:c.dead≤S.clock
  ·obtain ⟨e1,e2⟩:=H4 h hc hd
   refine ⟨e2,fun hh=> ?_⟩
   rw [e1] at hh
   exact absurd rfl hh
  ·have e0:cQ S n=(.zero,237,S):=by
    unfold cQ
    rw [hc]
    exact if_pos (by omega)
   rw [e0]
   exact ⟨h,fun _=>⟨rfl,rfl⟩⟩
end Go.HL.St1
namespace Go.HL.St1
open Go.HL Go.HL.Tl Go.HL.Sr Go.HL.Es Go.Proofs
theorem Kk {a b m:List Int} (hm:m.Nodup) (h:(a++b).Perm m):a.Perm (m.filter fun k=>decide (k∉b)):=by
 have hn:=h.nodup_iff.2 hm
 rw [List.nodup_append] at hn
 have:=h.filter fun k=>decide (k∉b)
 rw [List.filter_append,List.filter_eq_self.2 fun x hx=>by
  simp only [decide_eq_true_eq]
  exact fun hb=>hn.2.2 x hx x hb rfl,List.filter_eq_nil_iff.2 fun x hx=>by simp [hx],List.append_nil] at this
 exact this
theorem D4 {c:PC} {e:PE} (hen:(bg c e).ends=false):∃keep out,c.es=keep++out∧(bg c e).d={c with es:=keep++ [e]}∧iM (bg c e).gs=re out∧kZ (bg c e).gs=qk out:=by
 unfold bg at hen⊢
 split at hen
 ·cases hen
 rename_i h1
 rw [if_neg h1]
 split
 ·simp only
  unfold eC oK
  split
  ·exact ⟨c.es,[],by simp,rfl,rfl,rfl⟩
  ·rename_i h3
   have hne:c.es≠ []:=fun h=>h3 (.inr (by rw [h];simp))
   have hl:0<c.es.length:=List.length_pos_iff.2 hne
   have e1:en c.es (c.es.length -1)=c.es.getLast hne:=by
    rw [dj (by omega),List.getLast_eq_getElem]
   refine ⟨c.es.dropLast,[c.es.getLast hne],(List.dropLast_concat_getLast hne).symm,rfl,?_,?_⟩
   ·rw [e1,(np PE.acc _).1];simp [re]
   ·rw [e1,(np PE.acc _).2,my];simp [qk]
 split
 ·exact ⟨c.es,[],by simp,rfl,rfl,rfl⟩
 ·exact ⟨c.es,[],by simp,rfl,rfl,rfl⟩
theorem pF {cs:List PC} {d c:PC} (h:c∈nH cs d):c=d∨(c∈cs∧c.num≠d.num):=by
 obtain ⟨x,hx,rfl⟩:=List.mem_map.1 h
 split
 ·exact .inl rfl
 ·rename_i hne;exact .inr ⟨hx,hne⟩
theorem wZ (cs:List PC) (d:PC):eh (nH cs d)=eh cs:=by
 unfold eh nH
 rw [List.map_map]
 refine List.map_congr_left fun x _=> ?_
 simp only [Function.comp]
 split
 ·rename_i h;exact h.symm
 ·rfl
theorem Mr {S:ST} {n:Int} {e:PE} (h:SI S) (he:e.ok):SI (iJ S n e).2.2∧((iJ S n e).2.1≠0→(iJ S n e).2.2=S∧(iJ S n e).1= .zero):=by
 unfold iJ
 cases hc:iI S.cs n with
 |none=>exact ⟨h,fun _=>⟨rfl,rfl⟩⟩
 |some c=>
  obtain ⟨hm,hcn⟩:=fJ hc
  have hCW:=h.sw.each c hm
  have hKL:=h.base.each c hm
  obtain ⟨h3,h4⟩:=h.hold c hm
  rw [hcn] at h3 h4
  have hn:1≤n∧n<9223372036854775808:=by
   have h1:=h.base.num c hm
   have h2:=h.base.last
   omega
  simp only
  split
  ·exact ⟨h,fun _=>⟨rfl,rfl⟩⟩
  rename_i ha
  have ha:dU S e.acc:=Classical.byContradiction fun hh=>ha hh
  split
  ·exact ⟨h,fun _=>⟨rfl,rfl⟩⟩
  split
  ·exact ⟨h,fun _=>⟨rfl,rfl⟩⟩
  rename_i hno
  have hno:(bg c e).no=0:=by omega
  split
  ·exact ⟨h,fun _=>⟨rfl,rfl⟩⟩
  split
  ·rename_i hen
   split
   ·exact ⟨h,fun _=>⟨rfl,rfl⟩⟩
   rename_i hT
   have hT:(bb n (bg c e).gs (aK n (fI e)) S.E).1=0:=by omega
   obtain ⟨keep,out,hes,hd,hto,hio⟩:=D4 hen
   have hgs:∀x∈(bg c e).gs,0≤x.coins:=fun x hx=>((FP hCW he).1 x hx).1
   obtain ⟨E1,hE1⟩:∃E1,(aW n (bg c e).gs S.E).2=E1:=⟨_,rfl⟩
   have hg:(aW n (bg c e).gs S.E).1=0∧(aK n (fI e) E1).1=0∧(bb n (bg c e).gs (aK n (fI e)) S.E).2=(aK n (fI e) E1).2:=by
    unfold bb at hT⊢
    rw [if_neg (by omega)] at hT⊢
    by_cases h1:(aW n (bg c e).gs S.E).1=0
    ·rw [if_neg (by omega),hE1] at hT⊢
     by_cases h2:(aK n (fI e) E1).1=0
     ·rw [if_neg (by omega)]
      exact ⟨h1,h2,rfl⟩
     ·rw [if_pos h2] at hT
      exact absurd hT h2
    ·rw [if_pos h1] at hT
     exact absurd hT h1
   obtain ⟨g1,g2,g3⟩:=hg
   have hS1:=mq hn h.base.E hgs g1
   have hEI1:=pf hn h.base.E hgs
   obtain ⟨hL1,hL2⟩:=tS hn h.base.E hgs g1
   rw [hE1] at hS1 hEI1 hL1 hL2
   obtain ⟨hS2,hc2,hi2,_⟩:=qA hn (x:=fI e) hEI1 he.coins g2
   have hEI2:=qz (x:=fI e) hEI1 hn he.coins
   have hSt:=hS1.trans hS2
   rw [g3]
   obtain ⟨E2,hE2⟩:∃E2,(aK n (fI e) E1).2=E2:=⟨_,rfl⟩
   rw [hE2] at hc2 hi2 hEI2 hSt⊢
   have hdn:(bg c e).d.num=n:=by rw [hd];exact hcn
   have hHold:Holds E2 (bg c e).d:=by
    unfold Holds
    rw [hdn,hd]
    have e1:re c.es=re keep+re out:=by rw [hes,Fi]
    have e2:qk c.es=qk keep++qk out:=by rw [hes,FM]
    refine ⟨?_,?_⟩
    ·show _=re (keep++ [e])
     rw [hc2,hL1,Fi,h3,e1,hto]
     simp only [re,fI];omega
    ·show (qk (keep++ [e])).Perm _
     refine .trans ?_ hi2.symm
     rw [FM,my]
     refine List.Perm.append ?_ (by by_cases hi:e.item=0<;>simp [qk,fI,hi])
     rw [hL2,hio]
     exact Kk (kH h.base.E.G n) (e2▸h4)
   have hlen:(nH S.cs (bg c e).d).length=S.cs.length:=by simp [nH]
   have hpart:=h.base.part c hm
   have hac:∀k,dU S k→dU {S with E:=E2,cs:=nH S.cs (bg c e).d} k:=fun k hk=>by
    simp only [dU] at hk⊢
    rw [hSt.len]
    exact hk
   refine ⟨⟨⟨hEI2,h.base.bB,h.base.clock,h.base.last,fun d hd2=> ?_,fun d hd2=> ?_,?_,?_,fun d hd2=> ?_⟩,fun d hd2=> ?_,fun k hk=> ?_⟩,fun hh=>absurd rfl hh⟩
   ·rcases pF hd2 with rfl|⟨hd2,_⟩
    ·exact Mq hKL he hno hen
    ·exact h.base.each d hd2
   ·rcases pF hd2 with rfl|⟨hd2,_⟩
    ·rw [hdn,←hcn];exact h.base.num c hm
    ·exact h.base.num d hd2
   ·show (eh (nH S.cs _)).Pairwise _
    rw [wZ];exact h.base.sort
   ·show ((nH S.cs _).length:Int)≤_
    rw [hlen];exact h.base.few
   ·rcases pF hd2 with rfl|⟨hd2,_⟩
    ·rw [hd]
     refine ⟨hac _ hpart.1,fun hk=>hac _ (hpart.2.1 hk),fun y hy=> ?_⟩
     rcases List.mem_append.1 hy with hy|hy
     ·exact hac _ (hpart.2.2 y (by rw [hes];exact List.mem_append.2 (.inl hy)))
     ·rw [List.mem_singleton.1 hy];exact hac _ ha
    ·obtain ⟨p1,p2,p3⟩:=h.base.part d hd2
     exact ⟨hac _ p1,fun hk=>hac _ (p2 hk),fun y hy=>hac _ (p3 y hy)⟩
   ·rcases pF hd2 with rfl|⟨hd2,hne⟩
    ·exact hHold
    ·rw [hdn] at hne
     obtain ⟨p1,p2⟩:=h.hold d hd2
     exact ⟨(hSt.bX d.num hne).trans p1,by rw [hSt.dZ d.num hne];exact p2⟩
   ·have hk2:∀d∈S.cs,d.num≠k:=fun d hd2 hdk=>by
     have:k∈eh (nH S.cs (bg c e).d):=by rw [wZ];exact List.mem_map.2 ⟨d,hd2,hdk⟩
     obtain ⟨y,hy,hyk⟩:=List.mem_map.1 this
     exact hk y hy hyk
    have hkn:k≠n:=fun hh=>hk2 c hm (hcn.trans hh.symm)
    obtain ⟨p1,p2⟩:=h.free k hk2
    exact ⟨(hSt.bX k hkn).trans p1,(hSt.dZ k hkn).trans p2⟩
  rename_i hen
  have hk1:c.kind=1:=Classical.byContradiction fun hh=>hen (by
   unfold bg
   rw [if_neg hh]
   split
   ·rfl
   ·split<;>rfl)
  have hjn:bg c e=⟨mN c e,{c with es:= []},cb c e,true⟩:=if_pos hk1
  split
  ·rename_i hp
   exact ⟨h,fun _=>⟨rfl,rfl⟩⟩
  rename_i hp
  have hp:(aK n (fI e) S.E).1=0:=by omega
  obtain ⟨hS2,hc2,hi2,_⟩:=qA hn (x:=fI e) h.base.E he.coins hp
  have hEI2:=qz (x:=fI e) h.base.E hn he.coins
  obtain ⟨E2,hE2⟩:∃E2,(aK n (fI e) S.E).2=E2:=⟨_,rfl⟩
  rw [hE2] at hc2 hi2 hEI2 hS2⊢
  have hpart:=h.base.part c hm
  have hac:∀k,dU S k→dU {S with E:=E2} k:=fun k hk=>by
   simp only [dU] at hk⊢
   rw [hS2.len]
   exact hk
  have hgs:(bg c e).gs=cb c e:=by rw [hjn]
  rw [hgs]
  obtain ⟨t1,t2⟩:=iV (fun _=>c.to') c.es
  obtain ⟨t3,t4⟩:=iV (fun _=>c.by') [e]
  have hb:Vp {S with E:=E2}:=h.base.less (cs':=S.cs) hEI2 hS2.len (List.Sublist.refl _)
  obtain ⟨e1,e2,_⟩:=DH (S:={S with E:=E2}) (gs:=cb c e) hb (fun d hd2 hne=>by
    obtain ⟨p1,p2⟩:=h.hold d hd2
    exact ⟨(hS2.bX d.num hne).trans p1,by rw [show Gd.dZ E2.ae d.num=_ from hS2.dZ d.num hne];exact p2⟩) (fun k hk=>by
    have hkn:k≠n:=fun hh=>hk c hm (hcn.trans hh.symm)
    obtain ⟨p1,p2⟩:=h.free k hk
    exact ⟨(hS2.bX k hkn).trans p1,(hS2.dZ k hkn).trans p2⟩) hc
   (Fair.app (mv fun y hy=>⟨(hCW.ok y hy).coins.1,hac _ (hpart.2.1 hk1)⟩) (mv fun y hy=>by rw [List.mem_singleton.1 hy];exact ⟨he.coins.1,hac _ hpart.1⟩))
   (by
    show iM (gl _ c.es++gl _ [e])=bX E2.l n
    rw [hc2,h3,eA,t1,t3]
    simp [re,fI])
   (by
    show (kZ (gl _ c.es++gl _ [e])).Perm (Gd.dZ E2.ae n)
    rw [eL,t2,t4]
    refine .trans (List.Perm.append h4 ?_) hi2.symm
    rw [my]
    by_cases hi:e.item=0<;>simp [qk,fI,hi])
  rw [e1]
  exact ⟨e2,fun hh=>absurd rfl hh⟩
end Go.HL.St1
namespace Go.HL.St1
open Go.HL Go.HL.Tl Go.HL.Sr Go.HL.Es Go.Proofs
theorem KL.num {c:PC} (h:KL c) (n:Int):KL {c with num:=n}:=⟨h.kind,⟨h.ok.price,h.ok.res,h.ok.step,h.ok.len,h.ok.each⟩,h.len,h.ws,fun hk=>h.one hk,h.two,h.item,h.call⟩
theorem FZ {S:ST} {c:PC} {E':ck} (h:SI S) (hK:KL c) (hp:qW S c) (hby:∀e∈c.es,e.acc=c.by') (hfew:(S.cs.length:Int)<S.x.bB) (hlast:S.last<9223372036854775807)
  (hE:EI S.x.acc S.x.ae E') (hSt:Still (S.last+1) S.E E') (hH:Holds E' {c with num:=S.last+1}):SI {S with E:=E',last:=S.last+1,cs:=S.cs++ [{c with num:=S.last+1}]}:=by
 have hl:=h.base.last
 have hac:∀k,dU S k→dU {S with E:=E',last:=S.last+1,cs:=S.cs++ [{c with num:=S.last+1}]} k:=fun k hk=>by
  simp only [dU] at hk⊢
  rw [hSt.len]
  exact hk
 have hne:∀d∈S.cs,d.num≠S.last+1:=fun d hd=>by have:=(h.base.num d hd).2;omega
 refine ⟨⟨hE,h.base.bB,h.base.clock,?_,fun d hd=> ?_,fun d hd=> ?_,?_,?_,fun d hd=> ?_⟩,fun d hd=> ?_,fun k hk=> ?_⟩
 ·show 0≤S.last+1∧S.last+1<_
  omega
 ·rcases List.mem_append.1 hd with hd|hd
  ·exact h.base.each d hd
  ·rw [List.mem_singleton.1 hd];exact hK.num _
 ·show 1≤d.num∧d.num≤S.last+1
  rcases List.mem_append.1 hd with hd|hd
  ·have:=h.base.num d hd
   omega
  ·rw [List.mem_singleton.1 hd]
   show 1≤S.last+1∧S.last+1≤S.last+1
   omega
 ·show (eh (S.cs++ [_])).Pairwise _
  unfold eh
  rw [List.map_append,List.pairwise_append]
  refine ⟨h.base.sort,by simp,fun a ha b hb=> ?_⟩
  obtain ⟨d,hd,rfl⟩:=List.mem_map.1 ha
  simp only [List.map_cons,List.map_nil,List.mem_singleton] at hb
  have:=(h.base.num d hd).2
  omega
 ·show ((S.cs++ [_]).length:Int)≤S.x.bB
  rw [List.length_append]
  simp
  omega
 ·rcases List.mem_append.1 hd with hd|hd
  ·obtain ⟨p1,p2,p3⟩:=h.base.part d hd
   exact ⟨hac _ p1,fun hk=>hac _ (p2 hk),fun y hy=>hac _ (p3 y hy)⟩
  ·rw [List.mem_singleton.1 hd]
   refine ⟨hac _ hp.1,fun hk=>hac _ (hp.2.resolve_left fun hh=>hh hk),fun y hy=>hac _ ?_⟩
   rw [hby y hy];exact hp.1
 ·rcases List.mem_append.1 hd with hd|hd
  ·obtain ⟨p1,p2⟩:=h.hold d hd
   have hn:=hne d hd
   exact ⟨(hSt.bX d.num hn).trans p1,by rw [show Gd.dZ E'.ae d.num=_ from hSt.dZ d.num hn];exact p2⟩
  ·rw [List.mem_singleton.1 hd];exact hH
 ·have hkn:k≠S.last+1:=fun hh=>hk _ (List.mem_append.2 (.inr (List.mem_singleton.2 rfl))) hh.symm
  obtain ⟨p1,p2⟩:=h.free k fun d hd=>hk d (List.mem_append.2 (.inl hd))
  exact ⟨(hSt.bX k hkn).trans p1,(hSt.dZ k hkn).trans p2⟩
theorem IY {S:ST} {c:PC} (h:SI S) (hc:c.ok):SI (cu S c).2.2∧((cu S c).2.1≠0→(cu S c).2.2=S):=by
 unfold cu
 split
 ·exact ⟨h,fun _=>rfl⟩
 rename_i hp
 have hp:qW S c:=Classical.byContradiction fun hh=>hp hh
 split
 ·exact ⟨h,fun _=>rfl⟩
 split
 ·exact ⟨h,fun _=>rfl⟩
 rename_i ht
 have ht:lQ c=0:=by omega
 split
 ·exact ⟨h,fun _=>rfl⟩
 split
 ·exact ⟨h,fun _=>rfl⟩
 rename_i hfew
 obtain ⟨hK,hby,hone⟩:=K5 ht hc
 have hl:=h.base.last
 have hn:1≤S.last+1∧S.last+1<9223372036854775808:=by omega
 obtain ⟨f1,f2⟩:=h.free (S.last+1) fun d hd=>by have:=(h.base.num d hd).2;omega
 have hcs:c.es= []∨∃e,c.es= [e]:=by
  rcases he:c.es with _|⟨e,_|⟨e2,t⟩⟩
  ·exact .inl rfl
  ·exact .inr ⟨e,rfl⟩
  ·rw [he] at hone
   simp at hone
 rcases hcs with he|⟨e,he⟩
 ·have e1:aZ (S.last+1) c.es S.E=(0,S.E):=by rw [he];rfl
  rw [e1]
  simp only
  rw [if_neg (by simp)]
  refine ⟨FZ h hK hp hby (by omega) (by omega) h.base.E (Still.refl _ _) ⟨?_,?_⟩,fun hh=>absurd rfl hh⟩
  ·show bX S.E.l (S.last+1)=re c.es
   rw [he,f1];rfl
  ·show (qk c.es).Perm (Gd.dZ S.E.ae (S.last+1))
   rw [he,f2];exact .refl _
 ·have heo:=hc.each e (by rw [he];exact .head _)
  by_cases h1:(aK (S.last+1) (fI e) S.E).1=0
  ·have e1:aZ (S.last+1) c.es S.E=(0,(aK (S.last+1) (fI e) S.E).2):=by
    rw [he]
    unfold aZ
    rw [if_neg (by omega)]
    rfl
   rw [e1]
   simp only
   rw [if_neg (by simp)]
   obtain ⟨hS2,hc2,hi2,_⟩:=qA hn (x:=fI e) h.base.E heo.coins h1
   refine ⟨FZ h hK hp hby (by omega) (by omega) (qz (x:=fI e) h.base.E hn heo.coins) hS2 ⟨?_,?_⟩,fun hh=>absurd rfl hh⟩
   ·show bX _ (S.last+1)=re c.es
    rw [he,hc2,f1]
    simp [re,fI]
   ·show (qk c.es).Perm (Gd.dZ _ (S.last+1))
    refine .trans ?_ hi2.symm
    rw [he,f2,my]
    by_cases hi:e.item=0<;>simp [qk,fI,hi]
  ·have e1:aZ (S.last+1) c.es S.E=((aK (S.last+1) (fI e) S.E).1,(aK (S.last+1) (fI e) S.E).2):=by
    rw [he]
    unfold aZ
    rw [if_pos h1]
   rw [e1]
   simp only
   rw [if_pos h1]
   have:=zR h1
   simp only [this]
   exact ⟨h,fun _=>trivial⟩
theorem SI.eco {S:ST} (h:SI S) {E':ck} (hE:EI S.x.acc S.x.ae E') (hl:S.E.P.rows.length≤E'.P.rows.length) (hc:E'.l=S.E.l) (hi:∀k,Gd.dZ E'.ae k=Gd.dZ S.E.ae k):SI {S with E:=E'}:=by
 have hac:∀k,dU S k→dU {S with E:=E'} k:=fun k hk=>by
  simp only [dU] at hk⊢
  omega
 refine ⟨⟨hE,h.base.bB,h.base.clock,h.base.last,h.base.each,h.base.num,h.base.sort,h.base.few,fun d hd=> ?_⟩,fun d hd=> ?_,fun k hk=> ?_⟩
 ·obtain ⟨p1,p2,p3⟩:=h.base.part d hd
  exact ⟨hac _ p1,fun hk=>hac _ (p2 hk),fun y hy=>hac _ (p3 y hy)⟩
 ·obtain ⟨p1,p2⟩:=h.hold d hd
  unfold Holds
  show bX E'.l _=_∧(qk d.es).Perm (Gd.dZ E'.ae _)
  rw [hc,hi]
  exact ⟨p1,p2⟩
 ·show bX E'.l k=0∧Gd.dZ E'.ae k= []
  rw [hc,hi]
  exact h.free k hk
theorem Pp {S:ST} {n:Int} (h:SI S):SI (iv S n).2∧((iv S n).1≠0→(iv S n).2=S):=by
 unfold iv
 split
 ·exact ⟨h,fun _=>rfl⟩
 split
 ·exact ⟨h,fun _=>rfl⟩
 ·have hc:=h.base.clock
  refine ⟨⟨⟨h.base.E,h.base.bB,?_,h.base.last,h.base.each,h.base.num,h.base.sort,h.base.few,h.base.part⟩,h.hold,h.free⟩,fun hh=>absurd rfl hh⟩
  show 0≤S.clock+n∧S.clock+n≤_
  omega
end Go.HL.St1
namespace Go.HL.St1
open Go.HL Go.HL.Tl Go.HL.Sr Go.HL.Es Go.Proofs
theorem FK {k:Int} {y:Gd.It}:∀{ae:List Gd.It} {i:Nat} (h:i<ae.length),ae[i].bB=0→y.bB=0→Gd.dZ (ae.set i y) k=Gd.dZ ae k
 |x::t,0,h,h1,h2=>by
  simp only [List.getElem_cons_zero] at h1
  simp [Gd.dZ,List.filter_cons,h1,h2]
 |x::t,i+1,h,h1,h2=>by
  have ih:=FK (k:=k) (y:=y) (ae:=t) (i:=i) (by simpa using h) (by simpa using h1) h2
  unfold Gd.dZ at ih⊢
  rw [List.set_cons_succ,List.filter_cons,List.filter_cons]
  split
  ·rw [List.map_cons,List.map_cons,ih]
  ·exact ih
theorem J5 {ae:List Gd.It} {n a k:Int} (h:(Gd.aH ae n).1.bB=0∧(Gd.aH ae n).2=0):Gd.dZ (Gd.ij ae n a).2 k=Gd.dZ ae k:=by
 unfold Gd.ij
 split
 ·unfold Gd.bq
  unfold Gd.aH at h
  split at h
  ·rename_i h1
   have hl:n.toNat -1<ae.length:=by omega
   have h2:ae[n.toNat -1].bB=0:=by simpa [List.getD,hl] using h.1
   rw [if_pos h1]
   split
   ·exact FK hl h2 rfl
   ·rfl
  ·simp at h
 ·rfl
theorem uw {S:ST} (h:SI S) (o:Pu.Sp) (ho:o.ok) (hl:(Pu.cm S.E.P o).2.held=S.E.P.held):SI {S with E:={S.E with P:=(Pu.cm S.E.P o).2}}:=by
 have hs:=Pu.pY h.base.E.P ho
 exact h.eco ⟨hs.pi,h.base.E.G,h.base.E.R,h.base.E.sum.trans hl.symm⟩ (by rw [hs.len];omega) rfl fun _=>rfl
theorem Kh {S:ST} (h:SI S) (nm:List UInt8) (hn:nm.length≤1048576):SI {S with E:={S.E with P:=(Pu.ch S.E.P nm).2.2}}∧((Pu.ch S.E.P nm).2.1≠0→(Pu.ch S.E.P nm).2.2=S.E.P):=by
 have e:(Pu.cm S.E.P ⟨0,1,0,0,0,nm⟩).2=(Pu.ch S.E.P nm).2.2:=by simp [Pu.cm]
 have hh:(Pu.ch S.E.P nm).2.2.held=S.E.P.held:=by
  unfold Pu.ch
  split
  ·split
   ·rfl
   ·split<;>rfl
  ·rfl
 refine ⟨?_,?_⟩
 ·have:=uw h ⟨0,1,0,0,0,nm⟩ ⟨⟨Int.le_refl 0,by simp⟩,hn⟩ (by rw [e];exact hh)
  rw [e] at this
  exact this
 ·unfold Pu.ch
  split
  ·split
   ·intro _;rfl
   ·split
    ·intro _;rfl
    ·intro hh;exact absurd rfl hh
  ·intro _;rfl
theorem OX {S:ST} (h:SI S) (n c:Int) (hc:0≤c∧c<18446744073709551616):SI {S with E:={S.E with P:=(Pu.ed S.E.P n c).2}}∧((Pu.ed S.E.P n c).1≠0→(Pu.ed S.E.P n c).2=S.E.P):=by
 have e:(Pu.cm S.E.P ⟨0,2,n,0,c,[]⟩).2=(Pu.ed S.E.P n c).2:=by simp [Pu.cm]
 have hh:(Pu.ed S.E.P n c).2.held=S.E.P.held:=by
  unfold Pu.ed
  split
  ·split
   ·rfl
   ·split<;>rfl
  ·rfl
 refine ⟨?_,?_⟩
 ·have:=uw h ⟨0,2,n,0,c,[]⟩ ⟨hc,by simp⟩ (by rw [e];exact hh)
  rw [e] at this
  exact this
 ·unfold Pu.ed
  split
  ·split
   ·intro _;rfl
   ·split
    ·intro _;rfl
    ·intro hh;exact absurd rfl hh
  ·intro _;rfl
theorem Un {S:ST} (h:SI S) (a b c:Int) (hc:0≤c∧c<18446744073709551616):SI {S with E:={S.E with P:=(Pu.gD S.E.P a b c).2}}∧((Pu.gD S.E.P a b c).1≠0→(Pu.gD S.E.P a b c).2=S.E.P):=by
 have e:(Pu.cm S.E.P ⟨0,3,a,b,c,[]⟩).2=(Pu.gD S.E.P a b c).2:=by simp [Pu.cm]
 have hh:(Pu.gD S.E.P a b c).2.held=S.E.P.held:=by
  unfold Pu.gD
  split
  ·split
   ·rfl
   ·split
    ·rfl
    ·split<;>rfl
  ·rfl
 refine ⟨?_,?_⟩
 ·have:=uw h ⟨0,3,a,b,c,[]⟩ ⟨hc,by simp⟩ (by rw [e];exact hh)
  rw [e] at this
  exact this
 ·unfold Pu.gD
  split
  ·split
   ·intro _;rfl
   ·split
    ·intro _;rfl
    ·split
     ·intro _;rfl
     ·intro hh;exact absurd rfl hh
  ·intro _;rfl
theorem OV {S:ST} (h:SI S) (k a:Int):SI {S with E:={S.E with ae:=(Gd.gp S.x.ae S.E.ae k a).2.2}}∧((Gd.gp S.x.ae S.E.ae k a).2.1≠0→(Gd.gp S.x.ae S.E.ae k a).2.2=S.E.ae):=by
 have hs:=Gd.JD h.base.E.G ⟨1,k,a⟩
 have e:(Gd.GP S.x.ae S.E.ae ⟨1,k,a⟩).2=(Gd.gp S.x.ae S.E.ae k a).2.2:=by simp [Gd.GP]
 rw [e] at hs
 refine ⟨h.eco ⟨h.base.E.P,hs,h.base.E.R,h.base.E.sum⟩ (Nat.le_refl _) rfl fun j=> ?_,?_⟩
 ·show Gd.dZ (Gd.gp S.x.ae S.E.ae k a).2.2 j=_
  unfold Gd.gp
  split
  ·rfl
  split
  ·rfl
  split
  ·rfl
  ·simp [Gd.dZ]
 ·unfold Gd.gp
  split
  ·intro _;rfl
  split
  ·intro _;rfl
  split
  ·intro _;rfl
  ·intro hh;exact absurd rfl hh
theorem OY {ae:List Gd.It} {n a:Int} (h:(Gd.ij ae n a).1≠0):(Gd.ij ae n a).2=ae:=by
 unfold Gd.ij Gd.bq at h⊢
 split
 ·rename_i h1
  rw [if_pos h1] at h
  split
  ·rename_i h2
   rw [if_pos h2] at h
   split
   ·rename_i h3
    rw [if_pos h3] at h
    exact absurd rfl h
   ·rfl
  ·rfl
 ·rfl
theorem JF {S:ST} {n a b:Int} (h:SI S):SI (fM S n a b).2∧((fM S n a b).1≠0→(fM S n a b).2=S):=by
 unfold fM
 split
 ·exact ⟨h,fun _=>rfl⟩
 split
 ·exact ⟨h,fun _=>rfl⟩
 split
 ·exact ⟨h,fun _=>rfl⟩
 rename_i hg
 have hs:=Gd.JD h.base.E.G ⟨2,n,b⟩
 have e:(Gd.GP S.x.ae S.E.ae ⟨2,n,b⟩).2=(Gd.ij S.E.ae n b).2:=by simp [Gd.GP]
 rw [e] at hs
 refine ⟨h.eco ⟨h.base.E.P,hs,h.base.E.R,h.base.E.sum⟩ (Nat.le_refl _) rfl fun j=>J5 ⟨by omega,by omega⟩,fun hh=> ?_⟩
 show {S with E:={S.E with ae:=(Gd.ij S.E.ae n b).2}}=S
 rw [OY hh]
theorem Ax {S:ST} {r:PR} (h:SI S) (hr:r.ok):SI (cF S r).2.2∧((cF S r).2.1≠0→(cF S r).2.2=S∧(cF S r).1= .zero):=by
 unfold cF
 split
 ·exact ⟨h,fun _=>⟨rfl,rfl⟩⟩
 split
 ·obtain ⟨h1,h2⟩:=Kh h r.nm hr.nm
  simp only
  split
  ·rename_i h3
   exact ⟨h1,fun _=>⟨by rw [h2 h3],rfl⟩⟩
  ·exact ⟨h1,fun hh=>absurd rfl hh⟩
 split
 ·obtain ⟨h1,h2⟩:=OX h r.to' r.coins hr.coins
  exact ⟨h1,fun h3=>⟨by simp only;rw [h2 h3],rfl⟩⟩
 split
 ·split
  ·exact ⟨h,fun _=>⟨rfl,rfl⟩⟩
  obtain ⟨h1,h2⟩:=OV h r.num r.to'
  simp only
  split
  ·rename_i h3
   exact ⟨h1,fun _=>⟨by rw [h2 h3],rfl⟩⟩
  ·exact ⟨h1,fun hh=>absurd rfl hh⟩
 split
 ·obtain ⟨h1,h2⟩:=Un h r.fr r.to' r.coins hr.coins
  exact ⟨h1,fun h3=>⟨by simp only;rw [h2 h3],rfl⟩⟩
 split
 ·obtain ⟨h1,h2⟩:=JF (n:=r.item) (a:=r.fr) (b:=r.to') h
  exact ⟨h1,fun h3=>⟨h2 h3,rfl⟩⟩
 split
 ·obtain ⟨h1,h2⟩:=IY h hr.co
  exact ⟨h1,fun h3=>⟨h2 h3,if_pos h3⟩⟩
 split
 ·exact Mr h hr.en
 split
 ·exact GW h
 split
 ·exact EF h
 ·obtain ⟨h1,h2⟩:=Pp (n:=r.ticks) h
  exact ⟨h1,fun h3=>⟨h2 h3,rfl⟩⟩
end Go.HL.St1
namespace Go.HL.St1
open Go.HL Go.HL.Tl Go.HL.Sr Go.HL.Es Go.Proofs
structure ve (W:Wr) (t:Int) (l:Nat):Prop where
 e:W.e=0
 last:W.last≤t
 len:W.b.length≤l
theorem ve.put {W:Wr} {t:Int} {l:Nat} (h:ve W t l) {tag:Int} {v:List UInt8} (h1:t<tag) (h2:tag≤255) (h3:l+11+v.length≤1048576):ve (bq W tag v) tag (l+11+v.length):=by
 have he:=h.e
 have hl:=h.last
 have hn:=h.len
 have hf:=tG tag.toNat v
 have hs:=(dN v.length).2
 unfold bq
 split
 ·exact ⟨he,by omega,by omega⟩
 split
 ·omega
 split
 ·omega
 ·exact ⟨rfl,Int.le_refl _,by simp only [List.length_append];omega⟩
theorem ve.num {W:Wr} {t:Int} {l:Nat} (h:ve W t l) {tag n:Int} (h1:t<tag) (h2:tag≤255) (h3:l+21≤1048576):ve (mF W tag n) tag (l+21):=by
 have hs:=(dN n.toNat).2
 unfold mF
 split
 ·exact ⟨h.e,by have:=h.last;omega,by have:=h.len;omega⟩
 ·have:=h.put (v:=bI n.toNat) h1 h2 (by omega)
  exact ⟨this.e,this.last,by have:=this.len;omega⟩
theorem ve.new:ve Wr.new 0 0:=⟨rfl,Int.le_refl _,Nat.le_refl _⟩
theorem Hc {e:PE} (h:e.ws.length≤16):ve (dq e) 5 500:=by
 have h1:=(ve.new.num (tag:=1) (n:=Ic e.acc) (by decide) (by decide) (by decide)).num (tag:=2) (n:=Ic e.item) (by decide) (by decide) (by decide)
 have h2:=(h1.num (tag:=3) (n:=e.coins) (by decide) (by decide) (by decide)).num (tag:=4) (n:=e.price) (by decide) (by decide) (by decide)
 have hb:=mB (m:=10) (L:=e.ws.map wF) fun x hx=>by
  obtain ⟨y,_,rfl⟩:=List.mem_map.1 hx
  exact (dN _).2
 rw [List.length_map] at hb
 have h3:=h2.put (tag:=5) (v:=bS (e.ws.map wF)) (by decide) (by decide) (by omega)
 exact ⟨h3.e,h3.last,by have h4:(dq e).b.length≤_:=h3.len;omega⟩
theorem KL.bB {c:PC} (h:KL c):tj c:=fun e he=>(Hc (h.ws e he)).e
theorem SI.Fx {S:ST} (h:SI S):∀c∈S.cs,c.ok∧tj c:=fun c hc=>⟨(h.base.each c hc).ok,(h.base.each c hc).bB⟩
def zE (x:St0.SU):ST:=⟨x,0,⟨⟨x.acc,[⟨Pu.cr,0⟩],0,0⟩,[],[]⟩,0,[]⟩
theorem J8 {x:St0.SU} (h:St0.jJ x):SI (zE x):=by
 obtain ⟨h1,h2,h3,h4,h5,h6⟩:=h
 refine ⟨⟨⟨Pu.J7 ⟨h1,h2⟩,Gd.Q6 h3 h4,⟨List.Pairwise.nil,nofun⟩,rfl⟩,⟨h5,h6⟩,⟨Int.le_refl _,by show (0:Int)≤_;decide⟩,⟨Int.le_refl _,by show (0:Int)<_;decide⟩,nofun,nofun,List.Pairwise.nil,?_,nofun⟩,nofun,fun n _=>⟨rfl,rfl⟩⟩
 show (0:Int)≤x.bB
 omega
theorem BT {w0 w:World} {A:aj} {q p g e m:Nat} {x:St0.SU} (s:St w0 (A*St0.Ug q x p g e m) w):St w0 (A*bL q (zE x) p g e m) w:=by
 have s:St w0 (A*bT q (zE x) p g e m*aw m [] 0*bu fo []) w:=by
  have e0:bu fo []=emp:=rfl
  rw [e0,al]
  exact s.to (by simp only [St0.Ug,bT,aG,zE];ac_rfl)
 exact (bQ OM.nil s).to (by simp only [bL];ac_rfl)
end Go.HL.St1
namespace Go.HL.Sr
open Go.HL Go.HL.Tl Go.Proofs
set_option maxRecDepth 100000
def aZa:Nat→PO
 |0=>(.fld 0)
 |1=>(.bin .lss)
 |2=>(.bin .gtr)
 |3=>(.fld 12)
 |4=>(.bin .neq)
 |5=>(.bin .eql)
 |6=>(.un .not)
 |7=>(.fld 1)
 |8=>(.fld 2)
 |9=>(.fld 3)
 |10=>(.fld 4)
 |11=>(.fld 5)
 |12=>(.fld 6)
 |13=>(.fld 7)
 |14=>(.fld 23)
 |_=> .same
def YW:Nat→EO
 |0=>(.box 39)
 |1=>(.ld false 1)
 |2=>(.ld true 5)
 |3=>(.call 248)
 |4=>(.ld true 11)
 |5=>(.call 249)
 |_=> .ak
def c9a:Nat→Value
 |0=>(.bool false)
 |1=>(.int .i64 1)
 |2=>(.tuple #[])
 |3=>(.int .i64 10)
 |4=>(.int .i64 0)
 |5=>(.bool true)
 |6=>(.int .i64 4)
 |7=>(.int .i64 5)
 |8=>(.int .i64 8)
 |9=>(.int .i64 2)
 |10=>(.int .i64 3)
 |11=>(.int .i64 7)
 |12=>(.int .i64 9)
 |13=>(.string ⟨#[]⟩)
 |14=>(.int .u64 0)
 |15=>(.int .i64 6)
 |_=>undef
def hCa:cE:=⟨aZa,YW,c9a⟩
@[simp] theorem JM {P:Program} {F:PF P} {env:List Value} {w:World} {Kr} (x:Array Value) (v:Bool) (a b:RT) (bvs:List Value):pQ F (.tuple x) v a b env Kr bvs w=b.wp F env Kr bvs w:=by cases v<;>rfl
end Go.HL.Sr
namespace Go.HL.Sr
open Go.HL Go.HL.Tl Go.Proofs
def ZF (r:PR):Wr:=lN (mF (lN (bq (lN Wr.new 1 [r.kind]) 2 r.nm) 3 [r.fr,r.to']) 5 r.coins) 6 [r.item,r.num]
def QW (r:PR):Wr:=lN (bTa (bTa (ZF r) 8 (dq r.en)) 9 (AV r.co)) 10 [r.ticks]
def ZE (r:PR):Int:=if¬eV r then 238 else if¬tj r.co∨(QW r).e≠0∨4096<(QW r).b.length then 3 else 0
def ePa (r:PR):List UInt8:=if ZE r=0 then (QW r).b else []
def a0a:Nat→PO
 |0=>(.un .not)
 |1=>(.fld 12)
 |2=>(.ext 0)
 |3=>(.ext 1)
 |4=>(.build #[(.slice none 0 0),(.int .i64 0),(.int .i64 0)] [(0,1),(1,1),(2,1)] [])
 |5=>(.fld 0)
 |6=>(.fld 1)
 |7=>(.fld 2)
 |8=>(.fld 3)
 |9=>(.fld 4)
 |10=>(.fld 5)
 |11=>(.fld 6)
 |12=>(.fld 7)
 |13=>(.fld 23)
 |14=>(.bin .neq)
 |15=> .lenL
 |16=>(.bin .gtr)
 |_=> .same
def YX:Nat→EO
 |0=>(.box 39)
 |1=>(.ld true 24)
 |2=>(.call 59)
 |3=>(.ld true 11)
 |4=>(.call 83)
 |5=>(.box 133)
 |6=>(.ld false 1)
 |7=>(.bsl 3 1 1 #[(.int .i64 0)] [0])
 |8=>(.call 77)
 |9=>(.call 80)
 |10=>(.bsl 3 2 1 #[(.int .i64 0)] [0,1])
 |11=>(.call 78)
 |12=>(.ld true 5)
 |13=>(.call 151)
 |14=>(.call 161)
 |15=>(.call 81)
 |_=> .ak
def daa:Nat→Value
 |0=>(.slice none 0 0)
 |1=>(.int .i64 0)
 |2=>(.int .i64 238)
 |3=>(.int .i64 3)
 |4=>(.int .i64 1)
 |5=>(.int .i64 2)
 |6=>(.int .i64 5)
 |7=>(.int .i64 6)
 |8=>(.int .i64 8)
 |9=>(.int .i64 9)
 |10=>(.int .i64 10)
 |11=>(.int .i64 4096)
 |12=>(.bool true)
 |_=>undef
def hDa:cE:=⟨a0a,YX,daa⟩
end Go.HL.Sr
namespace Go.HL.Sr
open Go.HL Go.HL.Tl Go.Proofs
attribute [local irreducible] aE
def whole:Int:=18446744073709551615
def eu (bad:Bool) (F:vd) (tag:Int):Int×Bool:=(IntKind.i64.wrap (qt bad F tag whole).1,(qt bad F tag whole).2)
def dQa (x:List UInt8):Int:=IntKind.i64.wrap (rs x 0).1
def UT (bad:Bool) (F:vd):PE×Bool:=
 (⟨(eu bad F 1).1,(eu (eu bad F 1).2 F 2).1,(qt (eu (eu bad F 1).2 F 2).2 F 3 whole).1,(qt (qt (eu (eu bad F 1).2 F 2).2 F 3 whole).2 F 4 whole).1,
  (BL (qt (qt (eu (eu bad F 1).2 F 2).2 F 3 whole).2 F 4 whole).2 F 5 1048576).1.map dQa⟩,(BL (qt (qt (eu (eu bad F 1).2 F 2).2 F 3 whole).2 F 4 whole).2 F 5 1048576).2)
def a1a:Nat→PO
 |0=>(.convI .i64)
 |1=>(.build #[(.int .i64 0),(.int .i64 0),(.int .u64 0),(.int .u64 0),(.slice none 0 0)] [(0,1),(1,1),(2,1),(3,1),(4,1)] [0,1,2,3])
 |2=> .lenL
 |3=>(.bin .lss)
 |4=>(.idxL 1)
 |5=>(.ext 0)
 |6=>(.ext 1)
 |7=>(.ext 2)
 |8=>(.fld 4)
 |9=>(.bin .add)
 |_=> .same
def YY:Nat→EO
 |0=>(.call 164)
 |1=>(.new 34 (.agg #[(.int .i64 0),(.int .i64 0),(.int .u64 0),(.int .u64 0),(.slice none 0 0)]))
 |2=>(.call 162)
 |3=>(.st 5)
 |4=>(.call 239)
 |5=>(.ld false 1)
 |6=>(.call 237)
 |7=>(.bsl 3 1 1 #[(.int .i64 0)] [0])
 |8=>(.app 32 32 3 1 8 (.int .i64 0))
 |9=>(.st 1)
 |10=>(.ld true 5)
 |_=> .ak
def dba:Nat→Value
 |0=>(.int .i64 0)
 |1=>(.int .u64 18446744073709551615)
 |2=>(.int .i64 1)
 |3=>(.int .i64 2)
 |4=>(.int .i64 3)
 |5=>(.int .i64 4)
 |6=>(.int .i64 5)
 |7=>(.int .i64 1048576)
 |_=>undef
def hEa:cE:=⟨a1a,YY,dba⟩
end Go.HL.Sr
namespace Go.HL.Sr
open Go.HL Go.HL.Tl Go.Proofs
attribute [local irreducible] aE
def gOa (bad:Bool) (L:List vd):List PE×Bool:=L.foldl (fun s G=>(s.1++ [(UT s.2 G).1],(UT s.2 G).2)) ([],bad)
def recC (bad:Bool) (F:vd):PC×Bool:=
 let x1:=eu bad F 1
 let x2:=eu x1.2 F 2
 let x3:=eu x2.2 F 3
 let x4:=eu x3.2 F 4
 let x5:=eu x4.2 F 5
 let x6:=eu x5.2 F 6
 let x7:=qt x6.2 F 7 whole
 let x8:=qt x7.2 F 8 whole
 let x9:=qt x8.2 F 9 whole
 let y:=eu x9.2 F 10
 let z:=gMa y.2 F 11 1048576
 let u:=gOa z.1 z.2
 (⟨x1.1,x2.1,x3.1,x4.1,x5.1,x6.1,x7.1,x8.1,x9.1,y.1,u.1⟩,u.2)
def c4C (X:World→Prop) (Y:Value→World→Prop) (Z:Value→Value→World→Prop) (U:Value→Value→Value→World→Prop) (V:Value→Value→Value→World→Prop):List Value→World→Prop
 | [],w=>X w
 | [a],w=>Y a w
 | [a,b],w=>Z a b w
 | [a,b,c],w=>U a b c w
 |a::b::c::_::_,w=>V a b c w
def a2a:Nat→PO
 |0=>(.build #[(.int .i64 0),(.int .i64 0),(.int .i64 0),(.int .i64 0),(.int .i64 0),(.int .i64 0),(.int .u64 0),(.int .u64 0),(.int .u64 0),(.int .i64 0),(.slice none 0 0)] [(0,1),(1,1),(2,1),(3,1),(4,1),(5,1),(6,1),(7,1),(8,1),(9,1),(10,1)] [0,1,2,3,4,5,6,7,8,9])
 |1=> .lenL
 |2=>(.bin .lss)
 |3=>(.idxL 1)
 |4=>(.fld 10)
 |5=>(.bin .add)
 |_=> .same
def YZ:Nat→EO
 |0=>(.new 37 (.agg #[(.int .i64 0),(.int .i64 0),(.int .i64 0),(.int .i64 0),(.int .i64 0),(.int .i64 0),(.int .u64 0),(.int .u64 0),(.int .u64 0),(.int .i64 0),(.slice none 0 0)]))
 |1=>(.call 162)
 |2=>(.call 164)
 |3=>(.st 11)
 |4=>(.call 171)
 |5=>(.ld false 1)
 |6=>(.call 165)
 |7=>(.bsl 34 1 5 #[(.int .i64 0),(.int .i64 0),(.int .u64 0),(.int .u64 0),(.slice none 0 0)] [0])
 |8=>(.app 35 35 34 5 56 (.agg #[(.int .i64 0),(.int .i64 0),(.int .u64 0),(.int .u64 0),(.slice none 0 0)]))
 |9=>(.st 1)
 |10=>(.ld true 11)
 |_=> .ak
def dca:Nat→Value
 |0=>(.int .i64 1)
 |1=>(.int .i64 2)
 |2=>(.int .i64 3)
 |3=>(.int .i64 4)
 |4=>(.int .i64 5)
 |5=>(.int .i64 6)
 |6=>(.int .i64 7)
 |7=>(.int .u64 18446744073709551615)
 |8=>(.int .i64 8)
 |9=>(.int .i64 9)
 |10=>(.int .i64 10)
 |11=>(.int .i64 11)
 |12=>(.int .i64 1048576)
 |13=>(.int .i64 0)
 |_=>undef
def hFa:cE:=⟨a2a,YZ,dca⟩
end Go.HL.Sr
namespace Go.HL.Sr
open Go.HL Go.HL.Tl Go.Proofs
attribute [local irreducible] aE
theorem ints_at {l:List Int} {i:Nat} (h:i<l.length):(ints l)[i]?=some (.int .i64 l[i]):=by simp [ints,h]
theorem vP {l:List UInt8} {i:Nat} (h:i<l.length):(aD l)[i]?=some (.int .u8 l[i].toNat):=by simp [aD,h]
def a3a:Nat→PO
 |0=>(.bin .eql)
 |1=> .lenL
 |2=>(.bin .neq)
 |3=>(.bin .lss)
 |4=>(.idxL 1)
 |5=>(.bin .add)
 |_=> .same
def Y0:Nat→EO
 |0=>(.b2s 52 9)
 |1=>(.ld false 1)
 |_=> .ak
def dda:Nat→Value
 |0=>(.bool false)
 |1=>(.int .i64 0)
 |2=>(.int .i64 1)
 |3=>(.bool true)
 |_=>undef
def Ql:cE:=⟨a3a,Y0,dda⟩
def l26:ag:=⟨[0,1,4,5],26,[.slot 2],aM Ql [] 0xb2cb2cb2f0676996120c2b6eb2c9dc6996155144d20900c50d451348240316daaf02cbc19da65848009c89c89c6d55144d10510026145134414400944d55144d00d00440545134034011144d55144d00d0004054513403400101068bc2bc071c6d55144d55134000500c36145135544d00014030d44d0001027699612043a2f02cbc19da65848009c71c6d55144d55134010555134000426145135544d00415544d00010944d0041513400067699612002⟩
theorem S4:ah T0 26 400=some l26:=by kernel_rfl
def l31:ag:=⟨[0,1,4,5],26,[.slot 2],aM Ql [] 0xb2cb2cb2f0676996120c2b6eb2c9dc6996155144d20900c50d451348240316daaf02cbc19da65848009c89c89c6d55144d10510026145134414400944d55144d00d00440545134034011144d55144d00d0004054513403400101068bc2bc071c6d55144d55134000500c36145135544d00014030d44d0001027699612043a2f02cbc19da65848009c71c6d55144d55134010555134000426145135544d00415544d00010944d0041513400067699612002⟩
theorem Tk:ah T0 31 400=some l31:=by kernel_rfl
theorem sV (x y:List UInt8) (v1 v2:Value) (w0 w:World) (A:aj) (hx:x.length≤35184372088832) (h1:Row w0 A v1 x.length 1 (aD x)) (h2:Row w0 A v2 y.length 1 (aD y)) (s:St w0 A w):
  ai Tryz.prog 26 [v1,v2] (fun r w'=>r= .bool (x==y)∧St w0 A w') w:=by
 obtain ⟨a1,c1,rfl⟩:=h1.val
 obtain ⟨a2,c2,rfl⟩:=h2.val
 refine az S4 (by simp [l26]) ?_
 simp -implicitDefEqProofs [l26]
 refine aJ (fun h=> ?_) (fun h=> ?_)
 ·simp at h
  have:(x==y)=false:=by
   simp only [beq_eq_false_iff_ne]
   rintro rfl
   exact h rfl
  simp -implicitDefEqProofs [this]
  exact s
 simp at h
 simp -implicitDefEqProofs
 refine dR (fun env w'=>∃(i:Nat),env= [.slice a1 x.length c1,.slice a2 y.length c2,.bool false,.int .i64 i]∧i≤x.length∧x.take i=y.take i∧St w0 A w')
  (fun env _=>x.length -au env 3) ⟨0,rfl,by omega,rfl,s⟩ ?_
 rintro LQ env w' ⟨i,rfl,hi,ht,s'⟩ hN hE hR
 simp -implicitDefEqProofs
 refine aJ (fun h3=> ?_) (fun h3=> ?_)
 ·simp at h3
  obtain ⟨g1,o1,c1',e1,k1⟩:=h1.at (by omega)
  cases e1
  obtain ⟨g2,o2,c2',e2,k2⟩:=h2.at (by omega)
  cases e2
  have hy:i<y.length:=by omega
  refine LK s' ?_
  simp -implicitDefEqProofs [h3]
  refine aU (fun w s=>k1 w s i _ (vP h3)) ?_
  simp -implicitDefEqProofs [hy]
  refine aU (fun w s=>k2 w s i _ (vP hy)) ?_
  simp -implicitDefEqProofs
  intro w2 s2
  refine aJ (fun h4=> ?_) (fun h4=> ?_)
  ·simp at h4
   have:(x==y)=false:=by
    simp only [beq_eq_false_iff_ne]
    rintro rfl
    exact h4 rfl
   simp -implicitDefEqProofs
   refine hR _ _ ?_
   simp -implicitDefEqProofs [this]
   exact s2
  ·simp at h4
   have h4:x[i]=y[i]:=UInt8.toNat_inj.1 (by omega)
   simp -implicitDefEqProofs [q6]
   try simp (disch:=omega) only [wrap64]
   refine hN _ _ ⟨i+1,by simp,by omega,?_,s2⟩ (by simp [au];omega)
   rw [List.take_succ_eq_append_getElem h3,List.take_succ_eq_append_getElem hy,ht,h4]
 ·simp at h3
  simp -implicitDefEqProofs
  refine hE _ _ _ ?_
  simp -implicitDefEqProofs
  have e:i=x.length:=by omega
  have e2:i=y.length:=by omega
  rw [e,List.take_length,←e,e2,List.take_length] at ht
  subst ht
  simp -implicitDefEqProofs
  exact s'
theorem D8 (x y:List Int) (v1 v2:Value) (w0 w:World) (A:aj) (hx:x.length≤35184372088832) (h1:Row w0 A v1 x.length 1 (ints x)) (h2:Row w0 A v2 y.length 1 (ints y)) (s:St w0 A w):
  ai Tryz.prog 31 [v1,v2] (fun r w'=>r= .bool (x==y)∧St w0 A w') w:=by
 obtain ⟨a1,c1,rfl⟩:=h1.val
 obtain ⟨a2,c2,rfl⟩:=h2.val
 refine az Tk (by simp [l31]) ?_
 simp -implicitDefEqProofs [l31]
 refine aJ (fun h=> ?_) (fun h=> ?_)
 ·simp at h
  have:(x==y)=false:=by
   simp only [beq_eq_false_iff_ne]
   rintro rfl
   exact h rfl
  simp -implicitDefEqProofs [this]
  exact s
 simp at h
 simp -implicitDefEqProofs
 refine dR (fun env w'=>∃(i:Nat),env= [.slice a1 x.length c1,.slice a2 y.length c2,.bool false,.int .i64 i]∧i≤x.length∧x.take i=y.take i∧St w0 A w')
  (fun env _=>x.length -au env 3) ⟨0,rfl,by omega,rfl,s⟩ ?_
 rintro LQ env w' ⟨i,rfl,hi,ht,s'⟩ hN hE hR
 simp -implicitDefEqProofs
 refine aJ (fun h3=> ?_) (fun h3=> ?_)
 ·simp at h3
  obtain ⟨g1,o1,c1',e1,k1⟩:=h1.at (by omega)
  cases e1
  obtain ⟨g2,o2,c2',e2,k2⟩:=h2.at (by omega)
  cases e2
  have hy:i<y.length:=by omega
  refine LK s' ?_
  simp -implicitDefEqProofs [h3]
  refine aU (fun w s=>k1 w s i _ (ints_at h3)) ?_
  simp -implicitDefEqProofs [hy]
  refine aU (fun w s=>k2 w s i _ (ints_at hy)) ?_
  simp -implicitDefEqProofs
  intro w2 s2
  refine aJ (fun h4=> ?_) (fun h4=> ?_)
  ·simp at h4
   have:(x==y)=false:=by
    simp only [beq_eq_false_iff_ne]
    rintro rfl
    exact h4 rfl
   simp -implicitDefEqProofs
   refine hR _ _ ?_
   simp -implicitDefEqProofs [this]
   exact s2
  ·simp at h4
   have h4:x[i]=y[i]:=h4
   simp -implicitDefEqProofs [q6]
   try simp (disch:=omega) only [wrap64]
   refine hN _ _ ⟨i+1,by simp,by omega,?_,s2⟩ (by simp [au];omega)
   rw [List.take_succ_eq_append_getElem h3,List.take_succ_eq_append_getElem hy,ht,h4]
 ·simp at h3
  simp -implicitDefEqProofs
  refine hE _ _ _ ?_
  simp -implicitDefEqProofs
  have e:i=x.length:=by omega
  have e2:i=y.length:=by omega
  rw [e,List.take_length,←e,e2,List.take_length] at ht
  subst ht
  simp -implicitDefEqProofs
  exact s'
end Go.HL.Sr
namespace Go.HL.Sr
open Go.HL Go.HL.Tl Go.Proofs
attribute [local irreducible] aE
def QR (b:List UInt8):PR:=
 let x0:=rdF false b
 let x1:=eu x0.1 x0.2 1
 let x2:=gKa x1.2 x0.2 2 4096
 let x3:=eu x2.2 x0.2 3
 let x4:=eu x3.2 x0.2 4
 let x5:=qt x4.2 x0.2 5 whole
 let x6:=eu x5.2 x0.2 6
 let x7:=eu x6.2 x0.2 7
 let x8:=bSa x7.2 x0.2 8
 let y8:=UT x8.1 x8.2
 let x9:=bSa y8.2 x0.2 9
 let y9:=recC x9.1 x9.2
 let y:=eu y9.2 x0.2 10
 ⟨x1.1,x2.1,x3.1,x4.1,x5.1,x6.1,x7.1,y8.1,y9.1,y.1⟩
def h2a (b:List UInt8):PR×Int:=if 4096<b.length then (PR.zero,3) else if ZE (QR b)≠0∨ePa (QR b)≠b then (PR.zero,238) else (QR b,0)
def a4a:Nat→PO
 |0=> .lenL
 |1=>(.bin .gtr)
 |2=>(.build (rl [(1,(.int .i64 0)),(1,(.string ⟨#[]⟩)),(2,(.int .i64 0)),(1,(.int .u64 0)),(4,(.int .i64 0)),(2,(.int .u64 0)),(1,(.slice none 0 0)),(6,(.int .i64 0)),(3,(.int .u64 0)),(1,(.int .i64 0)),(1,(.slice none 0 0)),(1,(.int .i64 0))]) [(0,1),(1,1),(2,1),(3,1),(4,1),(5,1),(6,1),(7,5),(12,11),(23,1)] [])
 |3=>(.build (rl [(1,(.int .i64 0)),(1,(.string ⟨#[]⟩)),(2,(.int .i64 0)),(1,(.int .u64 0)),(4,(.int .i64 0)),(2,(.int .u64 0)),(1,(.slice none 0 0)),(6,(.int .i64 0)),(3,(.int .u64 0)),(1,(.int .i64 0)),(1,(.slice none 0 0)),(1,(.int .i64 0))]) [(0,1),(1,1),(2,1),(3,1),(4,1),(5,1),(6,1),(7,5),(12,11),(23,1)] [0,1,2,3,4,5,6,7,8,9])
 |4=>(.ext 0)
 |5=>(.ext 1)
 |6=>(.bin .neq)
 |7=>(.un .not)
 |_=> .same
def Y1:Nat→EO
 |0=>(.new 39 (.agg #[(.int .i64 0),(.string ⟨#[]⟩),(.int .i64 0),(.int .i64 0),(.int .u64 0),(.int .i64 0),(.int .i64 0),(.int .i64 0),(.int .i64 0),(.int .u64 0),(.int .u64 0),(.slice none 0 0),(.int .i64 0),(.int .i64 0),(.int .i64 0),(.int .i64 0),(.int .i64 0),(.int .i64 0),(.int .u64 0),(.int .u64 0),(.int .u64 0),(.int .i64 0),(.slice none 0 0),(.int .i64 0)]))
 |1=>(.st 24)
 |2=>(.call 103)
 |3=>(.call 162)
 |4=>(.call 163)
 |5=>(.call 164)
 |6=>(.call 166)
 |7=>(.call 165)
 |8=>(.call 167)
 |9=>(.ld true 24)
 |10=>(.call 91)
 |11=>(.call 104)
 |_=> .ak
def dea:Nat→Value
 |0=>(.int .i64 0)
 |1=>(.int .i64 4096)
 |2=>(.int .i64 3)
 |3=>(.int .i64 1)
 |4=>(.int .i64 2)
 |5=>(.int .i64 4)
 |6=>(.int .i64 5)
 |7=>(.int .u64 18446744073709551615)
 |8=>(.int .i64 6)
 |9=>(.int .i64 7)
 |10=>(.int .i64 8)
 |11=>(.int .i64 9)
 |12=>(.int .i64 10)
 |13=>(.tuple #[])
 |14=>(.bool true)
 |15=>(.int .i64 238)
 |_=>undef
def hGa:cE:=⟨a4a,Y1,dea⟩
end Go.HL.Sr
namespace Go.HL.Sr
open Go.HL Go.HL.Tl Go.Proofs
attribute [local irreducible] aE
def a5a:Nat→PO
 |0=>(.fld 0)
 |1=>(.bin .eql)
 |2=>(.fld 1)
 |3=>(.fld 2)
 |4=>(.fld 3)
 |5=>(.fld 4)
 |6=>(.bin .neq)
 |7=>(.fld 5)
 |8=>(.fld 6)
 |9=>(.fld 7)
 |10=>(.fld 8)
 |11=>(.fld 9)
 |12=>(.fld 10)
 |13=> .lenL
 |14=>(.bin .lss)
 |15=>(.idxL 5)
 |16=>(.un .not)
 |17=>(.bin .add)
 |18=>(.fld 12)
 |19=>(.fld 23)
 |_=> .same
def Y3:Nat→EO
 |0=>(.box 34)
 |1=>(.ld false 1)
 |2=>(.call 31)
 |3=>(.box 37)
 |4=>(.ld true 5)
 |5=>(.call 168)
 |6=>(.box 39)
 |7=>(.ld true 11)
 |8=>(.call 101)
 |_=> .ak
def dfa:Nat→Value
 |0=>(.int .i64 0)
 |1=>(.bool false)
 |2=>(.tuple #[])
 |3=>(.bool true)
 |4=>(.int .i64 1)
 |_=>undef
def cca:cE:=⟨a5a,Y3,dfa⟩
def l22:ag:=⟨[0,2],4,[.slot 1],aM cca [] 0xb2cbc19da658400067699612001⟩
theorem SQ:ah T0 22 400=some l22:=by kernel_rfl
theorem mG (e:Int) (w:World):ai Tryz.prog 22 [.int .i64 e] (fun r w'=>r= .int .i64 e∧w'=w) w:=by
 refine az SQ (by simp [l22]) ?_
 simp [l22]
end Go.HL.Sr
namespace Go.HL.St1
open Go.HL Go.HL.Tl Go.HL.Sr Go.HL.Es Go.Proofs
attribute [local irreducible] aE
def bma:Nat→PO
 |0=>(.fld 0)
 |1=>(.bin .neq)
 |2=>(.fld 1)
 |3=>(.fld 2)
 |4=> .lenL
 |5=>(.bin .lss)
 |6=>(.idxL 3)
 |7=>(.bin .add)
 |8=>(.fld 7)
 |9=>(.bin .geq)
 |10=>(.bin .leq)
 |11=>(.fld 8)
 |12=>(.fld 9)
 |13=>(.build #[(.int .i64 0),(.int .i64 0),(.int .i64 0),(.int .i64 0),(.int .i64 0),(.int .i64 0),(.int .i64 0),(.int .i64 0),(.int .i64 0),(.int .i64 0),(.int .i64 0),(.int .i64 0)] [(0,1),(1,1),(2,1),(3,1),(4,1),(5,1),(6,1),(7,1),(8,1),(9,1),(10,2)] [7,8,9])
 |14=>(.ext 0)
 |15=>(.ext 1)
 |16=>(.eqNil false (.pointer 108) (.pointer none))
 |17=>(.idxL 24)
 |_=> .same
def Zk:Nat→EO
 |0=>(.box 46)
 |1=>(.ld false 1)
 |2=>(.ld true 3)
 |3=>(.bin .neq 90 (.tmp 38) (.tmp 43))
 |4=>(.box 25)
 |5=>(.new 25 (.agg #[(.int .i64 0),(.int .i64 0),(.int .i64 0),(.int .i64 0),(.int .i64 0),(.int .i64 0),(.int .i64 0),(.int .i64 0),(.int .i64 0),(.int .i64 0),(.int .i64 0),(.int .i64 0)]))
 |6=>(.st 12)
 |7=>(.ld true 12)
 |8=>(.call 44)
 |9=>(.call 22)
 |10=>(.ld true 24)
 |11=>(.call 17)
 |_=> .ak
def dwa:Nat→Value
 |0=>(.bool false)
 |1=>(.tuple #[])
 |2=>(.bool true)
 |3=>(.int .i64 0)
 |4=>(.int .i64 1)
 |5=>(.int .i64 64)
 |6=>(.int .i64 512)
 |7=>(.int .i64 4)
 |8=>(.int .i64 8)
 |9=>(.int .i64 2)
 |10=>(.pointer none)
 |_=>undef
def Gq:cE:=⟨bma,Zk,dwa⟩
def l27:ag:=⟨[0,1,2,3,4,5],45,[.slot 4],aM Gq [] 0xb2cb2cb2f067699612084b6eb2c9dc6996155144d21101471545134844051edaaf02cbc19da65848011c89c89c89c8a26d11185144d10d10435135545134054421825144d01510865135544d00c30544d00c35135545134054401825144d01510065135544d00830544d0083041a2f0af01c89c71b5545135544d10044051585144d55134401101455134401144d55134020c15134020c09da658483168bc0b2f0676996120047227227237647df6d209848244289c89c7e37647db48261116271c89c71f6d55144d55134471155134461016111545135544d11c45544d11840544d11c45135544d00c30544d00c35134461144d64815544d00834450511544d00834455545134444430510945134444430544d55134030815134030944d64815544d00824420510944d00824425545134414400545134414400544d55134030015134030144d55134020015134020278a26996596120044410d10025134010144d0000⟩
theorem S8:ah S1 27 400=some l27:=by kernel_rfl
def l11:ag:=⟨[0,1,2],31,[.slot 2],aM Gq [] 0xb2cbc19dc89c8de95f7df7df69961200248048048048044189c7e37a57df7df69961200248048048044389c7e37a57df7da65848009201201116271f8de95f7da6584800920111e271f8de95f69961200244906271f6996155144d21512812810912415144d21512812815135d20555134013014490414490544d004c0512415545134844480490511d45134844480490544d74815544d004c0511c14475134013014475545134864462814455144d219118a0544d74815544d004b0511414455134012c14455545134834442414435144d20d11090544d74815544d004b0510c14435134012c14435545134854422814415144d215108a0544d74815544d00480510414415134012014415545134844402415144d21110090544d55134012010544d004806789a6596120024400544d0004⟩
theorem R1:ah S1 11 400=some l11:=by kernel_rfl
def l43:ag:=⟨[0],2,[.cell 0 true 12],aM Gq [] 0xb2cbc19dc89a6145135545144d22414880521cd0500065145134890522014873419e26996110004c5⟩
theorem TD:ah S1 43 400=some l43:=by kernel_rfl
def l10:ag:=⟨[0,1,2,4,5,6,7,8],34,[.slot 3,.slot 4],aM Gq [] 0x2cb2cb2cb2f067699658482110143b6eb2c9dc6996155144d21101c71d45134844071ed9dc8a26985144d101014b0544d55144d01d004908a054513407401242068bc2bc071c6d55144d55134011101c56145135544d00444071544d00440276996120c7a2f02cbc19da65961200448a04389c8dd7db5d55134052024824416110544d01480910555144d20d10015144d20d10015134062419e289c71a6596155134413c11955134413811544d104f0544d104e0544d10080544d00879e269965961200448a0434400944d0004⟩
theorem R0:ah S1 10 400=some l10:=by kernel_rfl
theorem HH (x:St0.SU) (w0 w:World) (A:aj) (s:St w0 A w):ai Tryz.prog 11 [.agg x.cs.toArray] (fun r w'=>r= .bool (decide (St0.jJ x))∧St w0 A w') w:=by
 refine go R1 ?_
 refine gj fun b w s=> ?_
 refine aX ?_
 by_cases c1:1≤x.acc
 case neg=>simp [c1,St0.jJ];exact s.ak
 simp [c1]
 refine aX ?_
 by_cases c2:x.acc≤64
 case neg=>simp [c2,St0.jJ];exact s.ak
 simp [c2]
 refine aX ?_
 by_cases c3:0≤x.ae
 case neg=>simp [c3,St0.jJ];exact s.ak
 simp [c3]
 refine aX ?_
 by_cases c4:x.ae≤512
 case neg=>simp [c4,St0.jJ];exact s.ak
 simp [c4]
 refine aX ?_
 by_cases c5:1≤x.bB
 case neg=>simp [c5,St0.jJ];exact s.ak
 simp [c5]
 refine aX ?_
 simp [c1,c2,c3,c4,c5,St0.jJ]
 exact s.ak
def QB:St0.SU:=⟨0,0,0,0,0,0,0,4,8,2,0,0⟩
theorem EJ (w0 w:World) (A:aj) (s:St w0 A w):ai Tryz.prog 43 [] (fun r w'=>r= .agg QB.cs.toArray∧St w0 A w') w:=by
 refine go TD ?_
 refine fm fun d w s=> ?_
 refine aL (cs':=QB.cs.toArray) fun w s=> ?_
 refine ar (vs:=QB.cs) rfl (fun j u hu=>(s.at d).af j u hu) rfl ?_
 simp
 exact s.ak
theorem Dj (x:St0.SU) (w0 w:World) (A:aj) (s:St w0 A w):ai Tryz.prog 10 [.agg x.cs.toArray,.slice none 0 0] (fun r w'=>(St0.jJ x∧∃q p g e m,r= .tuple #[.pointer (some ⟨q,0,none⟩),.bool true]∧St w0 (A*bL q (zE x) p g e m) w')∨(¬St0.jJ x∧r= .tuple #[.pointer none,.bool false]∧St w0 A w')) w:=by
 refine go R0 ?_
 refine gj fun b w s=> ?_
 refine cN (vs:=x.cs) ?_
 refine ab ((St0.gU x w0 w _ s).mono ?_)
 rintro _ w (⟨hm,q,p,g,e,m,rfl,s⟩|⟨hm,rfl,s⟩)
 ·simp
  refine ab ((mG 0 w).mono ?_)
  rintro _ w ⟨rfl,rfl⟩
  simp
  have s:=BT s
  refine dR (fun env w'=>env= [.agg x.cs.toArray,.slice none 0 0,.pointer (some ⟨b,0,none⟩),.pointer none,.bool false,.pointer (some ⟨q,0,none⟩),.int .i64 0,.int .i64 0]∧St w0 (A*bL q (zE x) p g e m) w') (fun _ _=>0) ⟨rfl,s.ak⟩ ?_
  rintro LQ _ w ⟨rfl,s⟩ hN hX hR
  simp
  refine hX _ _ _ ?_
  simp
  exact ⟨hm,p,g,e,m,s⟩
 ·simp
  refine ab ((mG 2 w).mono ?_)
  rintro _ w ⟨rfl,rfl⟩
  simp
  exact ⟨hm,s.ak⟩
def A2 (d:DN):Prop:=d.num=0∧d.ended=0∧d.gs.length=0
instance (d:DN):Decidable (A2 d):=inferInstanceAs (Decidable (_∧_))
theorem DE (d:DN) (a:Option Addr) (c:Nat) (w0 w:World) (A:aj) (hl:d.gs.length≤4194304) (s:St w0 A w):
  ai Tryz.prog 27 [.agg (dk d (.slice a d.gs.length c)).toArray,.agg (dk .zero (.slice none 0 0)).toArray] (fun r w'=>r= .bool (decide (A2 d))∧St w0 A w') w:=by
 obtain ⟨n,hn⟩:∃n,d.gs.length=n:=⟨_,rfl⟩
 have hz:A2 d↔d.num=0∧d.ended=0∧n=0:=by unfold A2;rw [hn]
 simp only [hz]
 rw [hn]
 refine go S8 ?_
 refine gj fun b1 w s=> ?_
 refine gj fun b2 w s=> ?_
 refine aX (v:= .int .i64 d.num) ?_
 refine aX (v:= .int .i64 0) ?_ (hw:=rfl)
 by_cases c1:d.num=0
 case neg=>simp [c1];exact s.ak
 simp [c1]
 refine aX (v:= .int .i64 d.ended) ?_
 refine aX (v:= .int .i64 0) ?_ (hw:=rfl)
 by_cases c2:d.ended=0
 case neg=>simp [c2];exact s.ak
 simp [c2]
 refine aX (v:= .slice a n c) ?_
 refine aX (v:= .slice none 0 0) ?_
 by_cases c3:n=0
 case neg=>simp [c3];exact s.ak
 subst c3
 simp
 refine dR (fun env w'=>env= [.agg (dk d (.slice a 0 c)).toArray,.agg (dk .zero (.slice none 0 0)).toArray,.pointer (some ⟨b1,0,none⟩),.pointer (some ⟨b2,0,none⟩),.bool false,.int .i64 0]∧St w0 (A*bZ b1 d (.slice a 0 c)) w') (fun _ _=>0) ⟨rfl,s.ak⟩ ?_
 rintro LQ _ w ⟨rfl,s⟩ hN hX hR
 simp
 refine aX (v:= .slice a 0 c) ?_
 refine hX _ _ _ ?_
 simp
 exact s.ak
end Go.HL.St1
namespace Go.HL.St1
open Go.HL Go.HL.Tl Go.HL.Sr Go.HL.Es Go.Proofs
attribute [local irreducible] aE
def bna:Nat→PO
 |0=>(.ext 0)
 |1=>(.ext 1)
 |2=>(.eqNil false (.pointer 108) (.pointer none))
 |3=>(.bin .neq)
 |4=>(.build (rl [(1,(.int .i64 0)),(1,(.string ⟨#[]⟩)),(2,(.int .i64 0)),(1,(.int .u64 0)),(4,(.int .i64 0)),(2,(.int .u64 0)),(1,(.slice none 0 0)),(6,(.int .i64 0)),(3,(.int .u64 0)),(1,(.int .i64 0)),(1,(.slice none 0 0)),(1,(.int .i64 0))]) [(0,1),(1,1),(2,1),(3,1),(4,1),(5,1),(6,1),(7,5),(12,11),(23,1)] [0,1])
 |5=>(.build (rl [(1,(.int .i64 0)),(1,(.string ⟨#[]⟩)),(2,(.int .i64 0)),(1,(.int .u64 0)),(4,(.int .i64 0)),(2,(.int .u64 0)),(1,(.slice none 0 0)),(6,(.int .i64 0)),(3,(.int .u64 0)),(1,(.int .i64 0)),(1,(.slice none 0 0)),(1,(.int .i64 0))]) [(0,1),(1,1),(2,1),(3,1),(4,1),(5,1),(6,1),(7,5),(12,11),(23,1)] [0,3,4])
 |6=>(.build (rl [(1,(.int .i64 0)),(1,(.string ⟨#[]⟩)),(2,(.int .i64 0)),(1,(.int .u64 0)),(4,(.int .i64 0)),(2,(.int .u64 0)),(1,(.slice none 0 0)),(6,(.int .i64 0)),(3,(.int .u64 0)),(1,(.int .i64 0)),(1,(.slice none 0 0)),(1,(.int .i64 0))]) [(0,1),(1,1),(2,1),(3,1),(4,1),(5,1),(6,1),(7,5),(12,11),(23,1)] [0,6,3])
 |7=>(.build (rl [(1,(.int .i64 0)),(1,(.string ⟨#[]⟩)),(2,(.int .i64 0)),(1,(.int .u64 0)),(4,(.int .i64 0)),(2,(.int .u64 0)),(1,(.slice none 0 0)),(6,(.int .i64 0)),(3,(.int .u64 0)),(1,(.int .i64 0)),(1,(.slice none 0 0)),(1,(.int .i64 0))]) [(0,1),(1,1),(2,1),(3,1),(4,1),(5,1),(6,1),(7,5),(12,11),(23,1)] [0,9])
 |8=> .lenL
 |9=>(.bin .lss)
 |10=>(.idxL 24)
 |11=>(.fld 0)
 |12=>(.bin .add)
 |_=> .same
def Zl:Nat→EO
 |0=>(.call 43)
 |1=>(.call 44)
 |2=>(.call 22)
 |3=>(.bsl 39 7 24 #[(.int .i64 0),(.string ⟨#[]⟩),(.int .i64 0),(.int .i64 0),(.int .u64 0),(.int .i64 0),(.int .i64 0),(.int .i64 0),(.int .i64 0),(.int .u64 0),(.int .u64 0),(.slice none 0 0),(.int .i64 0),(.int .i64 0),(.int .i64 0),(.int .i64 0),(.int .i64 0),(.int .i64 0),(.int .u64 0),(.int .u64 0),(.int .u64 0),(.int .i64 0),(.slice none 0 0),(.int .i64 0)] [0,1,2,3,4,5,6])
 |4=>(.ld true 24)
 |5=>(.call 17)
 |6=>(.new 46 (.agg #[(.int .i64 0),(.int .i64 0),(.slice none 0 0)]))
 |7=>(.st 3)
 |8=>(.ld false 1)
 |9=>(.bsl 3 2 1 #[(.int .i64 0)] [0,1])
 |10=>(.app 32 32 3 1 8 (.int .i64 0))
 |_=> .ak
def dxa:Nat→Value
 |0=>(.pointer none)
 |1=>(.slice none 0 0)
 |2=>(.tuple #[])
 |3=>(.int .i64 0)
 |4=>(.bool true)
 |5=>(.int .i64 1)
 |6=>(.string ⟨#[65,110,110]⟩)
 |7=>(.string ⟨#[66,111,98]⟩)
 |8=>(.int .i64 2)
 |9=>(.int .u64 100)
 |10=>(.int .u64 50)
 |11=>(.int .i64 3)
 |12=>(.int .i64 10)
 |13=>(.int .i64 5)
 |_=>undef
def cla:cE:=⟨bna,Zl,dxa⟩
def l42:ag:=⟨[0,1,2,3,4,5,6,7,8],53,[.slot 0,.slot 1],aM cla [] 0x2cb2cb2cb2cb2f067699658404050080b6eb2c9dc6996155144d215018c0465144d215018c06db297228a289a6584431145134424042815144d10510090544d02010944d55134072c12015134072c116772289c72289a6596155134410480510875144d55134410110874c65134410544d10405144d1010085513554513406405281114513406405281068bc2bc071c6d55144d55134052014062416145135544d01480501890544d01480409da6584831a771c71c71c72269961100551451451451355451348d0523011d55145134880522c148b0465545144d21522c148b0465545144d22814880522011555145134890521522011555144d21d21445545134864851035144d234148c0475145134880522c148b04651451348548b0522c11945144d22814880522011545144d22414854880455144d21d21445144d2192144a2f02cbc19da65961204148001c8e47db48461102271f6d55144d20d10436110145134834410d44d64824034400910155134020944d00829da6584811278a271c6996585544d10410d55134410025134410544d1040513440053027699658481052000⟩
theorem TC:ah S1 42 400=some l42:=by kernel_rfl
def bW:List PR:= [⟨1,[65,110,110],0,0,0,0,0,PE.zero,PC.zero,0⟩,⟨1,[66,111,98],0,0,0,0,0,PE.zero,PC.zero,0⟩,⟨2,[],0,1,100,0,0,PE.zero,PC.zero,0⟩,
 ⟨2,[],0,2,50,0,0,PE.zero,PC.zero,0⟩,⟨3,[],0,1,0,0,3,PE.zero,PC.zero,0⟩,⟨3,[],0,2,0,0,3,PE.zero,PC.zero,0⟩,⟨10,[],0,0,0,0,0,PE.zero,PC.zero,5⟩]
def Iu (r:PR):List Value:=r.cs (.slice none 0 0) (.slice none 0 0)
theorem GB:PE.zero.ok∧PC.zero.ok:=⟨⟨by decide,by decide,by decide⟩,⟨by decide,by decide,by decide,by decide,nofun⟩⟩
theorem Ch:∀r∈bW,r.ok∧r.en=PE.zero∧r.co=PC.zero:=by
 intro r hr
 simp only [bW,List.mem_cons,List.not_mem_nil,or_false] at hr
 rcases hr with rfl|rfl|rfl|rfl|rfl|rfl|rfl<;>exact ⟨⟨by decide,by decide,GB.1,GB.2⟩,rfl,rfl⟩
def stepG (x:ST×List Int) (r:PR):ST×List Int:=((cF x.1 r).2.2,x.2++ [(cF x.1 r).1.num,(cF x.1 r).2.1])
def kT (l:List PR):ST×List Int:=l.foldl stepG (zE QB,[])
theorem xi (l:List PR) (r:PR):kT (l++ [r])=stepG (kT l) r:=by simp [kT]
theorem zX:∀i,SI (kT (bW.take i)).1∧(i≤7→(kT (bW.take i)).2.length=2*i)
 |0=>⟨J8 (by decide),fun _=>rfl⟩
 |i+1=>by
  obtain ⟨h1,h2⟩:=zX i
  by_cases hi:i<bW.length
  ·rw [List.take_succ_eq_append_getElem hi,xi]
   have hm:=Ch _ (List.getElem_mem hi)
   refine ⟨(Ax h1 hm.1).1,fun h=> ?_⟩
   have:=h2 (by omega)
   simp [stepG,this]
   omega
  ·have e1:bW.take (i+1)=bW.take i:=by rw [List.take_of_length_le (by omega),List.take_of_length_le (by omega)]
   rw [e1]
   have:bW.length=7:=rfl
   exact ⟨h1,fun h=>by omega⟩
set_option maxHeartbeats 1000000 in
theorem DX (w0 w:World) (A:aj) (s:St w0 A w):ai Tryz.prog 42 [] (fun r w'=>∃(q p g e m:Nat) (v:Value),r= .tuple #[.pointer (some ⟨q,0,none⟩),v]∧St w0 (A*bL q (kT bW).1 p g e m*own 3 1 v 14 (ints (kT bW).2)) w') w:=by
 refine go TC ?_
 refine ln (EJ w0 w A s) fun w s=> ?_
 refine ab ((St0.gU QB w0 w _ s).mono ?_)
 rintro _ w (⟨hm,q,p,g,e,m,rfl,s⟩|⟨hm,_⟩)
 rotate_left
 ·exact absurd (show St0.jJ QB by decide) hm
 have s:=BT s
 simp
 refine ab ((mG 0 w).mono ?_)
 rintro _ w ⟨rfl,rfl⟩
 simp [Instr.fill,Value.cells]
 refine tt (vs:=bW.map fun r=> .agg (Iu r).toArray) s (by intro v hv;obtain ⟨r,_,rfl⟩:=List.mem_map.1 hv;rfl) rfl rfl (by decide) fun rv w s=> ?_
 have e1:((bW.map fun r=>Value.agg (Iu r).toArray).flatMap fun v=>v.cells.toList)=bW.flatMap Iu:=by
  rw [List.flatMap_map]
  rfl
 rw [e1] at s
 have s:=s.aA 3 1
 obtain ⟨ra,rc,rfl,_⟩:=s.drop.aq
 simp
 refine dR (fun env w'=>∃(i:Nat) (lv o7 o8:Value),env= [.pointer none,.slice none 0 0,.pointer (some ⟨q,0,none⟩),.int .i64 0,lv,.slice ra 7 rc,.int .i64 i,o7,o8]∧i≤7∧St w0 (A*own 39 24 (.slice ra 7 rc) 7 (bW.flatMap Iu)*bL q (kT (bW.take i)).1 p g e m*own 3 1 lv (2*i) (ints (kT (bW.take i)).2)) w')
  (fun env _=>7 -au env 6) ⟨0,_,_,_,rfl,by omega,(show St w0 (A*own 39 24 (.slice ra 7 rc) 7 (bW.flatMap Iu)*bL q (zE QB) p g e m*own 3 1 (.slice none 0 0) 0 []) w from s.ak)⟩ ?_
 clear s
 rintro LQ _ w ⟨i,lv,o7,o8,rfl,hi,t⟩ hN hX hR
 obtain ⟨hSI,hlen⟩:=zX i
 have hlen:=hlen hi
 obtain ⟨S,hS⟩:∃S,(kT (bW.take i)).1=S:=⟨_,rfl⟩
 obtain ⟨L,hL⟩:∃L,(kT (bW.take i)).2=L:=⟨_,rfl⟩
 simp
 refine aJ (fun c1=> ?_) (fun c1=> ?_)
 ·simp at c1
  clear hX hR
  have hlt:i<bW.length:=by have:bW.length=7:=rfl;omega
  have hrow:Row w0 (A*own 39 24 (.slice ra 7 rc) 7 (bW.flatMap Iu)) (.slice ra 7 rc) 7 24 (bW.flatMap Iu):=bG t.drop.drop
  obtain ⟨g1,o1,cap',hv,hcell⟩:=hrow.at (by omega)
  cases hv
  obtain ⟨r,hr⟩:∃r,bW[i]=r:=⟨_,rfl⟩
  have hrm:=Ch r (by rw [←hr];exact List.getElem_mem hlt)
  have hstep:kT (bW.take (i+1))=stepG (S,L) r:=by rw [List.take_succ_eq_append_getElem hlt,xi,hr,←hS,←hL]
  rw [hS] at hSI t
  rw [hL] at hlen t
  simp [c1]
  refine ax (vs:=Iu r) (fun j u hu=>by
   rw [Nat.add_assoc]
   have hj:j<24:=(List.getElem?_eq_some_iff.1 hu).1
   exact hcell w t.drop.drop _ _ (by rw [fh Iu 24 (fun _=>rfl) bW i j hlt hj,hr];exact hu)) rfl ?_
  simp
  have t:St w0 (A*own 39 24 (.slice (some ⟨g1,o1,none⟩) 7 rc) 7 (bW.flatMap Iu)*own 3 1 lv (2*i) (ints L)*bL q S p g e m) w:=t.swap
  refine ab ((n0 q S r (.slice none 0 0) (.slice none 0 0) [] p g e m w0 w _ hSI.sw hrm.1 (by rw [hrm.2.1];exact Sr.nt _ _ _) (by rw [hrm.2.2];exact ⟨rfl,Sr.nt _ _ _,nofun⟩) t).mono ?_)
  rintro _ w ⟨gv,rfl,t⟩
  obtain ⟨o,ho⟩:∃o,cF S r=o:=⟨_,rfl⟩
  rw [ho] at t⊢
  have hgv:=cX t
  simp
  refine fm fun d w t=> ?_
  refine aL (cs':=(dk o.1 gv).toArray) (b:=d) (h1:=ji _ _ hgv) fun w t=> ?_
  obtain ⟨B,hB⟩:∃B,A*own 39 24 (.slice (some ⟨g1,o1,none⟩) 7 rc) 7 (bW.flatMap Iu)*bL q o.2.2 p g e m*bR gv o.1.gs*bZ d o.1 gv=B:=⟨_,rfl⟩
  have t:St w0 (B*own 3 1 lv (2*i) (ints L)) w:=by rw [←hB];exact (show St w0 (_*bZ d o.1 gv) w from t).ak
  have hd:∀{Z:aj} {w:World},St w0 (B*Z) w→w.cell? ⟨d,0,none⟩=some (.int .i64 o.1.num):=fun s=>by
   rw [←hB] at s
   have:=(s.drop).af 0 _ rfl;simpa using this
  obtain ⟨C,hC⟩:∃C:List Value→World→Prop,C=fun vs w=>match vs with
   | []=>St w0 (B*own 3 1 lv (2*i) (ints L)) w
   | [r]=>r= .int .i64 o.2.1∧St w0 (B*own 3 1 lv (2*i) (ints L)) w
   | [_,v]=>St w0 (B*(own 3 1 lv (2*i) (ints L)*own 3 1 v 2 (ints [o.1.num,o.2.1]))) w
   |_::_::v::_=>St w0 (B*own 3 1 v (2*i+2) (ints L++ [.int .i64 o.1.num,.int .i64 o.2.1])) w:=⟨_,rfl⟩
  have hdC:∀vs w,C vs w→w.cell? ⟨d,0,none⟩=some (.int .i64 o.1.num):=fun vs w h=>by
   rw [hC] at h
   rcases vs with _|⟨r,_|⟨v,_|⟨u,vs⟩⟩⟩
   ·exact hd h
   ·exact hd h.2
   ·exact hd h
   ·exact hd h
  refine rn C (by rw [hC];exact t.drew) ?_
  refine iw (fun vs w h=>hdC vs w h) ?_
  refine gk (fun w h=> ?_) (fun r ⟨w,h⟩=> ?_)
  ·rw [hC] at h
   refine ab ((mG o.2.1 w).mono ?_)
   rintro _ w ⟨rfl,rfl⟩
   rw [hC]
   exact ⟨rfl,h⟩
  rw [hC] at h
  obtain ⟨rfl,_⟩:=h
  refine gk (fun w h=> ?_) (fun v ⟨w,h⟩=> ?_)
  ·rw [hC] at h
   obtain ⟨_,h⟩:=h
   refine ic (vs:=ints [o.1.num,o.2.1]) h (by simp [ints,Value.oneCell']) rfl rfl (by decide) fun b w h=> ?_
   rw [hC]
   exact h.to (ao _ _ _)
  clear h
  refine gk (fun w h=> ?_) (fun v2 ⟨w,h⟩=> ?_)
  ·rw [hC] at h
   obtain ⟨g2,o2,c2,rfl,hc2⟩:=(bG (show St w0 (B*own 3 1 lv (2*i) (ints L)*own 3 1 v 2 (ints [o.1.num,o.2.1])) w from h.to (by ac_rfl))).at (by decide)
   have h:St w0 (B*own 3 1 (.slice (some ⟨g2,o2,none⟩) 2 c2) 2 (ints [o.1.num,o.2.1])*own 3 1 lv (2*i) (ints L)) w:=h.to (by ac_rfl)
   refine bh (m:=2) (news:= [.int .i64 o.1.num,.int .i64 o.2.1]) h rfl (fun j u hu=>by have:=hc2 w h.swap j u hu;simp only [Addr.add];split<;>simp_all) (by simp [Value.oneCell']) (by decide) rfl (by unfold maxLen;omega) (by omega) fun v w h=> ?_
   rw [hC]
   exact h.swap.drop
  intro w h
  rw [hC] at h
  try simp
  try simp (disch:=omega) only [wrap64]
  refine hN _ w ⟨i+1,_,_,_,by simp;and_intros<;>rfl,by omega,?_⟩ (by simp [au];omega)
  rw [hstep,←hB] at*
  have e3:(stepG (S,L) r).1=o.2.2:=by simp [stepG,ho]
  have e4:ints (stepG (S,L) r).2=ints L++ [.int .i64 o.1.num,.int .i64 o.2.1]:=by simp [stepG,ho,ints]
  rw [e3,e4]
  exact h.ak
 simp at c1
 simp
 refine hX _ _ _ ?_
 obtain rfl:i=7:=by omega
 simp
 have t:St w0 (A*own 39 24 (.slice ra 7 rc) 7 (bW.flatMap Iu)*bL q (kT bW).1 p g e m*own 3 1 lv 14 (ints (kT bW).2)) w:=t
 exact ⟨q,p,g,e,m,lv,⟨rfl,rfl⟩,t.ak⟩
end Go.HL.St1
namespace Go.HL.St1
open Go.HL Go.HL.Tl Go.HL.Sr Go.HL.Es Go.Proofs
attribute [local irreducible] aE
def boa:Nat→PO
 |0=>(.ext 0)
 |1=>(.ext 1)
 |2=>(.eqNil true (.pointer 108) (.pointer none))
 |3=>(.bin .eql)
 |4=> .lenL
 |5=>(.bin .gtr)
 |_=> .same
def Zm:Nat→EO
 |0=>(.call 42)
 |1=>(.bsl 3 14 1 #[(.int .i64 0)] [0,1,2,3,4,5,6,7,8,9,10,11,12,13])
 |2=>(.call 31)
 |3=>(.call 29)
 |4=>(.call 13)
 |5=>(.call 20)
 |_=> .ak
def dya:Nat→Value
 |0=>(.bool false)
 |1=>(.int .i64 1)
 |2=>(.int .i64 0)
 |3=>(.int .i64 2)
 |4=>(.tuple #[])
 |5=>(.int .i64 5)
 |6=>(.int .u64 150)
 |_=>undef
def cma:cE:=⟨boa,Zm,dya⟩
def l24:ag:=⟨[0,1,2],30,[.slot 0],aM cma [] 0xb2cb2f06772395f7df7da65848001201201201102289f95f7df69961200048048044289c7e395f7da65848001201112271f8e57da6584800111a271c7da6585545134825544d11c41404465144d20955134471055134471144d74844014461511955144d21911434445144d21911435135d21100511044445545134854430d10945134854430d44d74844014420d10910145134415d21100910025145145145145145145144d20920920920d20920520920920920920920d20920414405544d00425134010a789c71a6596155134400425544d10000544d1001513440013027699612000⟩
theorem SY:ah S1 24 400=some l24:=by kernel_rfl
theorem KD:(kT bW).2= [1,0,2,0,0,0,0,0,1,0,2,0,0,0]∧(kT bW).1.clock=5∧(kT bW).1.E.P.sup=150:=by decide+kernel
theorem HZ:0<(ik (kF (kT bW).1)).length:=by decide+kernel
theorem Pc:SI (kT bW).1:=(zX 7).1
theorem Db (w0 w:World) (A:aj) (h0:w0.drawn=0) (s:St w0 A w):ai Tryz.prog 24 [] (fun r w'=>r= .bool true∧St w0 A w') w:=by
 obtain ⟨h1,h2,h3⟩:=KD
 have h4:=HZ
 have hSI:=Pc
 refine go SY ?_
 refine ab ((DX w0 w A s).mono ?_)
 rintro _ w ⟨q,p,g,e,m,v,rfl,s⟩
 obtain ⟨S,hS⟩:∃S,(kT bW).1=S:=⟨_,rfl⟩
 rw [hS] at s h2 h3 h4 hSI
 rw [h1] at s
 simp
 refine ic (vs:=ints [1,0,2,0,0,0,0,0,1,0,2,0,0,0]) s (by simp [ints,Value.oneCell']) rfl rfl (by decide) fun sv w s=> ?_
 simp
 refine ab ((D8 [1,0,2,0,0,0,0,0,1,0,2,0,0,0] [1,0,2,0,0,0,0,0,1,0,2,0,0,0] v sv w0 w _ (by decide) (sC (e:=3) s) (bG s) s).mono ?_)
 rintro _ w ⟨rfl,s⟩
 simp
 have s:St w0 (A*bL q S p g e m) w:=s.ak
 refine ln (Dy q S p g e m w0 w A s) fun w s=> ?_
 simp [h2]
 refine ln (CA q S p g e m w0 w A s) fun w s=> ?_
 simp [h3]
 refine ab ((kG q S p g e m w0 w A h0 hSI.sw hSI.base.sort hSI.Fx s).mono ?_)
 rintro _ w ⟨a,c,rfl,s⟩
 simp
 exact ⟨h4,s.drop.drop⟩
end Go.HL.St1
namespace Go.HL.St1
open Go.HL Go.HL.Tl Go.HL.Sr Go.HL.Es Go.Proofs
attribute [local irreducible] aE
def bpa:Nat→PO
 |0=>(.ext 0)
 |1=>(.ext 1)
 |2=>(.un .not)
 |3=> .lenL
 |4=>(.bin .lss)
 |5=>(.idxL 24)
 |6=>(.bin .neq)
 |7=>(.build #[(.int .i64 0),(.int .i64 0),(.slice none 0 0)] [(0,1),(1,1),(2,1)] [])
 |8=>(.bin .add)
 |_=> .same
def Zn:Nat→EO
 |0=>(.box 25)
 |1=>(.ld true 12)
 |2=>(.call 10)
 |3=>(.call 11)
 |4=>(.call 20)
 |5=>(.ld true 24)
 |6=>(.call 25)
 |7=>(.call 26)
 |8=>(.call 17)
 |9=>(.new 46 (.agg #[(.int .i64 0),(.int .i64 0),(.slice none 0 0)]))
 |10=>(.st 3)
 |11=>(.call 22)
 |12=>(.ld true 3)
 |13=>(.call 27)
 |14=>(.call 24)
 |_=> .ak
def dza:Nat→Value
 |0=>(.bool false)
 |1=>(.slice none 0 0)
 |2=>(.int .i64 0)
 |3=>(.tuple #[])
 |4=>(.bool true)
 |5=>(.int .i64 1)
 |_=>undef
def cna:cE:=⟨bpa,Zn,dza⟩
def l4:ag:=⟨[0,1,2,4,5,6,7,8,9,10,11],72,[.slot 3],aM cna [] 0x2cb2cb2cb2f06789a6584400d3381b6eb2c9dc6996155144d21501880465144d215018806db2cb2ca2f02cbc19da6584800dc8e47db48461102272395f7db4806110110a289c8e47df7db48461101109116272271f7df6d55134470984404424455134470945135531d118d0531d44d02413014455544d11025134440945134074431d44d74834044421110955144d20910465144d20910465135920d02814402c14405545134080502811945134080502811a772289c72289a65961551344104a0510890545135544d10404422814c90544d10415134410145134404042015135545134064011455144d0190045a2f02cbc19da6584800e289c6d55134410985134410945134074401d44d01049dc8a26996110480545134404041944d55144d019004515451340640116789a6584401d44d0104068bc2bc071c6d55144d55134010d01846145135544d00434061144d0043027699612086a2f02cbc19e289c6996155134410835134410944d100351340205c6d55134050985134050a78a271c6996585544d10411555134410045134410544d10405144d205100251340206789a6596120034400944d0000⟩
theorem Z7:ah S1 4 400=some l4:=by kernel_rfl
structure C5 where
 r:PR
 ev:Value
 cv:Value
 wvs:List Value
def C5.cs (x:C5):List Value:=x.r.cs x.ev x.cv
structure XS (w0:World) (A:aj) (rv:Value) (rs:List C5):Prop where
 few:rs.length≤1048576
 row:Row w0 A rv rs.length 24 (rs.flatMap C5.cs)
 each:∀x∈rs,x.r.ok∧WR w0 A x.ev x.r.en.ws∧CV w0 A x.cv x.wvs x.r.co.es
theorem xR {w0 w:World} {A:aj} {v:Value} {bs:List UInt8} (s:St w0 (A*je v bs) w):Row w0 (A*je v bs) v bs.length 1 (aD bs):=bG s
set_option maxHeartbeats 2000000 in
theorem zT (x:St0.SU) (rv:Value) (rs:List C5) (w0 w:World) (A:aj) (h0:w0.drawn=0) (hR:XS w0 A rv rs) (s:St w0 A w):
  ai Tryz.prog 4 [.agg x.cs.toArray,rv] (fun r w'=>r= .bool true∧St w0 A w') w:=by
 obtain ⟨ra,rc,rfl⟩:=hR.row.val
 refine go Z7 ?_
 refine gj fun b w s=> ?_
 refine cN (vs:=x.cs) ?_
 refine ab ((Dj x w0 w _ s).mono ?_)
 rintro _ w (⟨hm,q,p,g,e,m,rfl,s⟩|⟨hm,rfl,s⟩)
 rotate_left
 ·simp
  refine cN (vs:=x.cs) ?_
  refine ln (HH x w0 w _ s) fun w s=> ?_
  simp [hm]
  exact s.ak
 simp
 have s:St w0 (A*bL q (zE x) p g e m) w:=s.ak
 refine dR (fun env w'=>∃(i:Nat) (S:ST) (o7 o8 o9 wP:Value),env= [.agg x.cs.toArray,.slice ra rs.length rc,.pointer (some ⟨b,0,none⟩),.bool false,.pointer (some ⟨q,0,none⟩),.bool true,.int .i64 i,o7,o8,o9,wP]∧i≤rs.length∧SI S∧St w0 (A*bL q S p g e m) w')
  (fun env _=>rs.length -au env 6) ⟨0,_,_,_,_,_,rfl,by omega,J8 hm,s⟩ ?_
 clear s
 rintro LQ _ w ⟨i,S,o7,o8,o9,wP,rfl,hi,hSI,s⟩ hN hX hRr
 have hfew:=hR.few
 simp
 refine aJ (fun c1=> ?_) (fun c1=> ?_)
 ·simp at c1
  clear hX
  obtain ⟨g1,o1,cap',hv,hcell⟩:=hR.row.at (by omega)
  cases hv
  obtain ⟨r,hr⟩:∃r,rs[i]=r:=⟨_,rfl⟩
  obtain ⟨hok,hwr,hcv⟩:=hR.each r (by rw [←hr];exact List.getElem_mem c1)
  have hld:∀{Z:aj} {w:World},St w0 (A*Z) w→∀j u,(r.cs)[j]?=some u→w.cell? ⟨g1,o1+i*24+j,none⟩=some u:=fun s j u hu=>by
   have hj:j<24:=(List.getElem?_eq_some_iff.1 hu).1
   rw [Nat.add_assoc]
   exact hcell _ s.drop _ _ (by rw [fh C5.cs 24 (fun _=>rfl) rs i j c1 hj,hr];exact hu)
  have hfm:=kG q S p g e m
  refine ab ((kG q S p g e m w0 w A h0 hSI.sw hSI.base.sort hSI.Fx s).mono ?_)
  rintro _ w ⟨fa,fc,rfl,s⟩
  simp [q6,c1]
  obtain ⟨F,hF⟩:∃F,ik (kF S)=F:=⟨_,rfl⟩
  have hFl:F.length≤35184372088832:=by have:=B7 (Bl S);rw [hF] at this;omega
  rw [hF] at s⊢
  have s:St w0 (A*je (.slice fa F.length fc) F*bL q S p g e m) w:=s.swap
  obtain ⟨B,hB⟩:∃B,A*je (.slice fa F.length fc) F=B:=⟨_,rfl⟩
  have hrF:Row w0 B (.slice fa F.length fc) F.length 1 (aD F):=by rw [←hB];exact xR s.drop
  rw [hB] at s
  have hBA:∀{Z:aj} {w:World},St w0 (B*Z) w→∀j u,(r.cs)[j]?=some u→w.cell? ⟨g1,o1+i*24+j,none⟩=some u:=fun s=>by
   rw [←hB] at s
   exact hld (s.to (ao _ _ _))
  have hwB:WR w0 B r.ev r.r.en.ws:=hwr.mono fun w s=>by rw [←hB] at s;exact s.drop
  have hcB:CV w0 B r.cv r.wvs r.r.co.es:=hcv.mono fun w s=>by rw [←hB] at s;exact s.drop
  refine ax (vs:=r.cs) (fun j u hu=>hBA s j u hu) rfl ?_
  simp
  refine ln (od q S r.r r.ev r.cv r.wvs p g e m w0 w B h0 hSI.sw hSI.rows hok hwB hcB s) fun w s=> ?_
  refine ab ((kG q S p g e m w0 w B h0 hSI.sw hSI.base.sort hSI.Fx s).mono ?_)
  rintro _ w ⟨fa2,fc2,rfl,s⟩
  rw [hF] at s⊢
  simp
  refine ab ((sV F F (.slice fa2 F.length fc2) (.slice fa F.length fc) w0 w _ hFl (xR s) (hrF.mono fun w s=>s.drop.drop) s).mono ?_)
  rintro _ w ⟨rfl,s⟩
  simp
  have s:=s.drop
  simp [c1]
  refine ax (vs:=r.cs) (fun j u hu=>hBA s j u hu) rfl ?_
  simp
  refine ab ((n0 q S r.r r.ev r.cv r.wvs p g e m w0 w B hSI.sw hok hwB hcB s).mono ?_)
  rintro _ w ⟨gv,rfl,s⟩
  obtain ⟨hS2,hno⟩:=Ax hSI hok
  obtain ⟨o,ho⟩:∃o,cF S r.r=o:=⟨_,rfl⟩
  rw [ho] at s hS2 hno⊢
  have hgv:=cX s
  obtain ⟨ga,gc,rfl,_⟩:=s.aq
  simp
  refine fm fun d w s=> ?_
  refine aL (cs':=(dk o.1 (.slice ga o.1.gs.length gc)).toArray) (b:=d) (h1:=ji _ _ hgv) fun w s=> ?_
  have s:St w0 (B*bZ d o.1 (.slice ga o.1.gs.length gc)*bL q o.2.2 p g e m) w:=(show St w0 (_*bZ d o.1 (.slice ga o.1.gs.length gc)) w from s).ak
  refine ab ((mG o.2.1 w).mono ?_)
  rintro _ w ⟨rfl,rfl⟩
  simp
  by_cases hn0:o.2.1=0
  ·simp [hn0,q6,ll]
   try simp (disch:=omega) only [wrap64]
   exact hN _ _ ⟨i+1,o.2.2,_,_,_,_,by simp;and_intros<;>rfl,by omega,hS2,by rw [←hB] at s;exact s.ak⟩ (by simp [au];omega)
  obtain ⟨hSS,hdz⟩:=hno hn0
  rw [hSS] at s
  simp [hn0]
  have s:St w0 (B*bZ d o.1 (.slice ga o.1.gs.length gc)*bL q S p g e m) w:=s
  refine ab ((kG q S p g e m w0 w _ h0 hSI.sw hSI.base.sort hSI.Fx s).mono ?_)
  rintro _ w ⟨fa3,fc3,rfl,s⟩
  rw [hF] at s⊢
  simp
  refine ab ((sV F F (.slice fa3 F.length fc3) (.slice fa F.length fc) w0 w _ hFl (xR s) (hrF.mono fun w s=>s.drop.drop.drop) s).mono ?_)
  rintro _ w ⟨rfl,s⟩
  simp
  have s:=s.drop
  refine cN (vs:=dk o.1 (.slice ga o.1.gs.length gc)) ?_
  refine ab ((DE o.1 ga gc w0 w _ (by rw [hdz];decide) s).mono ?_)
  rintro _ w ⟨rfl,s⟩
  have hz:A2 o.1:=by rw [hdz];exact ⟨rfl,rfl,rfl⟩
  simp [hz,q6,ll]
  try simp (disch:=omega) only [wrap64]
  exact hN _ _ ⟨i+1,S,_,_,_,_,by simp;and_intros<;>rfl,by omega,hSI,by rw [←hB] at s;exact s.ak⟩ (by simp [au];omega)
 simp at c1
 simp
 refine hX _ _ _ ?_
 simp
 refine ab ((Db w0 w A h0 s.drop).mono ?_)
 rintro _ w ⟨rfl,s⟩
 simp
 exact s
end Go.HL.St1
namespace Go.HL.Sr
open Go.HL Go.HL.Tl Go.Proofs
attribute [local irreducible] aE
def QG:List Value:= [.int .u8 201,.int .u8 202]
abbrev lbA (v:Value) (b:List UInt8):aj:=Ue 5 1 v b.length 2 (aD b) QG
abbrev lwA (v:Value) (ws:List Int):aj:=Ue 3 1 v ws.length 1 (ints ws) [.int .i64 (-71)]
def ZD:List Value:= [.int .i64 (-73),.int .i64 0,.int .u64 0,.int .u64 0,.slice none 0 0]
abbrev leA (cv:Value) (l:List (PE×Value)):aj:=Ue 34 5 cv l.length 1 (ay l) ZD*bu (fun x=>lwA x.2 x.1.ws) l
def a6a:Nat→PO
 |0=> .lenL
 |1=>(.slL 1 false true false)
 |2=>(.bin .add)
 |3=>(.idxL 1)
 |4=>(.bin .eql)
 |5=>(.fld 4)
 |_=> .same
def Y4:Nat→EO
 |0=>(.app 52 52 5 1 1 (.int .u8 0))
 |1=>(.bsl 5 2 1 #[(.int .u8 0)] [0,1])
 |2=>(.call 26)
 |3=>(.ld false 1)
 |4=>(.box 34)
 |5=>(.new 34 (.agg #[(.int .i64 0),(.int .i64 0),(.int .u64 0),(.int .u64 0),(.slice none 0 0)]))
 |6=>(.app 32 32 3 1 8 (.int .i64 0))
 |7=>(.bsl 3 1 1 #[(.int .i64 0)] [0])
 |8=>(.st 1)
 |9=>(.ld true 5)
 |10=>(.st 5)
 |_=> .ak
def dga:Nat→Value
 |0=>(.slice none 0 0)
 |1=>(.int .u8 201)
 |2=>(.int .u8 202)
 |3=>(.bool false)
 |4=>(.int .i64 2)
 |5=>(.tuple #[])
 |6=>(.int .i64 1)
 |7=>(.int .i64 (-71))
 |_=>undef
def hHa:cE:=⟨a6a,Y4,dga⟩
end Go.HL.Sr
namespace Go.HL.Sr
open Go.HL Go.HL.Tl Go.Proofs
attribute [local irreducible] aE
def a7a:Nat→PO
 |0=>(.fld 7)
 |1=>(.fld 12)
 |2=>(.fld 10)
 |3=> .lenL
 |4=>(.bin .lss)
 |5=>(.idxL 5)
 |6=>(.bin .add)
 |7=>(.build #[(.int .i64 0),(.int .i64 0),(.int .u64 0),(.int .u64 0),(.slice none 0 0)] [(0,1),(1,1),(2,1),(3,1),(4,1)] [0])
 |8=>(.slL 5 false true false)
 |9=>(.un .not)
 |10=>(.fld 0)
 |11=>(.bin .eql)
 |_=> .same
def Y5:Nat→EO
 |0=>(.box 39)
 |1=>(.new 39 (.agg #[(.int .i64 0),(.string ⟨#[]⟩),(.int .i64 0),(.int .i64 0),(.int .u64 0),(.int .i64 0),(.int .i64 0),(.int .i64 0),(.int .i64 0),(.int .u64 0),(.int .u64 0),(.slice none 0 0),(.int .i64 0),(.int .i64 0),(.int .i64 0),(.int .i64 0),(.int .i64 0),(.int .i64 0),(.int .u64 0),(.int .u64 0),(.int .u64 0),(.int .i64 0),(.slice none 0 0),(.int .i64 0)]))
 |2=>(.ld true 5)
 |3=>(.call 96)
 |4=>(.st 5)
 |5=>(.ld false 1)
 |6=>(.new 34 (.agg #[(.int .i64 0),(.int .i64 0),(.int .u64 0),(.int .u64 0),(.slice none 0 0)]))
 |7=>(.bsl 34 1 5 #[(.int .i64 0),(.int .i64 0),(.int .u64 0),(.int .u64 0),(.slice none 0 0)] [0])
 |8=>(.app 35 35 34 5 56 (.agg #[(.int .i64 0),(.int .i64 0),(.int .u64 0),(.int .u64 0),(.slice none 0 0)]))
 |9=>(.st 1)
 |10=>(.ld true 24)
 |11=>(.st 24)
 |12=>(.call 94)
 |13=>(.call 97)
 |_=> .ak
def dha:Nat→Value
 |0=>(.slice none 0 0)
 |1=>(.int .i64 0)
 |2=>(.int .i64 1)
 |3=>(.int .i64 (-73))
 |4=>(.bool false)
 |5=>(.tuple #[])
 |6=>(.bool true)
 |_=>undef
def hIa:cE:=⟨a7a,Y5,dha⟩
abbrev Iv (b:Nat) (r:PR) (ev cv:Value):aj:=pt b (.cells (r.cs ev cv).toArray 39 (0,0))
abbrev lwL (l:List (PE×Value)):aj:=bu (fun x=>lwA x.2 x.1.ws) l
end Go.HL.Sr
namespace Go.HL.Sr
open Go.HL Go.HL.Tl Go.Proofs
attribute [local irreducible] aE
def PS:PE:=⟨-76,9,9,0,[]⟩
def spl (i:Nat) (l:List (PE×Value)):List (PE×Value):=List.replicate i (PS,.slice none 0 0)++l.drop i
def a8a:Nat→PO
 |0=>(.fld 10)
 |1=> .lenL
 |2=>(.bin .lss)
 |3=>(.idxL 5)
 |4=>(.fld 4)
 |5=>(.idxL 1)
 |6=>(.bin .add)
 |7=>(.build #[(.int .i64 0),(.int .i64 0),(.int .u64 0),(.int .u64 0),(.slice none 0 0)] [(0,1),(1,1),(2,1),(3,1),(4,1)] [0,1,2])
 |8=>(.build #[(.int .i64 0),(.int .i64 0),(.int .u64 0),(.int .u64 0),(.slice none 0 0)] [(0,1),(1,1),(2,1),(3,1),(4,1)] [0])
 |9=>(.fld 7)
 |10=>(.fld 12)
 |_=> .same
def Y6:Nat→EO
 |0=>(.box 37)
 |1=>(.ld false 1)
 |2=>(.st 1)
 |3=>(.bsl 3 1 1 #[(.int .i64 0)] [0])
 |4=>(.app 32 32 3 1 8 (.int .i64 0))
 |5=>(.st 5)
 |6=>(.bsl 34 1 5 #[(.int .i64 0),(.int .i64 0),(.int .u64 0),(.int .u64 0),(.slice none 0 0)] [0])
 |7=>(.app 35 35 34 5 56 (.agg #[(.int .i64 0),(.int .i64 0),(.int .u64 0),(.int .u64 0),(.slice none 0 0)]))
 |8=>(.box 39)
 |9=>(.ld true 11)
 |10=>(.call 98)
 |_=> .ak
def dia:Nat→Value
 |0=>(.int .i64 0)
 |1=>(.int .i64 (-75))
 |2=>(.int .i64 1)
 |3=>(.int .i64 20)
 |4=>(.int .i64 (-74))
 |5=>(.int .i64 (-76))
 |6=>(.int .i64 9)
 |7=>(.int .u64 9)
 |8=>(.int .i64 (-77))
 |9=>(.int .i64 (-78))
 |_=>undef
def hJa:cE:=⟨a8a,Y6,dia⟩
end Go.HL.Sr
namespace Go.HL.Sr
open Go.HL Go.HL.Tl Go.Proofs
attribute [local irreducible] aE
end Go.HL.Sr
namespace Go.HL.Sr
open Go.HL Go.HL.Tl Go.Proofs Go.Deep
theorem kO {m:Int} (w:(Lit.int .u64 m).wf=true):0≤m∧m≤18446744073709551615:=by
 simpa [Lit.wf,IntKind.min,IntKind.max,IntKind.signed,IntKind.bits] using w
section
variable {H:Type} {enc:TypeId×Value→H} {W:World} {base:Nat} {spare:Nat→Bool} {held:Bool} {fuel:Nat} {cs:List Value} {x:DataW H×List MemPlace}
theorem open_ints (h:DataW.trod enc Tryz.prog W base spare held fuel 32 cs=some x):∃(v:Value) (l:List Int),cs= [v]∧v.oneCell'=true∧Row W (nN W) v l.length 1 (ints l)∧l.length≤Go.Proofs.YtflblkahfegaoaaGreat.Rows.uptoBulk x.1:=by
 obtain ⟨v,l,h1,h2,h3,h4,h5,h6⟩:=ox (α:=Int) (fun x=> [Value.int .i64 x]) 1 (fun _=>True) (fun _=>0) Tryz.underlying32 (by kernel_rfl) (by decide) (fun _=>rfl) (fun n cs x hx=>by
  obtain ⟨m,e,_,_⟩:=DataW.trod_int Tryz.underlying3 hx
  exact ⟨m,e,trivial,Nat.zero_le _⟩) h
 refine ⟨v,l,h1,h2,?_,h5⟩
 have:l.flatMap (fun x=> [Value.int .i64 x])=ints l:=by
  clear h4 h3 h5 h6
  induction l with
  |nil=>rfl
  |cons a l ih=>simp [ints,List.flatMap_cons,ih]
 rw [this] at h4
 exact h4
theorem um (h:DataW.trod enc Tryz.prog W base spare held fuel 34 cs=some x):
  ∃(e:PE) (v:Value),cs=e.cs v∧v.oneCell'=true∧WR W (nN W) v e.ws∧(0≤e.coins∧e.coins<18446744073709551616)∧(0≤e.price∧e.price<18446744073709551616)∧e.ws.length≤Go.Proofs.YtflblkahfegaoaaGreat.Rows.uptoBulk x.1:=by
 obtain ⟨hl,n',hf⟩:=gC Tryz.underlying34 h
 have hl2:cs.length=5:=hl.trans (by kernel_rfl)
 match cs,hl2 with
 | [c0,c1,c2,c3,c4],_=>
  obtain ⟨y0,k0,_⟩:=hf 0 _ rfl
  obtain ⟨y1,k1,_⟩:=hf 1 _ rfl
  obtain ⟨y2,k2,_⟩:=hf 2 _ rfl
  obtain ⟨y3,k3,_⟩:=hf 3 _ rfl
  obtain ⟨y4,k4,b4⟩:=hf 4 _ rfl
  obtain ⟨m0,e0,x0,w0⟩:=DataW.trod_int Tryz.underlying3 k0
  obtain ⟨m1,e1,x1,w1⟩:=DataW.trod_int Tryz.underlying3 k1
  obtain ⟨m2,e2,x2,w2⟩:=DataW.trod_int Tryz.underlying31 k2
  obtain ⟨m3,e3,x3,w3⟩:=DataW.trod_int Tryz.underlying31 k3
  obtain ⟨wv,l,e4,o4,r4,l4⟩:=open_ints k4
  have f0: [c0]= [Value.int .i64 m0]:=e0
  have f1: [c1]= [Value.int .i64 m1]:=e1
  have f2: [c2]= [Value.int .u64 m2]:=e2
  have f3: [c3]= [Value.int .u64 m3]:=e3
  have f4: [c4]= [wv]:=e4
  cases f0;cases f1;cases f2;cases f3;cases f4
  have h2:=kO w2
  have h3:=kO w3
  exact ⟨⟨m0,m1,m2,m3,l⟩,c4,rfl,o4,r4,⟨h2.1,by simp only;omega⟩,⟨h3.1,by simp only;omega⟩,Nat.le_trans l4 b4⟩
theorem HU (hx:Go.Proofs.YtflblkahfegaoaaGreat.Rows.uptoBulk x.1≤1048576) (h:DataW.trod enc Tryz.prog W base spare held fuel 35 cs=some x):
  ∃(v:Value) (l:List (PE×Value)),cs= [v]∧v.oneCell'=true∧CV W (nN W) v (l.map (·.2)) (l.map (·.1))∧l.length≤1048576∧∀y∈l,y.1.ok:=by
 obtain ⟨v,l,h1,h2,h3,h4,h5,h6⟩:=ox (α:=PE×Value) (fun y=>y.1.cs y.2) 5 (fun y=>WR W (nN W) y.2 y.1.ws∧(0≤y.1.coins∧y.1.coins<18446744073709551616)∧(0≤y.1.price∧y.1.price<18446744073709551616)) (fun y=>y.1.ws.length) Tryz.underlying35 (by kernel_rfl) (by decide) (fun _=>rfl) (fun n cs x hx=>by
  obtain ⟨e,v,h1,h2,h3,h4,h5,h6⟩:=um hx
  exact ⟨(e,v),h1,⟨h3,h4,h5⟩,h6⟩) h
 refine ⟨v,l,h1,h2,⟨by simp,?_,fun i h7 h8=> ?_⟩,by omega,fun y hy=> ?_⟩
 ·rw [iZ,List.length_map];exact h4
 ·have hi:i<l.length:=by simpa using h7
  have:=(h3 l[i] (List.getElem_mem hi)).1
  simpa using this
 ·have:=h3 y hy
  exact ⟨this.2.1,this.2.2,by have:=h6 y hy;omega⟩
theorem vt (hx:Go.Proofs.YtflblkahfegaoaaGreat.Rows.uptoBulk x.1≤1048576) (h:DataW.trod enc Tryz.prog W base spare held fuel 37 cs=some x):
  ∃(c:PC) (v:Value) (wvs:List Value),cs=c.cs v∧v.oneCell'=true∧CV W (nN W) v wvs c.es∧c.ok:=by
 obtain ⟨hl,n',hf⟩:=gC Tryz.underlying37 h
 have hl2:cs.length=11:=hl.trans (by kernel_rfl)
 match cs,hl2 with
 | [c0,c1,c2,c3,c4,c5,c6,c7,c8,c9,c10],_=>
  obtain ⟨y0,k0,_⟩:=hf 0 _ rfl
  obtain ⟨y1,k1,_⟩:=hf 1 _ rfl
  obtain ⟨y2,k2,_⟩:=hf 2 _ rfl
  obtain ⟨y3,k3,_⟩:=hf 3 _ rfl
  obtain ⟨y4,k4,_⟩:=hf 4 _ rfl
  obtain ⟨y5,k5,_⟩:=hf 5 _ rfl
  obtain ⟨y6,k6,_⟩:=hf 6 _ rfl
  obtain ⟨y7,k7,_⟩:=hf 7 _ rfl
  obtain ⟨y8,k8,_⟩:=hf 8 _ rfl
  obtain ⟨y9,k9,_⟩:=hf 9 _ rfl
  obtain ⟨y10,k10,b10⟩:=hf 10 _ rfl
  obtain ⟨m0,e0,x0,w0⟩:=DataW.trod_int Tryz.underlying3 k0
  obtain ⟨m1,e1,x1,w1⟩:=DataW.trod_int Tryz.underlying3 k1
  obtain ⟨m2,e2,x2,w2⟩:=DataW.trod_int Tryz.underlying3 k2
  obtain ⟨m3,e3,x3,w3⟩:=DataW.trod_int Tryz.underlying3 k3
  obtain ⟨m4,e4,x4,w4⟩:=DataW.trod_int Tryz.underlying3 k4
  obtain ⟨m5,e5,x5,w5⟩:=DataW.trod_int Tryz.underlying3 k5
  obtain ⟨m6,e6,x6,w6⟩:=DataW.trod_int Tryz.underlying31 k6
  obtain ⟨m7,e7,x7,w7⟩:=DataW.trod_int Tryz.underlying31 k7
  obtain ⟨m8,e8,x8,w8⟩:=DataW.trod_int Tryz.underlying31 k8
  obtain ⟨m9,e9,x9,w9⟩:=DataW.trod_int Tryz.underlying3 k9
  obtain ⟨v,l,e10,wP,r10,l10,p10⟩:=HU (Nat.le_trans b10 hx) k10
  have f0: [c0]= [Value.int .i64 m0]:=e0
  have f1: [c1]= [Value.int .i64 m1]:=e1
  have f2: [c2]= [Value.int .i64 m2]:=e2
  have f3: [c3]= [Value.int .i64 m3]:=e3
  have f4: [c4]= [Value.int .i64 m4]:=e4
  have f5: [c5]= [Value.int .i64 m5]:=e5
  have f6: [c6]= [Value.int .u64 m6]:=e6
  have f7: [c7]= [Value.int .u64 m7]:=e7
  have f8: [c8]= [Value.int .u64 m8]:=e8
  have f9: [c9]= [Value.int .i64 m9]:=e9
  have f10: [c10]= [v]:=e10
  cases f0;cases f1;cases f2;cases f3;cases f4;cases f5;cases f6;cases f7;cases f8;cases f9;cases f10
  have h6:=kO w6
  have h7:=kO w7
  have h8:=kO w8
  refine ⟨⟨m0,m1,m2,m3,m4,m5,m6,m7,m8,m9,l.map (·.1)⟩,c10,l.map (·.2),rfl,wP,r10,⟨⟨h6.1,by simp only;omega⟩,⟨h7.1,by simp only;omega⟩,⟨h8.1,by simp only;omega⟩,by simpa using l10,fun e he=> ?_⟩⟩
  obtain ⟨y,hy,rfl⟩:=List.mem_map.1 he
  exact p10 y hy
end
end Go.HL.Sr
namespace Go.HL.Sr
open Go.HL Go.HL.Tl Go.Proofs Go.Deep
section
variable {H:Type} {enc:TypeId×Value→H} {W:World} {base:Nat} {spare:Nat→Bool} {held:Bool} {fuel:Nat} {cs:List Value} {x:DataW H×List MemPlace}
theorem zG (hx:Go.Proofs.YtflblkahfegaoaaGreat.Rows.uptoBulk x.1≤1048576) (h:DataW.trod enc Tryz.prog W base spare held fuel 39 cs=some x):
  ∃(r:PR) (ev cv:Value) (wvs:List Value),cs=r.cs ev cv∧ev.oneCell'=true∧cv.oneCell'=true∧WR W (nN W) ev r.en.ws∧CV W (nN W) cv wvs r.co.es∧r.ok:=by
 obtain ⟨hl,n',hf⟩:=gC Tryz.underlying39 h
 have hl2:cs.length=24:=hl.trans (by kernel_rfl)
 match cs,hl2 with
 | [c0,c1,c2,c3,c4,c5,c6,d0,d1,d2,d3,d4,g0,g1,g2,g3,g4,g5,g6,g7,g8,g9,g10,c9],_=>
  obtain ⟨y0,k0,_⟩:=hf 0 _ rfl
  obtain ⟨y1,k1,b1⟩:=hf 1 _ rfl
  obtain ⟨y2,k2,_⟩:=hf 2 _ rfl
  obtain ⟨y3,k3,_⟩:=hf 3 _ rfl
  obtain ⟨y4,k4,_⟩:=hf 4 _ rfl
  obtain ⟨y5,k5,_⟩:=hf 5 _ rfl
  obtain ⟨y6,k6,_⟩:=hf 6 _ rfl
  obtain ⟨y7,k7,b7⟩:=hf 7 _ rfl
  obtain ⟨y8,k8,b8⟩:=hf 8 _ rfl
  obtain ⟨y9,k9,_⟩:=hf 9 _ rfl
  obtain ⟨m0,e0,x0,w0⟩:=DataW.trod_int Tryz.underlying3 k0
  obtain ⟨m1,e1,x1,_⟩:=DataW.trod_string Tryz.underlying9 k1
  obtain ⟨m2,e2,x2,w2⟩:=DataW.trod_int Tryz.underlying3 k2
  obtain ⟨m3,e3,x3,w3⟩:=DataW.trod_int Tryz.underlying3 k3
  obtain ⟨m4,e4,x4,w4⟩:=DataW.trod_int Tryz.underlying31 k4
  obtain ⟨m5,e5,x5,w5⟩:=DataW.trod_int Tryz.underlying3 k5
  obtain ⟨m6,e6,x6,w6⟩:=DataW.trod_int Tryz.underlying3 k6
  obtain ⟨en,ev,e7,o7,r7,p7,q7,l7⟩:=um k7
  obtain ⟨co,cv,wvs,e8,o8,r8,p8⟩:=vt (Nat.le_trans b8 hx) k8
  obtain ⟨m9,e9,x9,w9⟩:=DataW.trod_int Tryz.underlying3 k9
  have f0: [c0]= [Value.int .i64 m0]:=e0
  have f1: [c1]= [Value.string m1]:=e1
  have f2: [c2]= [Value.int .i64 m2]:=e2
  have f3: [c3]= [Value.int .i64 m3]:=e3
  have f4: [c4]= [Value.int .u64 m4]:=e4
  have f5: [c5]= [Value.int .i64 m5]:=e5
  have f6: [c6]= [Value.int .i64 m6]:=e6
  have f7: [d0,d1,d2,d3,d4]=en.cs ev:=e7
  have f8: [g0,g1,g2,g3,g4,g5,g6,g7,g8,g9,g10]=co.cs cv:=e8
  have f9: [c9]= [Value.int .i64 m9]:=e9
  have hnm:m1.data.toList.length≤1048576:=by
   rw [x1] at b1
   have:m1.data.toList.length≤Go.Proofs.YtflblkahfegaoaaGreat.Rows.uptoBulk (DataW.lit (H:=H) (.string m1.data.toList)):=by rw [qI];omega
   exact Nat.le_trans (Nat.le_trans this b1) hx
  cases f0;cases f1;cases f2;cases f3;cases f4;cases f5;cases f6;cases f7;cases f8;cases f9
  have h4:=kO w4
  refine ⟨⟨m0,m1.data.toList,m2,m3,m4,m5,m6,en,co,m9⟩,d4,g10,wvs,?_,o7,o8,r7,r8,⟨⟨h4.1,by simp only;omega⟩,hnm,⟨p7,q7,Nat.le_trans l7 (Nat.le_trans b7 hx)⟩,p8⟩⟩
  simp only [PR.cs]
  rw [←ov]
end
end Go.HL.Sr
namespace Go.HL
open Go.HL
def World.fresh (W:World):World:={W with drawn:=0}
theorem St.UY (W:World):St (World.fresh W) (nN W) W:=⟨rfl,rfl,Nat.le_refl _,⟨rfl,Nat.zero_le _⟩,_,fun _ _ h=>h,rfl⟩
theorem St.Z3 {w0 w:World} (s:St (World.fresh w0) (nN w0) w) (may:MemPlace→Prop):w0.keptBut w may:=by
 suffices hk:w0.keptBut w (fun _=>False) from World.keptBut_mono (fun _ f=>f.elim) hk
 refine ⟨s.os,s.out,fun i hi=> ?_⟩
 have h0:w0.heap[i]?=some w0.heap[i]:=by simp [hi]
 rw [s.kL h0,h0]
 generalize w0.heap[i]=o
 cases o<;>simp
theorem St.eVa {w0 w:World} (s:St (World.fresh w0) (nN w0) w) {a:Addr} (h:a.block<w0.heap.size):w.frozen? a=w0.frozen? a:=by
 unfold World.frozen?
 have h0:w0.heap[a.block]?=some w0.heap[a.block]:=by simp [h]
 rw [s.kL h0,h0]
theorem St.P9 {w0 w:World} (s:St (World.fresh w0) (nN w0) w) {p:MemPlace} (hb:p.block<w0.heap.size):w0.sameAt w p:=by
 have h0:w0.heap[p.block]?=some w0.heap[p.block]:=by simp [hb]
 have h1:w.heap[p.block]?=w0.heap[p.block]?:=by rw [s.kL h0,h0]
 cases p with
 |cell b o=>
  simp only [MemPlace.block] at h1
  show w.cell? ⟨b,o,none⟩=w0.cell? ⟨b,o,none⟩
  unfold World.cell?
  simp only [h1]
 |map b=>exact h1
open Go.WideShapes Go.ChangeShapes in
theorem zO {H:Type} {enc:TypeId×Value→H} {P:Program} {f:Func} {s:ChangeSpec} {apart fresh handsOn again:Bool} {W W':World} (hst:St (World.fresh W) (nN W) W') {args:Array Value} {v:Value} {ds gs:List (DataW H)} {before pa pv:List MemPlace}
  (hW:DataW.Whole enc P f.params.toList s.vars apart W args.toList ds gs before)
  (hres:∀(b:Nat) (sp:Nat→Bool) (hd:Bool),DataW.TrodAll enc P W' b sp hd f.resultTypes.toList (v.resultList f.resultTypes.size) (s.fn H (ds++gs)).results [])
  (hargs:∀sp:Nat→Bool,(∀p∈before,sp p.block=true)→DataW.TrodAll enc P W' 0 sp true f.params.toList args.toList (s.fn H (ds++gs)).args pa)
  (hvars:∀sp:Nat→Bool,(∀p∈before,sp p.block=true)→DataW.TrodVars enc P W' sp s.vars (s.fn H (ds++gs)).vars pv)
  (hps:before=pa++pv)
  (hok:∀(j:Nat) (t:TypeId) (r:Value),f.resultTypes[j]?=some t→(v.resultList f.resultTypes.size)[j]?=some r→Value.okWide P W' .any 0 t r):
  s.post enc P f apart fresh handsOn again W args v W':=by
 have hlt:=hW.lt
 have hold:∀p∈before,(fun b=>decide (b<W.heap.size)) p.block=true:=fun p hp=>by simpa using hlt p hp
 refine ⟨ds,gs,before,[],pa,pv,hW,hres _ _ _,hargs _ hold,hvars _ hold,hst.Z3 _,fun _=> ?_⟩
 obtain ⟨_,_,_,_,_,hz,hn⟩:=hW
 refine ⟨hok,_,_,([]++pa)++pv,⟨[]++pa,pv,trodAll_append (hargs _ (fun _ _=>rfl)) (hres _ _ _),hvars _ (fun _ _=>rfl),rfl,?_,?_⟩,?_⟩
 ·intro b off hp
  have hp':MemPlace.cell b off∈before:=by rw [hps];simpa using hp
  rw [hst.eVa (hlt _ hp')]
  exact hz b off hp'
 ·intro ha
  have:=hn ha
  rw [hps] at this
  simpa using this
 ·intro p hp _
  rw [hps]
  simpa using hp
end Go.HL
namespace Go.HL.St1
open Go.HL Go.HL.Tl Go.HL.Sr Go.HL.Es Go.Proofs Go.WideShapes
abbrev Raw:={l:List Value //l.length=24}×Nat
attribute [local irreducible] C5.cs PR.cs
theorem gLa {q:C5→Prop} (rows:List Raw):(∀a∈rows,∃r:C5,a.1.1=r.cs∧q r)→∃rs:List C5,rs.length=rows.length∧rs.flatMap C5.cs=rows.flatMap (fun a=>a.1.1)∧∀r∈rs,q r:=by
 induction rows with
 |nil=>intro _;exact ⟨[],by simp,by simp,fun x hx=>absurd hx List.not_mem_nil⟩
 |cons a t ih=>
  intro h
  obtain ⟨r,h1,h2⟩:=h a (List.mem_cons_self)
  obtain ⟨rs,h3,h4,h5⟩:=ih fun b hb=>h b (List.mem_cons_of_mem _ hb)
  refine ⟨r::rs,by rw [List.length_cons,List.length_cons,h3],by rw [List.flatMap_cons,List.flatMap_cons,h4,h1],fun x hx=> ?_⟩
  rcases List.mem_cons.1 hx with hx|hx
  ·rw [hx];exact h2
  ·exact h5 x hx
attribute [local semireducible] C5.cs PR.cs
theorem zH {H:Type} {enc:TypeId×Value→H} {W:World} {spare:Nat→Bool} {v:Value} {d:DataW H} {ps:List MemPlace} (h:DataW.Trod enc Tryz.prog W 0 spare true 26 v d ps) {base:Nat} (hval:Value.okWide Tryz.prog W .any base 26 v)
  (hb:Go.Proofs.YtflblkahfegaoaaGreat.Rows.uptoBulk d≤1048576):∃rs:List C5,XS W (nN W) v rs:=by
 obtain ⟨va,vl,vc,rfl⟩:=Go.WideShapes.okWide_slice Tryz.underlying26 hval
 obtain ⟨n,h⟩:=h
 obtain ⟨v,rows,h1,h2,h3,h4,h5,h6⟩:=ox (α:=Raw) (fun a=>a.1.1) 24 (fun a=>a.2≤1048576→∃r:C5,a.1.1=r.cs∧(r.r.ok∧WR W (nN W) r.ev r.r.en.ws∧CV W (nN W) r.cv r.wvs r.r.co.es)) (fun a=>a.2) Tryz.underlying26 (by kernel_rfl) (by decide) (fun a=>a.1.2) (fun n cs x hx=>by
  have hl:=(gC Tryz.underlying39 hx).1
  have hl2:cs.length=24:=hl.trans (by kernel_rfl)
  refine ⟨(⟨cs,hl2⟩,Go.Proofs.YtflblkahfegaoaaGreat.Rows.uptoBulk x.1),rfl,fun hle=> ?_,Nat.le_refl _⟩
  obtain ⟨r,ev,cv,wvs,e1,_,_,e2,e3,e4⟩:=zG hle hx
  exact ⟨⟨r,ev,cv,wvs⟩,e1,e4,e2,e3⟩) h
 have h1: [Value.slice va vl vc]= [v]:=by simpa [Value.cells] using h1
 cases h1
 obtain ⟨rs,e1,e2,e3⟩:=gLa rows fun a ha=>h3 a ha (Nat.le_trans (h6 a ha) hb)
 exact ⟨rs,⟨by rw [e1];exact Nat.le_trans h5 hb,by rw [e1,e2];exact h4,e3⟩⟩
theorem Em {H:Type} {enc:TypeId×Value→H} {W:World} {spare:Nat→Bool} {v:Value} {d:DataW H} {ps:List MemPlace} (h:DataW.Trod enc Tryz.prog W 0 spare true 25 v d ps) {base:Nat} (hval:Value.okWide Tryz.prog W .any base 25 v):
  ∃x:St0.SU,v= .agg x.cs.toArray:=by
 obtain ⟨cs,rfl,_⟩:=Go.WideShapes.okWide_struct Tryz.underlying25 hval
 obtain ⟨n,h⟩:=h
 obtain ⟨hl,n',hf⟩:=gC Tryz.underlying25 h
 have hl2:cs.toList.length=12:=hl.trans (by kernel_rfl)
 obtain ⟨l,hcs⟩:∃l,cs.toList=l:=⟨_,rfl⟩
 have e0:cs=l.toArray:=by rw [←hcs]
 subst e0
 match l,hl2 with
 | [c0,c1,c2,c3,c4,c5,c6,c7,c8,c9,c10,c11],_=>
  obtain ⟨y0,k0,_⟩:=hf 0 _ rfl
  obtain ⟨y1,k1,_⟩:=hf 1 _ rfl
  obtain ⟨y2,k2,_⟩:=hf 2 _ rfl
  obtain ⟨y3,k3,_⟩:=hf 3 _ rfl
  obtain ⟨y4,k4,_⟩:=hf 4 _ rfl
  obtain ⟨y5,k5,_⟩:=hf 5 _ rfl
  obtain ⟨y6,k6,_⟩:=hf 6 _ rfl
  obtain ⟨y7,k7,_⟩:=hf 7 _ rfl
  obtain ⟨y8,k8,_⟩:=hf 8 _ rfl
  obtain ⟨y9,k9,_⟩:=hf 9 _ rfl
  obtain ⟨y10,k10,_⟩:=hf 10 _ rfl
  obtain ⟨hl3,n3,hg⟩:=gC Tryz.underlying23 k10
  obtain ⟨z0,k12,_⟩:=hg 0 _ rfl
  obtain ⟨z1,k13,_⟩:=hg 1 _ rfl
  obtain ⟨m0,e0,_,_⟩:=DataW.trod_int Tryz.underlying3 k0
  obtain ⟨m1,e1,_,_⟩:=DataW.trod_int Tryz.underlying3 k1
  obtain ⟨m2,e2,_,_⟩:=DataW.trod_int Tryz.underlying3 k2
  obtain ⟨m3,e3,_,_⟩:=DataW.trod_int Tryz.underlying3 k3
  obtain ⟨m4,e4,_,_⟩:=DataW.trod_int Tryz.underlying3 k4
  obtain ⟨m5,e5,_,_⟩:=DataW.trod_int Tryz.underlying3 k5
  obtain ⟨m6,e6,_,_⟩:=DataW.trod_int Tryz.underlying3 k6
  obtain ⟨m7,e7,_,_⟩:=DataW.trod_int Tryz.underlying3 k7
  obtain ⟨m8,e8,_,_⟩:=DataW.trod_int Tryz.underlying3 k8
  obtain ⟨m9,e9,_,_⟩:=DataW.trod_int Tryz.underlying3 k9
  obtain ⟨m10,e10,_,_⟩:=DataW.trod_int Tryz.underlying3 k12
  obtain ⟨m11,e11,_,_⟩:=DataW.trod_int Tryz.underlying3 k13
  have f0: [c0]= [Value.int .i64 m0]:=e0
  have f1: [c1]= [Value.int .i64 m1]:=e1
  have f2: [c2]= [Value.int .i64 m2]:=e2
  have f3: [c3]= [Value.int .i64 m3]:=e3
  have f4: [c4]= [Value.int .i64 m4]:=e4
  have f5: [c5]= [Value.int .i64 m5]:=e5
  have f6: [c6]= [Value.int .i64 m6]:=e6
  have f7: [c7]= [Value.int .i64 m7]:=e7
  have f8: [c8]= [Value.int .i64 m8]:=e8
  have f9: [c9]= [Value.int .i64 m9]:=e9
  have f10: [c10]= [Value.int .i64 m10]:=e10
  have f11: [c11]= [Value.int .i64 m11]:=e11
  cases f0;cases f1;cases f2;cases f3;cases f4;cases f5;cases f6;cases f7;cases f8;cases f9;cases f10;cases f11
  exact ⟨⟨m0,m1,m2,m3,m4,m5,m6,m7,m8,m9,m10,m11⟩,rfl⟩
theorem lO {W:World} {v:Value} {n size:Nat} {xs:List Value} (h:Row W (nN W) v n size xs):Row (Go.HL.World.fresh W) (nN W) v n size xs:=by
 obtain ⟨hl,a,cap,rfl,hn,h⟩:=h
 refine ⟨hl,a,cap,rfl,hn,?_⟩
 rcases h with h|⟨g,o,rfl,hc⟩
 ·exact .inl h
 ·refine .inr ⟨g,o,rfl,fun w s j u hu=> ?_⟩
  have h0:=hc W (St.start W) j u hu
  have hb:g<W.heap.size:=by
   by_cases hb:g<W.heap.size
   ·exact hb
   ·unfold World.cell? at h0
    have:W.heap[g]?=none:=by simp;omega
    simp [this] at h0
  have h1:w.cell? ⟨g,o+j,none⟩=W.cell? ⟨g,o+j,none⟩:=s.P9 (p:= .cell g (o+j)) hb
  rw [h1];exact h0
theorem XS.fresh {W:World} {v:Value} {rs:List C5} (h:XS W (nN W) v rs):XS (Go.HL.World.fresh W) (nN W) v rs:=
 ⟨h.few,lO h.row,fun x hx=>by
  obtain ⟨h1,h2,h3⟩:=h.each x hx
  exact ⟨h1,lO h2,⟨h3.len,lO h3.row,fun i a b=>lO (h3.each i a b)⟩⟩⟩
end Go.HL.St1
namespace Go.Proofs.YtflblkahfegaoaaGreat.stateRefused
open Go.ChangeShapes Go.WideShapes Go.ChangeAt Go.RowKit Go.WideMaps Go.WideElems
open Go.ChangeMaps (open_string shut_string)
theorem own:ownKnob Tryz.prog.godebug=none:=by kernel_rfl
theorem keeps:Go.HL.BE Tryz.prog [25,23,3,31,9,26,39,37,34,32,35]=true:=by kernel_rfl
set_option maxRecDepth 10000 in
theorem Jb (H:Type) (enc:TypeId×Value→H) (W:World) (base:Nat) (args:Array Value) (ds gs:List (DataW H)) (before:List MemPlace)
  (hval:∀(j:Nat) t v,Tryz.f4.params[j]?=some t→args[j]?=some v→Value.okWide Tryz.prog W .any base t v)
  (hW:DataW.Whole enc Tryz.prog Tryz.f4.params.toList Rows.stateRefusedSpec.vars false W args.toList ds gs before) (hk:Rows.uptoSmall H (ds++gs)=true):
  Calls Tryz.prog 4 args W fun e W'=>∃v,e= .returned v∧Rows.stateRefusedSpec.post enc Tryz.prog Tryz.f4 false true false false W args v W':=by
 have hW':=hW
 have hlt:=hW.lt
 obtain ⟨p,q,hA0,hV,rfl,hfz,hnd⟩:=hW
 have hA:DataW.TrodAll enc Tryz.prog W 0 (fun _=>true) true Tryz.f4.params.toList args.toList ds p:=hA0
 have hA1:=hA
 rw [Tryz.params4] at hA hval
 obtain ⟨v0,vs0,d0,ds0,p0,q0,hargs,rfl,rfl,h0,r0⟩:=trodAll_cons hA
 obtain ⟨v1,vs1,d1,ds1,p1,q1,rfl,rfl,rfl,h1,r1⟩:=trodAll_cons r0
 obtain ⟨rfl,rfl,rfl⟩:=trodAll_nil r1
 obtain rfl:args= #[v0,v1]:=by cases args;simp_all
 obtain ⟨rfl,rfl⟩:=trodVars_none hV
 simp only [List.append_nil,List.nil_append] at hW' hlt hA1
 have hb:=Go.HL.Dm hk
 simp only [List.append_nil,Rows.uptoBulkAll,Go.HL.qI,Go.HL.I3] at hb
 obtain ⟨a0,rfl⟩:=Go.HL.St1.Em h0 (hval 0 25 v0 rfl rfl)
 obtain ⟨a1,ok1⟩:=Go.HL.St1.zH h1 (hval 1 26 v1 rfl rfl) (by omega)
 have hwalk:=Go.HL.St1.zT a0 v1 a1 (Go.HL.World.fresh W) W (Go.HL.nN W) rfl ok1.fresh (Go.HL.St.UY W)
 refine Calls.mono hwalk fun e W' ⟨v,he,hv,hst⟩=> ?_
 subst hv
 refine ⟨_,he,Go.HL.zO hst (pv:= []) hW' (fun _ _ _=>(trodAll_cons_mk (shut_bool Tryz.underlying4 _) trodAll_mk0))
  (fun sp hsp=>Go.HL.pM keeps (by decide) hA1 (fun x hx=>hst.P9 (hlt x hx)) hsp) (fun _ _=>rfl) (by simp)
  (ok_one (by kernel_rfl) rfl (okWide_bool_mk Tryz.underlying4 _))⟩
set_option maxRecDepth 100000 in
theorem lifted (os:Os) (started:os.Started) (H:Type) (enc:TypeId×Value→H) (F:Stop.Interp):
  ReturnsInHanded {} Tryz.checked os 4 .any ((Rows.OpenSpec.upto Rows.stateRefusedSpec).pre6 enc Tryz.prog Tryz.f4 Rows.stateRefusedUptoRow.domain false) (((Rows.OpenSpec.upto Rows.stateRefusedSpec).at F).post enc Tryz.prog Tryz.f4 false true false false):=by
 refine returnsInHanded_of_cond (C:=Tryz.checked) (s:=Rows.OpenSpec.upto Rows.stateRefusedSpec) (k:=Rows.uptoSmall) rfl own started (by kernel_rfl) Tryz.func4
  (OpenSpec.witness (enc:=enc) (C:=Tryz.checked) (s:=Rows.OpenSpec.upto Rows.stateRefusedSpec) (k:=Rows.uptoSmall) rfl false ⟨#[],#[.agg #[.int .i64 0,.int .i64 0,.int .i64 0,.int .i64 0,.int .i64 0,.int .i64 0,.int .i64 0,.int .i64 0,.int .i64 0,.int .i64 0,.int .i64 0,.int .i64 0],.slice none 0 0],[]⟩ 8 (by kernel_rfl) (by kernel_rfl) (by kernel_rfl)
   (x:=([.agg [.lit (.int .i64 0),.lit (.int .i64 0),.lit (.int .i64 0),.lit (.int .i64 0),.lit (.int .i64 0),.lit (.int .i64 0),.lit (.int .i64 0),.lit (.int .i64 0),.lit (.int .i64 0),.lit (.int .i64 0),.agg [.lit (.int .i64 0),.lit (.int .i64 0)]],.nil],[],[])) (by kernel_rfl) rfl (by kernel_rfl)) ?_
 intro W base args ds gs before hval hW _ hk _
 exact Jb H enc W base args ds gs before hval hW hk
theorem QC {a b:Bool} (ha:a=true) (hb:b=true):(a&&b)=true:=by rw [ha,hb];rfl
set_option maxRecDepth 100000 in
set_option maxHeartbeats 4000000 in
theorem closed:joinedFacts Tryz.pinned.checked.prog 4 Tryz.f4 (Rows.OpenSpec.upto Rows.stateRefusedSpec).bare Rows.stateRefusedUptoRow=true:=by
 unfold joinedFacts
 iterate 31 refine QC ?_ ?_
 all_goals as_aux_lemma=>kernel_rfl
theorem inst:Func.isInstance Tryz.pinned.checked.prog Tryz.f4 Rows.stateRefusedUptoRow.origin Rows.stateRefusedUptoRow.targs:=of_decide_eq_true (by kernel_rfl)
theorem wrap:Func.isWrapper Tryz.pinned.checked.prog Tryz.f4 Rows.stateRefusedUptoRow.wrapper Rows.stateRefusedUptoRow.mainSum:=by unfold Func.isWrapper;first|(rw [if_pos (by decide+kernel)];kernel_rfl)|(rw [if_neg (by decide+kernel)];exact ⟨rfl,rfl⟩)
theorem gHa:Rows.stateRefusedUptoRow.holds Tryz.pinned (Rows.OpenSpec.upto Rows.stateRefusedSpec):=
 OpenClaim.holds_of_cond 4 Tryz.f4 rfl rfl rfl rfl rfl rfl rfl ⟨rfl,rfl,rfl,rfl,rfl⟩ rfl rfl rfl rfl rfl (by kernel_rfl) Tryz.func4 closed inst wrap
  (fun os started H enc _ F=>lifted os started H enc F)
theorem proved:Rows.StateRefusedUptoSaid:=
 gHa
end Go.Proofs.YtflblkahfegaoaaGreat.stateRefused
