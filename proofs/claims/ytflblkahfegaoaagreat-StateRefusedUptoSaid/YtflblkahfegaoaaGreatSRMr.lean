/-
  What the claim leans on, part 18 of 20. Conditions: as each theorem says.
-/
import Derived.Test.YtflblkahfegaoaaGreatSRMq
import Derived.Lib.ConvBytes
set_option linter.unusedSimpArgs false
set_option linter.unusedVariables false
set_option maxRecDepth 4000
namespace Go.HL.Tl
open Go.HL Go.Proofs
def bra:Nat→PO
 |0=> .lenL
 |1=>(.bin .eql)
 |2=>(.slL 1 false true true)
 |3=>(.eqNil false (.slice 5) (.slice none 0 0))
 |4=>(.convI .u8)
 |5=>(.convI .u64)
 |_=> .same
def Zp:Nat→EO
 |0=>(.call 231)
 |1=>(.call 230)
 |2=>(.app 52 52 5 1 1 (.int .u8 0))
 |3=>(.bsl 5 0 1 #[] [])
 |4=>(.bsl 5 1 1 #[(.int .u8 0)] [0])
 |5=>(.call 147)
 |6=>(.call 270)
 |_=> .ak
def dBa:Nat→Value
 |0=>(.slice none 0 0)
 |1=>(.int .i64 0)
 |_=>undef
def Gr:cE:=⟨bra,Zp,dBa⟩
def Sl:ag:=⟨[0,2],9,[.slot 1],aM Gr [] 0xb2cb2f0678a26996110415134400544d0000a2f02cbc19da65848005c71b5545134815544d00000585144d2055513400001513400027699612001⟩
theorem MX:ah T0 150 400=some Sl:=by kernel_rfl
def SR:ag:=⟨[0,2],9,[.slot 1],aM Gr [] 0xb2cbc19dc71c6996155145135544d00005544d00004000815145135544d00005544d00004000944d0000513400027699612001⟩
theorem ND:ah T0 230 400=some SR:=by kernel_rfl
def SV:ag:=⟨[0,2],8,[.slot 1],aM Gr [] 0xb2cb2f0678a26996110415144d00110024c3a2f02cbc19da65848005c6d55134000d85134000e7699612001⟩
theorem NF:ah T0 231 400=some SV:=by kernel_rfl
def SP:ag:=⟨[0,1,2,6],21,[.slot 3],aM Gr [] 0x2cb2cb2f06789a6584400d45134024000a771c8a26996110405144d10100025135544d55134020051544d551340200551340202772289a6584410145134404000944d5513401104513401127699612003⟩
theorem NC:ah T0 229 400=some SP:=by kernel_rfl
abbrev je (v:Value) (bs:List UInt8):aj:=own 5 1 v bs.length (aD bs)
abbrev BR (w0:World) (A:aj) (v:Value) (bs:List UInt8):Prop:=Row w0 A v bs.length 1 (aD bs)
def jl (tag:Nat) (v:List UInt8):List UInt8:=UInt8.ofNat tag::(bI v.length++v)
theorem tG (tag:Nat) (v:List UInt8):(jl tag v).length=1+(bI v.length).length+v.length:=by simp [jl];omega
theorem oM {w0 w:World} {A:aj} (s:St w0 A w):St w0 (A*je (.slice none 0 0) []) w:=s.aA 5 1
theorem Fe {w0 w:World} {A:aj} {v:Value} {n:Nat} {xs:List Value} {b:List UInt8} (s:St w0 (A*own 5 1 v n xs) w) (h1:n=b.length) (h2:xs=aD b):St w0 (A*je v b) w:=by
 subst h1 h2;exact s
theorem xQ {w0 w:World} {A:aj} {v:Value} {bs:List UInt8} (s:St w0 (A*je v bs) w):BR w0 (A*je v bs) v bs:=bG s
theorem GC (bs:List UInt8) (v:Value) (w0 w:World) (A:aj) (hl:bs.length≤35184372088832) (s:St w0 (A*je v bs) w):
  ai Tryz.prog 230 [v] (fun r w'=>St w0 (A*je r bs) w') w:=by
 obtain ⟨a,cap,rfl,hcap,hz⟩:=s.aq
 refine az ND (by simp [SR]) ?_
 simp [SR,add_zero]
 exact ⟨hcap,gZ s⟩
theorem nY (bs:List UInt8) (v:Value) (w0 w:World) (A:aj) (hl:bs.length≤35184372088832) (h:BR w0 A v bs) (s:St w0 A w):
  ai Tryz.prog 231 [v] (fun r w'=>St w0 (A*je r bs) w') w:=by
 obtain ⟨a,cap,rfl⟩:=h.val
 refine az NF (by simp [SV]) ?_
 simp [SV]
 refine aJ (fun hc=> ?_) (fun hc=> ?_)
 ·simp at hc
  subst hc
  simp
  have e:bs= []:=by
   obtain ⟨_,_,_,hv,_,hz⟩:=h
   cases hv
   rcases hz with hz|⟨_,_,hz,_⟩
   ·exact List.eq_nil_of_length_eq_zero hz
   ·cases hz
  subst e
  exact oM s
 simp at hc
 simp
 refine ml s fun v1 w1 s1=> ?_
 simp
 refine ff s1 (h.mono fun w s=>s.drop) (eD _) (by decide) rfl (by simp;unfold maxLen;omega) (by simp;omega) fun v2 w2 s2=> ?_
 simp
 exact Fe s2 (by simp) (by simp)
theorem B9 (bs:List UInt8) (v:Value) (w0 w:World) (A:aj) (hl:bs.length≤35184372088832) (h:BR w0 A v bs) (s:St w0 A w):
  ai Tryz.prog 150 [v] (fun r w'=>St w0 (A*je r bs) w') w:=by
 obtain ⟨a,cap,rfl⟩:=h.val
 refine az MX (by simp [Sl]) ?_
 simp [Sl]
 refine aJ (fun hc=> ?_) (fun hc=> ?_)
 ·simp at hc
  simp
  subst hc
  exact oM s
 simp at hc
 simp
 refine ab ((nY bs (.slice a bs.length cap) w0 w A hl h s).mono ?_)
 intro r w1 s1
 simp
 refine ab ((GC bs r w0 w1 A hl s1).mono ?_)
 intro r w2 s2
 simp
 exact s2
theorem DJ (b bs:List UInt8) (v vb:Value) (tag:Int) (w0 w:World) (A:aj) (ht:0≤tag∧tag<256) (hb:b.length≤35184372088832) (hl:bs.length≤35184372088832) (h:BR w0 A v bs) (s:St w0 (A*je vb b) w):
  ai Tryz.prog 229 [vb,.int .i64 tag,v] (fun r w'=>St w0 (A*je r (b++jl tag.toNat bs)) w') w:=by
 obtain ⟨a,cap,rfl⟩:=h.val
 refine az NC (by simp [SP]) ?_
 simp [SP]
 rw [CN _ (by omega)]
 refine bU s rfl fun c w2 s2=> ?_
 simp
 rw [PM ht] at s2
 refine bh (m:=1) (news:=aD [UInt8.ofNat tag.toNat]) s2.swap rfl (by simpa using s2.aF) (eD _) (by decide) rfl (by unfold maxLen;omega) (by omega) fun v3 w3 s3=> ?_
 simp
 rw [qD _ (by omega)]
 have s3:St w0 (A*je v3 (b++ [UInt8.ofNat tag.toNat])) w3:=by
  have:=s3.swap.drop
  simpa [je,fw] using this
 have hs:=dN bs.length
 refine ab ((ja bs.length w0 w3 _ (by omega) s3).mono ?_)
 intro r w4 s4
 simp at s4⊢
 have r4:Row w0 (A*je v3 (b++ [UInt8.ofNat tag.toNat])*je r (bI bs.length)) r (bI bs.length).length 1 (aD (bI bs.length)):=bG s4
 refine ff s4.swap (r4.mono fun w s=>s.swap) (eD _) (by decide) rfl (by simp;unfold maxLen;omega) (by simp;omega) fun v5 w5 s5=> ?_
 simp
 refine ff s5 (h.mono fun w s=>s.drop.drop) (eD _) (by decide) rfl (by simp;unfold maxLen;omega) (by simp;omega) fun v6 w6 s6=> ?_
 simp
 have e:b++jl tag.toNat bs=b++ [UInt8.ofNat tag.toNat]++bI bs.length++bs:=by simp [jl]
 rw [e]
 exact Fe s6.swap.drop (by simp;try omega) (by simp [aD])
def Cp (v:Value) (bs:List UInt8):aj:=fun h=>∃g c t f cap,v= .slice (some ⟨g,0,none⟩) bs.length cap∧bs.length≤cap∧c.toList.take bs.length=aD bs∧pt g (.cells c t f) h
theorem xk {w0 w:World} {A:aj} {v:Value} {bs:List UInt8} (s:St w0 (A*Cp v bs) w):∃g c t f cap,v= .slice (some ⟨g,0,none⟩) bs.length cap∧bs.length≤cap∧c.toList.take bs.length=aD bs∧St w0 (A*pt g (.cells c t f)) w:=by
 obtain ⟨h,h1,h2,h3,d,e,a,g,c,t,f,cap,hv,hc,ht,b⟩:=s.holds
 exact ⟨g,c,t,f,cap,hv,hc,ht,s.of ⟨h,h1,h2,h3,d,e,a,b⟩⟩
theorem KJ {w0 w:World} {A:aj} {v:Value} {bs:List UInt8} (s:St w0 (A*Cp v bs) w):BR w0 (A*Cp v bs) v bs:=by
 obtain ⟨g,c,t,f,cap,rfl,hc,_,_⟩:=xk s
 refine ⟨by simp [sU],_,_,rfl,hc,.inr ⟨g,0,rfl,fun w s j u hu=> ?_⟩⟩
 obtain ⟨g',c',t',f',cap',hv,_,ht,s'⟩:=xk s
 cases hv
 rw [Nat.zero_add,cell_of s'.look,←Array.getElem?_toList]
 rw [←ht,List.getElem?_take] at hu
 split at hu
 ·exact hu
 ·cases hu
theorem St.aba {w0 w w':World} {F:aj} {o:Obj} (s:St w0 F w) (hn:w'.heap[w.heap.size]?=some o) (ho:∀b,b<w.heap.size→w'.heap[b]?=w.heap[b]?) (hz:w.heap.size≤w'.heap.size)
  (hos:w'.os=w.os) (hout:w'.output=w.output) (hrun:w'.tape=w.tape∧w.drawn≤w'.drawn):St w0 (F*pt w.heap.size o) w':=by
 refine ⟨hos.trans s.os,hout.trans s.out,Nat.le_trans s.size hz,⟨hrun.1.trans s.ran.1,Nat.le_trans s.ran.2 hrun.2⟩,?_⟩
 obtain ⟨g,h1,h2⟩:=s.holds
 have lt:∀b o',g b=some o'→b<w.heap.size:=fun b o' h=>by
  have h3:w.heap[b]?=some o':=h1 _ _ h
  exact (Array.getElem?_eq_some_iff.1 h3).1
 have hgn:g w.heap.size=none:=by
  cases hh:g w.heap.size with
  |none=>rfl
  |some o'=>exact absurd (lt _ _ hh) (Nat.lt_irrefl _)
 refine ⟨Hp.un g (fun b=>if b=w.heap.size then some o else none),fun b o' hb=> ?_,g,_,fun b=> ?_,rfl,h2,?_,?_⟩
 ·show w'.heap[b]?=some o'
  simp only [Hp.un] at hb
  cases hg:g b with
  |none=>
   rw [hg] at hb
   by_cases e:b=w.heap.size
   ·subst e;simp only [if_true] at hb;rw [hn];exact hb
   ·simp only [e,if_false] at hb;cases hb
  |some o''=>
   rw [hg] at hb;cases hb
   rw [ho b (lt _ _ hg)]
   exact h1 _ _ hg
 ·by_cases e:b=w.heap.size
  ·subst e;exact .inl hgn
  ·right;simp [e]
 ·simp
 ·intro c hc;simp [hc]
theorem L8 {P:Program} {K:Value→World→Prop} {w0 w:World} {F:aj} {src dst e:Nat} {u:TypeDesc} {bs:List UInt8} (hs:P.underlying src=some u) (hd:P.underlying dst=some (.slice e)) (he:P.underlying e=some (.int .u8)) (hl:bs.length≤35184372088832) (s:St w0 F w)
  (hk:∀v w',St w0 (F*Cp v bs) w'→K v w'):aE P (.cnv src dst) [.string (mk bs)] K w:=by
 intro _
 have hn:(mk bs).size=bs.length:=by show bs.toArray.size=bs.length;exact List.size_toArray
 have hge:=grownCap_ge w (mk bs).size 0 e
 refine aI (w':=Lib.bytesWorld w e (mk bs)) (Lib.run_convert_string_bytes w src dst e (mk bs) hs hd he) (hk _ _ ?_)
 have s1:=St.aba (w':=Lib.bytesWorld w e (mk bs)) s (Lib.bytesWorld_at_new w e (mk bs)) (fun b hb=>Lib.bytesWorld_at_old w e (mk bs) b hb) (by rw [Lib.bytesWorld_size];omega) rfl rfl ⟨rfl,Nat.le_succ _⟩
 refine s1.mono (gb (fun _ h=>h) fun h hh=>⟨_,_,_,_,_,by rw [hn],by rw [←hn];exact hge,?_,hh⟩)
 have e1:(Lib.bytesCells w e (mk bs)).toList=aD bs++List.replicate (grownCap w (mk bs).size 0 e -(mk bs).size) (.int .u8 0):=by
  have e0:(mk bs).data.toList=bs:=by show bs.toArray.toList=bs;simp
  simp only [Lib.bytesCells,Array.toList_append,Array.toList_map,Array.toList_replicate,e0,aD]
 rw [e1]
 exact List.take_left' (sU bs)
end Go.HL.Tl
namespace Go.HL.Tl
open Go.HL Go.Proofs
structure Wr where
 b:List UInt8
 last:Int
 e:Int
structure Wr.ok (W:Wr):Prop where
 last:0≤W.last
 len:W.b.length≤1048576
def Wr.new:Wr:=⟨[],0,0⟩
theorem Wr.eE:Wr.new.ok:=⟨Int.le_refl 0,by decide⟩
def bq (W:Wr) (tag:Int) (v:List UInt8):Wr:=
 if W.e≠0∨v= [] then W
 else if tag≤W.last∨255<tag then {W with e:=21}
 else if 1048576<W.b.length+(jl tag.toNat v).length then {W with e:=3}
 else ⟨W.b++jl tag.toNat v,tag,0⟩
theorem fZ {W:Wr} (h:W.ok) (tag:Int) (v:List UInt8):(bq W tag v).ok:=by
 unfold bq
 have h1:=h.last
 have h2:=h.len
 split
 ·exact h
 split
 ·exact ⟨h1,h2⟩
 split
 ·exact ⟨h1,h2⟩
 ·rename_i a b c
  exact ⟨by simp only;omega,by simp only [List.length_append];omega⟩
abbrev Qr (t p:Nat) (v:Value) (W:Wr):aj:=pt p (.cells #[v,.int .i64 W.last,.int .i64 W.e] t (0,0))
def gm (t p:Nat) (W:Wr):aj:=fun h=>∃v,(Qr t p v W*je v W.b) h
theorem Qq {w0 w:World} {A:aj} {t p:Nat} {W:Wr} (h:St w0 (A*gm t p W) w):∃v,St w0 (A*Qr t p v W*je v W.b) w:=by
 obtain ⟨g,h1,h2,h3,d,e,a,v,b⟩:=h.holds
 exact ⟨v,by rw [ao];exact h.of ⟨g,h1,h2,h3,d,e,a,b⟩⟩
theorem Ah {w0 w:World} {A:aj} {t p:Nat} {v:Value} {W:Wr} (h:St w0 (A*Qr t p v W*je v W.b) w):St w0 (A*gm t p W) w:=by
 rw [ao] at h
 exact h.mono (gb (fun _ h=>h) fun h hh=>⟨v,hh⟩)
theorem Ai {w0 w:World} {A:aj} {t p:Nat} {v:Value} {W:Wr} (h:St w0 (A*je v W.b*Qr t p v W) w):St w0 (A*gm t p W) w:=Ah h.swap
def bsa:Nat→PO
 |0=>(.eqNil false (.pointer 266) (.pointer none))
 |1=> .chkp
 |2=>(.fld 2)
 |3=>(.bin .neq)
 |4=> .lenL
 |5=>(.bin .eql)
 |6=>(.bin .lss)
 |7=>(.bin .gtr)
 |8=>(.fld 1)
 |9=>(.bin .leq)
 |10=>(.fld 0)
 |11=>(.bin .add)
 |12=>(.eqNil false (.pointer 133) (.pointer none))
 |13=>(.convI .u64)
 |_=> .same
def Zq:Nat→EO
 |0=>(.ld false 1)
 |1=>(.st 1)
 |2=>(.call 350)
 |3=>(.app 52 52 5 1 1 (.int .u8 0))
 |4=>(.call 147)
 |5=>(.call 229)
 |_=> .ak
def dCa:Nat→Value
 |0=>(.tuple #[])
 |1=>(.int .i64 0)
 |2=>(.bool true)
 |3=>(.int .i64 1)
 |4=>(.int .i64 255)
 |5=>(.int .i64 21)
 |6=>(.int .i64 1048576)
 |7=>(.int .i64 3)
 |_=>undef
def cpa:cE:=⟨bsa,Zq,dCa⟩
def Sh:ag:=⟨[0,1,2],66,[],aM cpa [] 0xb2cb2771c8a271c89c7226985144d00555135544d00012010544d55134000480544d00015144d10555135544d00012810544d551340004a0544d00015145134024014401544d55135544d00012810144d551340004a0544d0001aaf02cbc19dc7226985144d21d55135544d00010815135544d00010944d000171c89c71c72271c71c71b5545134865545135544d00845545135544d10445545134835544d10042c12c12c11d85144d21955144d55134021155144d55134411155144d20d551344010b04b04b0475144d55134021155144d55134411155144d20d551344010b04b04b0544d00845144d55134411155144d20d551344010b04b0544d10445135544d551340210d0445135544d00843415134021145134835544d10042c15134401144d55135544d00012810144d551340004a0544d0001168bc0b2f06771c89a6145134855544d55134000420544d551340004251340005c72272375f6d75545134844011d20910584415144d21100474415545134404012415144d10100490544d55135544d00012010144d55134000480544d0001a2f02f05c8dd7647df6d209848244089c7e375d7db5d55144d20555134021054824426110945134815544d00841510944d00844425545134814410d10145134814410d44d64805544d55134000424400110144d5513400042440513400051015513400301513400301⟩
theorem MT:ah T0 146 400=some Sh:=by kernel_rfl
theorem eH (p:Nat) (W:Wr) (tag:Int) (bs:List UInt8) (v:Value) (w0 w:World) (A:aj) (hW:W.ok) (hl:bs.length≤35184372088832) (h:BR w0 A v bs) (s:St w0 (A*gm 133 p W) w):
  ai Tryz.prog 146 [.pointer (some ⟨p,0,none⟩),.int .i64 tag,v] (fun r w'=>St w0 (A*gm 133 p (bq W tag bs)) w') w:=by
 have h1:=hW.last
 have h2:=hW.len
 obtain ⟨a,cap,rfl⟩:=h.val
 obtain ⟨vb,s1⟩:=Qq s
 obtain ⟨ba,bcap,rfl,hbc,_⟩:=s1.aq
 refine az MT (by simp [Sh]) ?_
 simp [Sh]
 refine ad (v:= .int .i64 W.e) ((cell_of s1.drop.look).trans rfl) ?_
 simp
 refine ⟨by omega,?_⟩
 refine aJ (fun c1=> ?_) (fun c1=> ?_)
 ·simp at c1
  simp
  have e:bq W tag bs=W:=by unfold bq;rw [if_pos c1]
  rw [e]
  exact s
 simp at c1
 simp
 have bad:(tag≤W.last∨255<tag)→bq W tag bs={W with e:=21}:=fun h=>by
  unfold bq;rw [if_neg (by simp [c1]),if_pos h]
 have long:¬(tag≤W.last∨255<tag)→1048576<W.b.length+(jl tag.toNat bs).length→bq W tag bs={W with e:=3}:=fun h h2=>by
  unfold bq;rw [if_neg (by simp [c1]),if_neg h,if_pos h2]
 have good:¬(tag≤W.last∨255<tag)→¬1048576<W.b.length+(jl tag.toNat bs).length→bq W tag bs=⟨W.b++jl tag.toNat bs,tag,0⟩:=fun h h2=>by
  unfold bq;rw [if_neg (by simp [c1]),if_neg h,if_neg h2]
 have hfl:=tG tag.toNat bs
 have hsl:=dN bs.length
 refine ad (v:= .int .i64 W.last) ((cell_of s1.drop.look).trans rfl) ?_
 simp
 refine aJ (fun c2=> ?_) (fun c2=> ?_)
 ·simp at c2
  simp
  refine aN s1.swap rfl (by simp) fun w2 s2=> ?_
  simp at s2⊢
  rw [bad c2]
  exact Ai (W:={W with e:=21}) s2
 simp at c2
 simp
 have c2':¬(tag≤W.last∨255<tag):=by omega
 obtain ⟨D,hD⟩:∃D,A*Qr 133 p (.slice ba W.b.length bcap) W*je (.slice ba W.b.length bcap) W.b=D:=⟨_,rfl⟩
 rw [hD] at s1
 have lk:∀{Z:aj} {w:World},St w0 (D*Z) w→w.cell? ⟨p,0,none⟩=some (.slice ba W.b.length bcap):=fun h=>by
  have h:=h.drop;rw [←hD] at h;exact (cell_of h.drop.look).trans rfl
 refine QJ (fun vs w=>match vs with
  | []=>St w0 (D*emp) w
  | [r]=>St w0 (D*je r (bI bs.length)) w
  |_=>False) (by rw [al];exact s1.drew) ?_
 simp
 refine an (v:= .slice ba W.b.length bcap) (fun vs' w he hw=> ?_) ?_
 ·match vs',hw with
  | [],hw=>exact lk hw
  | [_],hw=>exact lk hw
 simp
 rw [qD _ (by omega)]
 refine bm rfl (fun w hw=>ab ((ja bs.length w0 w (D*emp) (by omega) hw).mono fun r w' h=> ?_)) (fun r hr=> ?_)
 ·simp only [List.nil_append];rw [al] at h;exact h
 obtain ⟨w9,hr⟩:=hr
 obtain ⟨ra,rcap,rfl,_,_⟩:=St.aq hr
 have w1:IntKind.i64.wrap ((W.b.length:Int)+1)=(W.b.length:Int)+1:=wrap64 (by omega) (by omega)
 have w2:IntKind.i64.wrap ((W.b.length:Int)+1+(bI bs.length).length)=(W.b.length:Int)+1+(bI bs.length).length:=wrap64 (by omega) (by omega)
 have w3:IntKind.i64.wrap ((W.b.length:Int)+1+(bI bs.length).length+bs.length)=(W.b.length:Int)+1+(bI bs.length).length+bs.length:=wrap64 (by omega) (by omega)
 simp [w1,w2,w3]
 intro w4 s4
 refine aJ (fun c3=> ?_) (fun c3=> ?_)
 ·simp at c3
  simp
  have s5:St w0 (A*je (.slice ba W.b.length bcap) W.b*Qr 133 p (.slice ba W.b.length bcap) W) w4:=by
   have:=St.drop s4;rw [←hD] at this;exact this.swap
  refine aN s5 rfl (by simp) fun w5 s6=> ?_
  simp at s6⊢
  rw [long c2' (by omega)]
  exact Ai (W:={W with e:=3}) s6
 simp at c3
 simp
 rw [good c2' (by omega)]
 have s5:St w0 (A*Qr 133 p (.slice ba W.b.length bcap) W*je (.slice ba W.b.length bcap) W.b) w4:=by
  have:=St.drop s4;rw [←hD] at this;exact this
 refine ad (v:= .slice ba W.b.length bcap) ((cell_of s5.drop.look).trans rfl) ?_
 simp
 refine ab ((DJ W.b bs _ _ tag w0 w4 _ (by omega) (by omega) hl (h.mono fun w s=>s.drop) s5).mono ?_)
 intro r w5 s6
 obtain ⟨na,ncap,rfl,_,_⟩:=s6.aq
 simp
 refine aN s6.swap rfl (by simp) fun w6 s7=> ?_
 simp at s7⊢
 refine aN s7 rfl (by simp) fun w7 s8=> ?_
 simp at s8⊢
 rw [c1.1] at s8
 exact Ai (W:=⟨W.b++jl tag.toNat bs,tag,0⟩) (by simpa using s8)
end Go.HL.Tl
namespace Go.HL.Tl
open Go.HL Go.Proofs
def bta:Nat→PO
 |0=>(.bin .neq)
 |1=>(.eqNil false (.pointer 133) (.pointer none))
 |2=> .chkp
 |3=>(.fld 2)
 |4=>(.ext 0)
 |5=>(.ext 1)
 |6=>(.fld 0)
 |7=>(.bin .gtr)
 |8=>(.eqNil false (.pointer 266) (.pointer none))
 |_=> .same
def Zr:Nat→EO
 |0=>(.call 147)
 |1=>(.call 146)
 |2=>(.cnv 9 52)
 |3=>(.ld false 1)
 |4=>(.call 81)
 |5=>(.st 1)
 |6=>(.call 150)
 |7=>(.call 270)
 |8=>(.call 269)
 |9=>(.call 271)
 |_=> .ak
def dDa:Nat→Value
 |0=>(.int .u64 0)
 |1=>(.tuple #[])
 |2=>(.int .i64 0)
 |3=>(.bool true)
 |4=>(.slice none 0 0)
 |5=>(.int .i64 1)
 |_=>undef
def K1:cE:=⟨bta,Zr,dDa⟩
def l78:ag:=⟨[0,1,2],13,[],aM K1 [] 0xa2f0278a26985145134404014000544d008071b5545134804020185144d2010080⟩
theorem TY:ah T0 78 400=some l78:=by kernel_rfl
def l80:ag:=⟨[0,1,2],11,[],aM K1 [] 0x278a26985145134404014000544d0082⟩
theorem T3:ah T0 80 400=some l80:=by kernel_rfl
def l81:ag:=⟨[0,2,3],20,[.slot 1,.slot 2],aM K1 [] 0x2cb2cb2f06771c8a26996584820910415134401944d55135544d00021835135544d00021944d0002a2f02cbc1a5c7226996584400921015135544d55134000830d44d551340008351340008171c89c6d55144d20910006145134824400144d55135544d00020c35135544d00020d44d0002a2f02cbc19da65961214248405c6d5513400058513400067699658482092101⟩
theorem T4:ah T0 81 400=some l81:=by kernel_rfl
def mF (W:Wr) (tag n:Int):Wr:=if n=0 then W else bq W tag (bI n.toNat)
theorem iG {W:Wr} (h:W.ok) (tag n:Int):(mF W tag n).ok:=by
 unfold mF;split
 ·exact h
 ·exact fZ h _ _
theorem dD (p:Nat) (W:Wr) (tag n:Int) (w0 w:World) (A:aj) (hW:W.ok) (hn:0≤n∧n<18446744073709551616) (s:St w0 (A*gm 133 p W) w):
  ai Tryz.prog 78 [.pointer (some ⟨p,0,none⟩),.int .i64 tag,.int .u64 n] (fun r w'=>St w0 (A*gm 133 p (mF W tag n)) w') w:=by
 refine az TY (by simp [l78]) ?_
 simp [l78]
 refine aJ (fun c=> ?_) (fun c=> ?_)
 ·simp at c
  simp
  refine ab ((ja n w0 w _ hn s).mono fun r w1 s1=> ?_)
  simp
  have hs:=dN n.toNat
  refine ab ((eH p W tag (bI n.toNat) r w0 w1 (A*je r (bI n.toNat)) hW (by omega) (xQ s1.swap.drop) s1.swap).mono fun r2 w2 s2=> ?_)
  simp
  have e:mF W tag n=bq W tag (bI n.toNat):=if_neg c
  rw [e]
  exact s2.swap.drop
 ·simp at c
  simp
  have e:mF W tag n=W:=if_pos c
  rw [e]
  exact s
theorem GO (p:Nat) (W:Wr) (tag:Int) (bs:List UInt8) (w0 w:World) (A:aj) (hW:W.ok) (hl:bs.length≤35184372088832) (s:St w0 (A*gm 133 p W) w):
  ai Tryz.prog 80 [.pointer (some ⟨p,0,none⟩),.int .i64 tag,.string (mk bs)] (fun r w'=>St w0 (A*gm 133 p (bq W tag bs)) w') w:=by
 refine az T3 (by simp [l80]) ?_
 simp [l80]
 refine L8 Tryz.underlying9 Tryz.underlying52 Tryz.underlying5 hl s fun v w1 s1=> ?_
 simp
 refine ab ((eH p W tag bs v w0 w1 (A*Cp v bs) hW hl (KJ s1.swap.drop) s1.swap).mono fun r2 w2 s2=> ?_)
 simp
 exact s2.swap.drop
theorem vw (p:Nat) (W:Wr) (w0 w:World) (A:aj) (hW:W.ok) (s:St w0 (A*gm 133 p W) w):
  ai Tryz.prog 81 [.pointer (some ⟨p,0,none⟩)] (fun r w'=>(W.e≠0∧r= .tuple #[.slice none 0 0,.int .i64 W.e]∧St w0 (A*gm 133 p W) w')∨
   (W.e=0∧∃v,r= .tuple #[v,.int .i64 0]∧St w0 (A*gm 133 p W*je v W.b) w')) w:=by
 have h2:=hW.len
 obtain ⟨vb,s1⟩:=Qq s
 refine az T4 (by simp [l81]) ?_
 simp [l81]
 refine ad (v:= .int .i64 W.e) ((cell_of s1.drop.look).trans rfl) ?_
 simp
 refine aJ (fun c=> ?_) (fun c=> ?_)
 ·simp at c
  simp
  refine Kz s1 ?_
  simp
  refine aU (v:= .int .i64 W.e) (fun w s=>(cell_of s.drop.look).trans rfl) ?_
  simp
  intro w2 s2
  exact .inl ⟨c,Ah s2⟩
 ·simp at c
  simp
  refine ad (v:=vb) ((cell_of s1.drop.look).trans rfl) ?_
  simp
  refine ab ((B9 W.b vb w0 w _ (by omega) (xQ s1) s1).mono fun r w2 s2=> ?_)
  simp [c]
  exact (Ah (s2.to (B:=A*je r W.b*Qr 133 p vb W*je vb W.b) (by ac_rfl))).swap
def bTa (W:Wr) (tag:Int) (V:Wr):Wr:=if W.e≠0 then W else if V.e≠0 then {W with e:=V.e} else bq W tag V.b
end Go.HL.Tl
namespace Go.HL.Tl
open Go.HL Go.Proofs
def bua:Nat→PO
 |0=> .lenL
 |1=>(.bin .lss)
 |2=>(.idxL 1)
 |3=>(.convI .u64)
 |4=>(.bin .add)
 |_=> .same
def Zs:Nat→EO
 |0=>(.call 152)
 |1=>(.call 146)
 |2=>(.call 273)
 |3=>(.call 269)
 |4=>(.ld false 1)
 |5=>(.call 147)
 |6=>(.app 52 52 5 1 1 (.int .u8 0))
 |7=>(.call 150)
 |8=>(.call 270)
 |_=> .ak
def dEa:Nat→Value
 |0=>(.slice none 0 0)
 |1=>(.int .i64 0)
 |2=>(.int .i64 1)
 |_=>undef
def Qn:cE:=⟨bua,Zs,dEa⟩
def l84:ag:=⟨[0,1,2],11,[],aM Qn [] 0x278a26985145134404014000544d0080⟩
theorem T7:ah T0 84 400=some l84:=by kernel_rfl
def Sn:ag:=⟨[0,2,3,5,6,7,8],24,[.slot 1],aM Qn [] 0x2cb2cb2cbc19e26996110015134021edbacb2771a6585545134824061065144d2090184b6cb2789a6584400945134034021a771c8a26996110425144d10100865135544d55134030031544d55134030035134030277226996110035135545134064040845144d0190102068bc2bc071b5545134054060585144d015018102771a6596584811955134000054001144d00009da6584800a7699612001⟩
theorem MZ:ah T0 152 400=some Sn:=by kernel_rfl
def gi:List Value→List (List UInt8)→aj
 | [],[]=>emp
 |v::vs,l::L=>je v l*gi vs L
 |_,_=>fun _=>False
theorem AK (v:Value) (l:List UInt8) (vs:List Value) (L:List (List UInt8)):gi (v::vs) (l::L)=je v l*gi vs L:=rfl
theorem sP (v:Value) (l:List UInt8):∀(vs:List Value) (L:List (List UInt8)),vs.length=L.length→gi (vs++ [v]) (L++ [l])=gi vs L*je v l:=by
 intro vs
 induction vs with
 |nil=>
  intro L h
  cases L with
  |nil=>exact (al _).trans (dX _).symm
  |cons _ _=>simp at h
 |cons u vs ih=>
  intro L h
  cases L with
  |nil=>simp at h
  |cons m L=>
   have e:=ih L (by simpa using h)
   have h1:gi (u::vs++ [v]) (m::L++ [l])=je u m*gi (vs++ [v]) (L++ [l]):=rfl
   rw [h1,e,AK,ao]
theorem QK:∀(vs:List Value) (L:List (List UInt8)) (i:Nat) (h1:i<vs.length) (h2:i<L.length),∃R,gi vs L=R*je vs[i] L[i]:=by
 intro vs
 induction vs with
 |nil=>intro L i h1;simp at h1
 |cons v vs ih=>
  intro L i h1 h2
  cases L with
  |nil=>simp at h2
  |cons l L=>
   cases i with
   |zero=>exact ⟨gi vs L,iq _ _⟩
   |succ i=>
    obtain ⟨R,hR⟩:=ih L i (by simpa using h1) (by simpa using h2)
    refine ⟨je v l*R,?_⟩
    have h3:(v::vs)[i+1]=vs[i]'(by simpa using h1):=rfl
    have h4:(l::L)[i+1]=L[i]'(by simpa using h2):=rfl
    rw [AK,hR,h3,h4,ao]
theorem LM {w0 w:World} {A:aj} {vs:List Value} {L:List (List UInt8)} {i:Nat} (h1:i<vs.length) (h2:i<L.length) (s:St w0 (A*gi vs L) w):BR w0 (A*gi vs L) vs[i] L[i]:=by
 obtain ⟨R,hR⟩:=QK vs L i h1 h2
 exact EE (e:=5) (B:=A*R) s (by rw [hR,ao])
def bS (L:List (List UInt8)):List UInt8:=L.flatMap fun l=>bI l.length++l
theorem D9 (L:List (List UInt8)) (l:List UInt8):bS (L++ [l])=bS L++(bI l.length++l):=by simp [bS]
theorem ot {L:List (List UInt8)} {i:Nat} (h:i<L.length):bS (L.take (i+1))=bS (L.take i)++(bI L[i].length++L[i]):=by
 rw [List.take_succ_eq_append_getElem h,D9]
theorem HG (L:List (List UInt8)) (i:Nat):(bS (L.take i)).length≤(bS L).length:=by
 have:bS L=bS (L.take i)++bS (L.drop i):=by
  simp only [bS];rw [←List.flatMap_append,List.take_append_drop]
 rw [this];simp
theorem HF {L:List (List UInt8)} {i:Nat} (h:i<L.length):(bS (L.take i)).length+((bI L[i].length).length+L[i].length)≤(bS L).length:=by
 have:=HG L (i+1)
 rw [ot h] at this
 simp at this
 omega
theorem GK (vs:List Value) (L:List (List UInt8)) (v:Value) (w0 w:World) (A:aj) (hn:vs.length=L.length) (hL:L.length≤35184372088832) (hl:(bS L).length≤35184372088832) (hr:Row w0 A v L.length 1 vs) (s:St w0 (A*gi vs L) w):
  ai Tryz.prog 152 [v] (fun r w'=>St w0 (A*gi vs L*je r (bS L)) w') w:=by
 obtain ⟨a,cap,rfl⟩:=hr.val
 refine az MZ (by simp [Sn]) ?_
 simp [Sn]
 refine dR (fun env w'=>∃(i:Nat) (bv o3:Value),env= [.slice a L.length cap,.slice none 0 0,bv,o3,.slice a L.length cap,.int .i64 L.length,.int .i64 i]∧i≤L.length∧St w0 (A*gi vs L*je bv (bS (L.take i))) w')
  (fun env _=>L.length -au env 6) ⟨0,_,_,rfl,by omega,oM s⟩ ?_
 clear s
 rintro LQ env w' ⟨i,bv,o3,rfl,hi,s1⟩ hN hX hR
 simp
 refine aJ (fun hc=> ?_) (fun hc=> ?_)
 ·simp at hc
  have hv:i<vs.length:=by omega
  obtain ⟨g,o,cap',hvv,hcell⟩:=hr.at (by omega)
  cases hvv
  simp [hc]
  refine ad (v:=vs[i]) (hcell w' s1.drop.drop i _ (by simp [hv])) ?_
  simp
  have rowi:=LM hv hc s1.drop
  obtain ⟨ia,icap,hvi⟩:=rowi.val
  rw [hvi] at rowi⊢
  have hbig:=HF hc
  have hsl:=dN L[i].length
  simp
  rw [qD _ (by omega)]
  refine ab ((ja L[i].length w0 w' _ (by omega) s1).mono fun r w2 s2=> ?_)
  simp at s2⊢
  have r2:=bG s2
  refine ff s2.swap (r2.mono fun w s=>s.swap) (eD _) (by decide) rfl (by unfold maxLen;omega) (by omega) fun v3 w3 s3=> ?_
  have s3:=Fe (b:=bS (L.take i)++bI L[i].length) s3 (by simp) (by simp [aD])
  simp
  refine ff s3 (rowi.mono fun w s=>s.drop.drop) (eD _) (by decide) rfl (by simp;unfold maxLen;omega) (by simp;omega) fun v4 w4 s4=> ?_
  have s4:=Fe (b:=bS (L.take (i+1))) s4 (by rw [ot hc];simp;omega) (by rw [ot hc];simp [aD])
  simp
  try simp (disch:=omega) only [wrap64]
  exact hN _ _ ⟨i+1,v4,_,by simp;rfl,by omega,s4.swap.drop⟩ (by simp [au];omega)
 ·simp at hc
  simp
  refine hX _ _ _ ?_
  obtain rfl:i=L.length:=by omega
  rw [List.take_length] at s1
  simp
  refine ab ((B9 (bS L) bv w0 w' _ hl (xQ s1) s1).mono fun r w2 s2=> ?_)
  simp
  exact s2.swap.drop
theorem jb (p:Nat) (W:Wr) (tag:Int) (vs:List Value) (L:List (List UInt8)) (v:Value) (w0 w:World) (A:aj) (hW:W.ok) (hn:vs.length=L.length) (hL:L.length≤35184372088832) (hl:(bS L).length≤35184372088832) (hr:Row w0 A v L.length 1 vs) (s:St w0 (A*gi vs L*gm 133 p W) w):
  ai Tryz.prog 84 [.pointer (some ⟨p,0,none⟩),.int .i64 tag,v] (fun r w'=>St w0 (A*gi vs L*gm 133 p (bq W tag (bS L))) w') w:=by
 refine az T7 (by simp [l84]) ?_
 simp [l84]
 refine ab ((GK vs L v w0 w (A*gm 133 p W) hn hL hl (hr.mono fun w s=>s.drop) s.swap).mono fun r w1 s1=> ?_)
 simp
 have s1:St w0 (A*gi vs L*je r (bS L)*gm 133 p W) w1:=s1.to (by ac_rfl)
 refine ab ((eH p W tag (bS L) r w0 w1 _ hW hl (xQ s1.drop) s1).mono fun r2 w2 s2=> ?_)
 simp
 exact s2.swap.drop
end Go.HL.Tl
namespace Go.HL.Tl
open Go.HL Go.Proofs
def rsK:Nat→Nat→Nat→Nat→List UInt8→Nat×Nat×Int
 |0,_,_,_,_=>(0,0,20)
 |_+1,_,_,_,[]=>(0,0,22)
 |j+1,k,n,at',c::t=>
  if k=9∧1<c.toNat then (0,0,20)
  else if c.toNat<128 then (if 0<k∧c.toNat=0 then (0,0,20) else (n+c.toNat*128^k,at'+k+1,0))
  else rsK j (k+1) (n+c.toNat %128*128^k) at' t
def rs (bs:List UInt8) (at':Nat):Nat×Nat×Int:=rsK 10 0 0 at' (bs.drop at')
@[simp] theorem toNat_lt (c:UInt8):c.toNat<256:=c.toBitVec.isLt
def bva:Nat→PO
 |0=>(.bin .lss)
 |1=> .lenL
 |2=>(.bin .gtr)
 |3=>(.bin .add)
 |4=>(.bin .eql)
 |5=>(.idxL 1)
 |6=>(.bin .and)
 |7=>(.convI .u64)
 |8=>(.bin .mul)
 |9=>(.bin .shl)
 |10=>(.bin .or)
 |_=> .same
def Zt:Nat→EO
 |0=>(.ld false 1)
 |_=> .ak
def dFa:Nat→Value
 |0=>(.int .u64 0)
 |1=>(.int .i64 0)
 |2=>(.bool true)
 |3=>(.int .i64 2)
 |4=>(.int .i64 10)
 |5=>(.int .i64 22)
 |6=>(.int .i64 9)
 |7=>(.int .u8 1)
 |8=>(.bool false)
 |9=>(.int .u8 127)
 |10=>(.int .i64 7)
 |11=>(.int .u8 128)
 |12=>(.int .u8 0)
 |13=>(.int .i64 1)
 |14=>(.int .i64 20)
 |_=>undef
def hKa:cE:=⟨bva,Zt,dFa⟩
end Go.HL.Tl
namespace Go.HL.Tl
open Go.HL Go.Proofs
def piF (b:List UInt8) (at':Nat):Option (Nat×Nat):=
 if (rs b at').2.2=0∧(rs b at').1≤b.length -(rs b at').2.1 then some ((rs b at').2.1,(rs b at').1) else none
def cut (b:List UInt8) (x:Nat×Nat):List UInt8:=(b.drop x.1).take x.2
def bwa:Nat→PO
 |0=>(.ext 0)
 |1=>(.ext 1)
 |2=>(.ext 2)
 |3=>(.bin .neq)
 |4=> .lenL
 |5=>(.bin .sub)
 |6=>(.convI .u64)
 |7=>(.bin .gtr)
 |8=>(.convI .i64)
 |9=>(.bin .add)
 |10=>(.slL 1 true true true)
 |_=> .same
def Zu:Nat→EO
 |0=>(.call 237)
 |_=> .ak
def dGa:Nat→Value
 |0=>(.slice none 0 0)
 |1=>(.int .i64 0)
 |2=>(.int .i64 22)
 |_=>undef
def hLa:cE:=⟨bwa,Zu,dGa⟩
structure Pf where
 tag:Int
 at':Int
 from':Int
 v:Value
 tk:Bool
def Pf.cs (x:Pf):List Value:= [.int .i64 x.tag,.int .i64 x.at',.int .i64 x.from',x.v,.bool x.tk]
abbrev pfA (p:Nat) (x:Pf):aj:=pt p (.cells x.cs.toArray 300 (0,0))
def Pa:List (Nat×Pf)→aj
 | []=>emp
 |x::t=>pfA x.1 x.2*Pa t
def Uq (l:List (Nat×Pf)):List Value:=l.map fun x=> .pointer (some ⟨x.1,0,none⟩)
def PV (w0:World) (B:aj) (l:List (Nat×Pf)) (F:List (Int×List UInt8)):Prop:=
 l.length=F.length∧∀i (h:i<l.length) (h2:i<F.length),l[i].2.tag=F[i].1∧BR w0 B l[i].2.v F[i].2
def itK (b:List UInt8):Nat→Nat→Option (List (List UInt8))
 |0,_=>some []
 |k+1,a=>if b.length≤a then some [] else match piF b a with
  |none=>none
  |some x=>(itK b k (x.1+x.2)).map (cut b x::·)
def itF (b:List UInt8):Option (List (List UInt8)):=if b= [] then none else itK b b.length 0
structure ItS (b:List UInt8) (k a:Nat) (acc:List (List UInt8)):Prop where
 le:a≤b.length
 fuel:b.length≤a+k
 num:acc.length≤a
 eq:itF b=(itK b k a).map (acc++·)
def bxa:Nat→PO
 |0=> .lenL
 |1=>(.bin .eql)
 |2=>(.bin .lss)
 |3=>(.ext 0)
 |4=>(.ext 1)
 |5=>(.ext 2)
 |6=>(.ext 3)
 |7=>(.bin .neq)
 |8=>(.bin .sub)
 |9=>(.build #[(.int .i64 0),(.int .i64 0),(.int .i64 0),(.slice none 0 0),(.bool false)] [(0,1),(1,1),(2,1),(3,1),(4,1)] [2,3])
 |_=> .same
def Zv:Nat→EO
 |0=>(.call 329)
 |1=>(.box 300)
 |2=>(.bsl 295 1 1 #[(.pointer none)] [0])
 |3=>(.app 302 302 295 1 8 (.pointer none))
 |_=> .ak
def dHa:Nat→Value
 |0=>(.slice none 0 0)
 |1=>(.int .i64 0)
 |2=>(.int .i64 20)
 |_=>undef
def hMa:cE:=⟨bxa,Zv,dHa⟩
def prK (b:List UInt8):Nat→Int→Nat→Option (List (Int×List UInt8))
 |0,_,_=>some []
 |k+1,last,a=>if h:a<b.length then
   if (b[a].toNat:Int)≤last then none
   else match piF b (a+1) with
    |none=>none
    |some x=>if x.2=0 then none else (prK b k b[a].toNat (x.1+x.2)).map ((b[a].toNat,cut b x)::·)
  else some []
def prF (b:List UInt8):Option (List (Int×List UInt8)):=if 1048576<b.length then none else prK b b.length 0 0
structure PrS (b:List UInt8) (k:Nat) (last:Int) (a:Nat) (acc:List (Int×List UInt8)):Prop where
 le:a≤b.length
 fuel:b.length≤a+k
 num:acc.length≤a
 pos:0≤last
 eq:prF b=(prK b k last a).map (acc++·)
def bya:Nat→PO
 |0=> .lenL
 |1=>(.bin .gtr)
 |2=>(.bin .lss)
 |3=>(.idxL 1)
 |4=>(.convI .i64)
 |5=>(.build #[(.int .i64 0),(.int .i64 0),(.int .i64 0),(.slice none 0 0),(.bool false)] [(0,1),(1,1),(2,1),(3,1),(4,1)] [0,1])
 |6=> .chkp
 |7=>(.fld 0)
 |8=>(.bin .leq)
 |9=>(.bin .add)
 |10=>(.ext 0)
 |11=>(.ext 1)
 |12=>(.ext 2)
 |13=>(.ext 3)
 |14=>(.bin .eql)
 |15=>(.bin .neq)
 |16=>(.bin .sub)
 |17=>(.fld 3)
 |18=>(.fld 2)
 |_=> .same
def Zw:Nat→EO
 |0=>(.ld false 1)
 |1=>(.box 300)
 |2=>(.call 329)
 |3=>(.st 1)
 |4=>(.bsl 295 1 1 #[(.pointer none)] [0])
 |5=>(.app 302 302 295 1 8 (.pointer none))
 |_=> .ak
def dIa:Nat→Value
 |0=>(.slice none 0 0)
 |1=>(.int .i64 0)
 |2=>(.int .i64 1048576)
 |3=>(.int .i64 3)
 |4=>(.int .i64 21)
 |5=>(.int .i64 1)
 |6=>(.bool false)
 |7=>(.int .i64 20)
 |_=>undef
def hNa:cE:=⟨bya,Zw,dIa⟩
end Go.HL.Tl
namespace Go.HL.Tl
open Go.HL Go.Proofs
structure Rf where
 tag:Int
 v:Value
 at':Int
 from':Int
 tk:Bool
def Rf.cs (x:Rf):List Value:= [.int .i64 x.tag,x.v,.int .i64 x.at',.int .i64 x.from',.bool x.tk]
def gQa (l:List Rf):List Value:=l.flatMap Rf.cs
end Go.HL.Tl
namespace Go.HL.Tl
open Go.HL Go.Proofs
def eUa (t q:Nat) (bad:Bool):aj:=fun h=>∃pl e:Int,(e≠0↔bad=true)∧pt q (.cells #[.int .i64 pl,.int .i64 e] t (0,0)) h
abbrev Iv (r q:Nat) (base:Int) (lv:Value):aj:=pt r (.cells #[.pointer (some ⟨q,0,none⟩),.int .i64 base,lv] 304 (0,0))
def rdA (r q:Nat) (l:List (Nat×Pf)):aj:=fun h=>∃base lv,(Iv r q base lv*own 295 1 lv l.length (Uq l)*Pa l) h
abbrev flt (q:Nat) (bad:Bool):aj:=eUa 252 q bad
def bza:Nat→PO
 |0=> .chkp
 |1=>(.fld 1)
 |2=>(.bin .eql)
 |3=>(.fld 0)
 |4=>(.build #[(.pointer none),(.int .i64 0),(.slice none 0 0)] [(0,1),(1,1),(2,1)] [0,1])
 |5=>(.bin .neq)
 |6=>(.ext 0)
 |7=>(.ext 1)
 |8=>(.ext 2)
 |9=>(.bin .add)
 |10=>(.fld 2)
 |11=>(.build #[(.int .i64 0),(.int .i64 0)] [(0,1),(1,1)] [])
 |12=>(.eqNil false (.pointer 304) (.pointer none))
 |13=>(.eqNil false (.pointer 252) (.pointer none))
 |14=> .lenL
 |15=>(.bin .lss)
 |16=>(.idxL 1)
 |17=>(.fld 4)
 |_=> .same
def Zx:Nat→EO
 |0=>(.ld false 1)
 |1=>(.st 1)
 |2=>(.box 304)
 |3=>(.call 247)
 |4=>(.call 238)
 |5=>(.box 252)
 |6=>(.call 150)
 |7=>(.call 176)
 |8=>(.call 240)
 |_=> .ak
def dJa:Nat→Value
 |0=>(.int .i64 0)
 |1=>(.pointer none)
 |2=>(.bool false)
 |3=>(.tuple #[])
 |4=>(.bool true)
 |5=>(.int .i64 1)
 |_=>undef
def hOa:cE:=⟨bza,Zx,dJa⟩
def rdF (bad:Bool) (b:List UInt8):Bool×List (Int×List UInt8):=if bad then (true,[]) else match prF b with
 |none=>(true,[])
 |some F=>(false,F)
end Go.HL.Tl
namespace Go.HL.Tl
open Go.HL Go.Proofs
def fiF:List (Int×List UInt8)→Int→Option (List UInt8)
 | [],_=>none
 |x::t,tag=>if x.1=tag then some x.2 else fiF t tag
def Ik (bad:Bool) (F:List (Int×List UInt8)) (tag:Int):Option (List UInt8):=if bad then none else fiF F tag
def Vn (w0:World) (A B:aj) (r q:Nat) (bad:Bool) (F:List (Int×List UInt8)) (tag:Int) (v:Value) (w':World):Prop:=
 (∃l,Ik bad F tag=none∧v= .pointer none∧PV w0 B l F∧St w0 (A*flt q bad*rdA r q l) w')∨
 (∃l i,∃(hi:i<l.length),∃x,Ik bad F tag=some x∧v= .pointer (some ⟨l[i].1,0,none⟩)∧PV w0 B l F∧BR w0 B l[i].2.v x∧bad=false∧St w0 (A*flt q bad*rdA r q l) w')
end Go.HL.Tl
namespace Go.HL.Tl
open Go.HL Go.Proofs
structure OKF (F:List (Int×List UInt8)):Prop where
 len:F.length≤1048576
 each:∀f∈F,f.2.length≤1048576
def rdP (w0:World) (B:aj) (r q:Nat) (F:List (Int×List UInt8)):aj:=fun h=>∃l,PV w0 B l F∧rdA r q l h
def iWa (X Y:World→Prop):List Value→World→Prop
 | [],w=>X w
 |_::_,w=>Y w
def qt (bad:Bool) (F:List (Int×List UInt8)) (tag most:Int):Int×Bool:=match Ik bad F tag with
 |none=>(0,bad)
 |some x=>if (rs x 0).2.2≠0∨(rs x 0).2.1≠x.length∨(rs x 0).1=0 then (0,true) else if most<(rs x 0).1 then (0,true) else ((rs x 0).1,false)
def bAa:Nat→PO
 |0=>(.eqNil false (.pointer 300) (.pointer none))
 |1=> .chkp
 |2=>(.fld 3)
 |3=>(.ext 0)
 |4=>(.ext 1)
 |5=>(.ext 2)
 |6=>(.bin .neq)
 |7=> .lenL
 |8=>(.bin .eql)
 |9=>(.fld 0)
 |10=>(.fld 1)
 |11=>(.fld 2)
 |12=>(.bin .add)
 |13=>(.bin .gtr)
 |14=>(.build #[(.pointer none),(.int .i64 0),(.slice none 0 0)] [(0,1),(1,1),(2,1)] [0,1])
 |_=> .same
def Zy:Nat→EO
 |0=>(.call 236)
 |1=>(.ld false 1)
 |2=>(.call 237)
 |3=>(.call 238)
 |4=>(.bi .max #[3,3] 3 #[false,true])
 |5=>(.call 235)
 |6=>(.b2s 52 9)
 |7=>(.call 240)
 |8=>(.box 304)
 |9=>(.call 176)
 |_=> .ak
def dKa:Nat→Value
 |0=>(.int .u64 0)
 |1=>(.int .i64 0)
 |2=>(.tuple #[])
 |3=>(.bool true)
 |4=>(.int .i64 20)
 |5=>(.int .i64 3)
 |6=>(.slice none 0 0)
 |7=>(.string ⟨#[]⟩)
 |8=>(.pointer none)
 |_=>undef
def hPa:cE:=⟨bAa,Zy,dKa⟩
section
variable {w0:World} {A B:aj} {r q:Nat} {l:List (Nat×Pf)} {base:Int} {lv:Value}
abbrev rdO (A:aj) (r q:Nat) (base:Int) (lv:Value) (l:List (Nat×Pf)) (bad:Bool):aj:=A*Iv r q base lv*own 295 1 lv l.length (Uq l)*Pa l*flt q bad
end
def gKa (bad:Bool) (F:List (Int×List UInt8)) (tag most:Int):List UInt8×Bool:=match Ik bad F tag with
 |none=>([],bad)
 |some x=>if (if most<0 then 0 else most)<x.length then ([],true) else (x,false)
def bSa (bad:Bool) (F:List (Int×List UInt8)) (tag:Int):Bool×List (Int×List UInt8):=match Ik bad F tag with
 |none=>(bad,[])
 |some x=>rdF bad x
end Go.HL.Tl
namespace Go.HL.Tl
open Go.HL Go.Proofs
def bBa:Nat→PO
 |0=>(.eqNil false (.pointer 300) (.pointer none))
 |1=> .chkp
 |2=>(.fld 3)
 |3=>(.ext 0)
 |4=>(.ext 1)
 |5=>(.ext 2)
 |6=>(.bin .neq)
 |7=>(.fld 0)
 |8=>(.fld 1)
 |9=>(.fld 2)
 |10=>(.bin .add)
 |11=> .lenL
 |12=>(.bin .gtr)
 |13=>(.bin .lss)
 |14=>(.idxL 1)
 |15=>(.slL 1 false true true)
 |_=> .same
def Zz:Nat→EO
 |0=>(.call 236)
 |1=>(.ld false 1)
 |2=>(.call 326)
 |3=>(.call 238)
 |4=>(.bi .max #[3,3] 3 #[false,true])
 |5=>(.call 242)
 |6=>(.call 150)
 |7=>(.bsl 52 1 1 #[(.slice none 0 0)] [0])
 |8=>(.app 70 70 52 1 24 (.slice none 0 0))
 |9=>(.call 324)
 |10=>(.call 176)
 |11=>(.bsl 166 1 1 #[(.pointer none)] [0])
 |12=>(.app 243 243 166 1 8 (.pointer none))
 |13=>(.call 243)
 |_=> .ak
def dLa:Nat→Value
 |0=>(.slice none 0 0)
 |1=>(.int .i64 0)
 |2=>(.int .i64 3)
 |3=>(.int .i64 1)
 |4=>(.tuple #[])
 |5=>(.bool false)
 |_=>undef
def hQa:cE:=⟨bBa,Zz,dLa⟩
def BL (bad:Bool) (F:List (Int×List UInt8)) (tag most:Int):List (List UInt8)×Bool:=match Ik bad F tag with
 |none=>([],bad)
 |some x=>match itF x with
  |none=>([],true)
  |some L=>if (if most<0 then 0 else most)<L.length then ([],true) else (L,false)
abbrev itA (lv:Value) (l:List (Nat×Pf)):aj:=own 295 1 lv l.length (Uq l)*Pa l
end Go.HL.Tl
namespace Go.HL.Tl
open Go.HL Go.Proofs
abbrev vd:=List (Int×List UInt8)
def US (bad:Bool) (L:List (List UInt8)):Bool×List vd:=L.foldl (fun s x=>((rdF s.1 x).1,s.2++ [(rdF s.1 x).2])) (bad,[])
def gMa (bad:Bool) (F:vd) (tag most:Int):Bool×List vd:=
 if (US (BL bad F tag most).2 (BL bad F tag most).1).2≠ []∧(US (BL bad F tag most).2 (BL bad F tag most).1).1=true then (true,[]) else US (BL bad F tag most).2 (BL bad F tag most).1
def gPa (w0:World) (B:aj) (q:Nat):List (Nat×vd)→aj
 | []=>emp
 |x::t=>rdP w0 B x.1 q x.2*gPa w0 B q t
def hua (l:List (Nat×vd)):List Value:=l.map fun x=> .pointer (some ⟨x.1,0,none⟩)
def rcC (X:World→Prop) (Y:Nat→World→Prop) (Y2:Nat→Nat→World→Prop) (Z:Value→World→Prop):List Value→World→Prop
 | [],w=>X w
 | [u],w=>∃p,u= .pointer (some ⟨p,0,none⟩)∧Y p w
 | [u,s],w=>∃p d,u= .pointer (some ⟨p,0,none⟩)∧s= .slice (some ⟨d,0,none⟩) 1 1∧Y2 p d w
 |_::_::v::_,w=>Z v w
end Go.HL.Tl
namespace Go.HL.Tl
open Go.HL Go.Proofs
end Go.HL.Tl
namespace Go.HL.Tl
open Go.HL Go.Proofs
section
variable {w0:World} {A:aj} {r q:Nat} {base:Int} {lv:Value} {l:List Rf} {F:vd} {bad:Bool}
end
end Go.HL.Tl
namespace Go.HL.Tl
open Go.HL Go.Proofs
end Go.HL.Tl
namespace Go.HL.Tl
open Go.HL Go.Proofs
abbrev riA (lv bv:Value) (vs:List Value) (L:List (List UInt8)) (bi:List Int):aj:=own 52 1 lv L.length vs*gi vs L*own 3 1 bv L.length (ints bi)
end Go.HL.Tl
namespace Go.HL.Sr
open Go.HL Go.HL.Tl Go.Proofs
def Ic (x:Int):Int:=x %18446744073709551616
theorem K6 (x:Int):0≤Ic x∧Ic x<18446744073709551616:=by unfold Ic;omega
theorem Qs (x:Int):IntKind.u64.wrap x=Ic x:=by simp [IntKind.wrap,IntKind.bits,IntKind.signed,Ic]
def lN (W:Wr) (tag:Int):List Int→Wr
 | []=>W
 |x::t=>lN (mF W tag (Ic x)) (tag+1) t
theorem fp:∀(l:List Int) {W:Wr} (tag:Int),W.ok→(lN W tag l).ok
 | [],_,_,h=>h
 |x::t,_,_,h=>fp t _ (iG h _ _)
theorem xb:∀(l:List Int) (W:Wr) (tag:Int) (x:Int),lN W tag (l++ [x])=mF (lN W tag l) (tag+l.length) (Ic x)
 | [],W,tag,x=>by simp [lN]
 |y::t,W,tag,x=>by
  simp only [List.cons_append,lN,xb t,List.length_cons]
  congr 1;omega
@[simp] abbrev pW (p:Nat) (W:Wr):aj:=gm 133 p W
abbrev rW (p:Nat) (W:Wr):aj:=gm 266 p W
def aWa:Nat→PO
 |0=> .lenL
 |1=>(.bin .lss)
 |2=>(.idxL 1)
 |3=>(.bin .add)
 |4=>(.convI .u64)
 |5=>(.build #[(.slice none 0 0),(.int .i64 0),(.int .i64 0)] [(0,1),(1,1),(2,1)] [])
 |6=>(.fld 0)
 |7=>(.fld 1)
 |8=>(.fld 2)
 |9=>(.fld 3)
 |10=>(.fld 4)
 |_=> .same
def YT:Nat→EO
 |0=>(.ld false 1)
 |1=>(.call 78)
 |2=>(.call 185)
 |3=>(.box 34)
 |4=>(.box 133)
 |5=>(.bsl 3 2 1 #[(.int .i64 0)] [0,1])
 |6=>(.call 77)
 |7=>(.call 147)
 |8=>(.bsl 52 1 1 #[(.slice none 0 0)] [0])
 |9=>(.app 70 70 52 1 24 (.slice none 0 0))
 |10=>(.call 84)
 |11=>(.box 266)
 |12=>(.call 184)
 |13=>(.call 270)
 |14=>(.call 192)
 |_=> .ak
def c6a:Nat→Value
 |0=>(.int .i64 0)
 |1=>(.int .i64 1)
 |2=>(.pointer none)
 |3=>(.int .i64 3)
 |4=>(.int .i64 4)
 |5=>(.slice none 0 0)
 |6=>(.int .i64 5)
 |7=>(.int .i64 2)
 |_=>undef
def Qk:cE:=⟨aWa,YT,c6a⟩
def l77:ag:=⟨[0,1,2,6,7,8,9,10],23,[],aM Qk [] 0xb2dbacb2771a6585545134814070c75144d20501c3b6c9dc7226985145135544d01045545134034010d00015134041145134034010e77226996584401101c35135545134074050805144d01d0142068bc2bc071b5545134064070585144d01901c102771a6596584801d55134020064021544d0080⟩
theorem TX:ah T0 77 400=some l77:=by kernel_rfl
def Sm:ag:=⟨[0,1,2,3,4,6,25,26,27],42,[.slot 2],aM Qk [] 0xb2cb2cb2cb2cb2cbc19da6584030a789a6145144d01121900ca06dbacb2771a6585545134814080432015144d20502010edb277228a26996110845144d10501090544d10080544d5513405107513405127722699611005513554513408050182014513408050182068bc2bc071b55451340740804161451340740804102772271a6596584802015544d10001d10065134400144d55134012810144d004a0676996121449dc8a26985145134404844030544d55134012410144d004906772289a6145144d10120d00c15135544d00480405134012019dc89c8a289a6145144d10920500c65144d10510055135544d00470144d00475135544d00460144d00469dc89a6584400d44d54c511316789a6596120824400544d0003⟩
theorem MY:ah T0 151 400=some Sm:=by kernel_rfl
theorem iW (p:Nat) (W:Wr) (tag:Int) (l:List Int) (v:Value) (w0 w:World) (A:aj) (ht:0≤tag∧tag≤255) (hl:l.length≤255) (hW:W.ok) (h:WR w0 A v l) (s:St w0 (A*gm 133 p W) w):
  ai Tryz.prog 77 [.pointer (some ⟨p,0,none⟩),.int .i64 tag,v] (fun r w'=>St w0 (A*gm 133 p (lN W tag l)) w') w:=by
 obtain ⟨a,cap,rfl⟩:=h.val
 refine az TX (by simp [l77]) ?_
 simp [l77]
 refine dR (fun env w'=>∃(i:Nat) (o3 o4:Value),env= [.pointer (some ⟨p,0,none⟩),.int .i64 tag,.slice a l.length cap,o3,o4,.slice a l.length cap,.int .i64 l.length,.int .i64 i]∧i≤l.length∧St w0 (A*gm 133 p (lN W tag (l.take i))) w')
  (fun env _=>l.length -au env 7) ⟨0,_,_,rfl,by omega,s⟩ ?_
 clear s
 rintro LQ env w' ⟨i,o3,o4,rfl,hi,s1⟩ hN hX hR
 simp
 refine aJ (fun c=> ?_) (fun c=> ?_)
 ·simp at c
  obtain ⟨g,o,cap',hv,hcell⟩:=h.at (by omega)
  cases hv
  simp [c]
  refine ad (v:= .int .i64 l[i]) (by have:=hcell w' s1.drop i _ (by simp [ints,c];rfl);simpa using this) ?_
  have w1:IntKind.i64.wrap (tag+i)=tag+i:=wrap64 (by omega) (by omega)
  simp [w1]
  rw [Qs]
  refine ab ((dD p _ (tag+i) (Ic l[i]) w0 w' A (fp _ _ hW) (K6 _) s1).mono fun r w2 s2=> ?_)
  simp
  try simp (disch:=omega) only [wrap64]
  refine hN _ _ ⟨i+1,_,_,by simp;exact ⟨rfl,rfl⟩,by omega,?_⟩ (by simp [au];omega)
  rw [List.take_succ_eq_append_getElem c,xb]
  have e:(l.take i).length=i:=by rw [List.length_take];omega
  rw [e]
  exact s2
 ·simp at c
  simp
  refine hX _ _ _ ?_
  obtain rfl:i=l.length:=by omega
  rw [List.take_length] at s1
  simp
  exact s1
end Go.HL.Sr
namespace Go.HL.Sr
open Go.HL Go.HL.Tl Go.Proofs
def wF (x:Int):List UInt8:=bI (Ic x).toNat
def tB (e:PE):Wr:=mF (mF (lN Wr.new 1 [e.acc,e.item]) 3 e.coins) 4 e.price
def dq (e:PE):Wr:=bq (tB e) 5 (bS (e.ws.map wF))
theorem Bc (e:PE):(tB e).ok:=iG (iG (fp _ _ Wr.eE) _ _) _ _
theorem Fu (e:PE):(dq e).ok:=fZ (Bc e) _ _
theorem mB {m:Nat}:∀{L:List (List UInt8)},(∀l∈L,l.length≤m)→(bS L).length≤L.length*(m+10)
 | [],_=>by simp [bS]
 |l::t,h=>by
  have h1:=mB (L:=t) fun x hx=>h x (List.mem_cons_of_mem _ hx)
  have h2:=h l List.mem_cons_self
  have h3:=(dN l.length).2
  have e:bS (l::t)=bI l.length++l++bS t:=by simp [bS]
  rw [e]
  simp only [List.length_append,List.length_cons,Nat.add_mul]
  omega
theorem ju {w0 w:World} {A:aj} {t p:Nat} (s:St w0 (A*pt p (.cells #[.slice none 0 0,.int .i64 0,.int .i64 0] t (0,0))) w):St w0 (A*gm t p Wr.new) w:=
 Ah (v:= .slice none 0 0) (W:=Wr.new) (oM s)
theorem lz (e:PE) (v:Value) (w0 w:World) (A:aj) (he:e.ok) (h:WR w0 A v e.ws) (s:St w0 A w):
  ai Tryz.prog 151 [.agg (e.cs v).toArray] (fun r w'=>∃p,r= .pointer (some ⟨p,0,none⟩)∧St w0 (A*gm 133 p (dq e)) w') w:=by
 have hlen:=he.len
 obtain ⟨wa,wc,rfl⟩:=h.val
 refine az MY (by simp [Sm]) ?_
 simp [Sm,Instr.fill,Value.cells]
 refine bj s fun b w1 s1=> ?_
 simp [Instr.fill,Value.cells]
 have s1:St w0 (A*pt b (.cells (e.cs (.slice wa e.ws.length wc)).toArray 34 (0,0))) w1:=s1
 refine bj s1 fun p w2 s2=> ?_
 simp
 have s2:=ju s2
 obtain ⟨D,hD⟩:∃D,A*pt b (.cells (e.cs (.slice wa e.ws.length wc)).toArray 34 (0,0))=D:=⟨_,rfl⟩
 have hDA:∀w,St w0 D w→St w0 A w:=fun w h=>by rw [←hD] at h;exact h.drop
 have f:∀{Z:aj} {w:World},St w0 (D*Z) w→∀j u,(e.cs (.slice wa e.ws.length wc))[j]?=some u→w.cell? ⟨b,j,none⟩=some u:=fun h j u hu=>by
  have h:=h.drop;rw [←hD] at h
  have:=h.af j u hu;simpa using this
 have out:∀{Z:aj} {w:World},St w0 (D*Z) w→St w0 (A*Z) w:=fun h=>by rw [←hD] at h;exact h.swap.drop
 rw [hD] at s2
 refine ad (v:= .int .i64 e.acc) (f s2 0 _ rfl) ?_
 simp
 refine ad (v:= .int .i64 e.item) (f s2 1 _ rfl) ?_
 simp
 refine ic (vs:= [.int .i64 e.acc,.int .i64 e.item]) s2 (by simp [Value.oneCell']) rfl rfl (by decide) fun sv w3 s3=> ?_
 simp
 have s3:St w0 (D*own 3 1 sv 2 (ints [e.acc,e.item])*gm 133 p Wr.new) w3:=s3.swap
 refine ab ((iW p Wr.new 1 [e.acc,e.item] sv w0 w3 _ (by decide) (by simp) Wr.eE (bG s3.drop) s3).mono fun _ w4 s4=> ?_)
 simp
 have s4:=s4.swap.drop
 refine ad (v:= .int .u64 e.coins) (f s4 2 _ rfl) ?_
 simp
 refine ab ((dD p _ 3 e.coins w0 w4 D (fp _ _ Wr.eE) he.coins s4).mono fun _ w5 s5=> ?_)
 simp
 refine ad (v:= .int .u64 e.price) (f s5 3 _ rfl) ?_
 simp
 refine ab ((dD p _ 4 e.price w0 w5 D (iG (fp _ _ Wr.eE) _ _) he.price s5).mono fun _ w6 s6=> ?_)
 simp
 have s6:St w0 (D*gm 133 p (tB e)) w6:=s6
 refine ad (v:= .slice wa e.ws.length wc) (f s6 4 _ rfl) ?_
 simp
 refine dR (fun env w'=>∃(i:Nat) (lv o5:Value) (vs:List Value),env= [.agg (e.cs (.slice wa e.ws.length wc)).toArray,.pointer (some ⟨b,0,none⟩),.pointer none,.pointer (some ⟨p,0,none⟩),lv,o5,.slice wa e.ws.length wc,.int .i64 e.ws.length,.int .i64 i]∧i≤e.ws.length∧vs.length=i∧
   St w0 (D*gm 133 p (tB e)*own 52 1 lv i vs*gi vs ((e.ws.map wF).take i)) w')
  (fun env _=>e.ws.length -au env 8) ⟨0,_,_,[],rfl,by omega,rfl,?_⟩ ?_
 ·have h:=s6.aA 52 1
  have e0:gi ([]:List Value) ((e.ws.map wF).take 0)=emp:=rfl
  rw [e0,al];exact h
 rintro LQ env w' ⟨i,lv,o5,vs,rfl,hi,hvs,t1⟩ hN hX hR
 simp
 refine aJ (fun c=> ?_) (fun c=> ?_)
 ·simp at c
  obtain ⟨g,o,cap',hv,hcell⟩:=h.at (by omega)
  cases hv
  simp [c]
  refine ad (v:= .int .i64 e.ws[i]) (by have:=hcell w' (hDA _ t1.drop.drop.drop) i _ (by simp [ints,c];rfl);simpa using this) ?_
  simp
  rw [Qs]
  refine ab ((ja (Ic e.ws[i]) w0 w' _ (K6 _) t1).mono fun r w2 s2=> ?_)
  have hw:bI (Ic e.ws[i]).toNat=wF e.ws[i]:=rfl
  rw [hw] at s2
  obtain ⟨ra,rc,rfl,_,_⟩:=s2.aq
  simp
  have hil:i<(e.ws.map wF).length:=by simpa using c
  have hge:(e.ws.map wF)[i]=wF e.ws[i]:=by simp
  refine bU s2 rfl fun d w3 s3=> ?_
  simp
  have s3:St w0 (D*gm 133 p (tB e)*gi (vs++ [.slice ra (wF e.ws[i]).length rc]) ((e.ws.map wF).take (i+1))*pt d (.cells #[.slice ra (wF e.ws[i]).length rc] 52 (0,0))*own 52 1 lv i vs) w3:=s3.to (by
   rw [List.take_succ_eq_append_getElem hil,sP _ _ _ _ (by rw [List.length_take];simp;omega),hge];simp only [je];ac_rfl)
  refine bh (m:=1) (news:= [.slice ra (wF e.ws[i]).length rc]) s3 rfl (by simpa using s3.swap.aF) (by simp [Value.oneCell']) (by decide) rfl (by unfold maxLen;omega) (by omega) fun v5 w5 s5=> ?_
  simp
  try simp (disch:=omega) only [wrap64]
  exact hN _ _ ⟨i+1,v5,_,vs++ [.slice ra (wF e.ws[i]).length rc],by simp;rfl,by omega,by simp [hvs],s5.swap.drop.swap⟩ (by simp [au];omega)
 ·simp at c
  simp
  refine hX _ _ _ ?_
  obtain rfl:i=e.ws.length:=by omega
  have ht:(e.ws.map wF).take e.ws.length=e.ws.map wF:=by rw [List.take_of_length_le];simp
  rw [ht] at t1
  have hll:(bS (e.ws.map wF)).length≤35184372088832:=by
   have:=mB (m:=10) (L:=e.ws.map wF) (fun x hx=>by
    obtain ⟨y,_,rfl⟩:=List.mem_map.1 hx
    exact (dN _).2)
   simp at this
   omega
  have s2:St w0 (D*own 52 1 lv (e.ws.map wF).length vs*gi vs (e.ws.map wF)*gm 133 p (tB e)) w':=t1.to (by rw [List.length_map];ac_rfl)
  simp
  refine ab ((jb p (tB e) 5 vs (e.ws.map wF) lv w0 w' (D*own 52 1 lv (e.ws.map wF).length vs) (Bc e) (by simp [hvs]) (by simp;omega) hll (bG s2.drop.drop) s2).mono fun _ w5 s5=> ?_)
  simp
  exact out (s5.cut (own 52 1 lv (e.ws.map wF).length vs*gi vs (e.ws.map wF)) (B:=D*gm 133 p (dq e)) (by simp only [dq];ac_rfl))
end Go.HL.Sr
namespace Go.HL.Sr
open Go.HL Go.HL.Tl Go.Proofs
def nL (c:PC):Wr:=lN (mF (mF (mF (lN Wr.new 1 [c.num,c.kind,c.by',c.dead,c.to',c.want]) 7 c.price) 8 c.res) 9 c.step) 10 [c.of']
def AV (c:PC):Wr:=bq (nL c) 11 (bS (c.es.map fun e=>(dq e).b))
theorem AW (c:PC):(nL c).ok:=fp _ _ (iG (iG (iG (fp _ _ Wr.eE) _ _) _ _) _ _)
theorem Fl (c:PC):(AV c).ok:=fZ (AW c) _ _
def tj (c:PC):Prop:=∀e∈c.es,(dq e).e=0
instance (c:PC):Decidable (tj c):=inferInstanceAs (Decidable (∀e∈c.es,(dq e).e=0))
def aXa:Nat→PO
 |0=>(.build #[(.slice none 0 0),(.int .i64 0),(.int .i64 0)] [(0,1),(1,1),(2,1)] [])
 |1=>(.fld 0)
 |2=>(.fld 1)
 |3=>(.fld 2)
 |4=>(.fld 3)
 |5=>(.fld 4)
 |6=>(.fld 5)
 |7=>(.fld 6)
 |8=>(.fld 7)
 |9=>(.fld 8)
 |10=>(.fld 9)
 |11=>(.fld 10)
 |12=> .lenL
 |13=>(.bin .lss)
 |14=>(.idxL 5)
 |15=>(.ext 0)
 |16=>(.ext 1)
 |17=>(.bin .neq)
 |18=>(.bin .add)
 |_=> .same
def YU:Nat→EO
 |0=>(.box 37)
 |1=>(.box 133)
 |2=>(.ld false 1)
 |3=>(.bsl 3 6 1 #[(.int .i64 0)] [0,1,2,3,4,5])
 |4=>(.call 77)
 |5=>(.call 78)
 |6=>(.bsl 3 1 1 #[(.int .i64 0)] [0])
 |7=>(.ld true 5)
 |8=>(.new 34 (.agg #[(.int .i64 0),(.int .i64 0),(.int .u64 0),(.int .u64 0),(.slice none 0 0)]))
 |9=>(.st 5)
 |10=>(.call 151)
 |11=>(.call 81)
 |12=>(.bsl 52 1 1 #[(.slice none 0 0)] [0])
 |13=>(.app 70 70 52 1 24 (.slice none 0 0))
 |14=>(.call 84)
 |_=> .ak
def c7a:Nat→Value
 |0=>(.pointer none)
 |1=>(.bool false)
 |2=>(.int .i64 1)
 |3=>(.int .i64 7)
 |4=>(.int .i64 8)
 |5=>(.int .i64 9)
 |6=>(.int .i64 10)
 |7=>(.slice none 0 0)
 |8=>(.int .i64 0)
 |9=>(.int .i64 11)
 |10=>(.bool true)
 |_=>undef
def caa:cE:=⟨aXa,YU,c7a⟩
def l83:ag:=⟨[0,1,2,3,4,5,7,8,9,45,46,47],68,[.slot 2,.slot 3],aM caa [] 0xb2cb2cb2cb2cb2cb2cbc19da6596122810d01029e269851451340548905010e06dbacb2771a65855451348240b04a08b05451348240b04a0adb2cb278a26996110455144d101014d0544d01cc068bc0b2f0676996584810d200271b5545134880502012426145134880502012429e28a271c6996585544d10880880555134423c11d44d10880944d108f0544d104b0544d100a0544d01879dc8a289a6584411945134404412414c80544d55144d02c140904e0475144d02c140904e041a2f0af01c6d55144d028140b04d0585144d028140b04d0409dc89c6996596122012c15544d100c04a0510090544d100c0544d55134012c10944d004b0676996121c59dc8a289a6145144d10521901045134401944d55134012810944d004a06772289a6145144d10121501055135544d00490425134012419dc8a26985145134404844041544d55134012010944d004806772289a6145144d10120d01055135544d00470944d00479dc89c89c89c89c89c8a289a6145144d11920901045145145144d11511110d10910510035135544d00460944d00465135544d00450944d00455135544d00440944d00445135544d00430944d00435135544d00420944d00425135544d00410944d00419dc89a6584401144d54c005302789a6596584810d20024400544d0000⟩
theorem T6:ah T0 83 400=some l83:=by kernel_rfl
set_option maxHeartbeats 1000000 in
theorem vj (c:PC) (cv:Value) (wvs:List Value) (w0 w:World) (A:aj) (hc:c.ok) (h:CV w0 A cv wvs c.es) (s:St w0 A w):
  ai Tryz.prog 83 [.agg (c.cs cv).toArray] (fun r w'=>(tj c∧∃p,r= .tuple #[.pointer (some ⟨p,0,none⟩),.bool true]∧St w0 (A*gm 133 p (AV c)) w')∨(¬tj c∧r= .tuple #[.pointer none,.bool false]∧St w0 A w')) w:=by
 have hlen:=hc.len
 have hwl:=h.len
 obtain ⟨ca,cc,rfl⟩:=h.row.val
 refine az T6 (by simp [l83]) ?_
 simp [l83,Instr.fill,Value.cells]
 refine bj s fun b w1 s1=> ?_
 simp [Instr.fill,Value.cells]
 have s1:St w0 (A*pt b (.cells (c.cs (.slice ca c.es.length cc)).toArray 37 (0,0))) w1:=s1
 refine bj s1 fun p w2 s2=> ?_
 simp
 have s2:=ju s2
 obtain ⟨D,hD⟩:∃D,A*pt b (.cells (c.cs (.slice ca c.es.length cc)).toArray 37 (0,0))=D:=⟨_,rfl⟩
 have hDA:∀w,St w0 D w→St w0 A w:=fun w h=>by rw [←hD] at h;exact h.drop
 have f:∀{Z:aj} {w:World},St w0 (D*Z) w→∀j u,(c.cs (.slice ca c.es.length cc))[j]?=some u→w.cell? ⟨b,j,none⟩=some u:=fun h j u hu=>by
  have h:=h.drop;rw [←hD] at h
  have:=h.af j u hu;simpa using this
 have out:∀{Z:aj} {w:World},St w0 (D*Z) w→St w0 (A*Z) w:=fun h=>by rw [←hD] at h;exact h.swap.drop
 rw [hD] at s2
 refine ad (v:= .int .i64 c.num) (f s2 0 _ rfl) ?_
 simp
 refine ad (v:= .int .i64 c.kind) (f s2 1 _ rfl) ?_
 simp
 refine ad (v:= .int .i64 c.by') (f s2 2 _ rfl) ?_
 simp
 refine ad (v:= .int .i64 c.dead) (f s2 3 _ rfl) ?_
 simp
 refine ad (v:= .int .i64 c.to') (f s2 4 _ rfl) ?_
 simp
 refine ad (v:= .int .i64 c.want) (f s2 5 _ rfl) ?_
 simp
 refine ic (vs:=ints [c.num,c.kind,c.by',c.dead,c.to',c.want]) s2 (by simp [ints,Value.oneCell']) rfl rfl (by decide) fun sv w3 s3=> ?_
 simp
 have s3:St w0 (D*own 3 1 sv 6 (ints [c.num,c.kind,c.by',c.dead,c.to',c.want])*gm 133 p Wr.new) w3:=s3.swap
 refine ab ((iW p Wr.new 1 [c.num,c.kind,c.by',c.dead,c.to',c.want] sv w0 w3 _ (by decide) (by simp) Wr.eE (bG s3.drop) s3).mono fun _ w4 s4=> ?_)
 simp
 have s4:=s4.swap.drop
 refine ad (v:= .int .u64 c.price) (f s4 6 _ rfl) ?_
 simp
 have k4:=fp [c.num,c.kind,c.by',c.dead,c.to',c.want] 1 Wr.eE
 refine ab ((dD p _ 7 c.price w0 w4 D k4 hc.price s4).mono fun _ w5 s5=> ?_)
 simp
 refine ad (v:= .int .u64 c.res) (f s5 7 _ rfl) ?_
 simp
 have k5:=iG k4 7 c.price
 refine ab ((dD p _ 8 c.res w0 w5 D k5 hc.res s5).mono fun _ w6 s6=> ?_)
 simp
 refine ad (v:= .int .u64 c.step) (f s6 8 _ rfl) ?_
 simp
 have k6:=iG k5 8 c.res
 refine ab ((dD p _ 9 c.step w0 w6 D k6 hc.step s6).mono fun _ w7 s7=> ?_)
 simp
 refine ad (v:= .int .i64 c.of') (f s7 9 _ rfl) ?_
 simp
 have k7:=iG k6 9 c.step
 refine ic (vs:=ints [c.of']) s7 (by simp [ints,Value.oneCell']) rfl rfl (by decide) fun sv2 w8 s8=> ?_
 simp
 have s8:=s8.swap
 refine ab ((iW p _ 10 [c.of'] sv2 w0 w8 _ (by decide) (by simp) k7 (bG s8.drop) s8).mono fun _ w9 s9=> ?_)
 simp
 have t0:St w0 (D*gm 133 p (nL c)) w9:=s9.swap.drop
 refine ad (v:= .slice ca c.es.length cc) (f t0 10 _ rfl) ?_
 simp
 refine dR (fun env w'=>∃(i:Nat) (lv o6 o7 o8:Value) (vs:List Value),env= [.agg (c.cs (.slice ca c.es.length cc)).toArray,.pointer (some ⟨b,0,none⟩),.pointer none,.bool false,.pointer (some ⟨p,0,none⟩),lv,o6,o7,o8,.slice ca c.es.length cc,.int .i64 c.es.length,.int .i64 i]∧i≤c.es.length∧vs.length=i∧(∀e∈c.es.take i,(dq e).e=0)∧
   St w0 (D*gm 133 p (nL c)*own 52 1 lv i vs*gi vs ((c.es.map fun e=>(dq e).b).take i)) w')
  (fun env _=>c.es.length -au env 11) ⟨0,_,_,_,_,[],rfl,by omega,rfl,by simp,?_⟩ ?_
 ·have h:=t0.aA 52 1
  have e0:gi ([]:List Value) ((c.es.map fun e=>(dq e).b).take 0)=emp:=rfl
  rw [e0,al];exact h
 rintro LQ env w' ⟨i,lv,o6,o7,o8,vs,rfl,hi,hvs,hgood,t1⟩ hN hX hR
 simp
 refine aJ (fun c1=> ?_) (fun c1=> ?_)
 ·simp at c1
  obtain ⟨g,o,cap',hv,hcell⟩:=h.row.at (by omega)
  cases hv
  have hiw:i<wvs.length:=by omega
  have hiz:i<(c.es.zip wvs).length:=by simp [hwl];omega
  obtain ⟨e,he⟩:∃e,c.es[i]=e:=⟨_,rfl⟩
  obtain ⟨wv,hwv⟩:∃wv,wvs[i]=wv:=⟨_,rfl⟩
  have hz:(c.es.zip wvs)[i]=(e,wv):=by simp [he,hwv]
  have hwr:=h.each i hiw c1
  rw [he,hwv] at hwr
  have heo:=hc.each e (by rw [←he];exact List.getElem_mem c1)
  obtain ⟨xa,xc,hxv⟩:=hwr.val
  have hone:wv.oneCell'=true:=by rw [hxv];rfl
  simp [c1]
  refine ax (vs:=e.cs wv) (fun j u hu=>by
   rw [Nat.add_assoc]
   exact hcell w' (hDA _ t1.drop.drop.drop) _ _ (cJ hiz j u (by rw [hz];exact hu))) rfl ?_
  simp
  refine bz t1 fun d w2 t2=> ?_
  simp
  refine cq (vs:=e.cs wv) t2 rfl rfl (cj e wv hone) (by simp) fun w3 t3=> ?_
  simp
  have t3:St w0 (D*gm 133 p (nL c)*own 52 1 lv i vs*gi vs ((c.es.map fun e=>(dq e).b).take i)*pt d (.cells (e.cs wv).toArray 34 (0,0))) w3:=by simpa [PE.cs] using t3
  refine ax (vs:=e.cs wv) t3.af rfl ?_
  simp
  refine ab ((lz e wv w0 w3 _ heo (hwr.mono fun w s=>hDA _ s.drop.drop.drop.drop) t3).mono ?_)
  rintro _ w4 ⟨p2,rfl,t4⟩
  simp
  refine ab ((vw p2 (dq e) w0 w4 _ (Fu e) t4).mono ?_)
  rintro _ w5 (⟨hbad,rfl,t5⟩|⟨hok,v,rfl,t5⟩)
  ·simp [hbad]
   refine hR _ _ ?_
   simp
   refine ⟨fun hall=>hbad (hall e (by rw [←he];exact List.getElem_mem c1)),out (Z:=emp) (by rw [al];exact t5.drop.drop.drop.drop.drop)|>.drop⟩
  ·obtain ⟨va,vc,rfl,_,_⟩:=t5.aq
   simp
   refine bU t5 rfl fun d2 w6 t6=> ?_
   simp
   have hil:i<(c.es.map fun e=>(dq e).b).length:=by simpa using c1
   have hge:(c.es.map fun e=>(dq e).b)[i]=(dq e).b:=by simp [he]
   have t6:St w0 (D*gm 133 p (nL c)*gi (vs++ [.slice va (dq e).b.length vc]) ((c.es.map fun e=>(dq e).b).take (i+1))*pt d (.cells (e.cs wv).toArray 34 (0,0))*gm 133 p2 (dq e)*pt d2 (.cells #[.slice va (dq e).b.length vc] 52 (0,0))*own 52 1 lv i vs) w6:=t6.to (by
    rw [List.take_succ_eq_append_getElem hil,sP _ _ _ _ (by rw [List.length_take];simp;omega),hge];simp only [je];ac_rfl)
   refine bh (m:=1) (news:= [.slice va (dq e).b.length vc]) t6 rfl (by simpa using t6.swap.aF) (by simp [Value.oneCell']) (by decide) rfl (by unfold maxLen;omega) (by omega) fun v7 w7 t7=> ?_
   simp
   try simp (disch:=omega) only [wrap64]
   refine hN _ _ ⟨i+1,v7,_,_,_,vs++ [.slice va (dq e).b.length vc],by simp;exact ⟨rfl,rfl,rfl⟩,by omega,by simp [hvs],?_,?_⟩ (by simp [au];omega)
   ·intro y hy
    rw [List.take_succ_eq_append_getElem c1] at hy
    rcases List.mem_append.1 hy with hy|hy
    ·exact hgood y hy
    ·have:y=e:=by simpa [he] using hy
     rw [this];exact hok
   ·exact (t7.cut (pt d (.cells (e.cs wv).toArray 34 (0,0))*gm 133 p2 (dq e)*pt d2 (.cells #[.slice va (dq e).b.length vc] 52 (0,0))) (B:=D*gm 133 p (nL c)*own 52 1 v7 (i+1) (vs++ [.slice va (dq e).b.length vc])*gi (vs++ [.slice va (dq e).b.length vc]) ((c.es.map fun e=>(dq e).b).take (i+1))) (by ac_rfl))
 ·simp at c1
  simp
  refine hX _ _ _ ?_
  obtain rfl:i=c.es.length:=by omega
  have ht:(c.es.map fun e=>(dq e).b).take c.es.length=c.es.map fun e=>(dq e).b:=by rw [List.take_of_length_le];simp
  rw [ht] at t1
  rw [List.take_length] at hgood
  have hll:(bS (c.es.map fun e=>(dq e).b)).length≤35184372088832:=by
   have:=mB (m:=1048576) (L:=c.es.map fun e=>(dq e).b) (fun x hx=>by
    obtain ⟨y,_,rfl⟩:=List.mem_map.1 hx
    exact (Fu y).len)
   simp at this
   omega
  have t2:St w0 (D*own 52 1 lv (c.es.map fun e=>(dq e).b).length vs*gi vs (c.es.map fun e=>(dq e).b)*gm 133 p (nL c)) w':=t1.to (by rw [List.length_map];ac_rfl)
  simp
  refine ab ((jb p (nL c) 11 vs (c.es.map fun e=>(dq e).b) lv w0 w' (D*own 52 1 lv (c.es.map fun e=>(dq e).b).length vs) (AW c) (by simp [hvs]) (by simp;omega) hll (bG t2.drop.drop) t2).mono fun _ w5 s5=> ?_)
  simp
  exact ⟨hgood,out (s5.cut (own 52 1 lv (c.es.map fun e=>(dq e).b).length vs*gi vs (c.es.map fun e=>(dq e).b)) (B:=D*gm 133 p (AV c)) (by simp only [AV];ac_rfl))⟩
end Go.HL.Sr
namespace Go.HL.Sr
open Go.HL Go.HL.Tl Go.Proofs
def fF (e:PE):List UInt8:=if (dq e).e=0 then (dq e).b else []
def WS (c:PC) (i:Nat) (W:Wr):Prop:=W.ok∧(((∀e∈c.es.take i,(dq e).e=0)∧W=nL c)∨((¬∀e∈c.es.take i,(dq e).e=0)∧W.e≠0))
end Go.HL.Sr
namespace Go.HL.Sr
open Go.HL Go.HL.Tl Go.Proofs
def mE (e:PE):Prop:=e.acc=0∧e.item=0∧e.coins=0∧e.price=0∧e.ws.length=0
instance (e:PE):Decidable (mE e):=inferInstanceAs (Decidable (_∧_))
def fx (c:PC):Prop:=c.kind=0∧c.by'=0∧c.dead=0∧c.to'=0∧c.want=0∧c.price=0∧c.res=0∧c.step=0∧c.of'=0∧c.es.length=0
instance (c:PC):Decidable (fx c):=inferInstanceAs (Decidable (_∧_))
def aYa:Nat→PO
 |0=>(.fld 0)
 |1=>(.bin .eql)
 |2=>(.fld 1)
 |3=>(.fld 2)
 |4=>(.fld 3)
 |5=>(.fld 4)
 |6=> .lenL
 |7=>(.fld 5)
 |8=>(.fld 6)
 |9=>(.fld 7)
 |10=>(.fld 8)
 |11=>(.fld 9)
 |12=>(.fld 10)
 |_=> .same
def YV:Nat→EO
 |0=>(.box 34)
 |1=>(.ld false 1)
 |2=>(.box 37)
 |_=> .ak
def c8a:Nat→Value
 |0=>(.bool false)
 |1=>(.int .i64 0)
 |2=>(.tuple #[])
 |3=>(.int .u64 0)
 |_=>undef
def cba:cE:=⟨aYa,YV,c8a⟩
def R3:ag:=⟨[0,1,2],27,[.slot 2],aM cba [] 0x2cb2f0677227237a57df7df69961200248048048044189c7e37a57df7da6584800920120110e271f8de95f7da65848009201116271f8de95f69961200244789c71f6996155144d20555134480460424475144d20555134480460544d12011944d74825544d00454470511d44d00454475545134834460511545134834460544d74825544d00444450511544d00444455545134834440510d45134834440544d74825544d00434430510d44d00434435545134814420510545134814420544d74825544d00424410510544d00424415545134814400545134814400544d551340100151340102789a6596120024400544d0000⟩
theorem Mx:ah T0 121 400=some R3:=by kernel_rfl
theorem HQ (e:PE) (v:Value) (w0 w:World) (A:aj) (h:WR w0 A v e.ws) (s:St w0 A w):
  ai Tryz.prog 121 [.agg (e.cs v).toArray] (fun r w'=>r= .bool (decide (mE e))∧St w0 A w') w:=by
 obtain ⟨wa,wc,rfl⟩:=h.val
 refine az Mx (by simp [R3]) ?_
 simp -implicitDefEqProofs [R3,Instr.fill,Value.cells]
 refine bj s fun b w1 s1=> ?_
 simp -implicitDefEqProofs [Instr.fill,Value.cells]
 have s1:St w0 (A*pt b (.cells (e.cs (.slice wa e.ws.length wc)).toArray 34 (0,0))) w1:=s1
 have f:∀j u,(e.cs (.slice wa e.ws.length wc))[j]?=some u→w1.cell? ⟨b,j,none⟩=some u:=fun j u hu=>by
  have:=s1.af j u hu;simpa using this
 refine ad (v:= .int .i64 e.acc) (f 0 _ rfl) ?_
 by_cases c0:e.acc=0
 case neg=>simp -implicitDefEqProofs [c0,mE];exact s1.drop
 simp -implicitDefEqProofs [c0]
 refine ad (v:= .int .i64 e.item) (f 1 _ rfl) ?_
 by_cases c1:e.item=0
 case neg=>simp -implicitDefEqProofs [c1,mE];exact s1.drop
 simp -implicitDefEqProofs [c1]
 refine ad (v:= .int .u64 e.coins) (f 2 _ rfl) ?_
 by_cases c2:e.coins=0
 case neg=>simp -implicitDefEqProofs [c2,mE];exact s1.drop
 simp -implicitDefEqProofs [c2]
 refine ad (v:= .int .u64 e.price) (f 3 _ rfl) ?_
 by_cases c3:e.price=0
 case neg=>simp -implicitDefEqProofs [c3,mE];exact s1.drop
 simp -implicitDefEqProofs [c3]
 refine ad (v:= .slice wa e.ws.length wc) (f 4 _ rfl) ?_
 simp -implicitDefEqProofs [c0,c1,c2,c3,mE]
 exact s1.drop
end Go.HL.Sr
namespace Go.HL.Sr
open Go.HL Go.HL.Tl Go.Proofs
def fC (r:PR):Prop:=r.nm= []∧r.fr=0∧r.to'=0∧r.coins=0∧r.item=0∧r.num=0∧mE r.en∧r.ticks=0
instance (r:PR):Decidable (fC r):=inferInstanceAs (Decidable (_∧_))
def eV (r:PR):Prop:=r.co.num=0∧(1≤r.kind∧r.kind≤10)∧(r.kind=6∨fx r.co)∧(r.kind=1∨r.nm= [])∧(r.kind=4∨r.kind=5∨r.kind=8∨r.fr=0)∧
 (r.kind=2∨r.kind=3∨r.kind=4∨r.kind=5∨r.to'=0)∧(r.kind=2∨r.kind=4∨r.coins=0)∧(r.kind=5∨r.item=0)∧
 (r.kind=3∨r.kind=7∨r.kind=8∨r.kind=9∨r.num=0)∧(r.kind=7∨mE r.en)∧(r.kind=10∨r.ticks=0)
instance (r:PR):Decidable (eV r):=inferInstanceAs (Decidable (_∧_))
def nO:RT:=(.chk none (.bin .eql) (.cons (.bv 8) (.cons (.cst (.int .i64 0)) .nil)) (.isb none (.bv 7) (.fu (.op (.bin .eql) (.cons (.bv 8) (.cons (.cst (.int .i64 0)) .nil))) (.chk (some ((.bv 9),true)) (.fld 6) (.cons (.inp 1) .nil) (.ite (.bv 9) true (.eff (.ld false 1) (.cons (.ite (.bv 9) true (.op (.fld 6) (.cons (.inp 1) .nil)) (.cst (.tuple #[]))) .nil) (.chk none (.bin .eql) (.cons (.bv 10) (.cons (.cst (.int .i64 0)) .nil)) (.isb none (.bv 9) (.fu (.op (.bin .eql) (.cons (.bv 10) (.cons (.cst (.int .i64 0)) .nil))) (.chk (some ((.bv 11),true)) (.fld 7) (.cons (.inp 1) .nil) (.ite (.bv 11) true (.eff (.ld true 5) (.cons (.ite (.bv 11) true (.op (.fld 7) (.cons (.inp 1) .nil)) (.cst (.tuple #[]))) .nil) (.eff (.call 121) (.cons (.bv 12) .nil) (.isb none (.bv 11) (.chk (some ((.bv 13),true)) (.fld 23) (.cons (.inp 1) .nil) (.ite (.bv 13) true (.eff (.ld false 1) (.cons (.ite (.bv 13) true (.op (.fld 23) (.cons (.inp 1) .nil)) (.cst (.tuple #[]))) .nil) (.chk none (.bin .eql) (.cons (.bv 14) (.cons (.cst (.int .i64 0)) .nil)) (.isb none (.bv 13) (.done [(2,(.op (.bin .eql) (.cons (.bv 14) (.cons (.cst (.int .i64 0)) .nil))))] none)))) (.isb none (.bv 13) (.done [(2,(.cst (.bool false)))] none))))))) (.isb none (.bv 11) (.isb none (.cst (.bool false)) (.done [(2,(.cst (.bool false)))] none))))))))) (.isb none (.bv 9) (.isb none (.cst (.bool false)) (.isb none (.cst (.bool false)) (.done [(2,(.cst (.bool false)))] none)))))))))
@[simp] theorem bHa:type_of%(@jI nO _ nO.eq_1):=jI nO.eq_1
@[simp] theorem WV:type_of%(@cV nO _ nO.eq_1):=cV nO.eq_1
@[simp] theorem WU:type_of%(@cR nO _ nO.eq_1):=cR nO.eq_1
def nP:RT:=(.eff (.ld false 1) (.cons (.ite (.bv 7) true (.op (.fld 5) (.cons (.inp 1) .nil)) (.cst (.tuple #[]))) .nil) nO)
@[simp] theorem bIa:type_of%(@jI nP _ nP.eq_1):=jI nP.eq_1
@[simp] theorem Xc:type_of%(@cV nP _ nP.eq_1):=cV nP.eq_1
@[simp] theorem Xb:type_of%(@cR nP _ nP.eq_1):=cR nP.eq_1
def nQ:RT:=(.chk none (.bin .eql) (.cons (.bv 6) (.cons (.cst (.int .u64 0)) .nil)) (.isb none (.bv 5) (.fu (.op (.bin .eql) (.cons (.bv 6) (.cons (.cst (.int .u64 0)) .nil))) (.chk (some ((.bv 7),true)) (.fld 5) (.cons (.inp 1) .nil) (.ite (.bv 7) true nP (.isb none (.bv 7) (.isb none (.cst (.bool false)) (.isb none (.cst (.bool false)) (.isb none (.cst (.bool false)) (.done [(2,(.cst (.bool false)))] none))))))))))
@[simp] theorem bJa:type_of%(@jI nQ _ nQ.eq_1):=jI nQ.eq_1
@[simp] theorem Xh:type_of%(@cV nQ _ nQ.eq_1):=cV nQ.eq_1
@[simp] theorem Xg:type_of%(@cR nQ _ nQ.eq_1):=cR nQ.eq_1
def nR:RT:=(.eff (.ld false 1) (.cons (.ite (.bv 5) true (.op (.fld 4) (.cons (.inp 1) .nil)) (.cst (.tuple #[]))) .nil) nQ)
@[simp] theorem bKa:type_of%(@jI nR _ nR.eq_1):=jI nR.eq_1
@[simp] theorem Xj:type_of%(@cV nR _ nR.eq_1):=cV nR.eq_1
@[simp] theorem Xi:type_of%(@cR nR _ nR.eq_1):=cR nR.eq_1
def nS:RT:=(.chk none (.bin .eql) (.cons (.bv 4) (.cons (.cst (.int .i64 0)) .nil)) (.isb none (.bv 3) (.fu (.op (.bin .eql) (.cons (.bv 4) (.cons (.cst (.int .i64 0)) .nil))) (.chk (some ((.bv 5),true)) (.fld 4) (.cons (.inp 1) .nil) (.ite (.bv 5) true nR (.isb none (.bv 5) (.isb none (.cst (.bool false)) (.isb none (.cst (.bool false)) (.isb none (.cst (.bool false)) (.isb none (.cst (.bool false)) (.done [(2,(.cst (.bool false)))] none)))))))))))
@[simp] theorem bLa:type_of%(@jI nS _ nS.eq_1):=jI nS.eq_1
@[simp] theorem Xl:type_of%(@cV nS _ nS.eq_1):=cV nS.eq_1
@[simp] theorem Xk:type_of%(@cR nS _ nS.eq_1):=cR nS.eq_1
def nT:RT:=(.eff (.ld false 1) (.cons (.ite (.bv 3) true (.op (.fld 3) (.cons (.inp 1) .nil)) (.cst (.tuple #[]))) .nil) nS)
@[simp] theorem bMa:type_of%(@jI nT _ nT.eq_1):=jI nT.eq_1
@[simp] theorem Xn:type_of%(@cV nT _ nT.eq_1):=cV nT.eq_1
@[simp] theorem Xm:type_of%(@cR nT _ nT.eq_1):=cR nT.eq_1
def nU:RT:=(.chk none (.bin .eql) (.cons (.bv 2) (.cons (.cst (.int .i64 0)) .nil)) (.isb none (.bv 1) (.fu (.op (.bin .eql) (.cons (.bv 2) (.cons (.cst (.int .i64 0)) .nil))) (.chk (some ((.bv 3),true)) (.fld 3) (.cons (.inp 1) .nil) (.ite (.bv 3) true nT (.isb none (.bv 3) (.isb none (.cst (.bool false)) (.isb none (.cst (.bool false)) (.isb none (.cst (.bool false)) (.isb none (.cst (.bool false)) (.isb none (.cst (.bool false)) (.done [(2,(.cst (.bool false)))] none))))))))))))
@[simp] theorem bNa:type_of%(@jI nU _ nU.eq_1):=jI nU.eq_1
@[simp] theorem Xp:type_of%(@cV nU _ nU.eq_1):=cV nU.eq_1
@[simp] theorem Xo:type_of%(@cR nU _ nU.eq_1):=cR nU.eq_1
def nV:RT:=(.eff (.ld false 1) (.cons (.ite (.bv 1) true (.op (.fld 2) (.cons (.inp 1) .nil)) (.cst (.tuple #[]))) .nil) nU)
@[simp] theorem bOa:type_of%(@jI nV _ nV.eq_1):=jI nV.eq_1
@[simp] theorem Xr:type_of%(@cV nV _ nV.eq_1):=cV nV.eq_1
@[simp] theorem Xq:type_of%(@cR nV _ nV.eq_1):=cR nV.eq_1
def nW:RT:=(.chk none (.bin .eql) (.cons (.bv 0) (.cons (.cst (.string ⟨#[]⟩)) .nil)) (.fu (.op (.bin .eql) (.cons (.bv 0) (.cons (.cst (.string ⟨#[]⟩)) .nil))) (.chk (some ((.bv 1),true)) (.fld 2) (.cons (.inp 1) .nil) (.ite (.bv 1) true nV (.isb none (.bv 1) (.isb none (.cst (.bool false)) (.isb none (.cst (.bool false)) (.isb none (.cst (.bool false)) (.isb none (.cst (.bool false)) (.isb none (.cst (.bool false)) (.isb none (.cst (.bool false)) (.done [(2,(.cst (.bool false)))] none))))))))))))
@[simp] theorem bPa:type_of%(@jI nW _ nW.eq_1):=jI nW.eq_1
@[simp] theorem Xt:type_of%(@cV nW _ nW.eq_1):=cV nW.eq_1
@[simp] theorem Xs:type_of%(@cR nW _ nW.eq_1):=cR nW.eq_1
def FA:HC:=(.seq (.reg (.chk none (.fld 1) (.cons (.inp 1) .nil) (.eff (.ld false 1) (.cons (.op (.fld 1) (.cons (.inp 1) .nil)) .nil) nW))) .ret)
@[simp] theorem ZK:type_of%(@aC FA _ FA.eq_1):=aC FA.eq_1
def FB:HC:=(.seq (.reg (.done [(2,(.cst (.bool false)))] none)) .ret)
@[simp] theorem ZL:type_of%(@aC FB _ FB.eq_1):=aC FB.eq_1
def nX:RT:=(.chk none (.bin .neq) (.cons (.bv 12) (.cons (.cst (.int .u64 0)) .nil)) (.isb none (.bv 11) (.fu (.op (.bin .neq) (.cons (.bv 12) (.cons (.cst (.int .u64 0)) .nil))) (.chk (some ((.bv 13),false)) (.fld 7) (.cons (.inp 3) .nil) (.ite (.bv 13) false (.eff (.ld false 1) (.cons (.ite (.bv 13) false (.op (.fld 7) (.cons (.inp 3) .nil)) (.cst (.tuple #[]))) .nil) (.chk none (.bin .neq) (.cons (.bv 14) (.cons (.cst (.int .u64 0)) .nil)) (.isb none (.bv 13) (.fu (.op (.bin .neq) (.cons (.bv 14) (.cons (.cst (.int .u64 0)) .nil))) (.chk (some ((.bv 15),false)) (.fld 8) (.cons (.inp 3) .nil) (.ite (.bv 15) false (.eff (.ld false 1) (.cons (.ite (.bv 15) false (.op (.fld 8) (.cons (.inp 3) .nil)) (.cst (.tuple #[]))) .nil) (.chk none (.bin .neq) (.cons (.bv 16) (.cons (.cst (.int .u64 0)) .nil)) (.isb none (.bv 15) (.fu (.op (.bin .neq) (.cons (.bv 16) (.cons (.cst (.int .u64 0)) .nil))) (.chk (some ((.bv 17),false)) (.fld 9) (.cons (.inp 3) .nil) (.ite (.bv 17) false (.eff (.ld false 1) (.cons (.ite (.bv 17) false (.op (.fld 9) (.cons (.inp 3) .nil)) (.cst (.tuple #[]))) .nil) (.chk none (.bin .neq) (.cons (.bv 18) (.cons (.cst (.int .i64 0)) .nil)) (.isb none (.bv 17) (.done [] (some (.op (.bin .neq) (.cons (.bv 18) (.cons (.cst (.int .i64 0)) .nil)))))))) (.isb none (.bv 17) (.done [] (some (.cst (.bool true))))))))))) (.isb none (.bv 15) (.isb none (.cst (.bool true)) (.done [] (some (.cst (.bool true)))))))))))) (.isb none (.bv 13) (.isb none (.cst (.bool true)) (.isb none (.cst (.bool true)) (.done [] (some (.cst (.bool true))))))))))))
@[simp] theorem bQa:type_of%(@jI nX _ nX.eq_1):=jI nX.eq_1
@[simp] theorem Xv:type_of%(@cV nX _ nX.eq_1):=cV nX.eq_1
@[simp] theorem Xu:type_of%(@cR nX _ nX.eq_1):=cR nX.eq_1
def j2:RT:=(.eff (.ld false 1) (.cons (.ite (.bv 11) false (.op (.fld 6) (.cons (.inp 3) .nil)) (.cst (.tuple #[]))) .nil) nX)
@[simp] theorem WW:type_of%(@jI j2 _ j2.eq_1):=jI j2.eq_1
@[simp] theorem Us:type_of%(@cV j2 _ j2.eq_1):=cV j2.eq_1
@[simp] theorem Ur:type_of%(@cR j2 _ j2.eq_1):=cR j2.eq_1
def j3:RT:=(.chk none (.bin .neq) (.cons (.bv 10) (.cons (.cst (.int .i64 0)) .nil)) (.isb none (.bv 9) (.fu (.op (.bin .neq) (.cons (.bv 10) (.cons (.cst (.int .i64 0)) .nil))) (.chk (some ((.bv 11),false)) (.fld 6) (.cons (.inp 3) .nil) (.ite (.bv 11) false j2 (.isb none (.bv 11) (.isb none (.cst (.bool true)) (.isb none (.cst (.bool true)) (.isb none (.cst (.bool true)) (.done [] (some (.cst (.bool true)))))))))))))
@[simp] theorem WX:type_of%(@jI j3 _ j3.eq_1):=jI j3.eq_1
@[simp] theorem Uu:type_of%(@cV j3 _ j3.eq_1):=cV j3.eq_1
@[simp] theorem Ut:type_of%(@cR j3 _ j3.eq_1):=cR j3.eq_1
def j4:RT:=(.eff (.ld false 1) (.cons (.ite (.bv 9) false (.op (.fld 5) (.cons (.inp 3) .nil)) (.cst (.tuple #[]))) .nil) j3)
@[simp] theorem WY:type_of%(@jI j4 _ j4.eq_1):=jI j4.eq_1
@[simp] theorem Uw:type_of%(@cV j4 _ j4.eq_1):=cV j4.eq_1
@[simp] theorem Uv:type_of%(@cR j4 _ j4.eq_1):=cR j4.eq_1
def j5:RT:=(.chk none (.bin .neq) (.cons (.bv 8) (.cons (.cst (.int .i64 0)) .nil)) (.isb none (.bv 7) (.fu (.op (.bin .neq) (.cons (.bv 8) (.cons (.cst (.int .i64 0)) .nil))) (.chk (some ((.bv 9),false)) (.fld 5) (.cons (.inp 3) .nil) (.ite (.bv 9) false j4 (.isb none (.bv 9) (.isb none (.cst (.bool true)) (.isb none (.cst (.bool true)) (.isb none (.cst (.bool true)) (.isb none (.cst (.bool true)) (.done [] (some (.cst (.bool true))))))))))))))
@[simp] theorem WZ:type_of%(@jI j5 _ j5.eq_1):=jI j5.eq_1
@[simp] theorem Uy:type_of%(@cV j5 _ j5.eq_1):=cV j5.eq_1
@[simp] theorem Ux:type_of%(@cR j5 _ j5.eq_1):=cR j5.eq_1
def j6:RT:=(.eff (.ld false 1) (.cons (.ite (.bv 7) false (.op (.fld 4) (.cons (.inp 3) .nil)) (.cst (.tuple #[]))) .nil) j5)
@[simp] theorem W5:type_of%(@jI j6 _ j6.eq_1):=jI j6.eq_1
@[simp] theorem UA:type_of%(@cV j6 _ j6.eq_1):=cV j6.eq_1
@[simp] theorem Uz:type_of%(@cR j6 _ j6.eq_1):=cR j6.eq_1
def j7:RT:=(.chk none (.bin .neq) (.cons (.bv 6) (.cons (.cst (.int .i64 0)) .nil)) (.isb none (.bv 5) (.fu (.op (.bin .neq) (.cons (.bv 6) (.cons (.cst (.int .i64 0)) .nil))) (.chk (some ((.bv 7),false)) (.fld 4) (.cons (.inp 3) .nil) (.ite (.bv 7) false j6 (.isb none (.bv 7) (.isb none (.cst (.bool true)) (.isb none (.cst (.bool true)) (.isb none (.cst (.bool true)) (.isb none (.cst (.bool true)) (.isb none (.cst (.bool true)) (.done [] (some (.cst (.bool true)))))))))))))))
@[simp] theorem W6:type_of%(@jI j7 _ j7.eq_1):=jI j7.eq_1
@[simp] theorem UC:type_of%(@cV j7 _ j7.eq_1):=cV j7.eq_1
@[simp] theorem UB:type_of%(@cR j7 _ j7.eq_1):=cR j7.eq_1
def j8:RT:=(.eff (.ld false 1) (.cons (.ite (.bv 5) false (.op (.fld 3) (.cons (.inp 3) .nil)) (.cst (.tuple #[]))) .nil) j7)
@[simp] theorem W7:type_of%(@jI j8 _ j8.eq_1):=jI j8.eq_1
@[simp] theorem UE:type_of%(@cV j8 _ j8.eq_1):=cV j8.eq_1
@[simp] theorem UD:type_of%(@cR j8 _ j8.eq_1):=cR j8.eq_1
def j9:RT:=(.chk none (.bin .neq) (.cons (.bv 4) (.cons (.cst (.int .i64 0)) .nil)) (.isb none (.bv 3) (.fu (.op (.bin .neq) (.cons (.bv 4) (.cons (.cst (.int .i64 0)) .nil))) (.chk (some ((.bv 5),false)) (.fld 3) (.cons (.inp 3) .nil) (.ite (.bv 5) false j8 (.isb none (.bv 5) (.isb none (.cst (.bool true)) (.isb none (.cst (.bool true)) (.isb none (.cst (.bool true)) (.isb none (.cst (.bool true)) (.isb none (.cst (.bool true)) (.isb none (.cst (.bool true)) (.done [] (some (.cst (.bool true))))))))))))))))
@[simp] theorem W8:type_of%(@jI j9 _ j9.eq_1):=jI j9.eq_1
@[simp] theorem UG:type_of%(@cV j9 _ j9.eq_1):=cV j9.eq_1
@[simp] theorem UF:type_of%(@cR j9 _ j9.eq_1):=cR j9.eq_1
def kb:RT:=(.eff (.ld false 1) (.cons (.ite (.bv 3) false (.op (.fld 2) (.cons (.inp 3) .nil)) (.cst (.tuple #[]))) .nil) j9)
@[simp] theorem W9:type_of%(@jI kb _ kb.eq_1):=jI kb.eq_1
@[simp] theorem UI:type_of%(@cV kb _ kb.eq_1):=cV kb.eq_1
@[simp] theorem UH:type_of%(@cR kb _ kb.eq_1):=cR kb.eq_1
def kd:RT:=(.chk none (.bin .neq) (.cons (.bv 2) (.cons (.cst (.int .i64 0)) .nil)) (.isb none (.bv 1) (.fu (.op (.bin .neq) (.cons (.bv 2) (.cons (.cst (.int .i64 0)) .nil))) (.chk (some ((.bv 3),false)) (.fld 2) (.cons (.inp 3) .nil) (.ite (.bv 3) false kb (.isb none (.bv 3) (.isb none (.cst (.bool true)) (.isb none (.cst (.bool true)) (.isb none (.cst (.bool true)) (.isb none (.cst (.bool true)) (.isb none (.cst (.bool true)) (.isb none (.cst (.bool true)) (.isb none (.cst (.bool true)) (.done [] (some (.cst (.bool true)))))))))))))))))
@[simp] theorem Xa:type_of%(@jI kd _ kd.eq_1):=jI kd.eq_1
@[simp] theorem UK:type_of%(@cV kd _ kd.eq_1):=cV kd.eq_1
@[simp] theorem UJ:type_of%(@cR kd _ kd.eq_1):=cR kd.eq_1
def kf:RT:=(.eff (.ld false 1) (.cons (.ite (.bv 1) false (.op (.fld 1) (.cons (.inp 3) .nil)) (.cst (.tuple #[]))) .nil) kd)
@[simp] theorem Xd:type_of%(@jI kf _ kf.eq_1):=jI kf.eq_1
@[simp] theorem UM:type_of%(@cV kf _ kf.eq_1):=cV kf.eq_1
@[simp] theorem UL:type_of%(@cR kf _ kf.eq_1):=cR kf.eq_1
def kh:RT:=(.isb none (.bv 1) (.isb none (.cst (.bool true)) (.isb none (.cst (.bool true)) (.isb none (.cst (.bool true)) (.isb none (.cst (.bool true)) (.isb none (.cst (.bool true)) (.isb none (.cst (.bool true)) (.isb none (.cst (.bool true)) (.isb none (.cst (.bool true)) (.done [] (some (.cst (.bool true)))))))))))))
@[simp] theorem Xe:type_of%(@jI kh _ kh.eq_1):=jI kh.eq_1
@[simp] theorem UO:type_of%(@cV kh _ kh.eq_1):=cV kh.eq_1
@[simp] theorem UN:type_of%(@cR kh _ kh.eq_1):=cR kh.eq_1
def ki:RT:=(.chk none .lenL (.cons (.bv 0) .nil) (.chk none (.bin .gtr) (.cons (.op .lenL (.cons (.bv 0) .nil)) (.cons (.cst (.int .i64 0)) .nil)) (.fu (.op (.bin .gtr) (.cons (.op .lenL (.cons (.bv 0) .nil)) (.cons (.cst (.int .i64 0)) .nil))) (.chk (some ((.bv 1),false)) (.fld 1) (.cons (.inp 3) .nil) (.ite (.bv 1) false kf kh)))))
@[simp] theorem Xf:type_of%(@jI ki _ ki.eq_1):=jI ki.eq_1
@[simp] theorem UQ:type_of%(@cV ki _ ki.eq_1):=cV ki.eq_1
@[simp] theorem UP:type_of%(@cR ki _ ki.eq_1):=cR ki.eq_1
def Bv:HC:=(.seq (.br (.chk none (.fld 10) (.cons (.inp 3) .nil) (.eff (.ld false 1) (.cons (.op (.fld 10) (.cons (.inp 3) .nil)) .nil) ki)) FB .skip) FA)
@[simp] theorem bV:type_of%(@aC Bv _ Bv.eq_1):=aC Bv.eq_1
def FC:HC:=(.reg (.chk none (.fld 1) (.cons (.inp 1) .nil) (.eff (.st 1) (.cons (.op (.fld 1) (.cons (.inp 1) .nil)) (.cons (.cst (.string ⟨#[]⟩)) .nil)) (.done [] none))))
@[simp] theorem ZM:type_of%(@aC FC _ FC.eq_1):=aC FC.eq_1
def FD:HC:=(.reg (.chk none (.fld 3) (.cons (.inp 1) .nil) (.eff (.st 1) (.cons (.op (.fld 3) (.cons (.inp 1) .nil)) (.cons (.cst (.int .i64 0)) .nil)) (.chk none (.fld 4) (.cons (.inp 1) .nil) (.eff (.st 1) (.cons (.op (.fld 4) (.cons (.inp 1) .nil)) (.cons (.cst (.int .u64 0)) .nil)) (.done [] none))))))
@[simp] theorem ZN:type_of%(@aC FD _ FD.eq_1):=aC FD.eq_1
def FE:HC:=(.reg (.chk none (.fld 6) (.cons (.inp 1) .nil) (.eff (.st 1) (.cons (.op (.fld 6) (.cons (.inp 1) .nil)) (.cons (.cst (.int .i64 0)) .nil)) (.chk none (.fld 3) (.cons (.inp 1) .nil) (.eff (.st 1) (.cons (.op (.fld 3) (.cons (.inp 1) .nil)) (.cons (.cst (.int .i64 0)) .nil)) (.done [] none))))))
@[simp] theorem ZO:type_of%(@aC FE _ FE.eq_1):=aC FE.eq_1
def FF:HC:=(.reg (.chk none (.fld 2) (.cons (.inp 1) .nil) (.eff (.st 1) (.cons (.op (.fld 2) (.cons (.inp 1) .nil)) (.cons (.cst (.int .i64 0)) .nil)) (.chk none (.fld 3) (.cons (.inp 1) .nil) (.eff (.st 1) (.cons (.op (.fld 3) (.cons (.inp 1) .nil)) (.cons (.cst (.int .i64 0)) .nil)) (.chk none (.fld 4) (.cons (.inp 1) .nil) (.eff (.st 1) (.cons (.op (.fld 4) (.cons (.inp 1) .nil)) (.cons (.cst (.int .u64 0)) .nil)) (.done [] none))))))))
@[simp] theorem ZP:type_of%(@aC FF _ FF.eq_1):=aC FF.eq_1
def FG:HC:=(.reg (.chk none (.fld 5) (.cons (.inp 1) .nil) (.eff (.st 1) (.cons (.op (.fld 5) (.cons (.inp 1) .nil)) (.cons (.cst (.int .i64 0)) .nil)) (.chk none (.fld 2) (.cons (.inp 1) .nil) (.eff (.st 1) (.cons (.op (.fld 2) (.cons (.inp 1) .nil)) (.cons (.cst (.int .i64 0)) .nil)) (.chk none (.fld 3) (.cons (.inp 1) .nil) (.eff (.st 1) (.cons (.op (.fld 3) (.cons (.inp 1) .nil)) (.cons (.cst (.int .i64 0)) .nil)) (.done [] none))))))))
@[simp] theorem ZQ:type_of%(@aC FG _ FG.eq_1):=aC FG.eq_1
def FH:HC:=(.reg (.chk none (.build #[(.int .i64 0),(.int .i64 0),(.int .i64 0),(.int .i64 0),(.int .i64 0),(.int .i64 0),(.int .u64 0),(.int .u64 0),(.int .u64 0),(.int .i64 0),(.slice none 0 0)] [(0,1),(1,1),(2,1),(3,1),(4,1),(5,1),(6,1),(7,1),(8,1),(9,1),(10,1)] []) .nil (.eff (.st 11) (.cons (.inp 3) (.cons (.op (.build #[(.int .i64 0),(.int .i64 0),(.int .i64 0),(.int .i64 0),(.int .i64 0),(.int .i64 0),(.int .u64 0),(.int .u64 0),(.int .u64 0),(.int .i64 0),(.slice none 0 0)] [(0,1),(1,1),(2,1),(3,1),(4,1),(5,1),(6,1),(7,1),(8,1),(9,1),(10,1)] []) .nil) .nil)) (.done [] none))))
@[simp] theorem ZR:type_of%(@aC FH _ FH.eq_1):=aC FH.eq_1
def FI:HC:=(.reg (.chk none (.build #[(.int .i64 0),(.int .i64 0),(.int .u64 0),(.int .u64 0),(.slice none 0 0)] [(0,1),(1,1),(2,1),(3,1),(4,1)] []) .nil (.chk none (.fld 6) (.cons (.inp 1) .nil) (.eff (.st 1) (.cons (.op (.fld 6) (.cons (.inp 1) .nil)) (.cons (.cst (.int .i64 0)) .nil)) (.chk none (.fld 7) (.cons (.inp 1) .nil) (.eff (.st 5) (.cons (.op (.fld 7) (.cons (.inp 1) .nil)) (.cons (.op (.build #[(.int .i64 0),(.int .i64 0),(.int .u64 0),(.int .u64 0),(.slice none 0 0)] [(0,1),(1,1),(2,1),(3,1),(4,1)] []) .nil) .nil)) (.done [] none)))))))
@[simp] theorem ZS:type_of%(@aC FI _ FI.eq_1):=aC FI.eq_1
def zh:HC:=(.reg (.chk none (.fld 6) (.cons (.inp 1) .nil) (.eff (.st 1) (.cons (.op (.fld 6) (.cons (.inp 1) .nil)) (.cons (.cst (.int .i64 0)) .nil)) (.chk none (.fld 2) (.cons (.inp 1) .nil) (.eff (.st 1) (.cons (.op (.fld 2) (.cons (.inp 1) .nil)) (.cons (.cst (.int .i64 0)) .nil)) (.done [] none))))))
@[simp] theorem Wt:type_of%(@aC zh _ zh.eq_1):=aC zh.eq_1
def zi:HC:=(.reg (.chk none (.fld 6) (.cons (.inp 1) .nil) (.eff (.st 1) (.cons (.op (.fld 6) (.cons (.inp 1) .nil)) (.cons (.cst (.int .i64 0)) .nil)) (.done [] none))))
@[simp] theorem Wu:type_of%(@aC zi _ zi.eq_1):=aC zi.eq_1
def zj:HC:=(.reg (.chk none (.fld 23) (.cons (.inp 1) .nil) (.eff (.st 1) (.cons (.op (.fld 23) (.cons (.inp 1) .nil)) (.cons (.cst (.int .i64 0)) .nil)) (.done [] none))))
@[simp] theorem Wv:type_of%(@aC zj _ zj.eq_1):=aC zj.eq_1
def zk:HC:=(.seq (.reg (.done [(2,(.cst (.bool false)))] none)) .ret)
@[simp] theorem Ww:type_of%(@aC zk _ zk.eq_1):=aC zk.eq_1
def zl:HC:=(.br (.chk none (.bin .eql) (.cons (.inp 4) (.cons (.cst (.int .i64 10)) .nil)) (.done [] (some (.op (.bin .eql) (.cons (.inp 4) (.cons (.cst (.int .i64 10)) .nil)))))) zj zk)
@[simp] theorem Wx:type_of%(@aC zl _ zl.eq_1):=aC zl.eq_1
def zm:HC:=(.br (.chk none (.bin .eql) (.cons (.inp 4) (.cons (.cst (.int .i64 9)) .nil)) (.done [] (some (.op (.bin .eql) (.cons (.inp 4) (.cons (.cst (.int .i64 9)) .nil)))))) zi zl)
@[simp] theorem Wy:type_of%(@aC zm _ zm.eq_1):=aC zm.eq_1
def zn:HC:=(.br (.chk none (.bin .eql) (.cons (.inp 4) (.cons (.cst (.int .i64 8)) .nil)) (.done [] (some (.op (.bin .eql) (.cons (.inp 4) (.cons (.cst (.int .i64 8)) .nil)))))) zh zm)
@[simp] theorem Wz:type_of%(@aC zn _ zn.eq_1):=aC zn.eq_1
def zo:HC:=(.br (.chk none (.bin .eql) (.cons (.inp 4) (.cons (.cst (.int .i64 7)) .nil)) (.done [] (some (.op (.bin .eql) (.cons (.inp 4) (.cons (.cst (.int .i64 7)) .nil)))))) FI zn)
@[simp] theorem WC:type_of%(@aC zo _ zo.eq_1):=aC zo.eq_1
def zp:HC:=(.br (.chk none (.bin .eql) (.cons (.inp 4) (.cons (.cst (.int .i64 6)) .nil)) (.done [] (some (.op (.bin .eql) (.cons (.inp 4) (.cons (.cst (.int .i64 6)) .nil)))))) FH zo)
@[simp] theorem WD:type_of%(@aC zp _ zp.eq_1):=aC zp.eq_1
def zq:HC:=(.br (.chk none (.bin .eql) (.cons (.inp 4) (.cons (.cst (.int .i64 5)) .nil)) (.done [] (some (.op (.bin .eql) (.cons (.inp 4) (.cons (.cst (.int .i64 5)) .nil)))))) FG zp)
@[simp] theorem WE:type_of%(@aC zq _ zq.eq_1):=aC zq.eq_1
def zr:HC:=(.br (.chk none (.bin .eql) (.cons (.inp 4) (.cons (.cst (.int .i64 4)) .nil)) (.done [] (some (.op (.bin .eql) (.cons (.inp 4) (.cons (.cst (.int .i64 4)) .nil)))))) FF zq)
@[simp] theorem WG:type_of%(@aC zr _ zr.eq_1):=aC zr.eq_1
def zt:HC:=(.br (.chk none (.bin .eql) (.cons (.inp 4) (.cons (.cst (.int .i64 3)) .nil)) (.done [] (some (.op (.bin .eql) (.cons (.inp 4) (.cons (.cst (.int .i64 3)) .nil)))))) FE zr)
@[simp] theorem WH:type_of%(@aC zt _ zt.eq_1):=aC zt.eq_1
def zu:HC:=(.br (.chk none (.bin .eql) (.cons (.inp 4) (.cons (.cst (.int .i64 2)) .nil)) (.done [] (some (.op (.bin .eql) (.cons (.inp 4) (.cons (.cst (.int .i64 2)) .nil)))))) FD zt)
@[simp] theorem WI:type_of%(@aC zu _ zu.eq_1):=aC zu.eq_1
def zv:HC:=(.br (.chk none (.bin .eql) (.cons (.inp 4) (.cons (.cst (.int .i64 1)) .nil)) (.done [] (some (.op (.bin .eql) (.cons (.inp 4) (.cons (.cst (.int .i64 1)) .nil)))))) FC zu)
@[simp] theorem WJ:type_of%(@aC zv _ zv.eq_1):=aC zv.eq_1
def zw:HC:=(.seq (.block 0 zv) Bv)
@[simp] theorem WK:type_of%(@aC zw _ zw.eq_1):=aC zw.eq_1
def zx:HC:=(.seq (.reg (.chk none (.fld 0) (.cons (.inp 1) .nil) (.eff (.ld false 1) (.cons (.op (.fld 0) (.cons (.inp 1) .nil)) .nil) (.done [(4,(.bv 0))] none)))) zw)
@[simp] theorem WL:type_of%(@aC zx _ zx.eq_1):=aC zx.eq_1
def zy:HC:=(.seq (.reg (.done [(2,(.cst (.bool false)))] none)) .ret)
@[simp] theorem WM:type_of%(@aC zy _ zy.eq_1):=aC zy.eq_1
def zz:HC:=(.seq (.br (.chk none (.fld 0) (.cons (.inp 3) .nil) (.eff (.ld false 1) (.cons (.op (.fld 0) (.cons (.inp 3) .nil)) .nil) (.chk none (.bin .neq) (.cons (.bv 0) (.cons (.cst (.int .i64 0)) .nil)) (.done [] (some (.op (.bin .neq) (.cons (.bv 0) (.cons (.cst (.int .i64 0)) .nil)))))))) zy .skip) zx)
@[simp] theorem WN:type_of%(@aC zz _ zz.eq_1):=aC zz.eq_1
def zA:HC:=(.seq (.reg (.chk none (.fld 12) (.cons (.inp 1) .nil) (.eff (.ld true 11) (.cons (.op (.fld 12) (.cons (.inp 1) .nil)) .nil) (.eff (.new 37 (.agg #[(.int .i64 0),(.int .i64 0),(.int .i64 0),(.int .i64 0),(.int .i64 0),(.int .i64 0),(.int .u64 0),(.int .u64 0),(.int .u64 0),(.int .i64 0),(.slice none 0 0)])) .nil (.eff (.st 11) (.cons (.bv 1) (.cons (.bv 0) .nil)) (.done [(3,(.bv 1))] none)))))) zz)
@[simp] theorem WO:type_of%(@aC zA _ zA.eq_1):=aC zA.eq_1
def l59:ag:=⟨[0,1,2,3,10],137,[.slot 2],(.seq (.reg (.eff (.box 39) (.cons (.inp 0) .nil) (.done [(1,(.bv 0)),(2,(.cst (.bool false)))] none))) zA)⟩
theorem TI:ah T0 59 400=some l59:=by kernel_rfl
set_option maxHeartbeats 1000000 in
theorem dt (r:PR) (c:PC) (ev cv cv':Value) (arg k:Value) (b d:Nat) (w0 w:World) (A:aj) (h1:WR w0 A ev r.en.ws) (h2:∃a n,cv'= .slice a c.es.length n) (hn:c.num=0)
  (s:St w0 (A*pt b (.cells (r.cs ev cv).toArray 39 (0,0))*pt d (.cells (c.cs cv').toArray 37 (0,0))) w)
  {Q:_} (hQ:∀env w',env[2]?=some (.bool (decide (fx c∧fC r)))→St w0 A w'→Q (.ret) env w'):
  HC.wp T0 Bv Q [arg,.pointer (some ⟨b,0,none⟩),.bool false,.pointer (some ⟨d,0,none⟩),k] w:=by
 obtain ⟨a,n,rfl⟩:=h2
 obtain ⟨ea,en,rfl⟩:=h1.val
 have fd:∀j u,(c.cs (.slice a c.es.length n))[j]?=some u→w.cell? ⟨d,j,none⟩=some u:=fun j u hu=>by
  have:=s.af j u hu;simpa using this
 have fb:∀j u,(r.cs (.slice ea r.en.ws.length en) cv)[j]?=some u→w.cell? ⟨b,j,none⟩=some u:=fun j u hu=>by
  have:=s.drop.af j u hu;simpa using this
 have sA:St w0 A w:=s.drop.drop
 simp -implicitDefEqProofs
 refine ad (v:= .slice a c.es.length n) (fd 10 _ rfl) ?_
 by_cases c0:c.es.length=0
 case neg=>
  have c0':0<c.es.length:=by omega
  simp -implicitDefEqProofs [c0',hn]
  exact hQ _ _ (by simp -implicitDefEqProofs [fx,c0]) sA
 simp -implicitDefEqProofs [c0]
 refine ad (v:= .int .i64 c.kind) (fd 1 _ rfl) ?_
 by_cases c1:c.kind=0
 case neg=>simp -implicitDefEqProofs [c1];exact hQ _ _ (by simp -implicitDefEqProofs [fx,c1]) sA
 simp -implicitDefEqProofs [c1]
 refine ad (v:= .int .i64 c.by') (fd 2 _ rfl) ?_
 by_cases c2:c.by'=0
 case neg=>simp -implicitDefEqProofs [c2];exact hQ _ _ (by simp -implicitDefEqProofs [fx,c2]) sA
 simp -implicitDefEqProofs [c2]
 refine ad (v:= .int .i64 c.dead) (fd 3 _ rfl) ?_
 by_cases c3:c.dead=0
 case neg=>simp -implicitDefEqProofs [c3];exact hQ _ _ (by simp -implicitDefEqProofs [fx,c3]) sA
 simp -implicitDefEqProofs [c3]
 refine ad (v:= .int .i64 c.to') (fd 4 _ rfl) ?_
 by_cases c4:c.to'=0
 case neg=>simp -implicitDefEqProofs [c4];exact hQ _ _ (by simp -implicitDefEqProofs [fx,c4]) sA
 simp -implicitDefEqProofs [c4]
 refine ad (v:= .int .i64 c.want) (fd 5 _ rfl) ?_
 by_cases c5:c.want=0
 case neg=>simp -implicitDefEqProofs [c5];exact hQ _ _ (by simp -implicitDefEqProofs [fx,c5]) sA
 simp -implicitDefEqProofs [c5]
 refine ad (v:= .int .u64 c.price) (fd 6 _ rfl) ?_
 by_cases c6:c.price=0
 case neg=>simp -implicitDefEqProofs [c6];exact hQ _ _ (by simp -implicitDefEqProofs [fx,c6]) sA
 simp -implicitDefEqProofs [c6]
 refine ad (v:= .int .u64 c.res) (fd 7 _ rfl) ?_
 by_cases c7:c.res=0
 case neg=>simp -implicitDefEqProofs [c7];exact hQ _ _ (by simp -implicitDefEqProofs [fx,c7]) sA
 simp -implicitDefEqProofs [c7]
 refine ad (v:= .int .u64 c.step) (fd 8 _ rfl) ?_
 by_cases c8:c.step=0
 case neg=>simp -implicitDefEqProofs [c8];exact hQ _ _ (by simp -implicitDefEqProofs [fx,c8]) sA
 simp -implicitDefEqProofs [c8]
 refine ad (v:= .int .i64 c.of') (fd 9 _ rfl) ?_
 by_cases c9:c.of'=0
 case neg=>simp -implicitDefEqProofs [c9];exact hQ _ _ (by simp -implicitDefEqProofs [fx,c9]) sA
 simp -implicitDefEqProofs [c9]
 have hE:fx c:=⟨c1,c2,c3,c4,c5,c6,c7,c8,c9,c0⟩
 refine ad (v:= .string (Go.HL.mk r.nm)) (fb 1 _ rfl) ?_
 by_cases d0:r.nm= []
 case neg=>
  have d0':r.nm.isEmpty=false:=by rw [List.isEmpty_eq_false_iff];exact d0
  simp -implicitDefEqProofs [d0']
  refine hQ _ _ ?_ sA
  simp -implicitDefEqProofs [fC,d0]
 simp -implicitDefEqProofs [d0]
 refine ad (v:= .int .i64 r.fr) (fb 2 _ rfl) ?_
 by_cases d1:r.fr=0
 case neg=>simp -implicitDefEqProofs [d1];exact hQ _ _ (by simp -implicitDefEqProofs [fC,d1]) sA
 simp -implicitDefEqProofs [d1]
 refine ad (v:= .int .i64 r.to') (fb 3 _ rfl) ?_
 by_cases d2:r.to'=0
 case neg=>simp -implicitDefEqProofs [d2];exact hQ _ _ (by simp -implicitDefEqProofs [fC,d2]) sA
 simp -implicitDefEqProofs [d2]
 refine ad (v:= .int .u64 r.coins) (fb 4 _ rfl) ?_
 by_cases d3:r.coins=0
 case neg=>simp -implicitDefEqProofs [d3];exact hQ _ _ (by simp -implicitDefEqProofs [fC,d3]) sA
 simp -implicitDefEqProofs [d3]
 refine ad (v:= .int .i64 r.item) (fb 5 _ rfl) ?_
 by_cases d4:r.item=0
 case neg=>simp -implicitDefEqProofs [d4];exact hQ _ _ (by simp -implicitDefEqProofs [fC,d4]) sA
 simp -implicitDefEqProofs [d4]
 refine ad (v:= .int .i64 r.num) (fb 6 _ rfl) ?_
 by_cases d5:r.num=0
 case neg=>simp -implicitDefEqProofs [d5];exact hQ _ _ (by simp -implicitDefEqProofs [fC,d5]) sA
 simp -implicitDefEqProofs [d5]
 refine ax (vs:=r.en.cs (.slice ea r.en.ws.length en)) (fun j u hu=> ?_) rfl ?_
 ·have hj:j<5:=(List.getElem?_eq_some_iff.1 hu).1
  have:(r.cs (.slice ea r.en.ws.length en) cv)[7+j]?=some u:=by
   rcases j with _|_|_|_|_|j
   ·exact hu
   ·exact hu
   ·exact hu
   ·exact hu
   ·exact hu
   ·omega
  exact fb _ _ this
 simp -implicitDefEqProofs
 refine ab ((HQ r.en _ w0 w _ (h1.mono fun w s=>s.drop.drop) s).mono ?_)
 rintro _ w2 ⟨rfl,s2⟩
 have sB:St w0 A w2:=s2.drop.drop
 have fb2:∀j u,(r.cs (.slice ea r.en.ws.length en) cv)[j]?=some u→w2.cell? ⟨b,j,none⟩=some u:=fun j u hu=>by
  have:=s2.drop.af j u hu;simpa using this
 by_cases d6:mE r.en
 case neg=>
  simp -implicitDefEqProofs [d6]
  refine hQ _ _ ?_ sB
  simp -implicitDefEqProofs [fC,d6]
 simp -implicitDefEqProofs [d6]
 refine ad (v:= .int .i64 r.ticks) (fb2 23 _ rfl) ?_
 simp -implicitDefEqProofs
 refine hQ _ _ ?_ sB
 simp -implicitDefEqProofs [fC,d0,d1,d2,d3,d4,d5,d6,hE]
set_option maxHeartbeats 1000000 in
theorem Eu (r:PR) (ev cv:Value) (w0 w:World) (A:aj) (h1:WR w0 A ev r.en.ws) (h2:∃a n,cv= .slice a r.co.es.length n) (s:St w0 A w):
  ai Tryz.prog 59 [.agg (r.cs ev cv).toArray] (fun x w'=>x= .bool (decide (eV r))∧St w0 A w') w:=by
 obtain ⟨a,n,rfl⟩:=h2
 obtain ⟨ea,en,rfl⟩:=h1.val
 refine dp TI (by simp [l59]) ?_
 simp -implicitDefEqProofs [l59,Instr.fill,Value.cells]
 refine bj s fun b w1 s1=> ?_
 simp -implicitDefEqProofs [Instr.fill,Value.cells]
 have s1:St w0 (A*pt b (.cells (r.cs (.slice ea r.en.ws.length en) (.slice a r.co.es.length n)).toArray 39 (0,0))) w1:=s1
 refine ax (vs:=r.co.cs (.slice a r.co.es.length n)) (fun j u hu=> ?_) rfl ?_
 ·have hj:j<11:=(List.getElem?_eq_some_iff.1 hu).1
  have:(r.cs (.slice ea r.en.ws.length en) (.slice a r.co.es.length n))[12+j]?=some u:=by
   rcases j with _|_|_|_|_|_|_|_|_|_|_|j
   all_goals first|exact hu|omega
  have:=s1.af _ u this;simpa using this
 simp -implicitDefEqProofs
 refine bz s1 fun d w2 s2=> ?_
 simp -implicitDefEqProofs
 refine cq (vs:=r.co.cs (.slice a r.co.es.length n)) s2 rfl rfl (by simp [PC.cs,Value.oneCell']) (by simp) fun w3 s3=> ?_
 simp -implicitDefEqProofs
 have s3:St w0 (A*pt b (.cells (r.cs (.slice ea r.en.ws.length en) (.slice a r.co.es.length n)).toArray 39 (0,0))*pt d (.cells (r.co.cs (.slice a r.co.es.length n)).toArray 37 (0,0))) w3:=by simpa [PC.cs] using s3
 have fd:∀j u,(r.co.cs (.slice a r.co.es.length n))[j]?=some u→w3.cell? ⟨d,j,none⟩=some u:=fun j u hu=>by
  have:=s3.af j u hu;simpa using this
 have fb:∀j u,(r.cs (.slice ea r.en.ws.length en) (.slice a r.co.es.length n))[j]?=some u→w3.cell? ⟨b,j,none⟩=some u:=fun j u hu=>by
  have:=s3.drop.af j u hu;simpa using this
 refine ad (v:= .int .i64 r.co.num) (fd 0 _ rfl) ?_
 by_cases hn:r.co.num=0
 case neg=>
  simp -implicitDefEqProofs [hn,eV]
  exact s3.drop.drop
 simp -implicitDefEqProofs [hn]
 refine ad (v:= .int .i64 r.kind) (fb 0 _ rfl) ?_
 simp -implicitDefEqProofs
 by_cases k1:r.kind=1
 ·simp -implicitDefEqProofs [k1]
  refine aN s3.swap rfl (by simp [PR.cs]) fun w4 s4=> ?_
  simp -implicitDefEqProofs [-bV]
  have s4:St w0 (A*pt d (.cells (r.co.cs (.slice a r.co.es.length n)).toArray 37 (0,0))*pt b (.cells (({r with nm:= []}:PR).cs (.slice ea r.en.ws.length en) (.slice a r.co.es.length n)).toArray 39 (0,0))) w4:=by simpa [PR.cs] using s4
  refine dt ({r with nm:= []}:PR) r.co _ _ _ _ _ b d w0 w4 A h1 ⟨_,_,rfl⟩ hn s4.swap fun env w5 he s5=> ?_
  simp -implicitDefEqProofs [he]
  refine ⟨?_,s5⟩
  simp -implicitDefEqProofs [eV,fC,k1,hn]
 by_cases k2:r.kind=2
 ·simp -implicitDefEqProofs [k2]
  refine aN s3.swap rfl (by simp [PR.cs]) fun w4 s4=> ?_
  simp -implicitDefEqProofs [-bV]
  have s4:St w0 (A*pt d (.cells (r.co.cs (.slice a r.co.es.length n)).toArray 37 (0,0))*pt b (.cells (({r with to':=0}:PR).cs (.slice ea r.en.ws.length en) (.slice a r.co.es.length n)).toArray 39 (0,0))) w4:=by simpa [PR.cs] using s4
  refine aN s4 rfl (by simp [PR.cs]) fun w4 s4=> ?_
  simp -implicitDefEqProofs [-bV]
  have s4:St w0 (A*pt d (.cells (r.co.cs (.slice a r.co.es.length n)).toArray 37 (0,0))*pt b (.cells (({r with to':=0,coins:=0}:PR).cs (.slice ea r.en.ws.length en) (.slice a r.co.es.length n)).toArray 39 (0,0))) w4:=by simpa [PR.cs] using s4
  refine dt ({r with to':=0,coins:=0}:PR) r.co _ _ _ _ _ b d w0 w4 A h1 ⟨_,_,rfl⟩ hn s4.swap fun env w5 he s5=> ?_
  simp -implicitDefEqProofs [he]
  refine ⟨?_,s5⟩
  simp -implicitDefEqProofs [eV,fC,k2,hn]
 by_cases k3:r.kind=3
 ·simp -implicitDefEqProofs [k3]
  refine aN s3.swap rfl (by simp [PR.cs]) fun w4 s4=> ?_
  simp -implicitDefEqProofs [-bV]
  have s4:St w0 (A*pt d (.cells (r.co.cs (.slice a r.co.es.length n)).toArray 37 (0,0))*pt b (.cells (({r with num:=0}:PR).cs (.slice ea r.en.ws.length en) (.slice a r.co.es.length n)).toArray 39 (0,0))) w4:=by simpa [PR.cs] using s4
  refine aN s4 rfl (by simp [PR.cs]) fun w4 s4=> ?_
  simp -implicitDefEqProofs [-bV]
  have s4:St w0 (A*pt d (.cells (r.co.cs (.slice a r.co.es.length n)).toArray 37 (0,0))*pt b (.cells (({r with num:=0,to':=0}:PR).cs (.slice ea r.en.ws.length en) (.slice a r.co.es.length n)).toArray 39 (0,0))) w4:=by simpa [PR.cs] using s4
  refine dt ({r with num:=0,to':=0}:PR) r.co _ _ _ _ _ b d w0 w4 A h1 ⟨_,_,rfl⟩ hn s4.swap fun env w5 he s5=> ?_
  simp -implicitDefEqProofs [he]
  refine ⟨?_,s5⟩
  simp -implicitDefEqProofs [eV,fC,k3,hn]
 by_cases k4:r.kind=4
 ·simp -implicitDefEqProofs [k4]
  refine aN s3.swap rfl (by simp [PR.cs]) fun w4 s4=> ?_
  simp -implicitDefEqProofs [-bV]
  have s4:St w0 (A*pt d (.cells (r.co.cs (.slice a r.co.es.length n)).toArray 37 (0,0))*pt b (.cells (({r with fr:=0}:PR).cs (.slice ea r.en.ws.length en) (.slice a r.co.es.length n)).toArray 39 (0,0))) w4:=by simpa [PR.cs] using s4
  refine aN s4 rfl (by simp [PR.cs]) fun w4 s4=> ?_
  simp -implicitDefEqProofs [-bV]
  have s4:St w0 (A*pt d (.cells (r.co.cs (.slice a r.co.es.length n)).toArray 37 (0,0))*pt b (.cells (({r with fr:=0,to':=0}:PR).cs (.slice ea r.en.ws.length en) (.slice a r.co.es.length n)).toArray 39 (0,0))) w4:=by simpa [PR.cs] using s4
  refine aN s4 rfl (by simp [PR.cs]) fun w4 s4=> ?_
  simp -implicitDefEqProofs [-bV]
  have s4:St w0 (A*pt d (.cells (r.co.cs (.slice a r.co.es.length n)).toArray 37 (0,0))*pt b (.cells (({r with fr:=0,to':=0,coins:=0}:PR).cs (.slice ea r.en.ws.length en) (.slice a r.co.es.length n)).toArray 39 (0,0))) w4:=by simpa [PR.cs] using s4
  refine dt ({r with fr:=0,to':=0,coins:=0}:PR) r.co _ _ _ _ _ b d w0 w4 A h1 ⟨_,_,rfl⟩ hn s4.swap fun env w5 he s5=> ?_
  simp -implicitDefEqProofs [he]
  refine ⟨?_,s5⟩
  simp -implicitDefEqProofs [eV,fC,k4,hn]
 by_cases k5:r.kind=5
 ·simp -implicitDefEqProofs [k5]
  refine aN s3.swap rfl (by simp [PR.cs]) fun w4 s4=> ?_
  simp -implicitDefEqProofs [-bV]
  have s4:St w0 (A*pt d (.cells (r.co.cs (.slice a r.co.es.length n)).toArray 37 (0,0))*pt b (.cells (({r with item:=0}:PR).cs (.slice ea r.en.ws.length en) (.slice a r.co.es.length n)).toArray 39 (0,0))) w4:=by simpa [PR.cs] using s4
  refine aN s4 rfl (by simp [PR.cs]) fun w4 s4=> ?_
  simp -implicitDefEqProofs [-bV]
  have s4:St w0 (A*pt d (.cells (r.co.cs (.slice a r.co.es.length n)).toArray 37 (0,0))*pt b (.cells (({r with item:=0,fr:=0}:PR).cs (.slice ea r.en.ws.length en) (.slice a r.co.es.length n)).toArray 39 (0,0))) w4:=by simpa [PR.cs] using s4
  refine aN s4 rfl (by simp [PR.cs]) fun w4 s4=> ?_
  simp -implicitDefEqProofs [-bV]
  have s4:St w0 (A*pt d (.cells (r.co.cs (.slice a r.co.es.length n)).toArray 37 (0,0))*pt b (.cells (({r with item:=0,fr:=0,to':=0}:PR).cs (.slice ea r.en.ws.length en) (.slice a r.co.es.length n)).toArray 39 (0,0))) w4:=by simpa [PR.cs] using s4
  refine dt ({r with item:=0,fr:=0,to':=0}:PR) r.co _ _ _ _ _ b d w0 w4 A h1 ⟨_,_,rfl⟩ hn s4.swap fun env w5 he s5=> ?_
  simp -implicitDefEqProofs [he]
  refine ⟨?_,s5⟩
  simp -implicitDefEqProofs [eV,fC,k5,hn]
 by_cases k6:r.kind=6
 ·simp -implicitDefEqProofs [k6,Instr.fill]
  refine cq (vs:=PC.zero.cs (.slice none 0 0)) s3 rfl rfl (by simp [PC.cs,Value.oneCell']) (by simp [PC.cs]) fun w4 s4=> ?_
  simp -implicitDefEqProofs [-bV]
  have s4:St w0 (A*pt b (.cells (r.cs (.slice ea r.en.ws.length en) (.slice a r.co.es.length n)).toArray 39 (0,0))*pt d (.cells (PC.zero.cs (.slice none 0 0)).toArray 37 (0,0))) w4:=by simpa [PC.cs] using s4
  refine dt r PC.zero _ _ _ _ _ b d w0 w4 A h1 ⟨_,_,rfl⟩ rfl s4 fun env w5 he s5=> ?_
  simp -implicitDefEqProofs [he]
  refine ⟨?_,s5⟩
  rw [Bool.eq_iff_iff]
  simp -implicitDefEqProofs [eV,fC,fx,PC.zero,k6,hn]
  exact decide_eq_true_iff
 by_cases k7:r.kind=7
 ·simp -implicitDefEqProofs [k7,Instr.fill]
  refine aN s3.swap rfl (by simp [PR.cs]) fun w4 s4=> ?_
  simp -implicitDefEqProofs [-bV]
  have s4:St w0 (A*pt d (.cells (r.co.cs (.slice a r.co.es.length n)).toArray 37 (0,0))*pt b (.cells (({r with num:=0}:PR).cs (.slice ea r.en.ws.length en) (.slice a r.co.es.length n)).toArray 39 (0,0))) w4:=by simpa [PR.cs] using s4
  refine cq (vs:=PE.zero.cs (.slice none 0 0)) s4 rfl rfl (by simp [PE.cs,Value.oneCell']) (by simp [PR.cs]) fun w4 s4=> ?_
  simp -implicitDefEqProofs [-bV]
  have s4:St w0 (A*pt d (.cells (r.co.cs (.slice a r.co.es.length n)).toArray 37 (0,0))*pt b (.cells (({r with num:=0,en:=PE.zero}:PR).cs (.slice none 0 0) (.slice a r.co.es.length n)).toArray 39 (0,0))) w4:=by simpa [PR.cs,PE.cs,PE.zero] using s4
  refine dt ({r with num:=0,en:=PE.zero}:PR) r.co _ _ _ _ _ b d w0 w4 A (nt w0 A 1) ⟨_,_,rfl⟩ hn s4.swap fun env w5 he s5=> ?_
  simp -implicitDefEqProofs [he]
  refine ⟨?_,s5⟩
  simp -implicitDefEqProofs [eV,fC,mE,PE.zero,k7,hn]
 by_cases k8:r.kind=8
 ·simp -implicitDefEqProofs [k8]
  refine aN s3.swap rfl (by simp [PR.cs]) fun w4 s4=> ?_
  simp -implicitDefEqProofs [-bV]
  have s4:St w0 (A*pt d (.cells (r.co.cs (.slice a r.co.es.length n)).toArray 37 (0,0))*pt b (.cells (({r with num:=0}:PR).cs (.slice ea r.en.ws.length en) (.slice a r.co.es.length n)).toArray 39 (0,0))) w4:=by simpa [PR.cs] using s4
  refine aN s4 rfl (by simp [PR.cs]) fun w4 s4=> ?_
  simp -implicitDefEqProofs [-bV]
  have s4:St w0 (A*pt d (.cells (r.co.cs (.slice a r.co.es.length n)).toArray 37 (0,0))*pt b (.cells (({r with num:=0,fr:=0}:PR).cs (.slice ea r.en.ws.length en) (.slice a r.co.es.length n)).toArray 39 (0,0))) w4:=by simpa [PR.cs] using s4
  refine dt ({r with num:=0,fr:=0}:PR) r.co _ _ _ _ _ b d w0 w4 A h1 ⟨_,_,rfl⟩ hn s4.swap fun env w5 he s5=> ?_
  simp -implicitDefEqProofs [he]
  refine ⟨?_,s5⟩
  simp -implicitDefEqProofs [eV,fC,k8,hn]
 by_cases k9:r.kind=9
 ·simp -implicitDefEqProofs [k9]
  refine aN s3.swap rfl (by simp [PR.cs]) fun w4 s4=> ?_
  simp -implicitDefEqProofs [-bV]
  have s4:St w0 (A*pt d (.cells (r.co.cs (.slice a r.co.es.length n)).toArray 37 (0,0))*pt b (.cells (({r with num:=0}:PR).cs (.slice ea r.en.ws.length en) (.slice a r.co.es.length n)).toArray 39 (0,0))) w4:=by simpa [PR.cs] using s4
  refine dt ({r with num:=0}:PR) r.co _ _ _ _ _ b d w0 w4 A h1 ⟨_,_,rfl⟩ hn s4.swap fun env w5 he s5=> ?_
  simp -implicitDefEqProofs [he]
  refine ⟨?_,s5⟩
  simp -implicitDefEqProofs [eV,fC,k9,hn]
 by_cases k10:r.kind=10
 ·simp -implicitDefEqProofs [k10]
  refine aN s3.swap rfl (by simp [PR.cs]) fun w4 s4=> ?_
  simp -implicitDefEqProofs [-bV]
  have s4:St w0 (A*pt d (.cells (r.co.cs (.slice a r.co.es.length n)).toArray 37 (0,0))*pt b (.cells (({r with ticks:=0}:PR).cs (.slice ea r.en.ws.length en) (.slice a r.co.es.length n)).toArray 39 (0,0))) w4:=by simpa [PR.cs] using s4
  refine dt ({r with ticks:=0}:PR) r.co _ _ _ _ _ b d w0 w4 A h1 ⟨_,_,rfl⟩ hn s4.swap fun env w5 he s5=> ?_
  simp -implicitDefEqProofs [he]
  refine ⟨?_,s5⟩
  simp -implicitDefEqProofs [eV,fC,k10,hn]
 have kk:¬(1≤r.kind∧r.kind≤10):=by omega
 simp -implicitDefEqProofs [k1,k2,k3,k4,k5,k6,k7,k8,k9,k10]
 refine ⟨?_,s3.drop.drop⟩
 simp -implicitDefEqProofs [eV,kk]
end Go.HL.Sr
namespace Go.HL.St1
open Go.HL Go.HL.Tl Go.HL.Sr Go.HL.Es Go.Proofs
structure ST where
 x:St0.SU
 clock:Int
 E:ck
 last:Int
 cs:List PC
def dU (S:ST) (n:Int):Prop:=0≤n∧n<S.E.P.rows.length
instance (S:ST) (n:Int):Decidable (dU S n):=inferInstanceAs (Decidable (_∧_))
def CR (S:ST) (c:PC):Prop:=c.want=0∨(Gd.aH S.E.ae c.want).2=0
instance (S:ST) (c:PC):Decidable (CR S c):=inferInstanceAs (Decidable (_∨_))
def qW (S:ST) (c:PC):Prop:=dU S c.by'∧(c.kind≠1∨dU S c.to')
instance (S:ST) (c:PC):Decidable (qW S c):=inferInstanceAs (Decidable (_∧_))
def lQ (c:PC):Int:=if c.kind=1 then gO c else if c.kind=2∨c.kind=3 then mV c else if c.kind=4 then lj c else if c.kind=5 then rq c else 200
structure JN where
 no:Int
 d:PC
 gs:List Gf
 ends:Bool
def bg (c:PC) (e:PE):JN:=
 if c.kind=1 then ⟨mN c e,{c with es:= []},cb c e,true⟩
 else if c.kind=2∨c.kind=3 then ⟨gr c e,{c with es:=eC c++ [e]},oK c,false⟩
 else if c.kind=4 then ⟨ma c e,{c with es:=c.es++ [e]},[],false⟩
 else ⟨mg c e,{c with es:=c.es++ [e]},[],false⟩
def ly (c:PC):List Gf:=if c.kind=1 then gl PE.acc c.es else if c.kind=2∨c.kind=3 then jd c else if c.kind=4 then sM c.es else qJ c.es
def fI (e:PE):Et:=⟨e.acc,e.item,e.coins⟩
structure DN where
 num:Int
 ended:Int
 gs:List Gf
def DN.zero:DN:=⟨0,0,[]⟩
def aZ (n:Int):List PE→ck→Int×ck
 | [],E=>(0,E)
 |e::t,E=>if (aK n (fI e) E).1≠0 then ((aK n (fI e) E).1,(aK n (fI e) E).2) else aZ n t (aK n (fI e) E).2
def cu (S:ST) (c:PC):Int×Int×ST:=
 if¬qW S c then (0,142,S)
 else if c.dead≤S.clock∨1099511627776<c.dead∨1073741824<c.dead -S.clock then (0,239,S)
 else if lQ c≠0 then (0,lQ c,S)
 else if¬CR S c then (0,200,S)
 else if S.x.bB≤(S.cs.length:Int)∨S.last=9223372036854775807 then (0,232,S)
 else if (aZ (S.last+1) c.es S.E).1≠0 then (0,(aZ (S.last+1) c.es S.E).1,{S with E:=(aZ (S.last+1) c.es S.E).2})
 else (S.last+1,0,{S with E:=(aZ (S.last+1) c.es S.E).2,last:=S.last+1,cs:=S.cs++ [{c with num:=S.last+1}]})
def fM (S:ST) (item a b:Int):Int×ST:=
 if¬dU S a∨¬dU S b then (142,S)
 else if a=b then (234,S)
 else if (Gd.aH S.E.ae item).2≠0∨(Gd.aH S.E.ae item).1.bB≠0∨(Gd.aH S.E.ae item).1.acc≠a then (151,S)
 else ((Gd.ij S.E.ae item b).1,{S with E:={S.E with ae:=(Gd.ij S.E.ae item b).2}})
def iv (S:ST) (n:Int):Int×ST:=
 if n<1∨2147483648<n then (2,S) else if 1099511627776 -S.clock<n then (239,S) else (0,{S with clock:=S.clock+n})
def iC (S:ST) (n:Int) (gs:List Gf):DN×Int×ST:=
 if (bb n gs (lX n) S.E).1≠0 then (.zero,(bb n gs (lX n) S.E).1,S)
 else (⟨0,n,gs⟩,0,{S with E:=(bb n gs (lX n) S.E).2,cs:=tp S.cs n})
def dI (S:ST) (n a:Int):DN×Int×ST:=
 match iI S.cs n with
 |none=>(.zero,231,S)
 |some c=>
  if¬dU S a then (.zero,142,S)
  else if a≠c.by' then (.zero,235,S)
  else if c.dead≤S.clock then (.zero,233,S)
  else if isAny c.es (fun e=>decide (e.acc≠c.by'))=true then (.zero,236,S)
  else iC S n (gl PE.acc c.es)
def cQ (S:ST) (n:Int):DN×Int×ST:=
 match iI S.cs n with
 |none=>(.zero,231,S)
 |some c=>if S.clock<c.dead then (.zero,237,S) else iC S n (ly c)
def iJ (S:ST) (n:Int) (e:PE):DN×Int×ST:=
 match iI S.cs n with
 |none=>(.zero,231,S)
 |some c=>
  if¬dU S e.acc then (.zero,142,S)
  else if c.dead≤S.clock then (.zero,233,S)
  else if (bg c e).no≠0 then (.zero,(bg c e).no,S)
  else if c.kind=5∧e.item≠0∧(Gd.aH S.E.ae e.item).2=0∧(Gd.aH S.E.ae e.item).1.kind≠c.of' then (.zero,200,S)
  else if (bg c e).ends=false then
   if (bb n (bg c e).gs (aK n (fI e)) S.E).1≠0 then (.zero,(bb n (bg c e).gs (aK n (fI e)) S.E).1,S)
   else (⟨0,0,(bg c e).gs⟩,0,{S with E:=(bb n (bg c e).gs (aK n (fI e)) S.E).2,cs:=nH S.cs (bg c e).d})
  else if (aK n (fI e) S.E).1≠0 then (.zero,(aK n (fI e) S.E).1,S)
  else iC {S with E:=(aK n (fI e) S.E).2} n (bg c e).gs
def cF (S:ST) (r:PR):DN×Int×ST:=
 if¬eV r then (.zero,238,S)
 else if r.kind=1 then
  let o:=Pu.ch S.E.P r.nm
  if o.2.1≠0 then (.zero,o.2.1,{S with E:={S.E with P:=o.2.2}}) else (⟨o.1,0,[]⟩,0,{S with E:={S.E with P:=o.2.2}})
 else if r.kind=2 then
  let o:=Pu.ed S.E.P r.to' r.coins
  (.zero,o.1,{S with E:={S.E with P:=o.2}})
 else if r.kind=3 then
  if¬dU S r.to' then (.zero,142,S)
  else
   let o:=Gd.gp S.x.ae S.E.ae r.num r.to'
   if o.2.1≠0 then (.zero,o.2.1,{S with E:={S.E with ae:=o.2.2}}) else (⟨o.1,0,[]⟩,0,{S with E:={S.E with ae:=o.2.2}})
 else if r.kind=4 then
  let o:=Pu.gD S.E.P r.fr r.to' r.coins
  (.zero,o.1,{S with E:={S.E with P:=o.2}})
 else if r.kind=5 then (.zero,(fM S r.item r.fr r.to').1,(fM S r.item r.fr r.to').2)
 else if r.kind=6 then (if (cu S r.co).2.1≠0 then .zero else ⟨(cu S r.co).1,0,[]⟩,(cu S r.co).2.1,(cu S r.co).2.2)
 else if r.kind=7 then iJ S r.num r.en
 else if r.kind=8 then dI S r.num r.fr
 else if r.kind=9 then cQ S r.num
 else (.zero,(iv S r.ticks).1,(iv S r.ticks).2)
def Pk (q:Nat) (S:ST):aj:=Hf fun p=>Hf fun g=>Hf fun e=>Hf fun m=>St0.EL q S.x S.clock S.last p g e m*aG p g e S.x.ae S.E*omap m S.cs
theorem bYa {w0 w:World} {A:aj} {q:Nat} {S:ST} (s:St w0 (A*Pk q S) w):∃p g e m,St w0 (A*St0.EL q S.x S.clock S.last p g e m*aG p g e S.x.ae S.E*omap m S.cs) w:=by
 obtain ⟨p,s⟩:=mm s
 obtain ⟨g,s⟩:=mm s
 obtain ⟨e,s⟩:=mm s
 obtain ⟨m,s⟩:=mm s
 exact ⟨p,g,e,m,s.to (by ac_rfl)⟩
theorem KI {w0 w:World} {A:aj} {q p g e m:Nat} {S:ST} (s:St w0 (A*St0.EL q S.x S.clock S.last p g e m*aG p g e S.x.ae S.E*omap m S.cs) w):St w0 (A*Pk q S) w:=
 tF p (tF g (tF e (tF m (s.to (by ac_rfl)))))
end Go.HL.St1
namespace Go.HL.St1
open Go.HL Go.HL.Tl Go.HL.Sr Go.HL.Es Go.Proofs
attribute [local irreducible] aE
def a9a:Nat→PO
 |0=>(.eqNil false (.slice 34) (.slice none 0 0))
 |1=> .lenL
 |2=>(.slL 5 false true true)
 |3=>(.fld 10)
 |4=>(.bin .lss)
 |5=>(.idxL 5)
 |6=>(.fld 4)
 |7=>(.bin .add)
 |_=> .same
def Y7:Nat→EO
 |0=>(.bsl 34 0 5 #[] [])
 |1=>(.app 35 35 34 5 56 (.agg #[(.int .i64 0),(.int .i64 0),(.int .u64 0),(.int .u64 0),(.slice none 0 0)]))
 |2=>(.box 37)
 |3=>(.new 37 (.agg #[(.int .i64 0),(.int .i64 0),(.int .i64 0),(.int .i64 0),(.int .i64 0),(.int .i64 0),(.int .u64 0),(.int .u64 0),(.int .u64 0),(.int .i64 0),(.slice none 0 0)]))
 |4=>(.ld false 1)
 |5=>(.call 154)
 |6=>(.call 153)
 |7=>(.st 1)
 |8=>(.call 155)
 |9=>(.call 74)
 |10=>(.ld true 11)
 |11=>(.st 11)
 |_=> .ak
def dja:Nat→Value
 |0=>(.slice none 0 0)
 |1=>(.int .i64 0)
 |2=>(.int .i64 1)
 |_=>undef
def KY:cE:=⟨a9a,Y7,dja⟩
def fia:ag:=⟨[0,2],8,[.slot 1],aM KY [] 0xb2cb2f0678a26996110415144d00110014c0a2f02cbc19da65848005c6d5513400018513400027699612001⟩
theorem M1:ah S1 154 400=some fia:=by kernel_rfl
def fha:ag:=⟨[0,2],9,[.slot 1],aM KY [] 0xb2cbc19dc71c6996155145135544d00015544d00014000815145135544d00015544d00014000944d0001513400067699612001⟩
theorem M0:ah S1 153 400=some fha:=by kernel_rfl
def l86:ag:=⟨[0,1,2,3,11,12],30,[.cell 2 true 11],aM KY [] 0xb2cb2cb2f0678a26985144d101008b0544d004a06dbacb2771a6585545134824051c55144d2090147b6ca5c89c89c7228a271c89a6145134445544d55144d00d10051875135545134034401465144d00d10055134432415134422015135544d55144d00d10451845135545134034411465144d00d10455135544d00431144d00435135544d00431144d00431e7699610143068bc2bc071b5545134044051185144d011014402772271a6596120455544d10011144d10015135544d00431144d00439dc8a289c89a6145134425544d00431d44d00435134411944d10055135544d00431144d00439e289a6596110424400530d44d0002⟩
theorem T9:ah S1 86 400=some l86:=by kernel_rfl
theorem Ha {x:List (PE×Value)} (h:∀y∈x,y.2.oneCell'=true):∀u∈Sr.ay x,u.oneCell'=true:=by
 intro u hu
 obtain ⟨y,hy,hu⟩:=List.mem_flatMap.1 hu
 exact cj y.1 y.2 (h y hy) u hu
theorem Je {w0:World} {A:aj} {cv:Value} {wvs:List Value} {es:List PE} (h:CV w0 A cv wvs es):∀y∈es.zip wvs,y.2.oneCell'=true:=by
 intro y hy
 obtain ⟨i,hi,rfl⟩:=List.getElem_of_mem hy
 rw [List.length_zip] at hi
 have:=h.each i (by omega) (by omega)
 obtain ⟨_,_,e⟩:=this.val
 rw [List.getElem_zip,e]
 rfl
theorem Dx (v:Value) (n:Nat) (xs:List Value) (e:Nat) (w0 w:World) (A:aj) (hn:n≤1048576) (s:St w0 (A*own e 5 v n xs) w):
  ai Tryz.prog 153 [v] (fun r w'=>St w0 (A*own e 5 r n xs) w') w:=by
 obtain ⟨a,cap,rfl,hc,_⟩:=s.aq
 refine go M0 ?_
 simp [Pu.add_zero]
 exact ⟨hc,Pu.gZ s⟩
theorem AQ (es:List PE) (cv:Value) (wvs:List Value) (w0 w:World) (A:aj) (hb:es.length≤1048576) (h:CV w0 A cv wvs es) (s:St w0 A w):
  ai Tryz.prog 154 [cv] (fun r w'=>St w0 (A*own 34 5 r es.length (Sr.ay (es.zip wvs))) w') w:=by
 have hr:=h.row
 have h1:=Je h
 obtain ⟨a,c,rfl⟩:=h.row.val
 refine go M1 ?_
 cases a with
 |none=>
  simp
  obtain ⟨_,a,cap,e,_,hc⟩:=hr
  cases e
  have hw:es= []:=by
   rcases hc with hc|⟨_,_,hc,_⟩
   ·exact List.eq_nil_of_length_eq_zero hc
   ·cases hc
  subst hw
  exact s.aA _ _
 |some a=>
  simp
  refine ml s fun v0 w s=> ?_
  simp
  refine ff s (hr.mono fun w s=>s.drop) (Ha h1) (by decide) rfl (by unfold maxLen;omega) (by omega) fun v1 w s=> ?_
  simp
  simpa using s
theorem ng (a b:List (PE×Value)):Sr.ay (a++b)=Sr.ay a++Sr.ay b:=by simp [Sr.ay]
theorem nh (a:List (PE×Value)):(Sr.ay a).length=a.length*5:=fK (fun y:PE×Value=>y.1.cs y.2) 5 (fun _=>rfl) a
theorem Hb {l t:List (PE×Value)} {e:PE} {v v':Value}:(Sr.ay (l++(e,v)::t)).set (l.length*5+4) v'=Sr.ay (l++ [(e,v')]++t):=by
 have h1:Sr.ay (l++(e,v)::t)=Sr.ay l++(e.cs v++Sr.ay t):=by rw [ng];rfl
 have h2:Sr.ay (l++ [(e,v')]++t)=Sr.ay l++(e.cs v'++Sr.ay t):=by rw [ng,ng,List.append_assoc];simp [Sr.ay]
 rw [h1,h2,List.set_append_right _ _ (by rw [nh];omega),nh,Nat.add_sub_cancel_left,List.set_append_left _ _ (by simp [PE.cs])]
 rfl
set_option maxHeartbeats 1000000 in
theorem mj (c:PC) (cv:Value) (wvs:List Value) (w0 w:World) (A:aj) (hlen:c.es.length≤1048576) (hwe:∀e∈c.es,e.ws.length≤1048576) (hcv:CV w0 A cv wvs c.es) (s:St w0 A w):
  ai Tryz.prog 86 [.agg (c.cs cv).toArray] (fun r w'=>∃x:Value×List (PE×Value),r= .agg (c.cs x.1).toArray∧x.2.map (·.1)=c.es∧St w0 (A*jY x.1 x.2) w') w:=by
 obtain ⟨n,hn⟩:∃n,c.es.length=n:=⟨_,rfl⟩
 have hwl:=hcv.len
 have hone:=Je hcv
 have h1:=hcv
 obtain ⟨ca,cn,rfl⟩:=h1.row.val
 refine go T9 ?_
 refine gj fun b w s=> ?_
 refine fm fun d w s=> ?_
 have s:St w0 (A*bC b c (.slice ca c.es.length cn)*bC d PC.zero (.slice none 0 0)) w:=s
 refine aX ?_
 refine ab ((AQ c.es _ wvs w0 w _ hlen (hcv.mono fun w s=>s.ak) s).mono ?_)
 intro r1 w s
 simp
 refine ab ((Dx r1 _ _ _ w0 w _ hlen s).mono ?_)
 intro r2 w s
 simp
 have hr2:=cX s
 refine jH (cs':=(c.cs r2).toArray) (h1:=hr2) fun w s=> ?_
 refine aX ?_
 have s:St w0 (A*pt d (.cells (PC.zero.cs (.slice none 0 0)).toArray 37 (0,0))*bC b c r2*own 34 5 r2 c.es.length (Sr.ay (c.es.zip wvs))) w:=s.ak
 obtain ⟨a2,k2,rfl,_,_⟩:=s.aq
 rw [hn] at s hwl
 simp
 rw [hn]
 refine oD [3,5] (fun x w=>∃(i:Nat) (o3:Value) (l:List (PE×Value)),x= [o3,.int .i64 i]∧i≤n∧l.map (·.1)=c.es.take i∧
   St w0 (A*pt d (.cells (PC.zero.cs (.slice none 0 0)).toArray 37 (0,0))*bC b c (.slice a2 n k2)*own 34 5 (.slice a2 n k2) n (Sr.ay (l++(c.es.zip wvs).drop i))*fN l) w)
  (fun env _=>n -au env 5) ⟨0,_,[],rfl,by omega,by simp,by
   have e0:fN []=emp:=rfl
   rw [e0,al];simpa using s⟩ ?_
 rintro LQ _ w ⟨i,o3,l,rfl,hi,hl,t⟩ hN hX hR
 have hll:l.length=i:=by have:=congrArg List.length hl;simpa [hn,Nat.min_eq_left hi] using this
 simp
 refine bK (fun k=> ?_) (fun k=> ?_)
 ·have k:i<n:=by omega
  clear hX hR
  obtain ⟨g2,_,e2,_,_⟩:=(t.av (.slice a2 n k2)).aO (by omega)
  cases e2
  obtain ⟨e,he⟩:∃e,c.es[i]=e:=⟨_,rfl⟩
  obtain ⟨v,hv⟩:∃v,wvs[i]=v:=⟨_,rfl⟩
  have hdr:(c.es.zip wvs).drop i=(e,v)::(c.es.zip wvs).drop (i+1):=by
   rw [List.drop_eq_getElem_cons (by rw [List.length_zip];omega),List.getElem_zip,he,hv]
  have hwr:=hcv.each i (by omega) (by omega)
  rw [he,hv] at hwr
  have hwb:=hwe e (by rw [←he];exact List.getElem_mem _)
  rw [hdr] at t
  obtain ⟨T,hT⟩:∃T,(c.es.zip wvs).drop (i+1)=T:=⟨_,rfl⟩
  rw [hT] at t
  have hat:∀v,(Sr.ay (l++(e,v)::T))[i*5+4]?=some v:=fun v=>by
   rw [ng,List.getElem?_append_right (by rw [nh,hll];omega),nh,hll,Nat.add_sub_cancel_left];rfl
  obtain ⟨D,hD⟩:∃D,A*pt d (.cells (PC.zero.cs (.slice none 0 0)).toArray 37 (0,0))=D:=⟨_,rfl⟩
  have hDA:∀w,St w0 D w→St w0 A w:=fun w s=>by rw [←hD] at s;exact s.ak
  rw [hD] at t
  obtain ⟨C,hC⟩:∃C:List Value→World→Prop,C=fun vs w=>match vs with
   | []=>St w0 (D*bC b c (.slice (some ⟨g2,0,none⟩) n k2)*own 34 5 (.slice (some ⟨g2,0,none⟩) n k2) n (Sr.ay (l++(e,v)::T))*fN l) w
   | [r]=>St w0 (D*bC b c (.slice (some ⟨g2,0,none⟩) n k2)*own 34 5 (.slice (some ⟨g2,0,none⟩) n k2) n (Sr.ay (l++(e,v)::T))*fN l*own 3 1 r e.ws.length (ints e.ws)) w
   | [_,r]=>St w0 (D*bC b c (.slice (some ⟨g2,0,none⟩) n k2)*own 34 5 (.slice (some ⟨g2,0,none⟩) n k2) n (Sr.ay (l++(e,v)::T))*fN l*own 3 1 r e.ws.length (ints e.ws)) w
   |_::r::_=>St w0 (D*bC b c (.slice (some ⟨g2,0,none⟩) n k2)*own 34 5 (.slice (some ⟨g2,0,none⟩) n k2) n (Sr.ay (l++ [(e,r)]++T))*fN (l++ [(e,r)])) w:=⟨_,rfl⟩
  have hb10:∀vs w,C vs w→w.cell? ⟨b,10,none⟩=some (.slice (some ⟨g2,0,none⟩) n k2):=fun vs w h=>by
   rw [hC] at h
   rcases vs with _|⟨r,_|⟨r2,_|⟨r3,vs⟩⟩⟩
   all_goals (have:=(h.at b).af 10 _ rfl;simpa using this)
  have hbD:∀vs w,C vs w→St w0 D w:=fun vs w h=>by
   rw [hC] at h
   rcases vs with _|⟨r,_|⟨r2,_|⟨r3,vs⟩⟩⟩
   all_goals exact h.ak
  refine rn C (by rw [hC];exact t.drew) ?_
  refine iw (hb10) ?_
  refine iw (hb10) ?_
  simp [k]
  refine an (v:=v) (fun vs w he h=> ?_) ?_
  ·rw [hC] at h
   have hrow:∀{B:aj} {w:World},St w0 (B*own 34 5 (.slice (some ⟨g2,0,none⟩) n k2) n (Sr.ay (l++(e,v)::T))) w→w.cell? ⟨g2,i*5+4,none⟩=some v:=fun s=>by
    obtain ⟨g',_,e,_,h⟩:=s.aO (by omega)
    cases e
    exact h _ _ (hat v)
   rcases vs with _|⟨r,_|⟨r2,_|⟨r3,vs⟩⟩⟩
   ·exact hrow (h.av (.slice (some ⟨g2,0,none⟩) n k2))
   ·exact hrow (h.av (.slice (some ⟨g2,0,none⟩) n k2))
   ·exact hrow (h.av (.slice (some ⟨g2,0,none⟩) n k2))
   ·simp [era] at he
  simp
  refine gk (fun w h=> ?_) (fun r _=> ?_)
  ·rw [hC] at h
   refine ab ((dE e.ws v w0 w _ hwb (hwr.mono fun w s=>hDA w s.ak) h).mono fun r w h=> ?_)
   rw [hC]
   exact h
  refine gk (fun w h=> ?_) (fun r2 ⟨w,h⟩=> ?_)
  ·rw [hC] at h
   refine ab ((Pu.td r _ _ _ w0 w _ hwb h).mono fun r w h=> ?_)
   rw [hC]
   exact h
  rw [hC] at h
  have hr2:=cX h
  simp [k]
  refine gk (fun w h=> ?_) (fun _ _=> ?_)
  ·rw [hC] at h
   refine cw (j:=i*5+4) (h.av (.slice (some ⟨g2,0,none⟩) n k2)) (List.getElem?_eq_some_iff.1 (hat v)).1 hr2 fun w h=> ?_
   have hset:=Hb (l:=l) (t:=T) (e:=e) (v:=v) (v':=r2)
   rw [hll] at hset
   rw [hset] at h
   rw [hC]
   show St w0 (_*fN (l++ [(e,r2)])) w
   rw [jk]
   exact (show St w0 (D*bC b c (.slice (some ⟨g2,0,none⟩) n k2)*own 34 5 (.slice (some ⟨g2,0,none⟩) n k2) n (Sr.ay (l++ [(e,r2)]++T))*fN l*own 3 1 r2 e.ws.length (ints e.ws)) w from h.ak).to (ao _ _ _)
  intro w h
  rw [hC] at h
  simp (disch:=omega) only [wrap64]
  refine hN [_,.int .i64 (i+1)] w ⟨i+1,_,l++ [(e,r2)],rfl,by omega,?_,?_⟩ (by simp [au];omega)
  ·rw [List.map_append,hl,List.take_succ_eq_append_getElem (by omega),he];rfl
  ·rw [hD,hT];exact h
 ·refine hX _ _ _ ?_
  obtain rfl:i=n:=by omega
  clear hN hX hR
  simp
  rw [List.drop_eq_nil_of_le (by rw [List.length_zip];omega),List.append_nil] at t
  rw [←hn,List.take_length] at hl
  refine cN (vs:=c.cs (.slice a2 i k2)) ?_
  have t:St w0 (A*bC b c (.slice a2 i k2)*own 34 5 (.slice a2 i k2) i (Sr.ay l)*fN l*bC d PC.zero (.slice none 0 0)) w:=t.ak
  refine aL (cs':=(c.cs (.slice a2 i k2)).toArray) (h1:=eF _ _ rfl) fun w t=> ?_
  refine ar (vs:=c.cs (.slice a2 i k2)) rfl (fun j u hu=>(t.at d).af j u hu) rfl ?_
  refine ⟨_,rfl,l,hl,?_⟩
  have hll:l.length=i:=by have:=congrArg List.length hl;simpa [hn] using this
  have t:St w0 (A*own 34 5 (.slice a2 i k2) i (Sr.ay l)*fN l) w:=t.ak
  unfold jY
  rw [hll]
  exact t.to (ao _ _ _)
end Go.HL.St1
namespace Go.HL
theorem St.prt {w0 w:World} {C R:aj} (s:St w0 C w) (X:aj) [h:II C X R]:St w0 (R*X) w:=s.to h.eq
def Ht (v0 v:Value):aj:=fun h=>v=v0∧emp h
@[simp] theorem kI (v:Value):Ht v v=emp:=by funext h;simp [Ht]
theorem St.isv {w0 w:World} {A:aj} {v0 v:Value} (s:St w0 (A*Ht v0 v) w):v=v0:=by
 obtain ⟨_,e,_⟩:=s.say
 exact e
end Go.HL
namespace Go.HL.St1
open Go.HL Go.HL.Tl Go.HL.Sr Go.HL.Es Go.Proofs
attribute [local irreducible] aE
def baa:Nat→PO
 |0=>(.bin .eql)
 |1=>(.build #[.nilFunc,.nilFunc,.nilFunc] [(0,1),(1,1),(2,1)] [0,1,2])
 |2=>(.build #[.nilFunc,.nilFunc,.nilFunc] [(0,1),(1,1),(2,1)] [0])
 |3=>(.bin .geq)
 |4=> .chkp
 |5=>(.fld 13)
 |6=>(.bin .lss)
 |7=>(.fld 2)
 |8=>(.fld 1)
 |9=>(.bin .neq)
 |10=>(.fld 4)
 |11=>(.fld 14)
 |12=>(.fld 5)
 |13=>(.ext 0)
 |14=>(.ext 1)
 |15=>(.fld 12)
 |16=>(.fld 3)
 |_=> .same
def Y8:Nat→EO
 |0=>(.new 209 (.agg #[.nilFunc,.nilFunc,.nilFunc]))
 |1=>(.st 3)
 |2=>(.box 37)
 |3=>(.ld false 1)
 |4=>(.call 58)
 |5=>(.call 62)
 |6=>(.call 129)
 |7=>(.new 123 (.agg #[(.int .i64 0),(.int .i64 0),(.int .i64 0),(.int .i64 0)]))
 |8=>(.st 4)
 |_=> .ak
def dka:Nat→Value
 |0=>(.int .i64 1)
 |1=>(.func (.func 205) #[] #[])
 |2=>(.func (.func 206) #[] #[])
 |3=>(.func (.func 207) #[] #[])
 |4=>(.int .i64 2)
 |5=>(.int .i64 3)
 |6=>(.func (.func 208) #[] #[])
 |7=>(.func (.func 209) #[] #[])
 |8=>(.func (.func 210) #[] #[])
 |9=>(.int .i64 4)
 |10=>(.func (.func 211) #[] #[])
 |11=>(.func (.func 212) #[] #[])
 |12=>(.func (.func 213) #[] #[])
 |13=>(.int .i64 5)
 |14=>(.func (.func 214) #[] #[])
 |15=>(.func (.func 215) #[] #[])
 |16=>(.func (.func 216) #[] #[])
 |17=>(.func (.func 217) #[] #[])
 |18=>(.int .i64 0)
 |19=>(.int .i64 200)
 |20=>(.bool false)
 |21=>(.tuple #[])
 |22=>(.bool true)
 |_=>undef
def xw:cE:=⟨baa,Y8,dka⟩
def e9a:ag:=⟨[0,2,3,7],18,[.cell 1 true 3],aM xw [] 0xb2cb2cbc19dc89a6145135544d2242090041513489082b68b2cae8a2f02cbc19dc89a6145135545144d220248f0523810500415145134880923c148e04171b55451348d05008061451348d050080b2f0677226985144d551451348c0522c148a0414010545144d230148b05228105c6d55144d22414020185144d224140202cbc19dc89a6145135545144d22014874860500415145134880521d21810eb9dc6996155144d21500800d451348540202f0039dc6996155144d21100800d451348440202cbc19dc89a6145135545144d20d20920414010545144d20d209204171b5545134804020185144d20100800276996100029e26996110014c0⟩
theorem MH:ah S1 131 400=some e9a:=by kernel_rfl
def fya:ag:=⟨[0,2],3,[.slot 1],aM xw [] 0xb2cbc19da65848b0819e26996122820544d0002⟩
theorem Nu:ah S1 217 400=some fya:=by kernel_rfl
def l62:ag:=⟨[0,1,4],16,[.slot 2],aM xw [] 0xb2cbc19dc8de7a57da65848c0824408a271f6996155144d109748d0900510060910145134425d23424014401944d10445135d23425544d55134001054400d10144d55134001054405134001110155144d22824010d451348a0900439da65848c082⟩
theorem TL:ah S1 62 400=some l62:=by kernel_rfl
def faa:ag:=⟨[0,1,3,4],20,[.slot 3],aM xw [] 0x2cb2f06772289e95f6996123020d10627237647df6996123820d10510e289f7da6584450d10510d45134445923424004431544d648d0955134022814430d10d44d008a0510d55144d20110890545134804422415135d23425544d00880510434415134022014415144d10100055135544d00870d44d00879e269965848c0834400944d0042⟩
theorem MI:ah S1 132 400=some faa:=by kernel_rfl
def fba:ag:=⟨[0,1,3,4,6],24,[.slot 3],aM xw [] 0xb2cb2f06772272375f69961755451348a09010048e0910434415144d22824040110555144d228244001451348a0910005135544d008c043513402301a5c72272289c72289a6585544d108e0445144d55134423414432014c75134423815134423415144d10510065135544d008c0435134023015135544d551340010b0435135544d00042c151340010c20820a20824820c2483082083c820a20830d2082c82082c830b2082c19e269965848c0834400944d0042⟩
theorem MJ:ah S1 133 400=some fba:=by kernel_rfl
def fca:ag:=⟨[0,1,3,4],12,[.slot 3],aM xw [] 0xb2cbc1a5c72272271a6585545134414400c35144d10510035135544d00880835134022025135544d551340010f0435135544d00043c15134001019e269965848c0834400944d0042⟩
theorem ML:ah S1 135 400=some fca:=by kernel_rfl
def nM (k:Int):Prop:=1≤k∧k≤5
instance (k:Int):Decidable (nM k):=inferInstanceAs (Decidable (_∧_))
def Cm (k:Int):FuncId:=if k=1 then 205 else if k=2∨k=3 then 208 else if k=4 then 211 else if k=5 then 214 else 217
def Ck (k:Int):FuncId:=if k=1 then 206 else if k=2∨k=3 then 209 else if k=4 then 212 else 215
def Cj (k:Int):FuncId:=if k=1 then 207 else if k=2∨k=3 then 210 else if k=4 then 213 else 216
def bJ (k:Int):List Value:= [.func (.func (Cm k)) #[] #[],if nM k then .func (.func (Ck k)) #[] #[] else .nilFunc,if nM k then .func (.func (Cj k)) #[] #[] else .nilFunc]
@[simp] theorem X0 (f:Fn) (a b:Array Value):(Value.func f a b).cells= #[.func f a b]:=rfl
theorem oy (k:Int) (w0 w:World) (A:aj) (s:St w0 A w):ai Tryz.prog 131 [.int .i64 k] (fun r w'=>r= .agg (bJ k).toArray∧St w0 A w') w:=by
 have fin:∀(b:Nat) (w:World),St w0 (A*pt b (.cells (bJ k).toArray 209 (0,0))) w→∀j u,(bJ k)[j]?=some u→w.cell? ⟨b,0+j,none⟩=some u:=fun b w s j u hu=>(s.at b).af j u hu
 refine go MH ?_
 refine fm fun b w s=> ?_
 by_cases h1:k=1
 ·subst h1
  simp
  refine aL (cs':=(bJ 1).toArray) fun w s=> ?_
  refine ar (vs:=bJ 1) rfl (fin b w s) rfl ?_
  simp
  exact s.ak
 by_cases h2:k=2
 ·subst h2
  simp
  refine aL (cs':=(bJ 2).toArray) fun w s=> ?_
  refine ar (vs:=bJ 2) rfl (fin b w s) rfl ?_
  simp
  exact s.ak
 by_cases h3:k=3
 ·subst h3
  simp
  refine aL (cs':=(bJ 3).toArray) fun w s=> ?_
  refine ar (vs:=bJ 3) rfl (fin b w s) rfl ?_
  simp
  exact s.ak
 by_cases h4:k=4
 ·subst h4
  simp
  refine aL (cs':=(bJ 4).toArray) fun w s=> ?_
  refine ar (vs:=bJ 4) rfl (fin b w s) rfl ?_
  simp
  exact s.ak
 by_cases h5:k=5
 ·subst h5
  simp
  refine aL (cs':=(bJ 5).toArray) fun w s=> ?_
  refine ar (vs:=bJ 5) rfl (fin b w s) rfl ?_
  simp
  exact s.ak
 have e0:bJ k= [.func (.func 217) #[] #[],.nilFunc,.nilFunc]:=by
  have hk:¬nM k:=fun h=>by unfold nM at h;omega
  simp [bJ,Cm,hk,h1,h2,h3,h4,h5]
 simp [h1,h2,h3,h4,h5]
 refine aL (cs':=(bJ k).toArray) (hc:=by rw [e0];rfl) fun w s=> ?_
 refine ar (vs:=bJ k) rfl (fin b w s) (by rw [e0];rfl) ?_
 simp
 exact s.ak
theorem EN (c:PC) (cv:Value) (wvs:List Value) (w0 w:World) (A:aj) (hcv:CV w0 A cv wvs c.es) (s:St w0 A w):
  bP Tryz.prog (Cm c.kind)=true∧ai Tryz.prog (Cm c.kind) [.agg (c.cs cv).toArray] (fun r w'=>r= .int .i64 (lQ c)∧St w0 A w') w:=by
 unfold Cm lQ
 by_cases h1:c.kind=1
 ·rw [if_pos h1,if_pos h1];exact ⟨by kernel_rfl,pL c cv wvs w0 w A hcv s⟩
 rw [if_neg h1,if_neg h1]
 by_cases h2:c.kind=2∨c.kind=3
 ·rw [if_pos h2,if_pos h2];exact ⟨by kernel_rfl,xJ c cv wvs w0 w A hcv s⟩
 rw [if_neg h2,if_neg h2]
 by_cases h4:c.kind=4
 ·rw [if_pos h4,if_pos h4];exact ⟨by kernel_rfl,xL c cv wvs w0 w A hcv s⟩
 rw [if_neg h4,if_neg h4]
 by_cases h5:c.kind=5
 ·rw [if_pos h5,if_pos h5];exact ⟨by kernel_rfl,xU c cv wvs w0 w A hcv s⟩
 rw [if_neg h5,if_neg h5]
 refine ⟨by kernel_rfl,?_⟩
 refine go Nu ?_
 refine gj fun b w s=> ?_
 exact s.ak
theorem Hy (c:PC) (cv:Value) (wvs:List Value) (e:PE) (ev:Value) (w0 w:World) (A:aj) (hk:nM c.kind) (hlen:c.es.length≤262144) (hes:∀e∈c.es,e.ok) (he:e.ok) (hcv:CV w0 A cv wvs c.es) (h2:WR w0 A ev e.ws) (s:St w0 A w):
  bP Tryz.prog (Ck c.kind)=true∧ai Tryz.prog (Ck c.kind) [.agg (c.cs cv).toArray,.agg (e.cs ev).toArray] (nJ w0 A (bg c e).no (bg c e).d (bg c e).gs (bg c e).ends) w:=by
 unfold Ck bg
 by_cases h1:c.kind=1
 ·rw [if_pos h1,if_pos h1];exact ⟨by kernel_rfl,CI c cv wvs e ev w0 w A (by omega) hcv h2 s⟩
 rw [if_neg h1,if_neg h1]
 by_cases h2:c.kind=2∨c.kind=3
 ·rw [if_pos h2,if_pos h2];exact ⟨by kernel_rfl,AB c cv wvs e ev w0 w A hlen (fun e he=>(hes e he).coins) (fun e he=>(hes e he).len) he hcv ‹_› s⟩
 rw [if_neg h2,if_neg h2]
 by_cases h4:c.kind=4
 ·rw [if_pos h4,if_pos h4];exact ⟨by kernel_rfl,AG c cv wvs e ev w0 w A hlen (fun e he=>(hes e he).len) he hcv ‹_› s⟩
 rw [if_neg h4,if_neg h4]
 exact ⟨by kernel_rfl,AO c cv wvs e ev w0 w A hlen (fun e he=>(hes e he).len) he hcv ‹_› s⟩
abbrev gN (q:Nat) (S:ST) (p g e m:Nat):aj:=St0.EL q S.x S.clock S.last p g e m
abbrev bT (q:Nat) (S:ST) (p g e m:Nat):aj:=St0.EL q S.x S.clock S.last p g e m*Pu.bp p S.E.P*Gd.bt g S.x.ae S.E.ae*fg e p g S.E.l
abbrev bL (q:Nat) (S:ST) (p g e m:Nat):aj:=bT q S p g e m*omap m S.cs
theorem aR (q:Nat) (S:ST) (n:Int) (p g e m:Nat) (w0 w:World) (A:aj) (s:St w0 (A*bT q S p g e m) w):
  ai Tryz.prog 62 [.pointer (some ⟨q,0,none⟩),.int .i64 n] (fun r w'=>r= .bool (decide (dU S n))∧St w0 (A*bT q S p g e m) w') w:=by
 refine go TL ?_
 by_cases h:0≤n
 ·simp [h]
  refine aX ?_
  have s:=s.prt (Pu.bp p S.E.P)
  refine ab ((Pu.IC p S.E.P w0 w _ s).mono ?_)
  rintro _ w ⟨rfl,s⟩
  simp
  exact ⟨by simp [dU,h],s.ak⟩
 ·simp [h]
  exact ⟨fun h2=>absurd h2.1 h,s⟩
theorem tq (q:Nat) (S:ST) (c:PC) (cv:Value) (p g e m:Nat) (w0 w:World) (A:aj) (s:St w0 (A*bT q S p g e m) w):
  ai Tryz.prog 135 [.pointer (some ⟨q,0,none⟩),.agg (c.cs cv).toArray] (fun r w'=>r= .bool (decide (c.dead≤S.clock))∧St w0 (A*bT q S p g e m) w') w:=by
 refine go ML ?_
 refine gj fun b w s=> ?_
 refine xh ?_
 refine la ?_
 refine la ?_
 intro w s
 exact s.ak
theorem zJ (q:Nat) (S:ST) (c:PC) (cv:Value) (p g e m:Nat) (w0 w:World) (A:aj) (s:St w0 (A*bT q S p g e m) w):
  ai Tryz.prog 132 [.pointer (some ⟨q,0,none⟩),.agg (c.cs cv).toArray] (fun r w'=>r= .bool (decide (qW S c))∧St w0 (A*bT q S p g e m) w') w:=by
 refine go MI ?_
 refine gj fun b w s=> ?_
 refine aX ?_
 have s:=s.prt (bT q S p g e m)
 refine ln (aR q S c.by' p g e m w0 w _ s) fun w s=> ?_
 by_cases h1:dU S c.by'
 case neg=>simp [h1,qW];exact s.ak
 simp [h1]
 refine aX ?_
 by_cases h2:c.kind=1
 case neg=>simp [h1,h2,qW];exact s.ak
 simp [h2]
 refine aX ?_
 refine ln (aR q S c.to' p g e m w0 w _ s) fun w s=> ?_
 exact ⟨by simp [qW,h1,h2],s.ak⟩
def itC (it:Gd.It):List Value:=it.cs
def iA (cs:Array Value) (s:Option Value) (p:Value):aj:=WT p (.cells (match s with|none=> #[.int .i64 0,.int .i64 0,.int .i64 0,.int .i64 0]|some _=>cs) 123 (0,0))
@[simp] theorem FJ (cs:Array Value) (b:Nat):iA cs none (.pointer (some ⟨b,0,none⟩))=pt b (.cells #[.int .i64 0,.int .i64 0,.int .i64 0,.int .i64 0] 123 (0,0)):=qx b _
@[simp] theorem d4a (cs:Array Value) (v:Value) (b:Nat):iA cs (some v) (.pointer (some ⟨b,0,none⟩))=pt b (.cells cs 123 (0,0)):=qx b _
theorem CS (q:Nat) (S:ST) (c:PC) (cv:Value) (p g e m:Nat) (w0 w:World) (A:aj) (hI:S.E.ae.length≤1048576) (s:St w0 (A*bT q S p g e m) w):
  ai Tryz.prog 133 [.pointer (some ⟨q,0,none⟩),.agg (c.cs cv).toArray] (fun r w'=>r= .bool (decide (CR S c))∧St w0 (A*bT q S p g e m) w') w:=by
 refine go MJ ?_
 refine gj fun b w s=> ?_
 obtain ⟨D,hD⟩:∃D,A*bC b c cv*gN q S p g e m*Pu.bp p S.E.P*fg e p g S.E.l=D:=⟨_,rfl⟩
 have s:St w0 (D*Gd.bt g S.x.ae S.E.ae) w:=by rw [←hD];exact s.ak
 have fq:∀{X:aj} {w:World},St w0 (D*X) w→w.cell? ⟨q,14,none⟩=some (.pointer (some ⟨g,0,none⟩)):=fun s=>by
  rw [←hD] at s
  have:=((show St w0 _ _ from s).drop.prt (gN q S p g e m)).af 14 _ rfl;simpa using this
 have fb:∀{X:aj} {w:World},St w0 (D*X) w→w.cell? ⟨b,5,none⟩=some (.int .i64 c.want):=fun s=>by
  rw [←hD] at s
  have:=((show St w0 _ _ from s).drop.prt (bC b c cv)).af 5 _ rfl;simpa using this
 obtain ⟨G,hG⟩:∃G,Gd.aH S.E.ae c.want=G:=⟨_,rfl⟩
 obtain ⟨M,hM⟩:∃M:Fm→aj,M=fun ρ=>D*(Gd.bt g S.x.ae S.E.ae*jF (Ht (.tuple #[.agg G.1.cs.toArray,.int .i64 G.2])) (ρ 6)*jF (iA G.1.cs.toArray (ρ 11)) (ρ 10)):=⟨_,rfl⟩
 refine EC M ?_ (h0:=by rw [hM];simp [al])
 refine HE (fun ρ' w _ s=>fq (by rw [hM] at s;exact s)) ?_
 refine HE (fun ρ' w _ s=>fb (by rw [hM] at s;exact s)) ?_
 refine rj (fun ρ' w hq h1 hp s=> ?_) (fun v1 ⟨ρ',w,hle,s⟩=> ?_)
 ·rw [hM] at s
  simp only [h1,cf,al] at s
  obtain ⟨X,hX⟩:∃X,jF (iA G.1.cs.toArray (ρ' 11)) (ρ' 10)=X:=⟨_,rfl⟩
  rw [hX] at s
  refine ab ((Gd.gS g S.x.ae S.E.ae c.want w0 w (D*X) hI (s.to (by ac_rfl))).mono ?_)
  intro r w s
  rw [hM]
  simp [h1,hX]
  rw [hG] at s
  obtain ⟨rfl,s⟩:=s
  simp only [kI,al]
  exact s.to (by ac_rfl)
 obtain rfl:v1= .tuple #[.agg G.1.cs.toArray,.int .i64 G.2]:=by
  rw [hM] at s
  simp only [hle 6 v1 rfl,aQ] at s
  exact (show St w0 (D*Gd.bt g S.x.ae S.E.ae*jF (iA G.1.cs.toArray (ρ' 11)) (ρ' 10)*Ht (.tuple #[.agg G.1.cs.toArray,.int .i64 G.2]) v1) w from s.to (by ac_rfl)).isv
 clear s hle
 simp
 refine rj (fun ρ' w hq h1 hp s=> ?_) (fun v2 ⟨ρ',w,hle,s⟩=> ?_)
 ·simp at hp
  rw [hM] at s
  simp only [h1,hp,cf,al] at s
  refine bz s fun p2 w s=> ?_
  have s:St w0 (_*pt p2 (.cells #[.int .i64 0,.int .i64 0,.int .i64 0,.int .i64 0] 123 (0,0))) w:=s
  rw [hM]
  simp [h1,hp]
  exact s.to (by ac_rfl)
 obtain ⟨p2,rfl⟩:∃b,v2= .pointer (some ⟨b,0,none⟩):=by
  rw [hM] at s
  simp only [hle 10 v2 rfl,aQ] at s
  exact (show St w0 (D*(Gd.bt g S.x.ae S.E.ae*jF (Ht (.tuple #[.agg G.1.cs.toArray,.int .i64 G.2])) (ρ' 6))*iA G.1.cs.toArray (ρ' 11) v2) w from s.to (by ac_rfl)).ptr
 clear s hle
 refine rj (fun ρ' w hq h1 hp s=> ?_) (fun _ _=> ?_)
 ·simp at hq
  obtain ⟨hq1,hq2⟩:=hq
  rw [hM] at s
  simp only [h1,hq1,hq2,aQ,kI,al,FJ] at s
  refine aL (cs':=G.1.cs.toArray) (b:=p2) (fun w s=> ?_) (s:=s.to (ao _ _ _).symm) (h1:=Gd.cH G.1) (e:=fun w'=>rfl)
  rw [hM]
  simp [h1,hq1,hq2,al]
  exact s.to (by ac_rfl)
 intro w s
 rw [hM] at s
 simp [al] at s
 rw [←hD] at s
 refine ad (by have:=(s.drop.prt (bC b c cv)).af 5 _ rfl;simpa using this) ?_
 simp
 refine ⟨?_,s.ak⟩
 simp [CR,hG]
end Go.HL.St1
namespace Go.HL.St1
open Go.HL Go.HL.Tl Go.HL.Sr Go.HL.Es Go.Proofs
attribute [local irreducible] aE
def bba:Nat→PO
 |0=>(.un .not)
 |1=>(.bin .eql)
 |2=> .chkp
 |3=>(.fld 14)
 |4=>(.ext 0)
 |5=>(.ext 1)
 |6=>(.bin .neq)
 |7=>(.fld 3)
 |8=>(.fld 2)
 |9=>(.bin .lss)
 |10=>(.bin .gtr)
 |11=>(.fld 12)
 |12=>(.bin .sub)
 |13=>(.bin .add)
 |14=>(.fld 15)
 |15=>(.build #[(.int .i64 0),(.int .i64 0),(.slice none 0 0)] [(0,1),(1,1),(2,1)] [])
 |16=>(.fld 17)
 |17=>(.build #[(.int .i64 0),(.int .i64 0),(.slice none 0 0)] [(0,1),(1,1),(2,1)] [1,2])
 |_=> .same
def Y9:Nat→EO
 |0=>(.call 62)
 |1=>(.ld false 1)
 |2=>(.call 129)
 |3=>(.new 123 (.agg #[(.int .i64 0),(.int .i64 0),(.int .i64 0),(.int .i64 0)]))
 |4=>(.st 4)
 |5=>(.call 130)
 |6=>(.st 1)
 |7=>(.new 46 (.agg #[(.int .i64 0),(.int .i64 0),(.slice none 0 0)]))
 |8=>(.call 221)
 |9=>(.st 3)
 |10=>(.bi .delete #[106,3] 0 #[false,false])
 |_=> .ak
def dla:Nat→Value
 |0=>(.int .i64 0)
 |1=>(.tuple #[])
 |2=>(.bool true)
 |3=>(.int .i64 142)
 |4=>(.int .i64 234)
 |5=>(.int .i64 151)
 |6=>(.int .i64 1)
 |7=>(.int .i64 2147483648)
 |8=>(.int .i64 2)
 |9=>(.int .i64 1099511627776)
 |10=>(.int .i64 239)
 |_=>undef
def KZ:cE:=⟨bba,Y9,dla⟩
def l65:ag:=⟨[0,1,2,3,8,9,10],53,[.slot 4],aM KZ [] 0xb2cb2cb2cbc19dc72289a6584411145144d00d00510055135544d55134000830544d55134000835134000a8bc0b2f0676996121447237647df6d209848244089c7e37647db4826110a271f6d55144d00910c66110945134024431944d64815544d01480510814425134052014425545134804411910145134804411944d64815544d01474400510144d01474405545134804061945134804061a771c8a271c8a26996585544d10451910855144d55134411110844c35134411544d10445144d00510025135544d55134000830544d55134000835134000a8bc0b2f06769961210471b5545134034020585144d00d0081a2f02cbc19da65848312272391f6d209844189c7db5544d10806110544d10805144d64814034415920500110404415544d1000513440014513402400027699612004⟩
theorem TP:ah S1 65 400=some l65:=by kernel_rfl
def l70:ag:=⟨[0,1,4],26,[.slot 2],aM KZ [] 0x2cb2cb2cbc19da6584800a771c89c71c89a6145135545134014403415544d551340008b0465135544d00022c15134000945134014403415135544d551340008b0415135544d00022c15134000a8bc0b2f06769961228109c72271c6d55144d55144d101224130140128161451355451344048904c05004a05451344048904c0544d55135544d00022c10544d551340008b0544d0002a2f02cbc19da65848804272375f6d75545134874012814824406110145134874012814405545134864012415144d2190049067699612002⟩
theorem TU:ah S1 70 400=some l70:=by kernel_rfl
def fda:ag:=⟨[0,1,2,6,7,8],28,[.cell 3 true 3,.slot 4],aM KZ [] 0xb2cb2cb2f0677226996120045144d55144d00900490900c90545134024012429dc72289a6145134014402815135544d55134000880815135544d00022025134000a8bc0b2f0677226996101445144d54cf0500c90533c171b5545134804051985144d20101469dc72289a6584411545144d00900510080544d55135544d00023810544d551340008e0544d00029e26996584801110034c7⟩
theorem MN:ah S1 137 400=some fda:=by kernel_rfl
theorem DV (q:Nat) (S:ST) (n a b:Int) (p g e m:Nat) (w0 w:World) (A:aj) (hI:S.E.ae.length≤1048576) (s:St w0 (A*bT q S p g e m) w):
  ai Tryz.prog 65 [.pointer (some ⟨q,0,none⟩),.int .i64 n,.int .i64 a,.int .i64 b] (fun r w'=>r= .int .i64 (fM S n a b).1∧St w0 (A*bT q (fM S n a b).2 p g e m) w') w:=by
 refine go TP ?_
 refine ln (aR q S a p g e m w0 w _ s) fun w s=> ?_
 have out:∀(no:Int) (w:World),St w0 (A*bT q S p g e m) w→fM S n a b=(no,S)→no=(fM S n a b).1∧St w0 (A*bT q (fM S n a b).2 p g e m) w:=fun no w s h=>by rw [h];exact ⟨rfl,s⟩
 by_cases h1:dU S a
 case neg=>
  simp [h1]
  exact out 142 _ s (by unfold fM;rw [if_pos (.inl h1)])
 simp [h1]
 refine ln (aR q S b p g e m w0 w _ s) fun w s=> ?_
 by_cases h2:dU S b
 case neg=>
  simp [h2]
  exact out 142 _ s (by unfold fM;rw [if_pos (.inr h2)])
 simp [h2]
 have h12:¬(¬dU S a∨¬dU S b):=by simp [h1,h2]
 by_cases h3:a=b
 ·simp [h3]
  subst h3
  exact out 234 _ s (by unfold fM;rw [if_neg h12,if_pos rfl])
 simp [h3]
 refine aX ?_
 refine ab ((Gd.gS g S.x.ae S.E.ae n w0 w _ hI (s.prt (Gd.bt g S.x.ae S.E.ae))).mono ?_)
 rintro _ w ⟨rfl,s⟩
 simp
 obtain ⟨G,hG⟩:∃G,Gd.aH S.E.ae n=G:=⟨_,rfl⟩
 rw [hG]
 refine fm fun b2 w s=> ?_
 refine aL (cs':=G.1.cs.toArray) (h1:=Gd.cH G.1) fun w s=> ?_
 have s:St w0 (A*bT q S p g e m*pt b2 (.cells G.1.cs.toArray 123 (0,0))) w:=s.ak
 have hg:∀no,fM S n a b=(if G.2≠0∨G.1.bB≠0∨G.1.acc≠a then (151,S) else no)→True:=fun _ _=>trivial
 have e0:fM S n a b=(if G.2≠0∨G.1.bB≠0∨G.1.acc≠a then (151,S) else ((Gd.ij S.E.ae n b).1,{S with E:={S.E with ae:=(Gd.ij S.E.ae n b).2}})):=by
  unfold fM;rw [if_neg h12,if_neg h3,hG]
 by_cases h4:G.2=0
 case neg=>
  simp [h4]
  exact out 151 _ s.drop (by rw [e0,if_pos (.inl h4)])
 simp [h4]
 refine aX ?_
 by_cases h5:G.1.bB=0
 case neg=>
  simp [h5]
  exact out 151 _ s.drop (by rw [e0,if_pos (.inr (.inl h5))])
 simp [h5]
 refine aX ?_
 by_cases h6:G.1.acc=a
 case neg=>
  simp [h6]
  exact out 151 _ s.drop (by rw [e0,if_pos (.inr (.inr h6))])
 simp [h6]
 refine aX ?_
 refine ab ((Gd.GN g S.x.ae S.E.ae n b w0 w _ hI (s.prt (Gd.bt g S.x.ae S.E.ae))).mono ?_)
 rintro _ w ⟨rfl,s⟩
 rw [e0,if_neg (by simp [h4,h5,h6])]
 exact ⟨rfl,s.ak⟩
theorem Ib (q:Nat) (S:ST) (n:Int) (p g e m:Nat) (w0 w:World) (A:aj) (hc:0≤S.clock∧S.clock≤1099511627776) (s:St w0 (A*bT q S p g e m) w):
  ai Tryz.prog 70 [.pointer (some ⟨q,0,none⟩),.int .i64 n] (fun r w'=>r= .int .i64 (iv S n).1∧St w0 (A*bT q (iv S n).2 p g e m) w') w:=by
 refine go TU ?_
 refine bK (fun h=> ?_) (fun h=> ?_)
 ·have e0:iv S n=(2,S):=by unfold iv;rw [if_pos (by omega)]
  rw [e0]
  exact ⟨rfl,s⟩
 refine aX ?_
 rw [wrap64 (by omega) (by omega)]
 refine bK (fun h2=> ?_) (fun h2=> ?_)
 ·have e0:iv S n=(239,S):=by unfold iv;rw [if_neg (by omega),if_pos (by omega)]
  rw [e0]
  exact ⟨rfl,s⟩
 have e0:iv S n=(0,{S with clock:=S.clock+n}):=by unfold iv;rw [if_neg (by omega),if_neg (by omega)]
 rw [e0]
 refine aX ?_
 rw [wrap64 (by omega) (by omega)]
 refine jH (cs':=(St0.Ao S.x (S.clock+n) S.last p g e m).toArray) fun w s=> ?_
 exact (show St w0 (A*Pu.bp p S.E.P*Gd.bt g S.x.ae S.E.ae*fg e p g S.E.l*St0.EL q S.x (S.clock+n) S.last p g e m) w from s.ak).ak
def dk (d:DN) (v:Value):List Value:= [.int .i64 d.num,.int .i64 d.ended,v]
abbrev bZ (b:Nat) (d:DN) (v:Value):aj:=pt b (.cells (dk d v).toArray 46 (0,0))
def fO (w0:World) (A:aj) (q p g e m:Nat) (o:DN×Int×ST) (r:Value) (w:World):Prop:=
 ∃v,r= .tuple #[.agg (dk o.1 v).toArray,.int .i64 o.2.1]∧St w0 (A*bL q o.2.2 p g e m*bR v o.1.gs) w
theorem fO.no {w0 w:World} {A:aj} {q p g e m:Nat} {S:ST} {n:Int} (s:St w0 (A*bL q S p g e m) w):fO w0 A q p g e m (.zero,n,S) (.tuple #[.agg (dk .zero (.slice none 0 0)).toArray,.int .i64 n]) w:=⟨_,rfl,s.aA _ _⟩
theorem vn:pR Tryz.prog 106 3 37 (.agg (PC.zero.cs (.slice none 0 0)).toArray):=⟨by kernel_rfl,by kernel_rfl,by kernel_rfl⟩
theorem tz (q:Nat) (S:ST) (n:Int) (gs:List Gf) (gv:Value) (lp:Int) (p g e m:Nat) (w0 w:World) (A:aj) (hE:EI lp S.x.ae S.E) (hc: -9223372036854775808≤n∧n<9223372036854775808) (hx:∀x∈gs,0≤x.coins∧x.coins<18446744073709551616) (hn:gs.length≤4194304)
  (s:St w0 (A*bL q S p g e m*bR gv gs) w):
  ai Tryz.prog 137 [.pointer (some ⟨q,0,none⟩),.int .i64 n,gv] (fO w0 A q p g e m (iC S n gs)) w:=by
 have hgv:=cX s
 obtain ⟨ga,gc,rfl,_,_⟩:=s.aq
 refine go MN ?_
 refine fm fun d w s=> ?_
 have s:St w0 (A*bL q S p g e m*bR (.slice ga gs.length gc) gs*bZ d .zero (.slice none 0 0)) w:=s
 refine aX ?_
 have s:St w0 (A*gN q S p g e m*omap m S.cs*bR (.slice ga gs.length gc) gs*bZ d .zero (.slice none 0 0)*aG p g e S.x.ae S.E) w:=s.to (by simp only [bL,bT,aG,gN,bZ];ac_rfl)
 refine ab ((Iz p g e lp S.x.ae n gs _ S.E w0 w _ hE hc hx hn (rp (v:= .slice ga gs.length gc) (xs:=ig gs) s.drop) s).mono ?_)
 rintro _ w ⟨rfl,s⟩
 simp
 have hdn:∀(b:Nat) (d:DN) (v:Value) (B:aj) (w:World),St w0 (B*bZ b d v) w→∀j u,(dk d v)[j]?=some u→w.cell? ⟨b,0+j,none⟩=some u:=fun b d v B w s j u hu=>by simpa using s.af j u hu
 obtain ⟨T,hT⟩:∃T,bb n gs (lX n) S.E=T:=⟨_,rfl⟩
 have hfail:T.1≠0→T.2=S.E:=fun h=>by
  rw [←hT] at h⊢
  unfold bb at h⊢
  split
  ·rfl
  ·rename_i h1
   split
   ·rfl
   ·rename_i h2
    rw [if_neg h1,if_neg h2] at h
    split
    ·rfl
    ·rename_i h3;rw [if_neg h3] at h;exact absurd rfl h
 have hend:iC S n gs=if T.1≠0 then (.zero,T.1,S) else (⟨0,n,gs⟩,0,{S with E:=T.2,cs:=tp S.cs n}):=by unfold iC;rw [hT]
 rw [hT] at s⊢
 refine bK (fun h=> ?_) (fun h=> ?_)
 ·rw [hfail h] at s
  refine aL (cs':=(dk .zero (.slice none 0 0)).toArray) fun w s=> ?_
  have s:St w0 (A*bL q S p g e m*bZ d .zero (.slice none 0 0)) w:=(show St w0 (_*bZ d .zero (.slice none 0 0)) w from s).ak
  refine ar (vs:=dk .zero (.slice none 0 0)) rfl (hdn d _ _ _ w s) rfl ?_
  simp
  rw [hend,if_pos h]
  exact fO.no s.drop
 rw [hend,if_neg (by simpa using h)]
 refine aX ?_
 obtain ⟨es,k,xs,hO,s⟩:=eO (show St w0 (A*gN q S p g e m*bR (.slice ga gs.length gc) gs*bZ d .zero (.slice none 0 0)*aG p g e S.x.ae T.2*omap m S.cs) w from s.ak)
 refine A7 vn (s.to (eQ _ _ _)) fun w s=> ?_
 simp
 have s:=s.to (eQ _ _ _)
 have s:=bQ (hO.del n) (Ka n s)
 have s:St w0 (A*gN q S p g e m*bR (.slice ga gs.length gc) gs*aG p g e S.x.ae T.2*omap m (tp S.cs n)*bZ d .zero (.slice none 0 0)) w:=s.ak
 refine aL (cs':=(dk ⟨0,n,gs⟩ (.slice ga gs.length gc)).toArray) fun w s=> ?_
 have s:St w0 (A*bL q {S with E:=T.2,cs:=tp S.cs n} p g e m*bR (.slice ga gs.length gc) gs*bZ d ⟨0,n,gs⟩ (.slice ga gs.length gc)) w:=s.to (by simp only [bL,bT,aG,gN,bZ];ac_rfl)
 refine ar (vs:=dk ⟨0,n,gs⟩ (.slice ga gs.length gc)) rfl (hdn d _ _ _ w s) rfl ?_
 simp
 exact ⟨_,rfl,s.drop⟩
end Go.HL.St1
namespace Go.HL.Es
open Go.HL Go.Proofs
structure So where
 kind:Int
 bB:Int
 gv:Value
 gs:List Gf
 e:Ew
def So.cs (o:So):List Value:= [.int .i64 o.kind,.int .i64 o.bB,o.gv]++o.e.cs
structure So.ok (o:So) (w0:World) (A:aj):Prop where
 bB: -9223372036854775808≤o.bB∧o.bB<9223372036854775808
 gv:o.gv.oneCell'=true
 row:Row w0 A o.gv o.gs.length 3 (ig o.gs)
 len:o.gs.length≤1048576
 gs:∀x∈o.gs,0≤x.coins∧x.coins<18446744073709551616
 wv:o.e.wv.oneCell'=true
 coins:0≤o.e.x.coins∧o.e.x.coins<18446744073709551616
def cm (o:So) (E:ck):Int×Bool×ck:=
 if o.kind=1 then ((bb o.bB [] (aK o.bB o.e.x) E).1,true,(bb o.bB [] (aK o.bB o.e.x) E).2)
 else if o.kind=2 then ((bb o.bB o.gs (aK o.bB o.e.x) E).1,true,(bb o.bB o.gs (aK o.bB o.e.x) E).2)
 else if o.kind=3 then ((bb o.bB o.gs (lX o.bB) E).1,true,(bb o.bB o.gs (lX o.bB) E).2)
 else (0,false,E)
def epa (o:So) (k:Int):Int:=((if o.kind=1 then 0 else toK k o.gs) -(if o.kind≠3∧o.e.x.acc=k then o.e.x.coins else 0)) %18446744073709551616
end Go.HL.Es
namespace Go.HL.Es
open Go.HL Go.Proofs
def KQ (T:Int→Int):Nat→Int
 |0=>0
 |n+1=>KQ T n+T n
theorem uI (t v:Int):∀n:Nat,KQ (fun k=>if t=k then v else 0) n=if 0≤t∧t<n then v else 0
 |0=>by simp [KQ];omega
 |n+1=>by
  simp only [KQ,uI t v n]
  by_cases h:t=n
  ·rw [if_pos h,if_neg (by omega),if_pos (by omega)];omega
  ·rw [if_neg h,Int.add_zero]
   by_cases h2:0≤t∧t<n
   ·rw [if_pos h2,if_pos (by omega)]
   ·rw [if_neg h2,if_neg (by omega)]
structure PL (c:Int) (E E':ck) (T:Int→Int) (f:Gd.It→Gd.It) (d:Int):Prop where
 len:E'.P.rows.length=E.P.rows.length
 sup:E'.P.sup=E.P.sup
 name:∀k,k<E.P.rows.length→(E'.P.rows.getD k ⟨[],0⟩).name=(E.P.rows.getD k ⟨[],0⟩).name
 bH:∀k:Nat,k<E.P.rows.length→Pu.bH E'.P.rows k=Pu.bH E.P.rows k+T k
 all:KQ T E.P.rows.length= -d
 bX:bX E'.l c=bX E.l c+d
 rest:del c E'.l=del c E.l
 ae:E'.ae=E.ae.map f
theorem Fo (c v:Int):∀{l:List Rw},(∀r∈l,r.1≠c)→del c (ins c v l)=l
 | [],_=>by simp [ins,del]
 |r::t,h=>by
  have h0:=h r (.head _)
  have ht:∀r∈t,r.1≠c:=fun x hx=>h x (.tail _ hx)
  simp only [ins]
  split
  ·have e:del c ((c,v)::r::t)=del c (r::t):=by simp [del]
   rw [e,jh h]
  ·have e:del c (r::ins c v t)=r::del c (ins c v t):=by simp [del,h0]
   rw [e,Fo c v ht]
theorem AZ (c v:Int) (l:List Rw):del c (eX c v l)=del c l:=by
 have h:∀r∈del c l,r.1≠c:=fun r hr=>(iT.1 hr).2
 unfold eX
 split
 ·exact jh h
 ·exact Fo c v h
def gW (x:Gf) (it:Gd.It):Gd.It:=if x.item=it.num then ⟨it.num,it.kind,x.to,0⟩ else it
def eW (c:Int) (x:Et) (it:Gd.It):Gd.It:=if x.item=it.num then ⟨it.num,it.kind,-1,c⟩ else it
theorem map_set {ae:List Gd.It} {lim:Int} (hg:Gd.GI lim ae) {j:Nat} (hj:j<ae.length) (y:Gd.It) (f:Gd.It→Gd.It) (h1:f ae[j]=y) (h2:∀it:Gd.It,it.num≠(j:Int)+1→f it=it):ae.set j y=ae.map f:=by
 apply List.ext_getElem
 ·simp
 ·intro i a b
  have hi:i<ae.length:=by simpa using a
  rw [List.getElem_map,List.getElem_set]
  split
  ·rename_i e;subst e;exact h1.symm
  ·rename_i e
   exact (h2 ae[i] (by rw [hg.num i hi];omega)).symm
theorem map_none {ae:List Gd.It} {lim:Int} (hg:Gd.GI lim ae) {n:Int} (hn:n=0) (f:Gd.It→Gd.It) (h2:∀it:Gd.It,it.num≠n→f it=it):ae=ae.map f:=by
 apply List.ext_getElem
 ·simp
 ·intro i a b
  rw [List.getElem_map,h2 ae[i] (by rw [hg.num i a];omega)]
theorem ti {l:List Pu.Ac} {t:Nat} (h:t<l.length) (v:Int) (k:Nat):Pu.bH (Pu.bE l t (Pu.bH l t+v)) k=Pu.bH l k+(if (t:Int)=k then v else 0):=by
 rw [Pu.oR h]
 by_cases e:k=t
 ·subst e;simp
 ·rw [if_neg e,if_neg (by omega)];omega
theorem wO {l:List Pu.Ac} {t:Nat} (v:Int) (k:Nat) (hk:k<l.length):((Pu.bE l t v).getD k ⟨[],0⟩).name=(l.getD k ⟨[],0⟩).name:=by
 obtain ⟨hk2,hnm⟩:=Pu.iX (l:=l) (i:=t) (k:=k) (c:=v) (by rw [Pu.aB];exact hk)
 simp only [List.getD_eq_getElem?_getD,List.getElem?_eq_getElem hk,List.getElem?_eq_getElem (show k<(Pu.bE l t v).length by rw [Pu.aB];exact hk),Option.getD_some]
 exact hnm
theorem om {lp lg c:Int} {x:Gf} {E:ck} (hE:EI lp lg E) (hc:1≤c∧c<9223372036854775808) (hx:0≤x.coins) (h:(ct c x E).1=0):PL c E (ct c x E).2 (fun k=>if x.to=k then x.coins else 0) (gW x) (-x.coins):=by
 obtain ⟨g,e⟩:=(jn c x E).resolve_right fun q=>q.2.1 h
 have ha:=nk.1 g.acc
 have hle:=xY hE.R c
 have hsum:=hE.sum
 have hgc:=g.coins
 have hput:=(ux hE.P ha (c:=x.coins) ⟨hx,by omega⟩).1
 obtain ⟨t,ht,htl⟩:=Pu.iy ha
 have e0:x.to.toNat=t:=by omega
 rw [e,hput,e0]
 constructor
 ·exact Pu.aB _ _ _
 ·rfl
 ·exact fun k hk=>wO _ k hk
 ·intro k hk
  rw [ht]
  exact ti htl x.coins k
 ·rw [uI,if_pos ⟨by omega,by omega⟩];omega
 ·show bX (eX c (bX E.l c -x.coins) E.l) c=_
  rw [kA hE.R hc (by omega),if_pos rfl];omega
 ·exact AZ _ _ _
 ·show (if x.item≠0 then (Gd.fL E.ae x.item x.to).2 else E.ae)=_
  by_cases hi:x.item=0
  ·rw [if_neg (by simp [hi])]
   exact map_none hE.G hi _ fun it hit=>by unfold gW;rw [if_neg (Ne.symm hit)]
  ·rw [if_pos hi]
   obtain ⟨g1,g2⟩:=g.item hi
   obtain ⟨j,ej,hj,hxj⟩:=DS g1
   rw [hxj] at g2
   have hfr:(Gd.fL E.ae x.item x.to).2=E.ae.set j ⟨E.ae[j].num,E.ae[j].kind,x.to,0⟩:=by
    unfold Gd.fL Gd.bq
    have e1:((j:Int)+1).toNat -1=j:=by omega
    rw [if_pos (IQ hE.P ha),ej,if_pos (by omega),e1]
    have e2:E.ae.getD j ⟨0,0,0,0⟩=E.ae[j]:=by simp [hj]
    rw [e2,if_pos (by simp;omega)]
   rw [hfr]
   refine map_set hE.G hj _ _ ?_ fun it hit=> ?_
   ·unfold gW;rw [if_pos (by rw [hE.G.num j hj,ej])]
   ·unfold gW;rw [if_neg (by rw [ej];exact Ne.symm hit)]
theorem HW {lp lg c:Int} {x:Et} {E:ck} (hE:EI lp lg E) (hc:1≤c∧c<9223372036854775808) (hx:0≤x.coins) (h:(aK c x E).1=0):PL c E (aK c x E).2 (fun k=>if x.acc=k then -x.coins else 0) (eW c x) x.coins:=by
 obtain ⟨g1,g2,g3,e⟩:=fZ h
 obtain ⟨ha,hle,et⟩:=Pn g3
 obtain ⟨t,ht,htl⟩:=Pu.iy ha
 have e0:x.acc.toNat=t:=by omega
 have hb:=hE.lq c
 rw [e,et,e0]
 constructor
 ·exact Pu.aB _ _ _
 ·rfl
 ·exact fun k hk=>wO _ k hk
 ·intro k hk
  rw [ht]
  exact ti htl (-x.coins) k
 ·rw [uI,if_pos ⟨by omega,by omega⟩]
 ·show bX (eX c (bX E.l c+x.coins) E.l) c=_
  rw [kA hE.R hc (by omega),if_pos rfl]
 ·exact AZ _ _ _
 ·show (if x.item≠0 then (Gd.fW E.ae x.item c).2 else E.ae)=_
  by_cases hi:x.item=0
  ·rw [if_neg (by simp [hi])]
   exact map_none hE.G hi _ fun it hit=>by unfold eW;rw [if_neg (Ne.symm hit)]
  ·rw [if_pos hi]
   obtain ⟨q1,q2,q3⟩:=g2 hi
   obtain ⟨j,ej,hj,hxj⟩:=DS q1
   rw [hxj] at q2 q3
   have hfr:(Gd.fW E.ae x.item c).2=E.ae.set j ⟨E.ae[j].num,E.ae[j].kind,-1,c⟩:=by
    unfold Gd.fW Gd.bq
    have e1:((j:Int)+1).toNat -1=j:=by omega
    rw [if_neg (by omega),ej,if_pos (by omega),e1]
    have e2:E.ae.getD j ⟨0,0,0,0⟩=E.ae[j]:=by simp [hj]
    rw [e2,if_pos (by simp [q2])]
   rw [hfr]
   refine map_set hE.G hj _ _ ?_ fun it hit=> ?_
   ·unfold eW;rw [if_pos (by rw [hE.G.num j hj,ej])]
   ·unfold eW;rw [if_neg (by rw [ej];exact Ne.symm hit)]
def gsW (gs:List Gf) (it:Gd.It):Gd.It:=gs.foldl (fun it x=>gW x it) it
theorem Pq {c:Int} {gs:List Gf} {bes:ck→Int×ck} {E:ck} (h:(bb c gs bes E).1≠0):(bb c gs bes E).2=E:=by
 unfold bb at h⊢
 split
 ·rfl
 split
 ·rfl
 split
 ·rfl
 ·rename_i h1 h2 h3;rw [if_neg h1,if_neg h2,if_neg h3] at h;exact absurd rfl h
end Go.HL.Es
namespace Go.HL.St1
open Go.HL Go.HL.Tl Go.HL.Sr Go.HL.Es Go.Proofs
def kZ (gs:List Gf):List Int:=(gs.map (·.item)).filter fun n=>decide (n≠0)
theorem BB (x:Gf) (t:List Gf):kZ (x::t)=(if x.item≠0 then [x.item] else [])++kZ t:=by
 unfold kZ
 by_cases h:x.item=0
 ·simp [h]
 ·simp [h]
theorem eL (a b:List Gf):kZ (a++b)=kZ a++kZ b:=by simp [kZ]
theorem px {lg:Int} {ae:List Gd.It} (h:Gd.GI lg ae) {it:Gd.It} (hm:it∈ae):1≤it.num:=by
 obtain ⟨i,hi,rfl⟩:=List.getElem_of_mem hm
 rw [h.num i hi];omega
theorem DT {lg:Int} {ae:List Gd.It} (h:Gd.GI lg ae) {it:Gd.It} (hm:it∈ae):Gd.aH ae it.num=(it,0):=by
 obtain ⟨i,hi,rfl⟩:=List.getElem_of_mem hm
 unfold Gd.aH
 rw [h.num i hi,if_pos (by omega)]
 have:((i:Int)+1).toNat -1=i:=by omega
 rw [this]
 simp [hi]
theorem Eg {lg:Int} {ae:List Gd.It} (h:Gd.GI lg ae):(ae.map (·.num)).Nodup:=by
 rw [List.nodup_iff_pairwise_ne,List.pairwise_map,List.pairwise_iff_getElem]
 intro i j hi hj hij e
 rw [h.num i hi,h.num j hj] at e
 omega
theorem kH {lg:Int} {ae:List Gd.It} (h:Gd.GI lg ae) (n:Int):(Gd.dZ ae n).Nodup:=(Eg h).sublist ((List.filter_sublist).map _)
theorem lC {ae:List Gd.It} {n k:Int}:k∈Gd.dZ ae n↔∃it∈ae,it.num=k∧0<it.bB∧it.bB=n:=by
 unfold Gd.dZ
 simp only [List.mem_map,List.mem_filter,Bool.and_eq_true,decide_eq_true_eq]
 constructor
 ·rintro ⟨it,⟨h1,h2,h3⟩,h4⟩;exact ⟨it,h1,h4,h2,h3⟩
 ·rintro ⟨it,h1,h4,h2,h3⟩;exact ⟨it,⟨h1,h2,h3⟩,h4⟩
theorem ua (x:Gf) (ae:List Gd.It) (n:Int):Gd.dZ (ae.map (gW x)) n=(Gd.dZ ae n).filter fun k=>decide (k≠x.item):=by
 unfold Gd.dZ
 induction ae with
 |nil=>rfl
 |cons it t ih=>
  by_cases h:x.item=it.num
  ·have h1:gW x it=⟨it.num,it.kind,x.to,0⟩:=by unfold gW;rw [if_pos h]
   rw [List.map_cons,List.filter_cons_of_neg (by rw [h1];simp),ih]
   by_cases c:(decide (0<it.bB)&&decide (it.bB=n))=true
   ·rw [List.filter_cons_of_pos (p:=fun x:Gd.It=>decide (0<x.bB)&&decide (x.bB=n)) c,List.map_cons,List.filter_cons_of_neg (by simp [h])]
   ·rw [List.filter_cons_of_neg (p:=fun x:Gd.It=>decide (0<x.bB)&&decide (x.bB=n)) c]
  ·have h1:gW x it=it:=by unfold gW;rw [if_neg h]
   rw [List.map_cons,h1]
   by_cases c:(decide (0<it.bB)&&decide (it.bB=n))=true
   ·rw [List.filter_cons_of_pos (p:=fun x:Gd.It=>decide (0<x.bB)&&decide (x.bB=n)) c,List.filter_cons_of_pos (p:=fun x:Gd.It=>decide (0<x.bB)&&decide (x.bB=n)) c,List.map_cons,List.map_cons,ih,List.filter_cons_of_pos (by simpa using Ne.symm h)]
   ·rw [List.filter_cons_of_neg (p:=fun x:Gd.It=>decide (0<x.bB)&&decide (x.bB=n)) c,List.filter_cons_of_neg (p:=fun x:Gd.It=>decide (0<x.bB)&&decide (x.bB=n)) c,ih]
theorem HV {a:Int} {l m:List Int} (hm:m.Nodup) (h:(a::l).Perm m):l.Perm (m.filter fun k=>decide (k≠a)):=by
 have hn:=h.nodup_iff.2 hm
 rw [List.nodup_cons] at hn
 have:=h.filter fun k=>decide (k≠a)
 rw [List.filter_cons_of_neg (by simp),List.filter_eq_self.2 fun k hk=>by
  have:k≠a:=fun e=>hn.1 (by rw [←e];exact hk)
  simpa using this] at this
 exact this
theorem IP {l l':List Pu.Ac} (h:l'.length=l.length) (n:Int):Pu.dn l' n=Pu.dn l n:=by unfold Pu.dn;rw [h]
theorem zK {lp lg n:Int} (hn:1≤n∧n<9223372036854775808):∀{gs:List Gf} {E:ck},EI lp lg E→(∀x∈gs,0≤x.coins∧Pu.dn E.P.rows x.to=0)→iM gs=bX E.l n→(kZ gs).Perm (Gd.dZ E.ae n)→
  (aW n gs E).1=0∧bX (aW n gs E).2.l n=0∧Gd.dZ (aW n gs E).2.ae n= []
 | [],E,hE,_,ht,hi=>⟨rfl,ht.symm,hi.symm.eq_nil⟩
 |x::t,E,hE,hx,ht,hi=>by
  have hx0:=hx x (.head _)
  have htot:0≤iM t:=by
   have:∀l:List Gf,(∀y∈l,0≤y.coins)→0≤iM l:=by
    intro l
    induction l with
    |nil=>intro _;exact Int.le_refl _
    |cons a r ih=>intro h;have h1:=h a (.head _);have h2:=ih fun y hy=>h y (.tail _ hy);simp only [iM];omega
   exact this t fun y hy=>(hx y (.tail _ hy)).1
  simp only [iM] at ht
  rw [BB] at hi
  have hg:Aq n x E:=⟨nk.2 hx0.2,fun h=>by
   rw [if_pos h] at hi
   obtain ⟨it,h1,h2,h3,h4⟩:=lC.1 (hi.mem_iff.1 (List.mem_append.2 (.inl (List.mem_singleton.2 rfl))))
   rw [←h2,DT hE.G h1]
   exact ⟨rfl,h4⟩,by omega⟩
  have he:=((jn n x E).resolve_right fun q=>q.1 hg).2
  have h0:(ct n x E).1=0:=by rw [he]
  have hE1:=rD (x:=x) hE hn hx0.1
  have hM:=om hE hn hx0.1 h0
  unfold aW
  rw [if_neg (by simp [h0])]
  refine zK hn hE1 (fun y hy=>⟨(hx y (.tail _ hy)).1,by rw [IP hM.len];exact (hx y (.tail _ hy)).2⟩) ?_ ?_
  ·rw [hM.bX];omega
  ·rw [hM.ae,ua]
   by_cases h:x.item=0
   ·rw [if_neg (by simp [h]),List.nil_append] at hi
    rw [List.filter_eq_self.2 fun k hk=>by
     obtain ⟨it,h1,h2,_⟩:=lC.1 hk
     have:=px hE.G h1
     simp;omega]
    exact hi
   ·rw [if_pos h] at hi
    exact HV (kH hE.G n) hi
theorem Mc {lp lg n:Int} (hn:1≤n∧n<9223372036854775808) {gs:List Gf} {E:ck} (hE:EI lp lg E) (hx:∀x∈gs,0≤x.coins∧Pu.dn E.P.rows x.to=0) (ht:iM gs=bX E.l n) (hi:(kZ gs).Perm (Gd.dZ E.ae n)):
  bb n gs (lX n) E=(0,(aW n gs E).2)∧bX (aW n gs E).2.l n=0∧Gd.dZ (aW n gs E).2.ae n= []:=by
 obtain ⟨h1,h2,h3⟩:=zK hn hE hx ht hi
 refine ⟨?_,h2,h3⟩
 unfold bb lX
 rw [if_neg (by omega),if_neg (by simp [h1]),h2,h3]
 simp
end Go.HL.St1
namespace Go.HL.St1
open Go.HL Go.HL.Tl Go.HL.Sr Go.HL.Es Go.Proofs
theorem KR {xs:List Int} {j:Nat} (h:j+1<xs.length) (k:Nat):(swp xs j).getD k 0=if k=j then xs.getD (j+1) 0 else if k=j+1 then xs.getD j 0 else xs.getD k 0:=by
 unfold swp
 simp only [List.getD_eq_getElem?_getD,List.getElem?_set,List.length_set]
 by_cases h1:j=k
 ·subst h1;rw [if_pos rfl,if_pos (by omega),if_pos rfl];simp
 ·rw [if_neg h1,if_neg (Ne.symm h1)]
  by_cases h2:j+1=k
  ·subst h2;rw [if_pos rfl,if_pos h,if_pos rfl];simp
  ·rw [if_neg h2,if_neg (Ne.symm h2)]
theorem qP (f:Int→Int) (lt:Int→Int→Bool) (hlt:∀x y,lt x y=decide (f x<f y)):∀(j:Nat) (xs:List Int) (m:Nat),j<m→m≤xs.length→(∀a b,a<b→b<m→b≠j→f (xs.getD a 0)≤f (xs.getD b 0))→
  ∀a b,a<b→b<m→f ((rh lt j xs).getD a 0)≤f ((rh lt j xs).getD b 0)
 |0,xs,m,_,_,h=>fun a b hab hb=>h a b hab hb (by omega)
 |j+1,xs,m,hj,hm,h=>by
  unfold rh
  rw [hlt]
  by_cases c:f (xs.getD (j+1) 0)<f (xs.getD j 0)
  ·rw [if_pos (decide_eq_true c)]
   refine qP f lt hlt j (swp xs j) m (by omega) (by rw [sG];exact hm) fun a b hab hb hne=> ?_
   rw [KR (by omega),KR (by omega)]
   have h1:=fun a b=>h a b
   by_cases e1:b=j+1
   ·rw [if_neg hne,if_pos e1]
    by_cases e2:a=j
    ·rw [if_pos e2];omega
    ·rw [if_neg e2,if_neg (by omega)];exact h a j (by omega) (by omega) (by omega)
   ·rw [if_neg hne,if_neg e1]
    by_cases e2:a=j
    ·rw [if_pos e2];exact h (j+1) b (by omega) hb e1
    ·rw [if_neg e2]
     by_cases e3:a=j+1
     ·rw [if_pos e3];exact h j b (by omega) hb e1
     ·rw [if_neg e3];exact h a b hab hb e1
  ·rw [if_neg (by rw [decide_eq_false c];exact Bool.false_ne_true)]
   intro a b hab hb
   by_cases e1:b=j+1
   ·subst e1
    by_cases e2:a=j
    ·subst e2;omega
    ·have:=h a j (by omega) (by omega) (by omega)
     omega
   ·exact h a b hab hb e1
theorem mw (f:Int→Int) (lt:Int→Int→Bool) (hlt:∀x y,lt x y=decide (f x<f y)) (xs:List Int):∀i,i≤xs.length→∀a b,a<b→b<i→f ((lY lt xs i).getD a 0)≤f ((lY lt xs i).getD b 0)
 |0,_,a,b,_,hb=>by omega
 |i+1,hi,a,b,hab,hb=>by
  unfold lY
  exact qP f lt hlt i _ (i+1) (by omega) (by rw [pj];exact hi) (fun a b hab hb hne=>mw f lt hlt xs i (by omega) a b hab (by omega)) a b hab hb
theorem IV {xs:List Int} {i j:Nat} (h:i≤j) (hj:j<xs.length):q8 xs i≤q8 xs j:=by
 rcases Nat.lt_or_ge i j with h|h
 ·exact mw (fun k=>xs.getD k.toNat 0) _ (fun _ _=>rfl) (sx xs.length) xs.length (by rw [gL];exact Nat.le_refl _) i j h hj
 ·obtain rfl:i=j:=by omega
  exact Int.le_refl _
theorem IW {ys:List Int} {i j:Nat} (h:i≤j) (hj:j<ys.length):pN ys j≤pN ys i:=by
 rcases Nat.lt_or_ge i j with h|h
 ·have:=mw (fun k=> -ys.getD k.toNat 0) (fun i j=>decide (ys.getD j.toNat 0<ys.getD i.toNat 0)) (fun x y=>by congr 1;exact propext ⟨fun _=>by omega,fun _=>by omega⟩) (sx ys.length) ys.length (by rw [gL];exact Nat.le_refl _) i j h hj
  have h2: -(pN ys i)≤ -(pN ys j):=this
  omega
 ·obtain rfl:i=j:=by omega
  exact Int.le_refl _
theorem A0 (p:Nat→Bool):∀f k,Fq p f k<k+f→p (Fq p f k)=false
 |0,k,h=>by simp [Fq] at h
 |f+1,k,h=>by
  unfold Fq at h⊢
  split
  ·rename_i hp;rw [if_pos hp] at h;exact A0 p f (k+1) (by omega)
  ·rename_i hp;simpa using hp
theorem Kg {xs ys:List Int} (h1:jG xs ys<xs.length) (h2:jG xs ys<ys.length):pN ys (jG xs ys)<q8 xs (jG xs ys):=by
 have:=A0 (HT xs ys) xs.length 0 (by unfold jG at h1;omega)
 have h3:HT xs ys (jG xs ys)=false:=this
 simp only [HT,decide_eq_false_iff_not] at h3
 omega
theorem Fy {l:List Int} {k:Nat} (h:k<l.length):l.getD k 0=l[k]:=by simp [List.getD,h]
theorem QP {xs ys:List Int} (hx:∀x∈xs,0≤x∧x<4611686018427387905) (hy:∀y∈ys,0≤y∧y<4611686018427387905) (hk:0<jG xs ys):q8 xs (jG xs ys -1)≤GX xs ys∧GX xs ys≤pN ys (jG xs ys -1):=by
 obtain ⟨k,ek⟩:∃k,jG xs ys=k+1:=⟨jG xs ys -1,by omega⟩
 obtain ⟨l1,l2⟩:=lK xs ys
 have hd:=(FX (xs:=xs) (ys:=ys) (i:=k) (by omega)).2.2
 have hA:∀i,i<xs.length→0≤q8 xs i∧q8 xs i<4611686018427387905:=fun i hi=>by
  have hr:(uZ xs).getD i 0∈uZ xs:=by
   have:i<(uZ xs).length:=by rw [dB];exact hi
   simp [List.getD,this]
  have hb:=dM hr
  have:q8 xs i=xs.getD ((uZ xs).getD i 0).toNat 0:=rfl
  rw [this]
  have h3:((uZ xs).getD i 0).toNat<xs.length:=by omega
  rw [Fy h3]
  exact hx _ (List.getElem_mem _)
 have hB:∀i,i<ys.length→0≤pN ys i∧pN ys i<4611686018427387905:=fun i hi=>by
  have hr:(xg ys).getD i 0∈xg ys:=by
   have:i<(xg ys).length:=by rw [dB];exact hi
   simp [List.getD,this]
  have hb:=dM hr
  have:pN ys i=ys.getD ((xg ys).getD i 0).toNat 0:=rfl
  rw [this]
  have h3:((xg ys).getD i 0).toNat<ys.length:=by omega
  rw [Fy h3]
  exact hy _ (List.getElem_mem _)
 have hlo:q8 xs k≤OS xs ys∧OS xs ys≤Mk xs ys∧Mk xs ys≤pN ys k∧0≤OS xs ys∧Mk xs ys<4611686018427387905:=by
  have a1:=hA k (by omega)
  have b1:=hB k (by omega)
  unfold OS Mk
  rw [ek,Nat.add_sub_cancel]
  by_cases c1:k+1<ys.length
  ·have b2:=hB (k+1) c1
   have b3:=IW (ys:=ys) (show k≤k+1 by omega) c1
   rw [if_pos c1]
   by_cases c2:k+1<xs.length
   ·have a2:=hA (k+1) c2
    have a3:=IV (xs:=xs) (show k≤k+1 by omega) c2
    have st:=Kg (xs:=xs) (ys:=ys) (by omega) (by omega)
    rw [ek] at st
    rw [if_pos c2]
    split<;>split<;>omega
   ·rw [if_neg c2]
    split<;>omega
  ·rw [if_neg c1]
   by_cases c2:k+1<xs.length
   ·have a2:=hA (k+1) c2
    have a3:=IV (xs:=xs) (show k≤k+1 by omega) c2
    rw [if_pos c2]
    split<;>omega
   ·rw [if_neg c2];omega
 unfold GX
 rw [if_neg (by omega),ek,Nat.add_sub_cancel]
 obtain ⟨lo,elo⟩:∃lo,OS xs ys=lo:=⟨_,rfl⟩
 obtain ⟨hi,ehi⟩:∃hi,Mk xs ys=hi:=⟨_,rfl⟩
 rw [elo,ehi] at hlo⊢
 have hw:∀z:Int,0≤z→z<18446744073709551616→IntKind.u64.wrap z=z:=fun z h1 h2=>by
  simp only [IntKind.wrap,IntKind.bits,IntKind.signed]
  simp
  omega
 unfold OW
 have e1:(hi -lo).tdiv 2=(hi -lo) /2:=Int.tdiv_eq_ediv_of_nonneg (by omega)
 rw [hw (hi -lo) (by omega) (by omega),e1,hw ((hi -lo) /2) (by omega) (by omega),hw (lo+(hi -lo) /2) (by omega) (by omega)]
 omega
end Go.HL.St1
namespace Go.HL.St1
open Go.HL Go.HL.Tl Go.HL.Sr Go.HL.Es Go.Proofs
def re:List PE→Int
 | []=>0
 |e::t=>e.coins+re t
def qk (es:List PE):List Int:=(es.map (·.item)).filter fun n=>decide (n≠0)
theorem Fi (a b:List PE):re (a++b)=re a+re b:=by
 induction a with
 |nil=>simp [re]
 |cons x t ih=>simp only [List.cons_append,re,ih];omega
theorem FM (a b:List PE):qk (a++b)=qk a++qk b:=by simp [qk]
theorem my (e:PE) (t:List PE):qk (e::t)=(if e.item≠0 then [e.item] else [])++qk t:=by
 unfold qk
 by_cases h:e.item=0
 ·simp [h]
 ·simp [h]
def vz (gs:List Gf) (es:List PE):Prop:=iM gs=re es∧(kZ gs).Perm (qk es)
theorem np (to:PE→Int) (e:PE):iM (qO to e)=e.coins∧kZ (qO to e)=if e.item≠0 then [e.item] else []:=by
 unfold qO
 by_cases h1:e.item=0<;>by_cases h2:e.coins=0<;>simp [h1,h2,iM,kZ]
theorem iV (to:PE→Int):∀es:List PE,iM (gl to es)=re es∧kZ (gl to es)=qk es
 | []=>⟨rfl,rfl⟩
 |e::t=>by
  obtain ⟨h1,h2⟩:=iV to t
  obtain ⟨h3,h4⟩:=np to e
  have h:gl to (e::t)=qO to e++gl to t:=by simp [gl]
  rw [h,eA,eL,h1,h2,h3,h4,my]
  exact ⟨rfl,rfl⟩
theorem qe (to:PE→Int) (es:List PE):vz (gl to es) es:=⟨(iV to es).1,.of_eq (iV to es).2⟩
def Fair (p:Int→Prop) (gs:List Gf):Prop:=∀x∈gs,0≤x.coins∧p x.to
theorem Fair.app {p:Int→Prop} {a b:List Gf} (h:Fair p a) (k:Fair p b):Fair p (a++b):=fun x hx=>(List.mem_append.1 hx).elim (h x) (k x)
theorem Bu {p:Int→Prop} {to:PE→Int} {e:PE} (hc:0≤e.coins) (hp:p (to e)):Fair p (qO to e):=by
 intro x hx
 unfold qO at hx
 rcases List.mem_append.1 hx with hx|hx
 ·split at hx
  ·simp at hx
  ·rw [List.mem_singleton.1 hx];exact ⟨Int.le_refl _,hp⟩
 ·split at hx
  ·simp at hx
  ·rw [List.mem_singleton.1 hx];exact ⟨hc,hp⟩
theorem mv {p:Int→Prop} {to:PE→Int} {es:List PE} (h:∀e∈es,0≤e.coins∧p (to e)):Fair p (gl to es):=by
 intro x hx
 obtain ⟨e,he,hx⟩:=List.mem_flatMap.1 hx
 exact Bu (h e he).1 (h e he).2 x hx
theorem dS (a n c:Int):iM (rE a n c)=c∧kZ (rE a n c)=if n≠0 then [n] else []:=by
 unfold rE
 by_cases h1:n=0<;>by_cases h2:c=0<;>simp [h1,h2,iM,kZ]
theorem mu {p:Int→Prop} {a n c:Int} (hc:0≤c) (hp:p a):Fair p (rE a n c):=by
 intro x hx
 unfold rE at hx
 rcases List.mem_append.1 hx with hx|hx
 ·split at hx
  ·simp at hx
  ·rw [List.mem_singleton.1 hx];exact ⟨Int.le_refl _,hp⟩
 ·split at hx
  ·simp at hx
  ·rw [List.mem_singleton.1 hx];exact ⟨hc,hp⟩
theorem we {f g:Nat→List Gf}:∀{n:Nat},(∀i,i<n→iM (f i)=iM (g i)∧kZ (f i)=kZ (g i))→iM ((List.range n).flatMap f)=iM ((List.range n).flatMap g)∧kZ ((List.range n).flatMap f)=kZ ((List.range n).flatMap g)
 |0,_=>⟨rfl,rfl⟩
 |n+1,h=>by
  obtain ⟨h1,h2⟩:=we (f:=f) (g:=g) (n:=n) fun i hi=>h i (by omega)
  obtain ⟨h3,h4⟩:=h n (by omega)
  simp only [List.range_succ,List.flatMap_append,List.flatMap_singleton,eA,eL,h1,h2,h3,h4]
  exact ⟨trivial,trivial⟩
theorem yc (es:List PE):(List.range es.length).map (en es)=es:=by
 apply List.ext_getElem
 ·simp
 ·intro i h1 h2
  simp only [List.getElem_map,List.getElem_range]
  exact dj h2
theorem Hq (to:PE→Int) (es:List PE):gl to es=(List.range es.length).flatMap fun i=>qO to (en es i):=by
 unfold gl
 conv=>lhs;rw [←yc es]
 rw [List.flatMap_map]
theorem vf (es:List PE) (b:Nat) (p:Int):iM (dH es b p es.length)=re es∧kZ (dH es b p es.length)=qk es:=by
 have h:=we (f:=gq es b p) (g:=fun i=>qO PE.acc (en es i)) (n:=es.length) fun i _=>by
  obtain ⟨g1,g2⟩:=np PE.acc (en es i)
  rw [g1,g2]
  unfold gq
  split
  ·rename_i h0
   subst h0
   rw [eA,eL,(dS _ _ _).1,(dS _ _ _).1,(dS _ _ _).2,(dS _ _ _).2]
   simp
  ·split
   ·rw [eA,eL,eA,eL,(dS _ _ _).1,(dS _ _ _).1,(dS _ _ _).1,(dS _ _ _).2,(dS _ _ _).2,(dS _ _ _).2]
    refine ⟨by omega,by simp⟩
   ·exact ⟨g1,g2⟩
 rw [←Hq] at h
 have k:=iV PE.acc es
 exact ⟨h.1.trans k.1,h.2.trans k.2⟩
theorem AA (c:PC):vz (jd c) c.es:=by
 unfold jd
 split
 ·exact qe _ _
 ·obtain ⟨h1,h2⟩:=vf c.es (dz c).1 (dz c).2
  exact ⟨h1,.of_eq h2⟩
theorem iB {es:List PE} {i:Nat} (h:i<es.length):en es i∈es:=by rw [dj h];exact List.getElem_mem h
theorem GR {c:PC} (hr:0≤c.res) (h:∀i,i<c.es.length→0≤(en c.es i).coins):0≤(dz c).2:=by
 unfold dz
 split
 ·show 0≤co c.es (c.es.length -1)
  rcases Nat.lt_or_ge (c.es.length -1) c.es.length with h1|h1
  ·exact h _ h1
  ·have:c.es= []:=List.eq_nil_of_length_eq_zero (by omega)
   rw [this];decide
 ·have:=uu c.res c.es (bM c.res c.es c.es.length) c.es.length
  show 0≤im _ _ _ _
  omega
theorem C8 {p:Int→Prop} {c:PC} (hr:0≤c.res) (h:∀e∈c.es,0≤e.coins∧p e.acc):Fair p (jd c):=by
 unfold jd
 split
 ·exact mv h
 ·rename_i hn
  have hl:1<c.es.length:=by omega
  have hb:=AE c (by omega)
  have hle:=AD c (by omega) (by omega)
  have hm:∀i,i<c.es.length→0≤(en c.es i).coins∧p (en c.es i).acc:=fun i hi=>h _ (iB hi)
  have hp:0≤(dz c).2:=GR hr fun i hi=>(hm i hi).1
  intro x hx
  obtain ⟨i,hi,hx⟩:=List.mem_flatMap.1 hx
  have hi:i<c.es.length:=by simpa using hi
  revert hx
  have hco:co c.es (dz c).1=(en c.es (dz c).1).coins:=rfl
  unfold gq
  split
  ·subst_vars
   exact ((mu (by omega) (hm _ hb).2).app (mu (hm _ hi).1 (hm _ hi).2)) x
  ·split
   ·subst_vars
    exact (((mu (by omega) (hm _ hi).2).app (mu hp (hm 0 (by omega)).2)).app (mu (by omega) (hm _ hi).2)) x
   ·exact Bu (hm _ hi).1 (hm _ hi).2 x
end Go.HL.St1
namespace Go.HL.St1
open Go.HL Go.HL.Tl Go.HL.Sr Go.HL.Es Go.Proofs
def Qt (e:PE):Prop:=(0<e.item∧e.coins=0∧0≤e.price∧e.price≤4611686018427387904)∨(e.item=0∧0<e.coins∧e.coins≤4611686018427387904)
theorem Lj {z:Int} (h1:0≤z) (h2:z<18446744073709551616):IntKind.u64.wrap z=z:=by
 simp only [IntKind.wrap,IntKind.bits,IntKind.signed]
 simp
 omega
theorem eZ (a c:Int) (h:0≤c):iM (cg a c)=c∧kZ (cg a c)= []:=by
 unfold cg
 split
 ·simp [iM,kZ]
 ·exact ⟨by simp [iM];omega,rfl⟩
theorem rr {p:Int→Prop} {a c:Int} (hp:p a):Fair p (cg a c):=by
 intro x hx
 unfold cg at hx
 split at hx
 ·rw [List.mem_singleton.1 hx];exact ⟨by show 0≤c;omega,hp⟩
 ·simp at hx
theorem mn {p q:Nat→Bool} {x:Nat} (hp:p x=true) (hq:∀k,q k=(p k&&decide (k≠x))):∀{l:List Nat},l.Nodup→x∈l→(l.filter p).Perm (x::l.filter q)
 | [],_,h=>by cases h
 |y::t,hn,h=>by
  rw [List.nodup_cons] at hn
  by_cases e:y=x
  ·subst e
   rw [List.filter_cons_of_pos hp,List.filter_cons_of_neg (by rw [hq];simp)]
   have:t.filter q=t.filter p:=List.filter_congr fun k hk=>by
    have hne:k≠y:=fun e=>hn.1 (by rw [←e];exact hk)
    rw [hq,decide_eq_true hne,Bool.and_true]
   rw [this]
  ·have hx:x∈t:=by rcases List.mem_cons.1 h with h|h;exact absurd h.symm e;exact h
   have ih:=mn hp hq hn.2 hx
   have hqy:q y=p y:=by rw [hq,decide_eq_true e,Bool.and_true]
   by_cases hy:p y=true
   ·rw [List.filter_cons_of_pos hy,List.filter_cons_of_pos (by rw [hqy];exact hy)]
    exact (ih.cons y).trans (.swap _ _ _)
   ·rw [List.filter_cons_of_neg hy,List.filter_cons_of_neg (by rw [hqy];exact hy)]
    exact ih
def hya (l:List Int):Int:=l.sum
theorem cK {l:List Int} {j:Nat} (h:j<l.length):l.getD j 0∈l:=by simp [List.getD,h]
theorem getD_inj {l:List Int} (hn:l.Nodup) {i j:Nat} (hi:i<l.length) (hj:j<l.length) (e:l.getD i 0=l.getD j 0):i=j:=by
 simp only [List.getD_eq_getElem?_getD,List.getElem?_eq_getElem hi,List.getElem?_eq_getElem hj,Option.getD_some] at e
 exact (List.getElem_inj hn).1 e
theorem qv (n:Nat):(sx n).Nodup:=by
 unfold sx
 rw [List.nodup_iff_pairwise_ne,List.pairwise_map]
 exact List.nodup_range.imp fun h e=>h (Int.ofNat.inj e)
theorem uA (R:Int→Int→Bool) (xs:List Int):(zS R xs).Nodup:=(qB R xs).nodup_iff.2 (qv _)
section
variable {es:List PE}
theorem Ag {x:Int} (h:x∈wA es es.length):∃i:Nat,x=i∧i<es.length∧(en es i).item≠0:=by
 have h1:=Qo h
 have h2:=(List.mem_filter.1 h).2
 exact ⟨x.toNat,by omega,by omega,by simpa using h2⟩
theorem uU {x:Int} (h:x∈wB es es.length):∃i:Nat,x=i∧i<es.length∧(en es i).item=0:=by
 have h1:=Qp h
 have h2:=(List.mem_filter.1 h).2
 exact ⟨x.toNat,by omega,by omega,by simpa using h2⟩
theorem Ld (n:Nat):(wA es n).Nodup:=(qv n).filter _
theorem Lf (n:Nat):(wB es n).Nodup:=(qv n).filter _
theorem Dt {j:Nat} (h:j<jE es):j<(uZ (pA es es.length)).length∧lf (vS es) j=((uZ (pA es es.length)).getD j 0).toNat∧lf (vS es) j<(wA es es.length).length:=by
 have h1:=(lK (pA es es.length) (cB es es.length)).1
 have hl:j<(uZ (pA es es.length)).length:=by rw [dB];unfold jE at h;omega
 have e:(vS es).getD j 0=(uZ (pA es es.length)).getD j 0:=by
  unfold vS
  simp only [List.getD_eq_getElem?_getD,List.getElem?_take]
  exact congrArg (fun x=>Option.getD x 0) (if_pos h)
 have hb:=dM (cK hl)
 exact ⟨hl,by unfold lf;rw [e],(I6 h).2.1⟩
theorem xV {j:Nat} (h:j<jE es):j<(xg (cB es es.length)).length∧lf (vh es) j=((xg (cB es es.length)).getD j 0).toNat∧lf (vh es) j<(wB es es.length).length:=by
 have h1:=(lK (pA es es.length) (cB es es.length)).2
 have hl:j<(xg (cB es es.length)).length:=by rw [dB];unfold jE at h;omega
 have e:(vh es).getD j 0=(xg (cB es es.length)).getD j 0:=by
  unfold vh
  simp only [List.getD_eq_getElem?_getD,List.getElem?_take]
  exact congrArg (fun x=>Option.getD x 0) (if_pos h)
 have hb:=dM (cK hl)
 exact ⟨hl,by unfold lf;rw [e],(I7 h).2.1⟩
theorem sY {j:Nat} (h:j<jE es):mh es j<es.length∧(en es (mh es j)).item≠0:=by
 obtain ⟨_,_,h3⟩:=Dt h
 obtain ⟨i,e,h1,h2⟩:=Ag (cK h3)
 have:mh es j=i:=by unfold mh lf;unfold lf at e;rw [e];rfl
 rw [this];exact ⟨h1,h2⟩
theorem oc {j:Nat} (h:j<jE es):jW es j<es.length∧(en es (jW es j)).item=0:=by
 obtain ⟨_,_,h3⟩:=xV h
 obtain ⟨i,e,h1,h2⟩:=uU (cK h3)
 have:jW es j=i:=by unfold jW lf;unfold lf at e;rw [e];rfl
 rw [this];exact ⟨h1,h2⟩
theorem LR {i j:Nat} (hi:i<jE es) (hj:j<jE es) (e:mh es i=mh es j):i=j:=by
 obtain ⟨a1,a2,a3⟩:=Dt hi
 obtain ⟨b1,b2,b3⟩:=Dt hj
 obtain ⟨x,ex,_⟩:=Ag (cK a3)
 obtain ⟨y,ey,_⟩:=Ag (cK b3)
 have h1:mh es i=x:=by unfold mh;rw [lf,ex];rfl
 have h2:mh es j=y:=by unfold mh;rw [lf,ey];rfl
 have h3:=getD_inj (Ld _) a3 b3 (by rw [ex,ey];omega)
 rw [a2,b2] at h3
 have r1:=dM (cK a1)
 have r2:=dM (cK b1)
 exact getD_inj (l:=uZ (pA es es.length)) (uA _ _) a1 b1 ((Int.toNat_of_nonneg r1.1).symm.trans ((congrArg (fun n:Nat=>(n:Int)) h3).trans (Int.toNat_of_nonneg r2.1)))
theorem LS {i j:Nat} (hi:i<jE es) (hj:j<jE es) (e:jW es i=jW es j):i=j:=by
 obtain ⟨a1,a2,a3⟩:=xV hi
 obtain ⟨b1,b2,b3⟩:=xV hj
 obtain ⟨x,ex,_⟩:=uU (cK a3)
 obtain ⟨y,ey,_⟩:=uU (cK b3)
 have h1:jW es i=x:=by unfold jW;rw [lf,ex];rfl
 have h2:jW es j=y:=by unfold jW;rw [lf,ey];rfl
 have h3:=getD_inj (Lf _) a3 b3 (by rw [ex,ey];omega)
 rw [a2,b2] at h3
 have r1:=dM (cK a1)
 have r2:=dM (cK b1)
 exact getD_inj (l:=xg (cB es es.length)) (uA _ _) a1 b1 ((Int.toNat_of_nonneg r1.1).symm.trans ((congrArg (fun n:Nat=>(n:Int)) h3).trans (Int.toNat_of_nonneg r2.1)))
theorem Dq:∀{j:Nat},j≤jE es→∀i,i<es.length→((km es j).getD i false=true↔∃k,k<j∧(mh es k=i∨jW es k=i))
 |0,_,i,hi=>by simp [km,List.getD,hi]
 |j+1,hj,i,hi=>by
  have ih:=Dq (j:=j) (by omega) i hi
  have e:(km es (j+1)).getD i false=if jW es j=i then true else if mh es j=i then true else (km es j).getD i false:=by
   show (((km es j).set (mh es j) true).set (jW es j) true).getD i false=_
   simp only [List.getD_eq_getElem?_getD,List.getElem?_set,List.length_set,oN]
   split
   ·simp [hi, *]
   ·split
    ·simp [hi, *]
    ·rfl
  rw [e]
  by_cases h1:jW es j=i
  ·rw [if_pos h1]
   exact ⟨fun _=>⟨j,by omega,.inr h1⟩,fun _=>rfl⟩
  ·rw [if_neg h1]
   by_cases h2:mh es j=i
   ·rw [if_pos h2]
    exact ⟨fun _=>⟨j,by omega,.inl h2⟩,fun _=>rfl⟩
   ·rw [if_neg h2,ih]
    constructor
    ·rintro ⟨k,hk,h⟩;exact ⟨k,by omega,h⟩
    ·rintro ⟨k,hk,h⟩
     by_cases e:k=j
     ·subst e;rcases h with h|h
      ·exact absurd h h2
      ·exact absurd h h1
     ·exact ⟨k,by omega,h⟩
def EP (es:List PE) (j:Nat):List Nat:=(List.range es.length).filter fun i=>decide ((en es i).item≠0)&& !(km es j).getD i false
def ER (es:List PE) (j:Nat):List Nat:=(List.range es.length).filter fun i=>decide ((en es i).item=0)&& !(km es j).getD i false
theorem AM {j:Nat} (i:Nat) (hi:i<es.length):(km es (j+1)).getD i false=(decide (jW es j=i)||decide (mh es j=i)||(km es j).getD i false):=by
 show (((km es j).set (mh es j) true).set (jW es j) true).getD i false=_
 simp only [List.getD_eq_getElem?_getD,List.getElem?_set,List.length_set,oN]
 by_cases h1:jW es j=i
 ·simp [hi,h1]
 ·by_cases h2:mh es j=i
  ·simp [hi,h1,h2]
  ·simp [h1,h2]
theorem Ii {j:Nat} (h:j<jE es):(EP es j).Perm (mh es j::EP es (j+1)):=by
 obtain ⟨h1,h2⟩:=sY h
 have hno:(km es j).getD (mh es j) false=false:=by
  cases hc:(km es j).getD (mh es j) false with
  |false=>rfl
  |true=>
   obtain ⟨k,hk,hx|hy⟩:=(Dq (Nat.le_of_lt h) _ h1).1 hc
   ·have:=LR (by omega) h hx;omega
   ·have:=(oc (es:=es) (j:=k) (by omega)).2;rw [hy] at this;exact absurd this h2
 unfold EP
 refine (mn (x:=mh es j) (by rw [hno,decide_eq_true h2];rfl) (q:=fun i=>(decide ((en es i).item≠0)&& !(km es j).getD i false)&&decide (i≠mh es j)) (fun _=>rfl) List.nodup_range (by simpa using h1)).trans (.of_eq ?_)
 congr 1
 refine List.filter_congr fun i hi=> ?_
 have hi:i<es.length:=by simpa using hi
 rw [AM i hi]
 by_cases hit:(en es i).item≠0
 ·have hy:¬jW es j=i:=fun e=>hit (e▸(oc h).2)
  rw [decide_eq_true hit,decide_eq_false hy]
  by_cases e:mh es j=i
  ·simp [e]
  ·simp [e,Ne.symm e]
 ·rw [decide_eq_false hit];simp
theorem Ij {j:Nat} (h:j<jE es):(ER es j).Perm (jW es j::ER es (j+1)):=by
 obtain ⟨h1,h2⟩:=oc h
 have hno:(km es j).getD (jW es j) false=false:=by
  cases hc:(km es j).getD (jW es j) false with
  |false=>rfl
  |true=>
   obtain ⟨k,hk,hx|hy⟩:=(Dq (Nat.le_of_lt h) _ h1).1 hc
   ·have:=(sY (es:=es) (j:=k) (by omega)).2;rw [hx] at this;exact absurd h2 this
   ·have:=LS (by omega) h hy;omega
 unfold ER
 refine (mn (x:=jW es j) (by rw [hno,decide_eq_true h2];rfl) (q:=fun i=>(decide ((en es i).item=0)&& !(km es j).getD i false)&&decide (i≠jW es j)) (fun _=>rfl) List.nodup_range (by simpa using h1)).trans (.of_eq ?_)
 congr 1
 refine List.filter_congr fun i hi=> ?_
 have hi:i<es.length:=by simpa using hi
 rw [AM i hi]
 by_cases hit:(en es i).item=0
 ·have hx:¬mh es j=i:=fun e=>(sY h).2 (e▸hit)
  rw [decide_eq_true hit,decide_eq_false hx]
  by_cases e:jW es j=i
  ·simp [e]
  ·simp [e,Ne.symm e]
 ·rw [decide_eq_false hit];simp
theorem Kl {l m:List Int} (h:l.Perm m):l.sum=m.sum:=by
 induction h with
 |nil=>rfl
 |cons x _ ih=>simp [ih]
 |swap x y l=>simp;omega
 |trans _ _ h1 h2=>exact h1.trans h2
theorem Gu:∀{j:Nat},j≤jE es→((List.range j).map fun k=>(en es (jW es k)).coins).sum+((ER es j).map fun i=>(en es i).coins).sum=((ER es 0).map fun i=>(en es i).coins).sum
 |0,_=>by simp
 |j+1,h=>by
  have ih:=Gu (j:=j) (by omega)
  have hp:=Kl ((Ij (es:=es) (j:=j) (by omega)).map fun i=>(en es i).coins)
  rw [List.map_cons,List.sum_cons] at hp
  rw [List.range_succ,List.map_append,List.sum_append]
  simp only [List.map_cons,List.map_nil,List.sum_cons,List.sum_nil]
  omega
theorem xC:∀{j:Nat},j≤jE es→(((List.range j).map fun k=>(en es (mh es k)).item)++(EP es j).map fun i=>(en es i).item).Perm ((EP es 0).map fun i=>(en es i).item)
 |0,_=>by simp
 |j+1,h=>by
  have ih:=xC (j:=j) (by omega)
  have hp:=(Ii (es:=es) (j:=j) (by omega)).map fun i=>(en es i).item
  refine .trans ?_ ih
  rw [List.range_succ,List.map_append,List.append_assoc]
  refine .append_left _ ?_
  exact hp.symm
end
theorem pb {f:Nat→List Gf} {p:Nat→Bool} {c:Nat→Int}:∀{n:Nat},(∀i,i<n→iM (f i)=if p i=true then c i else 0)→iM ((List.range n).flatMap f)=(((List.range n).filter p).map c).sum
 |0,_=>rfl
 |n+1,h=>by
  have ih:=pb (f:=f) (p:=p) (c:=c) (n:=n) fun i hi=>h i (by omega)
  have hn:=h n (by omega)
  rw [List.range_succ,List.flatMap_append,eA,ih,List.filter_append,List.map_append,List.sum_append,List.flatMap_singleton,hn]
  split
  ·rw [List.filter_cons_of_pos ‹_›];simp
  ·rw [List.filter_cons_of_neg ‹_›];simp
theorem rC {f:Nat→List Gf} {p:Nat→Bool} {c:Nat→Int}:∀{n:Nat},(∀i,i<n→kZ (f i)=if p i=true then [c i] else [])→kZ ((List.range n).flatMap f)=((List.range n).filter p).map c
 |0,_=>rfl
 |n+1,h=>by
  have ih:=rC (f:=f) (p:=p) (c:=c) (n:=n) fun i hi=>h i (by omega)
  have hn:=h n (by omega)
  rw [List.range_succ,List.flatMap_append,eL,ih,List.filter_append,List.map_append,List.flatMap_singleton,hn]
  split
  ·rw [List.filter_cons_of_pos ‹_›];simp
  ·rw [List.filter_cons_of_neg ‹_›];simp
theorem filter_all (n:Nat):(List.range n).filter (fun _=>true)=List.range n:=List.filter_eq_self.2 fun _ _=>rfl
theorem vT (es:List PE):re es=((List.range es.length).map fun i=>(en es i).coins).sum:=by
 have:∀l:List PE,re l=(l.map (·.coins)).sum:=by
  intro l
  induction l with
  |nil=>rfl
  |cons e t ih=>simp [re,ih]
 rw [this]
 conv=>lhs;rw [←yc es]
 rw [List.map_map]
 rfl
theorem Hu (es:List PE):qk es=((List.range es.length).filter fun i=>decide ((en es i).item≠0)).map fun i=>(en es i).item:=by
 unfold qk
 conv=>lhs;rw [←yc es]
 rw [List.map_map,List.filter_map]
 rfl
theorem uJ {p:Nat→Bool} {c:Nat→Int}:∀{l:List Nat},(∀i∈l,p i=false→c i=0)→((l.filter p).map c).sum=(l.map c).sum
 | [],_=>rfl
 |a::t,h=>by
  have ih:=uJ (p:=p) (c:=c) (l:=t) fun i hi=>h i (.tail _ hi)
  cases hp:p a with
  |true=>rw [List.filter_cons_of_pos hp];simp [ih]
  |false=>rw [List.filter_cons_of_neg (by simp [hp]),ih];simp [h a (.head _) hp]
theorem QN {es:List PE} (h:∀e∈es,Qt e):(∀x∈pA es es.length,0≤x∧x<4611686018427387905)∧∀y∈cB es es.length,0≤y∧y<4611686018427387905:=by
 constructor
 ·intro x hx
  obtain ⟨k,hk,rfl⟩:=List.mem_map.1 hx
  obtain ⟨i,rfl,hi,hn⟩:=Ag hk
  rcases h _ (iB hi) with c|c
  ·simp only [Int.toNat_natCast];omega
  ·exact absurd c.1 hn
 ·intro x hx
  obtain ⟨k,hk,rfl⟩:=List.mem_map.1 hx
  obtain ⟨i,rfl,hi,hn⟩:=uU hk
  rcases h _ (iB hi) with c|c
  ·omega
  ·simp only [Int.toNat_natCast];omega
theorem GV {es:List PE} {j:Nat} (h:j<jE es):(en es (jW es j)).coins=pN (cB es es.length) j:=by
 obtain ⟨h1,h2,h3⟩:=xV h
 obtain ⟨i,e,hi,_⟩:=uU (cK h3)
 have e1:jW es j=i:=by unfold jW;rw [lf,e];rfl
 have e2:pN (cB es es.length) j=(cB es es.length).getD (lf (vh es) j) 0:=by rw [h2];rfl
 rw [e1,e2]
 unfold cB
 simp only [List.getD_eq_getElem?_getD,List.getElem?_map]
 rw [List.getElem?_eq_getElem h3]
 simp only [List.getD_eq_getElem?_getD,List.getElem?_eq_getElem h3,Option.getD_some] at e
 simp [e]
theorem I5 {es:List PE} (h:∀e∈es,Qt e) {j:Nat} (hj:j<jE es):0≤LP es∧LP es≤(en es (jW es j)).coins:=by
 obtain ⟨b1,b2⟩:=QN h
 have hk:0<jG (pA es es.length) (cB es es.length):=by unfold jE at hj;omega
 obtain ⟨p1,p2⟩:=QP b1 b2 hk
 have hl:=lK (pA es es.length) (cB es es.length)
 rw [GV hj]
 have hB:=IW (ys:=cB es es.length) (i:=j) (j:=jG (pA es es.length) (cB es es.length) -1) (by unfold jE at hj;omega) (by omega)
 have hA:0≤q8 (pA es es.length) (jG (pA es es.length) (cB es es.length) -1):=by
  have h0:=cK (l:=uZ (pA es es.length)) (j:=jG (pA es es.length) (cB es es.length) -1) (by rw [dB];omega)
  have h1:=dM h0
  have:=(b1 _ (cK (l:=pA es es.length) (j:=((uZ (pA es es.length)).getD (jG (pA es es.length) (cB es es.length) -1) 0).toNat) (by omega))).1
  exact this
 unfold LP
 omega
theorem AN {es:List PE} (h:∀e∈es,Qt e):vz (qJ es) es:=by
 have hm:∀i,i<es.length→Qt (en es i):=fun i hi=>h _ (iB hi)
 have g1:∀j,j<jE es→iM (I4 es j)=if true=true then (en es (jW es j)).coins else 0:=fun j hj=>by
  obtain ⟨p1,p2⟩:=I5 h hj
  have hy:=hm _ (oc hj).1
  have hc:(en es (jW es j)).coins<18446744073709551616:=by rcases hy with c|c<;>omega
  unfold I4
  rw [Lj (by omega) (by omega),eA,eA,(eZ _ _ p1).1,(eZ _ _ (by omega)).1]
  simp only [iM,if_true]
  omega
 have g2:∀j,j<jE es→kZ (I4 es j)=if true=true then [(en es (mh es j)).item] else []:=fun j hj=>by
  obtain ⟨p1,p2⟩:=I5 h hj
  have hy:=hm _ (oc hj).1
  have hc:(en es (jW es j)).coins<18446744073709551616:=by rcases hy with c|c<;>omega
  unfold I4
  rw [Lj (by omega) (by omega),eL,eL,(eZ _ _ p1).2,(eZ _ _ (by omega)).2]
  simp [kZ,(sY hj).2]
 have k1:∀i,i<es.length→iM (Ir es (km es (jE es)) i)=if (decide ((en es i).item=0)&& !(km es (jE es)).getD i false)=true then (en es i).coins else 0:=fun i hi=>by
  unfold Ir
  rcases hm i hi with c|c
  ·have c0:¬(en es i).item=0:=by omega
   rw [eA,if_pos (show (en es i).item≠0∨_ from .inl c0),(eZ _ _ (by omega)).1,c.2.1]
   split<;>simp [iM,c0]
  ·cases hd:(km es (jE es)).getD i false with
   |true=>simp [c.1,iM]
   |false=>simp only [c.1];rw [eA];simp [iM,(eZ (en es i).acc (en es i).coins (by omega)).1]
 have k2:∀i,i<es.length→kZ (Ir es (km es (jE es)) i)=if (decide ((en es i).item≠0)&& !(km es (jE es)).getD i false)=true then [(en es i).item] else []:=fun i hi=>by
  unfold Ir
  rcases hm i hi with c|c
  ·have c0:¬(en es i).item=0:=by omega
   rw [eL,if_pos (show (en es i).item≠0∨_ from .inl c0),(eZ _ _ (by omega)).2]
   cases hd:(km es (jE es)).getD i false<;>simp [kZ,c0]
  ·cases hd:(km es (jE es)).getD i false with
   |true=>simp [c.1,kZ]
   |false=>simp only [c.1];rw [eL];simp [(eZ (en es i).acc (en es i).coins (by omega)).2];simp [kZ]
 have u0:ER es 0=(List.range es.length).filter fun i=>decide ((en es i).item=0):=by
  unfold ER
  refine List.filter_congr fun i hi=> ?_
  have hi:i<es.length:=by simpa using hi
  simp [km,List.getD,hi]
 have v0:EP es 0=(List.range es.length).filter fun i=>decide ((en es i).item≠0):=by
  unfold EP
  refine List.filter_congr fun i hi=> ?_
  have hi:i<es.length:=by simpa using hi
  simp [km,List.getD,hi]
 unfold vz qJ
 rw [eA,eL]
 constructor
 ·have e1:=pb (p:=fun _=>true) g1
  have e2:=pb k1
  have e3:=Gu (es:=es) (Nat.le_refl (jE es))
  rw [filter_all] at e1
  show iM ((List.range _).flatMap _)+iM ((List.range _).flatMap _)=_
  rw [e1,e2]
  refine Eq.trans e3 ?_
  rw [u0,vT]
  exact uJ fun i hi hp=>by
   have hi:i<es.length:=by simpa using hi
   rcases hm i hi with c|c
   ·exact c.2.1
   ·simp [c.1] at hp
 ·have e1:=rC (p:=fun _=>true) g2
  have e2:=rC k2
  have e3:=xC (es:=es) (Nat.le_refl (jE es))
  rw [filter_all] at e1
  show ((kZ ((List.range _).flatMap _))++kZ ((List.range _).flatMap _)).Perm _
  rw [e1,e2]
  refine e3.trans (.of_eq ?_)
  rw [v0,Hu]
theorem Dr {p:Int→Prop} {es:List PE} (h:∀e∈es,p e.acc):Fair p (qJ es):=by
 unfold qJ
 refine .app (fun x hx=> ?_) fun x hx=> ?_
 ·obtain ⟨j,hj,hx⟩:=List.mem_flatMap.1 hx
  have hj:j<jE es:=by simpa using hj
  unfold I4 at hx
  rcases List.mem_append.1 hx with hx|hx
  ·rcases List.mem_append.1 hx with hx|hx
   ·rw [List.mem_singleton.1 hx];exact ⟨Int.le_refl _,h _ (iB (oc hj).1)⟩
   ·exact rr (h _ (iB (sY hj).1)) x hx
  ·exact rr (h _ (iB (oc hj).1)) x hx
 ·obtain ⟨i,hi,hx⟩:=List.mem_flatMap.1 hx
  have hi:i<es.length:=by simpa using hi
  unfold Ir at hx
  rcases List.mem_append.1 hx with hx|hx
  ·split at hx
   ·rw [List.mem_singleton.1 hx];exact ⟨Int.le_refl _,h _ (iB hi)⟩
   ·simp at hx
  ·split at hx
   ·exact rr (h _ (iB hi)) x hx
   ·simp at hx
end Go.HL.St1
namespace Go.HL.St1
open Go.HL Go.HL.Tl Go.HL.Sr Go.HL.Es Go.Proofs
attribute [local irreducible] aE
def bca:Nat→PO
 |0=> .chkp
 |1=>(.fld 17)
 |2=>(.ext 0)
 |3=>(.ext 1)
 |4=>(.un .not)
 |5=>(.build #[(.int .i64 0),(.int .i64 0),(.slice none 0 0)] [(0,1),(1,1),(2,1)] [])
 |6=>(.fld 2)
 |7=>(.bin .neq)
 |8=>(.fld 10)
 |9=>(.mkf (.func 139) 0)
 |_=> .same
def Za:Nat→EO
 |0=>(.new 46 (.agg #[(.int .i64 0),(.int .i64 0),(.slice none 0 0)]))
 |1=>(.ld false 1)
 |2=>(.look 106 true)
 |3=>(.new 37 (.agg #[(.int .i64 0),(.int .i64 0),(.int .i64 0),(.int .i64 0),(.int .i64 0),(.int .i64 0),(.int .u64 0),(.int .u64 0),(.int .u64 0),(.int .i64 0),(.slice none 0 0)]))
 |4=>(.st 11)
 |5=>(.st 3)
 |6=>(.call 62)
 |7=>(.ld true 11)
 |8=>(.call 135)
 |9=>(.call 138)
 |10=>(.call 140)
 |11=>(.call 137)
 |_=> .ak
def dma:Nat→Value
 |0=>(.int .i64 0)
 |1=>(.int .i64 231)
 |2=>(.int .i64 142)
 |3=>(.int .i64 235)
 |4=>(.int .i64 233)
 |5=>(.int .i64 236)
 |_=>undef
def cda:cE:=⟨bca,Za,dma⟩
def l68:ag:=⟨[0,1,2,6,7,8,9],53,[.cell 3 true 3,.slot 4],aM cda [] 0x2cb2cb2f0678a289c7226996155134420c45144d55134420900c55134420d44d10825145134414014002c15134402815134051eda28a28a2f02cbc19dc89a6584851145135531500c54c57227226d10585144d55134052414402415134052415135544d0148041513405201b2f0677226996121045144d54c540315316289b4416145134404002015134051ecbc19dc89a6584831145135531500c54c572271b5545134404021d85144d10100875135544d01460544d0146b2f0677226996120845144d54c540315316271b5544d10046144d10045144d0090006b2f0677226996120445144d54c540315315c6d55134061185134061009dc72289c72289a6596155134410c64421545135544d10424421130d44d10435134410945134014400944d55135544d00000415135544d00000544d00009e26996584801110034c0⟩
theorem TS:ah S1 68 400=some l68:=by kernel_rfl
structure CW (c:PC):Prop where
 kind:nM c.kind
 len:c.es.length≤16
 ok:∀e∈c.es,e.ok
 res:0≤c.res
 num:1≤c.num∧c.num<9223372036854775808
 meet:c.kind=4→(∀e∈c.es,1≤e.item)∧(c.es.map (·.item)).Nodup
 sum:re c.es<18446744073709551616
 call:c.kind=5→∀e∈c.es,Qt e
structure SW (S:ST):Prop where
 E:EI S.x.acc S.x.ae S.E
 clock:0≤S.clock∧S.clock≤1099511627776
 last:0≤S.last∧S.last<9223372036854775808
 each:∀c∈S.cs,CW c
 few:S.cs.length≤64
 top:∀c∈S.cs,c.num≤S.last
theorem SW.ae {S:ST} (h:SW S):S.E.ae.length≤1048576:=by
 have h1:=h.E.G.len
 have h2:=h.E.G.lim
 omega
theorem py {w0:World} {es:List En} {k:Nat} {xs:List OC} {cs:List PC} (hO:OM es k xs cs) {x:OC} (hx:x∈xs):∃R,(∀A:aj,A*bu fo xs=A*R*fo x)∧∀A w,St w0 (A*R*fo x) w→CV w0 (A*R*fo x) x.v (x.l.map (·.2)) x.c.es:=by
 obtain ⟨i,hi,rfl⟩:=List.getElem_of_mem hx
 obtain ⟨R,hR⟩:=Ly fo xs i hi
 refine ⟨R,fun A=>by rw [hR,←ao],fun A w s=> ?_⟩
 have:=yd (A:=A*R) s
 rw [hO.own _ hx] at this
 exact this
theorem nq {to:PE→Int} {es:List PE} (h:∀e∈es,e.ok):∀x∈gl to es,0≤x.coins∧x.coins<18446744073709551616:=by
 intro x hx
 obtain ⟨e,he,hx⟩:=List.mem_flatMap.1 hx
 have:=(h e he).coins
 unfold qO at hx
 rcases List.mem_append.1 hx with hx|hx
 ·split at hx
  ·simp at hx
  ·rw [List.mem_singleton.1 hx];exact ⟨Int.le_refl _,by show (0:Int)<18446744073709551616;omega⟩
 ·split at hx
  ·simp at hx
  ·rw [List.mem_singleton.1 hx];exact this
theorem dP {w0 w:World} {B:aj} {b:Nat} {d:DN} {v:Value} (s:St w0 (B*bZ b d v) w):∀j u,(dk d v)[j]?=some u→w.cell? ⟨b,0+j,none⟩=some u:=fun j u hu=>by simpa using s.af j u hu
theorem ji (d:DN) (v:Value) (h:v.oneCell'=true):∀u∈dk d v,u.oneCell'=true:=by
 intro u hu
 simp only [dk,List.mem_cons,List.not_mem_nil,or_false] at hu
 rcases hu with rfl|rfl|rfl
 ·rfl
 ·rfl
 ·exact h
theorem AP (q:Nat) (S:ST) (n a:Int) (p g e m:Nat) (w0 w:World) (A:aj) (hS:SW S) (s:St w0 (A*bL q S p g e m) w):
  ai Tryz.prog 68 [.pointer (some ⟨q,0,none⟩),.int .i64 n,.int .i64 a] (fO w0 A q p g e m (dI S n a)) w:=by
 obtain ⟨es,k,xs,hO,s⟩:=eO (show St w0 (A*bT q S p g e m*omap m S.cs) w from s.ak)
 refine go TS ?_
 refine fm fun d w s=> ?_
 have s:St w0 (A*bT q S p g e m*aw m es k*bu fo xs*bZ d .zero (.slice none 0 0)) w:=s
 refine aX ?_
 refine gu vn (s.at m).look ?_
 rcases hO.get n with ⟨h1,h2⟩|⟨x,hx,h1,h2,h3,h4⟩
 ·rw [h2]
  simp
  refine fm fun d2 w s=> ?_
  refine aL (cs':=(PC.zero.cs (.slice none 0 0)).toArray) (h1:=eF _ _ rfl) fun w s=> ?_
  refine aL (cs':=(dk .zero (.slice none 0 0)).toArray) fun w s=> ?_
  have s:St w0 (A*bT q S p g e m*aw m es k*bu fo xs*bZ d .zero (.slice none 0 0)) w:=(show St w0 (_*bZ d .zero (.slice none 0 0)) w from s).ak
  refine ar (vs:=dk .zero (.slice none 0 0)) rfl (dP s) rfl ?_
  simp
  have e0:dI S n a=(.zero,231,S):=by unfold dI;rw [h1]
  rw [e0]
  exact fO.no (bQ hO s.drop).ak
 rw [h3]
 simp [OC.val]
 obtain ⟨R,hR,hcv⟩:=py hO hx
 have hCW:=hS.each x.c (fJ h2).1
 obtain ⟨lv,hlv⟩:∃lv,x.l.map (·.2)=lv:=⟨_,rfl⟩
 rw [hlv] at hcv
 obtain ⟨D,hD⟩:∃D,A*aw m es k*R*fo x=D:=⟨_,rfl⟩
 have hcv:∀w,St w0 D w→CV w0 D x.v lv x.c.es:=fun w s=>by
  have:=hcv (A*aw m es k) w (by rw [hD];exact s)
  rw [hD] at this
  exact this
 have s:St w0 (D*bT q S p g e m*bZ d .zero (.slice none 0 0)) w:=by
  rw [←hD]
  exact s.to (by rw [show A*bT q S p g e m*aw m es k*bu fo xs=A*aw m es k*bu fo xs*bT q S p g e m by ac_rfl,hR])
 have back:∀Z w,St w0 (D*bT q S p g e m*Z) w→St w0 (A*bL q S p g e m*Z) w:=fun Z w s=>by
  rw [←hD,←hR] at s
  have:=bQ (A:=A*bT q S p g e m*Z) hO (s.to (by ac_rfl))
  exact this.to (by simp only [bL];ac_rfl)
 have fin:∀(no:Int) (w:World),dI S n a=(.zero,no,S)→St w0 (D*bT q S p g e m) w→fO w0 A q p g e m (dI S n a) (.tuple #[.agg (dk .zero (.slice none 0 0)).toArray,.int .i64 no]) w:=fun no w h s=>by rw [h];exact fO.no ((back emp w (s.to (al _).symm)).to (al _))
 have hcv:=hcv w s.ak
 clear hR
 have hone:x.v.oneCell'=true:=by obtain ⟨_,_,e⟩:=hcv.row.val;rw [e];rfl
 refine fm fun d2 w s=> ?_
 refine aL (cs':=(x.c.cs x.v).toArray) (h1:=eF _ _ hone) fun w s=> ?_
 have e0:dI S n a=if¬dU S a then (.zero,142,S) else if a≠x.c.by' then (.zero,235,S) else if x.c.dead≤S.clock then (.zero,233,S) else if isAny x.c.es (fun e=>decide (e.acc≠x.c.by'))=true then (.zero,236,S) else iC S n (gl PE.acc x.c.es):=by unfold dI;rw [h2]
 refine ln (aR q S a p g e m w0 w _ (s.prt (bT q S p g e m))) fun w s=> ?_
 refine bK (fun c1=> ?_) (fun c1=> ?_)
 ·refine aL (cs':=(dk .zero (.slice none 0 0)).toArray) fun w s=> ?_
  have s:St w0 (D*bT q S p g e m*bZ d .zero (.slice none 0 0)) w:=(show St w0 (_*bZ d .zero (.slice none 0 0)) w from s).ak
  refine ar (vs:=dk .zero (.slice none 0 0)) rfl (dP s) rfl ?_
  simp
  exact fin 142 w (by rw [e0,if_pos c1]) s.drop
 refine aX ?_
 refine bK (fun c2=> ?_) (fun c2=> ?_)
 ·refine aL (cs':=(dk .zero (.slice none 0 0)).toArray) fun w s=> ?_
  have s:St w0 (D*bT q S p g e m*bZ d .zero (.slice none 0 0)) w:=(show St w0 (_*bZ d .zero (.slice none 0 0)) w from s).ak
  refine ar (vs:=dk .zero (.slice none 0 0)) rfl (dP s) rfl ?_
  simp
  exact fin 235 w (by rw [e0,if_neg (by simpa using c1),if_pos c2]) s.drop
 subst c2
 have e0:dI S n x.c.by'=if x.c.dead≤S.clock then (.zero,233,S) else if isAny x.c.es (fun e=>decide (e.acc≠x.c.by'))=true then (.zero,236,S) else iC S n (gl PE.acc x.c.es):=by rw [e0,if_neg (by simpa using c1),if_neg (by simp)]
 refine cN (vs:=x.c.cs x.v) ?_
 refine ln (tq q S x.c x.v p g e m w0 w _ (s.prt (bT q S p g e m))) fun w s=> ?_
 refine bK (fun c3=> ?_) (fun c3=> ?_)
 ·refine aL (cs':=(dk .zero (.slice none 0 0)).toArray) fun w s=> ?_
  have s:St w0 (D*bT q S p g e m*bZ d .zero (.slice none 0 0)) w:=(show St w0 (_*bZ d .zero (.slice none 0 0)) w from s).ak
  refine ar (vs:=dk .zero (.slice none 0 0)) rfl (dP s) rfl ?_
  simp
  exact fin 233 w (by rw [e0,if_pos c3]) s.drop
 refine aX ?_
 have s:St w0 (D*bT q S p g e m*bZ d .zero (.slice none 0 0)*bC d2 x.c x.v) w:=s.ak
 have hA:=LV w0 (D*bT q S p g e m*bZ d .zero (.slice none 0 0)) d2 x.c x.v
 refine ln (gH _ _ _ x.c.es x.v lv w0 w _ hA (by have:=hCW.len;omega) (hcv.mono fun w s=>s.ak) s) fun w s=> ?_
 refine bK (fun c4=> ?_) (fun c4=> ?_)
 ·have c4:isAny x.c.es (fun e=>decide (e.acc≠x.c.by'))=true:=by simpa using c4
  refine aL (cs':=(dk .zero (.slice none 0 0)).toArray) fun w s=> ?_
  have s:St w0 (D*bT q S p g e m*bZ d .zero (.slice none 0 0)) w:=(show St w0 (_*bZ d .zero (.slice none 0 0)) w from s).ak
  refine ar (vs:=dk .zero (.slice none 0 0)) rfl (dP s) rfl ?_
  simp
  exact fin 236 w (by rw [e0,if_neg (by omega),if_pos c4]) s.drop
 refine cN (vs:=x.c.cs x.v) ?_
 refine ab ((CH x.c x.v lv w0 w _ (by have:=hCW.len;omega) (hcv.mono fun w s=>s.ak) s).mono ?_)
 intro gv w s
 have c4:¬isAny x.c.es (fun e=>decide (e.acc≠x.c.by'))=true:=by simpa using c4
 have hgv:=cX s
 simp
 have hnum:=hCW.num
 rw [h1] at hnum
 have hgl:=jS PE.acc x.c.es
 have hcl:=hCW.len
 have s:St w0 (A*bZ d .zero (.slice none 0 0)*bL q S p g e m*bR gv (gl PE.acc x.c.es)) w:=by
  obtain ⟨G,hG⟩:∃G,bR gv (gl PE.acc x.c.es)=G:=⟨_,rfl⟩
  rw [hG] at s⊢
  exact (back (bZ d .zero (.slice none 0 0)*G) w s.ak).to (by ac_rfl)
 refine ab ((tz q S n _ gv _ p g e m w0 w _ hS.E (by omega) (nq hCW.ok) (by omega) s).mono ?_)
 rintro _ w ⟨v,rfl,s⟩
 have hv:=cX s
 simp
 rw [e0,if_neg (by omega),if_neg c4]
 refine aL (cs':=(dk (iC S n (gl PE.acc x.c.es)).1 v).toArray) (h1:=ji _ _ hv) fun w s=> ?_
 have s:St w0 (A*bL q (iC S n (gl PE.acc x.c.es)).2.2 p g e m*bR v (iC S n (gl PE.acc x.c.es)).1.gs*bZ d (iC S n (gl PE.acc x.c.es)).1 v) w:=s.ak
 refine ar (vs:=dk (iC S n (gl PE.acc x.c.es)).1 v) rfl (dP s) rfl ?_
 simp
 exact ⟨v,rfl,s.drop⟩
end Go.HL.St1
