/- Part 10. -/
import Derived.Test.YtpldhemgcoimaaaGreatMEMi
import Derived.Deep.Slices
import Derived.WideShapes
set_option linter.unusedSimpArgs false
set_option linter.unusedVariables false
set_option maxRecDepth 4000
namespace Go.HL
open Go.Proofs Go.Deep
section
variable {H:Type} {enc:TypeId×Value->H} {P:Program} {w:World} {base:Nat} {spare:Nat->Bool} {held:Bool}
def ID (P:Program):List Field->Nat->Bool
 | [],_=>true
 |f::fs,o=>(f.offset==o)&&(match P.underlying f.type with|some (.int .i64)=>true|_=>false)&&(P.cellsOf f.type==1)&&ID P fs (o+1)
def gTa (l:List Int):List Value:=l.map (Value.int .i64)
end
theorem uj {H:Type}:∀l:List (DataW H),l.length<=Go.Proofs.YtpldhemgcoimaaaGreat.Rows.uptoBulkAll l
 | []=>Nat.zero_le _
 |d::l=>by
  have:=uj l;have h1:1<=Go.Proofs.YtpldhemgcoimaaaGreat.Rows.uptoBulk d:=by
   cases d with
   |lit l=>cases l<;>simp [Go.Proofs.YtpldhemgcoimaaaGreat.Rows.uptoBulk]
   |_=>simp [Go.Proofs.YtpldhemgcoimaaaGreat.Rows.uptoBulk]
  simp only [Go.Proofs.YtpldhemgcoimaaaGreat.Rows.uptoBulkAll,List.length_cons];omega
theorem Kp {H:Type} (k:IntKind) (n:Int):Go.Proofs.YtpldhemgcoimaaaGreat.Rows.uptoBulk (DataW.lit (H:=H) (.int k n))=1:=rfl
theorem uk {H:Type} {d:DataW H}:∀{l:List (DataW H)},d∈l->Go.Proofs.YtpldhemgcoimaaaGreat.Rows.uptoBulk d<=Go.Proofs.YtpldhemgcoimaaaGreat.Rows.uptoBulkAll l
 |x::l,h=>by
  simp only [Go.Proofs.YtpldhemgcoimaaaGreat.Rows.uptoBulkAll];rcases List.mem_cons.1 h with rfl|h
  ·omega
  ·have:=uk h;omega
section
variable {H:Type} {enc:TypeId×Value->H} {P:Program} {W:World} {base:Nat} {spare:Nat->Bool} {held:Bool}
theorem oQ {α:Type} (f:α->List Value) (sz:Nat) (q:α->Prop) (bk:α->Nat) {t e:TypeId} {fuel:Nat} {cs:List Value} {x:DataW H×List MemPlace} (ht:P.underlying t=some (.slice e)) (hc:P.cellsOf e=sz) (hpos:0<sz) (hf:∀a,(f a).length=sz)
  (each:∀n cs x,DataW.trod enc P W base spare held n e cs=some x->∃a,cs=f a/\q a/\bk a<=Go.Proofs.YtpldhemgcoimaaaGreat.Rows.uptoBulk x.1)
  (h:DataW.trod enc P W base spare held fuel t cs=some x):
  ∃(v:Value) (rows:List α),cs= [v]/\v.oneCell'=true/\(∀r∈rows,q r)/\Row W (ox W) v rows.length sz (rows.flatMap f)/\rows.length<=Go.Proofs.YtpldhemgcoimaaaGreat.Rows.uptoBulk x.1/\∀r∈rows,bk r<=Go.Proofs.YtpldhemgcoimaaaGreat.Rows.uptoBulk x.1:=by
 rcases open_slice ht h with ⟨hv,hd⟩|⟨a,len,cap,m,n',D,Pl,hv,hb,hl,hm,hmm,hd,hx⟩
 ·exact ⟨.slice none 0 0,[],hv,rfl,by simp,⟨by simp,none,0,rfl,Nat.le_refl _,.inl rfl⟩,Nat.zero_le _,by simp⟩
 ·have hlm:len<=m:=by rw [hmm];split<;>omega
  have hbd:Go.Proofs.YtpldhemgcoimaaaGreat.Rows.uptoBulk x.1=Go.Proofs.YtpldhemgcoimaaaGreat.Rows.uptoBulkAll ((List.range len).map D)+Go.Proofs.YtpldhemgcoimaaaGreat.Rows.uptoBulkAll ((List.range (m -len)).map λj=>D (len+j))+1:=by rw [hd];rfl
  have key:∀l:List α,(l.flatMap f).length=l.length*sz:=cY f sz hf;rcases Nat.eq_zero_or_pos len with h0|h0
  ·subst h0
   exact ⟨_,[],hv,rfl,by simp,⟨by simp,some a,cap,rfl,Nat.zero_le _,.inl rfl⟩,Nat.zero_le _,by simp⟩
  obtain ⟨cs0,_,ht0⟩:=hx 0 (by omega);obtain ⟨d0,hd0,_⟩:=each _ _ _ ht0
  haveI:Inhabited α:=⟨d0⟩
  obtain ⟨R,hR⟩:=Go.Deep.choose_lt (α:=α) (p:=λi r=>q r/\bk r<=Go.Proofs.YtpldhemgcoimaaaGreat.Rows.uptoBulk (D i)/\∀j u,(f r)[j]? =some u->W.cell? (a.add (i*sz+j))=some u) (λi hi'=>by
   obtain ⟨cs',h1,h2⟩:=hx i hi';obtain ⟨r,hr1,hr2,hr3⟩:=each _ _ _ h2;obtain ⟨_,hlen,hcell⟩:=World.cells?_some h1;refine ⟨r,hr2,hr3,λj u hu=> ?_⟩;have hj:j<P.cellsOf e:=by have:=(List.getElem?_eq_some_iff.1 hu).1;rw [hf] at this;omega
   have:=hcell j hj;rw [Go.Deep.add_add,hr1,hu,hc] at this;exact this)
  have hlenR:((List.range len).map R).length=len:=by simp
  refine ⟨.slice (some a) len cap,(List.range len).map R,hv,rfl,λr hr=> ?_,⟨?_,some a,cap,by rw [hlenR],by rw [hlenR];exact hl,?_⟩,?_,λr hr=> ?_⟩
  ·obtain ⟨i,hi',rfl⟩:=List.mem_map.1 hr
   exact (hR i (by have:=List.mem_range.1 hi';omega)).1
  ·exact key _
  ·right
   obtain ⟨b,o,spot⟩:=a;have hfirst:∃u,(f (R 0))[0]? =some u:=⟨_,List.getElem?_eq_getElem (by rw [hf];exact hpos)⟩;obtain ⟨u,hu⟩:=hfirst;have hc0:=(hR 0 (by omega)).2.2 0 u hu;have hs:=World.cell?_spot hc0;simp only [Nat.zero_mul,Nat.add_zero,Addr.add,if_true] at hs;subst hs;refine ⟨b,o,rfl,λw' s j u hu=> ?_⟩;have hj:j<len*sz:=by have h1:=(List.getElem?_eq_some_iff.1 hu).1;rw [key,hlenR] at h1;exact h1
   have hdiv:j /sz<len:=Nat.div_lt_of_lt_mul (by rw [Nat.mul_comm];exact hj);have hjm:j=j /sz*sz+j %sz:=by rw [Nat.mul_comm];exact (Nat.div_add_mod j sz).symm
   have hmod:j %sz<sz:=Nat.mod_lt _ hpos;rw [hjm,dJ f sz hf _ _ _ (by rw [hlenR];exact hdiv) hmod] at hu;simp only [List.getElem_map,List.getElem_range] at hu;have:=(hR _ (by omega)).2.2 _ _ hu;rw [<-hjm] at this;have ha:(⟨b,o,none⟩:Addr).add j=⟨b,o+j,none⟩:=eZ _ _ _;rw [ha] at this;unfold World.cell? at this⊢;cases hb:W.heap[b]? with
   |none=>simp [hb] at this
   |some o'=>simp only [s.mS hb];simpa [hb] using this
  ·rw [hlenR,hbd]
   have:=uj ((List.range len).map D);simp only [List.length_map,List.length_range] at this;omega
  ·obtain ⟨i,hi',rfl⟩:=List.mem_map.1 hr
   have hi2:=List.mem_range.1 hi';have h1:=(hR i (by omega)).2.1;have h2:=uk (l:=(List.range len).map D) (List.mem_map.2 ⟨i,hi',rfl⟩);rw [hbd];omega
theorem gS {t:TypeId} {fs:Array Field} {fuel:Nat} {cs:List Value} {x:DataW H×List MemPlace} (ht:P.underlying t=some (.struct fs)) (h:DataW.trod enc P W base spare held fuel t cs=some x):
  cs.length=P.cellsOf t/\∃n,∀(i:Nat) (f:Field),fs[i]? =some f->∃y,DataW.trod enc P W base spare held n f.type ((cs.drop f.offset).take (P.cellsOf f.type))=some y/\Go.Proofs.YtpldhemgcoimaaaGreat.Rows.uptoBulk y.1<=Go.Proofs.YtpldhemgcoimaaaGreat.Rows.uptoBulk x.1:=by
 obtain ⟨xs,n,_,hx,hl,hlen,hf⟩:=DataW.trod_struct ht h;refine ⟨hl,n,λi f hi=> ?_⟩;have h1:=hf i f hi;have hil:i<xs.length:=by have:=(Array.getElem?_eq_some_iff.1 hi).1;omega
 rw [List.getElem?_eq_getElem hil] at h1;refine ⟨_,h1,?_⟩;rw [hx];have:=uk (l:=xs.map (·.1)) (List.mem_map.2 ⟨xs[i],List.getElem_mem _,rfl⟩);simp only [Go.Proofs.YtpldhemgcoimaaaGreat.Rows.uptoBulk];omega
end
end Go.HL
