/-
  What the claim leans on, part 11 of 12. Conditions: as each theorem says.
-/
import Derived.Test.YtliofpihaemglaaPlMj
import Derived.Deep.Slices
import Derived.WideShapes
namespace Go.HL
open Go.Proofs Go.Deep
set_option linter.unusedVariables false
section
variable {H : Type} {enc : TypeId × Value → H} {P : Program} {w : World} {base : Nat} {spare : Nat → Bool} {held : Bool}
def fieldsI64 (P : Program) : List Field → Nat → Bool
  | [], _ => true
  | f :: fs, o => (f.offset == o) && (match P.underlying f.type with | some (.int .i64) => true | _ => false) && (P.cellsOf f.type == 1) && fieldsI64 P fs (o + 1)
def rowV (l : List Int) : List Value := l.map (Value.int .i64)
end
theorem bulkAll_ge {H : Type} : ∀ l : List (DataW H), l.length ≤ Go.Proofs.Ytliofpihaemglaa.Rows.uptoBulkAll l
  | [] => Nat.zero_le _
  | d :: l => by
    have := bulkAll_ge l
    have h1 : 1 ≤ Go.Proofs.Ytliofpihaemglaa.Rows.uptoBulk d := by
      cases d with
      | lit l => cases l <;> simp [Go.Proofs.Ytliofpihaemglaa.Rows.uptoBulk]
      | _ => simp [Go.Proofs.Ytliofpihaemglaa.Rows.uptoBulk]
    simp only [Go.Proofs.Ytliofpihaemglaa.Rows.uptoBulkAll, List.length_cons]
    omega
end Go.HL

namespace Go.HL
open Go.Proofs Go.Deep
set_option linter.unusedVariables false
theorem bulk_int {H : Type} (k : IntKind) (n : Int) : Go.Proofs.Ytliofpihaemglaa.Rows.uptoBulk (DataW.lit (H := H) (.int k n)) = 1 := rfl
theorem bulk_mem {H : Type} {d : DataW H} : ∀ {l : List (DataW H)}, d ∈ l → Go.Proofs.Ytliofpihaemglaa.Rows.uptoBulk d ≤ Go.Proofs.Ytliofpihaemglaa.Rows.uptoBulkAll l
  | x :: l, h => by
    simp only [Go.Proofs.Ytliofpihaemglaa.Rows.uptoBulkAll]
    rcases List.mem_cons.1 h with rfl | h
    · omega
    · have := bulk_mem h; omega
section
variable {H : Type} {enc : TypeId × Value → H} {P : Program} {W : World} {base : Nat} {spare : Nat → Bool} {held : Bool}
/-- the rows of a slice whose elements are opened by 'each' -/
theorem open_erows {α : Type} (f : α → List Value) (sz : Nat) (q : α → Prop) (bk : α → Nat) {t e : TypeId} {fuel : Nat} {cs : List Value} {x : DataW H × List MemPlace} (ht : P.underlying t = some (.slice e)) (hc : P.cellsOf e = sz) (hpos : 0 < sz) (hf : ∀ a, (f a).length = sz)
    (each : ∀ n cs x, DataW.trod enc P W base spare held n e cs = some x → ∃ a, cs = f a ∧ q a ∧ bk a ≤ Go.Proofs.Ytliofpihaemglaa.Rows.uptoBulk x.1)
    (h : DataW.trod enc P W base spare held fuel t cs = some x) :
    ∃ (v : Value) (rows : List α), cs = [v] ∧ v.oneCell' = true ∧ (∀ r ∈ rows, q r) ∧ Row W (old W) v rows.length sz (rows.flatMap f) ∧ rows.length ≤ Go.Proofs.Ytliofpihaemglaa.Rows.uptoBulk x.1 ∧ ∀ r ∈ rows, bk r ≤ Go.Proofs.Ytliofpihaemglaa.Rows.uptoBulk x.1 := by
  rcases open_slice ht h with ⟨hv, hd⟩ | ⟨a, len, cap, m, n', D, Pl, hv, hb, hl, hm, hmm, hd, hx⟩
  · exact ⟨.slice none 0 0, [], hv, rfl, by simp, ⟨by simp, none, 0, rfl, Nat.le_refl _, .inl rfl⟩, Nat.zero_le _, by simp⟩
  · have hlm : len ≤ m := by rw [hmm]; split <;> omega
    have hbd : Go.Proofs.Ytliofpihaemglaa.Rows.uptoBulk x.1 = Go.Proofs.Ytliofpihaemglaa.Rows.uptoBulkAll ((List.range len).map D) + Go.Proofs.Ytliofpihaemglaa.Rows.uptoBulkAll ((List.range (m - len)).map fun j => D (len + j)) + 1 := by rw [hd]; rfl
    have key : ∀ l : List α, (l.flatMap f).length = l.length * sz := flat_length f sz hf
    rcases Nat.eq_zero_or_pos len with h0 | h0
    · subst h0
      exact ⟨_, [], hv, rfl, by simp, ⟨by simp, some a, cap, rfl, Nat.zero_le _, .inl rfl⟩, Nat.zero_le _, by simp⟩
    obtain ⟨cs0, _, ht0⟩ := hx 0 (by omega)
    obtain ⟨d0, hd0, _⟩ := each _ _ _ ht0
    haveI : Inhabited α := ⟨d0⟩
    obtain ⟨R, hR⟩ := choose_lt (α := α) (p := fun i r => q r ∧ bk r ≤ Go.Proofs.Ytliofpihaemglaa.Rows.uptoBulk (D i) ∧ ∀ j u, (f r)[j]? = some u → W.cell? (a.add (i * sz + j)) = some u) (fun i hi' => by
      obtain ⟨cs', h1, h2⟩ := hx i hi'
      obtain ⟨r, hr1, hr2, hr3⟩ := each _ _ _ h2
      obtain ⟨_, hlen, hcell⟩ := World.cells?_some h1
      refine ⟨r, hr2, hr3, fun j u hu => ?_⟩
      have hj : j < P.cellsOf e := by
        have := (List.getElem?_eq_some_iff.1 hu).1
        rw [hf] at this
        omega
      have := hcell j hj
      rw [Go.Deep.add_add, hr1, hu, hc] at this
      exact this)
    have hlenR : ((List.range len).map R).length = len := by simp
    refine ⟨.slice (some a) len cap, (List.range len).map R, hv, rfl, fun r hr => ?_, ⟨?_, some a, cap, by rw [hlenR], by rw [hlenR]; exact hl, ?_⟩, ?_, fun r hr => ?_⟩
    · obtain ⟨i, hi', rfl⟩ := List.mem_map.1 hr
      exact (hR i (by have := List.mem_range.1 hi'; omega)).1
    · exact key _
    · right
      obtain ⟨b, o, spot⟩ := a
      have hfirst : ∃ u, (f (R 0))[0]? = some u := ⟨_, List.getElem?_eq_getElem (by rw [hf]; exact hpos)⟩
      obtain ⟨u, hu⟩ := hfirst
      have hc0 := (hR 0 (by omega)).2.2 0 u hu
      have hs := World.cell?_spot hc0
      simp only [Nat.zero_mul, Nat.add_zero, Addr.add, if_true] at hs
      subst hs
      refine ⟨b, o, rfl, fun w' s j u hu => ?_⟩
      have hj : j < len * sz := by
        have h1 := (List.getElem?_eq_some_iff.1 hu).1
        rw [key, hlenR] at h1
        exact h1
      have hdiv : j / sz < len := Nat.div_lt_of_lt_mul (by rw [Nat.mul_comm]; exact hj)
      have hjm : j = j / sz * sz + j % sz := by rw [Nat.mul_comm]; exact (Nat.div_add_mod j sz).symm
      have hmod : j % sz < sz := Nat.mod_lt _ hpos
      rw [hjm, flat_get f sz hf _ _ _ (by rw [hlenR]; exact hdiv) hmod] at hu
      simp only [List.getElem_map, List.getElem_range] at hu
      have := (hR _ (by omega)).2.2 _ _ hu
      rw [← hjm] at this
      have ha : (⟨b, o, none⟩ : Addr).add j = ⟨b, o + j, none⟩ := addr_add _ _ _
      rw [ha] at this
      unfold World.cell? at this ⊢
      cases hb : W.heap[b]? with
      | none => simp [hb] at this
      | some o' => simp only [s.lookOld0 hb]; simpa [hb] using this
    · rw [hlenR, hbd]
      have := bulkAll_ge ((List.range len).map D)
      simp only [List.length_map, List.length_range] at this
      omega
    · obtain ⟨i, hi', rfl⟩ := List.mem_map.1 hr
      have hi2 := List.mem_range.1 hi'
      have h1 := (hR i (by omega)).2.1
      have h2 := bulk_mem (l := (List.range len).map D) (List.mem_map.2 ⟨i, hi', rfl⟩)
      rw [hbd]; omega
/-- a field of one cell -/
theorem open_field {t : TypeId} {fs : Array Field} {fuel : Nat} {cs : List Value} {x : DataW H × List MemPlace} (ht : P.underlying t = some (.struct fs)) (h : DataW.trod enc P W base spare held fuel t cs = some x) :
    cs.length = P.cellsOf t ∧ ∃ n, ∀ (i : Nat) (f : Field), fs[i]? = some f → ∃ y, DataW.trod enc P W base spare held n f.type ((cs.drop f.offset).take (P.cellsOf f.type)) = some y ∧ Go.Proofs.Ytliofpihaemglaa.Rows.uptoBulk y.1 ≤ Go.Proofs.Ytliofpihaemglaa.Rows.uptoBulk x.1 := by
  obtain ⟨xs, n, _, hx, hl, hlen, hf⟩ := DataW.trod_struct ht h
  refine ⟨hl, n, fun i f hi => ?_⟩
  have h1 := hf i f hi
  have hil : i < xs.length := by have := (Array.getElem?_eq_some_iff.1 hi).1; omega
  rw [List.getElem?_eq_getElem hil] at h1
  refine ⟨_, h1, ?_⟩
  rw [hx]
  have := bulk_mem (l := xs.map (·.1)) (List.mem_map.2 ⟨xs[i], List.getElem_mem _, rfl⟩)
  simp only [Go.Proofs.Ytliofpihaemglaa.Rows.uptoBulk]
  omega
end
end Go.HL

namespace Go.HL.Pu
open Go.HL Go.HL.Nm Go.Proofs
set_option maxRecDepth 4000
set_option linter.unusedVariables false
theorem open_u64 {a : Int} (h : (Lit.int IntKind.u64 a).wf = true) : 0 ≤ a ∧ a ≤ 18446744073709551615 := by simpa [Lit.wf, IntKind.min, IntKind.max, IntKind.signed, IntKind.bits] using h
theorem open_accs {H : Type} {enc : TypeId × Value → H} {W : World} {spare : Nat → Bool} {v : Value} {d : DataW H} {ps : List MemPlace} (h : DataW.Trod enc Try.prog W 0 spare true 39 v d ps) {base : Nat} (hval : Value.okWide Try.prog W .any base 39 v) :
    ∃ rows : List Ac, Row W (old W) v rows.length 2 (flat rows) ∧ rows.length ≤ Go.Proofs.Ytliofpihaemglaa.Rows.uptoBulk d ∧ ∀ x ∈ rows, x.name.length ≤ Go.Proofs.Ytliofpihaemglaa.Rows.uptoBulk d ∧ 0 ≤ x.coins ∧ x.coins ≤ 18446744073709551615 := by
  obtain ⟨va, vl, vc, rfl⟩ := Go.WideShapes.okWide_slice Try.underlying39 hval
  obtain ⟨n, h⟩ := h
  obtain ⟨v, rows, h1, h2, h3, h4, h5, h6⟩ := open_erows (α := Ac) Ac.cs 2 (fun x => 0 ≤ x.coins ∧ x.coins ≤ 18446744073709551615) (fun x => x.name.length) Try.underlying39 (by kernel_rfl) (by decide) (fun _ => rfl) (fun n cs x hx => by
    obtain ⟨hl, n', hf⟩ := open_field Try.underlying66 hx
    have hl2 : cs.length = 2 := hl.trans (by kernel_rfl)
    match cs, hl2 with
    | [c0, c1], _ =>
      obtain ⟨y0, k0, b0⟩ := hf 0 _ rfl
      obtain ⟨y1, k1, _⟩ := hf 1 _ rfl
      obtain ⟨m0, e0, x0, _⟩ := DataW.trod_string Try.underlying9 k0
      obtain ⟨m1, e1, x1, w1⟩ := DataW.trod_int Try.underlying40 k1
      have f0 : [c0] = [Value.string m0] := e0
      have f1 : [c1] = [Value.int .u64 m1] := e1
      cases f0; cases f1
      refine ⟨⟨m0.data.toList, m1⟩, by simp only [Ac.cs]; rw [← mk_eta], open_u64 w1, Nat.le_trans ?_ b0⟩
      rw [x0]
      show m0.data.toList.length ≤ Go.Proofs.Ytliofpihaemglaa.Rows.uptoBulk (DataW.lit (.string m0.data.toList))
      rw [bulk_string]; omega) h
  have h1 : [Value.slice va vl vc] = [v] := by simpa [Value.cells] using h1
  cases h1
  exact ⟨rows, h4, h5, fun x hx => ⟨h6 x hx, h3 x hx⟩⟩
theorem open_script {H : Type} {enc : TypeId × Value → H} {W : World} {spare : Nat → Bool} {v : Value} {d : DataW H} {ps : List MemPlace} (h : DataW.Trod enc Try.prog W 0 spare true 41 v d ps) {base : Nat} (hval : Value.okWide Try.prog W .any base 41 v) :
    ∃ ops : List Sp, Row W (old W) v ops.length 6 (sps ops) ∧ ops.length ≤ Go.Proofs.Ytliofpihaemglaa.Rows.uptoBulk d ∧ ∀ x ∈ ops, x.name.length ≤ Go.Proofs.Ytliofpihaemglaa.Rows.uptoBulk d ∧ 0 ≤ x.coins ∧ x.coins ≤ 18446744073709551615 := by
  obtain ⟨va, vl, vc, rfl⟩ := Go.WideShapes.okWide_slice Try.underlying41 hval
  obtain ⟨n, h⟩ := h
  obtain ⟨v, ops, h1, h2, h3, h4, h5, h6⟩ := open_erows (α := Sp) Sp.cs 6 (fun x => 0 ≤ x.coins ∧ x.coins ≤ 18446744073709551615) (fun x => x.name.length) Try.underlying41 (by kernel_rfl) (by decide) (fun _ => rfl) (fun n cs x hx => by
    obtain ⟨hl, n', hf⟩ := open_field Try.underlying53 hx
    have hl6 : cs.length = 6 := hl.trans (by kernel_rfl)
    match cs, hl6 with
    | [c0, c1, c2, c3, c4, c5], _ =>
      obtain ⟨y0, k0, _⟩ := hf 0 _ rfl
      obtain ⟨y1, k1, _⟩ := hf 1 _ rfl
      obtain ⟨y2, k2, _⟩ := hf 2 _ rfl
      obtain ⟨y3, k3, _⟩ := hf 3 _ rfl
      obtain ⟨y4, k4, _⟩ := hf 4 _ rfl
      obtain ⟨y5, k5, b5⟩ := hf 5 _ rfl
      obtain ⟨m0, e0, _⟩ := DataW.trod_int Try.underlying3 k0
      obtain ⟨m1, e1, _⟩ := DataW.trod_int Try.underlying3 k1
      obtain ⟨m2, e2, _⟩ := DataW.trod_int Try.underlying3 k2
      obtain ⟨m3, e3, _⟩ := DataW.trod_int Try.underlying3 k3
      obtain ⟨m4, e4, x4, w4⟩ := DataW.trod_int Try.underlying40 k4
      obtain ⟨m5, e5, x5, _⟩ := DataW.trod_string Try.underlying9 k5
      have f0 : [c0] = [Value.int .i64 m0] := e0
      have f1 : [c1] = [Value.int .i64 m1] := e1
      have f2 : [c2] = [Value.int .i64 m2] := e2
      have f3 : [c3] = [Value.int .i64 m3] := e3
      have f4 : [c4] = [Value.int .u64 m4] := e4
      have f5 : [c5] = [Value.string m5] := e5
      cases f0; cases f1; cases f2; cases f3; cases f4; cases f5
      refine ⟨⟨m0, m1, m2, m3, m4, m5.data.toList⟩, by simp only [Sp.cs]; rw [← mk_eta], open_u64 w4, Nat.le_trans ?_ b5⟩
      rw [x5]
      show m5.data.toList.length ≤ Go.Proofs.Ytliofpihaemglaa.Rows.uptoBulk (DataW.lit (.string m5.data.toList))
      rw [bulk_string]; omega) h
  have h1 : [Value.slice va vl vc] = [v] := by simpa [Value.cells] using h1
  cases h1
  exact ⟨ops, h4, h5, fun x hx => ⟨h6 x hx, h3 x hx⟩⟩
end Go.HL.Pu

namespace Go.HL.Pu
open Go.HL Go.HL.Nm Go.Proofs
set_option maxRecDepth 4000
set_option linter.unusedSimpArgs false
set_option linter.unusedVariables false
def nms (l : List Ac) : List (List UInt8) := l.map Ac.name
theorem nms_setC (l : List Ac) (i : Nat) (c : Int) : nms (setC l i c) = nms l := by
  unfold nms setC
  rw [List.map_set]
  by_cases h : i < l.length
  · have e : (l.getD i ⟨[], 0⟩).name = (l.map Ac.name)[i]'(by simpa using h) := by simp [h]
    show (l.map Ac.name).set i ((l.getD i ⟨[], 0⟩).name) = _
    rw [e]; exact List.set_getElem_self _
  · rw [List.set_eq_of_length_le (by simp; omega)]
theorem keys_nms (l : List Ac) : keys l = (nms l).map keyF := by simp [keys, nms]
/-- what stands of names -/
structure NI (ns : List (List UInt8)) : Prop where
  chk : ∀ n ∈ ns, (checkF n).2 = 0
  nod : (ns.map keyF).Nodup
  bank : ns[0]? = some bankB
theorem does_nms (P : Ps) (o : Sp) : nms (doesF P o).2.rows = nms P.rows ∨ (nms (doesF P o).2.rows = nms P.rows ++ [o.name] ∧ (checkF o.name).2 = 0 ∧ askB (keyF o.name) (keys P.rows) = false) := by
  unfold doesF
  split
  · by_cases h : (openF P o.name).2.1 = 0
    · obtain ⟨h1, h2, _, h4⟩ := open_ok h
      right
      rw [h1]
      exact ⟨by simp [nms], h4, h2⟩
    · left; rw [open_bad h]
  · left
    split
    · unfold mintF
      split
      · split
        · rfl
        · split
          · rfl
          · exact nms_setC _ _ _
      · rfl
    · split
      · unfold payF
        split
        · split
          · rfl
          · split
            · rfl
            · split
              · rfl
              · show nms (setC (setC _ _ _) _ _) = _
                rw [nms_setC, nms_setC]
        · rfl
      · split
        · unfold takeF
          split
          · split
            · rfl
            · exact nms_setC _ _ _
          · rfl
        · split
          · unfold putF
            split
            · split
              · rfl
              · exact nms_setC _ _ _
            · rfl
          · split <;> rfl
theorem does_NI {P : Ps} {o : Sp} (h : NI (nms P.rows)) : NI (nms (doesF P o).2.rows) := by
  rcases does_nms P o with e | ⟨e, hc, ha⟩
  · rw [e]; exact h
  · rw [e]
    refine ⟨fun n hn => ?_, ?_, ?_⟩
    · rcases List.mem_append.1 hn with hn | hn
      · exact h.chk n hn
      · have : n = o.name := by simpa using hn
        rw [this]; exact hc
    · rw [List.map_append, List.nodup_append]
      refine ⟨h.nod, by simp, fun a hma b hb => ?_⟩
      have : b = keyF o.name := by simpa using hb
      subst this
      rintro rfl
      rw [← keys_nms] at hma
      have := (askB_iff _ _).2 hma
      rw [ha] at this
      cases this
    · have hb := h.bank
      have : 0 < (nms P.rows).length := (List.getElem?_eq_some_iff.1 hb).1
      rw [List.getElem?_append_left this]
      exact hb
theorem loadL_same {lim sup : Int} : ∀ (l R : List Ac) (h : Int), NI (nms (R ++ l)) → ((R ++ l).length : Int) ≤ lim → total l ≤ h → (∀ x ∈ l, 0 ≤ x.coins) → loadL ⟨lim, R, sup, h⟩ l = (0, ⟨lim, R ++ l, sup, h - total l⟩)
  | [], R, h, _, _, _, _ => by simp [loadL, total_nil]
  | a :: l, R, h, hn, hl, ht, hc => by
    have ha := hc a (List.mem_cons_self ..)
    have htl := total_pos (l := l) fun x hx => hc x (List.mem_cons_of_mem _ hx)
    have e : total (a :: l) = a.coins + total l := by simp [total]
    rw [e] at ht
    have hmem : a.name ∈ nms (R ++ a :: l) := by simp [nms]
    have hck := hn.chk _ hmem
    have hask : askB (keyF a.name) (keys R) = false := by
      cases hb : askB (keyF a.name) (keys R) with
      | false => rfl
      | true =>
        have hm := (askB_iff _ _).1 hb
        have hnd := hn.nod
        have e2 : (nms (R ++ a :: l)).map keyF = keys R ++ (keyF a.name :: keys l) := by simp [nms, keys]; rfl
        rw [e2, List.nodup_append] at hnd
        exact absurd rfl (hnd.2.2 _ hm _ (List.mem_cons_self ..))
    have hlen : ¬ ((R.length : Int) = lim) := by simp only [List.length_append, List.length_cons] at hl; omega
    have ho : (openF ⟨lim, R, sup, h⟩ a.name).2.1 = 0 := by
      unfold openF
      rw [if_pos hck, if_neg (by rw [hask]; decide), if_neg hlen]
    have hs : stepE ⟨lim, R, sup, h⟩ a = 0 := by
      unfold stepE
      rw [if_pos ho, if_neg (by show ¬ h < a.coins; omega)]
    rw [loadL, if_pos hs]
    have e3 : R ++ a :: l = (R ++ [a]) ++ l := by simp
    rw [e3] at hn hl ⊢
    show loadL ⟨lim, R ++ [a], sup, h - a.coins⟩ l = _
    rw [loadL_same l (R ++ [a]) (h - a.coins) hn hl (by omega) (fun x hx => hc x (List.mem_cons_of_mem _ hx)), e]
    congr 2
    omega
theorem load_same {lim : Int} {P : Ps} (hP : PI lim P) (hn : NI (nms P.rows)) : loadF lim P.rows P.sup = (0, P) := by
  have hb := hP.bd
  have h1 := hP.len
  have h2 := hP.sum
  have h3 := hP.held
  have h4 := hP.sup
  unfold loadF
  rw [if_pos hP.lims, if_neg (by omega), if_neg (by omega)]
  have hbank : (P.rows.getD 0 ⟨[], 0⟩).name = bankB := by
    have h := hn.bank
    simp only [nms, List.getElem?_map] at h
    cases hr : P.rows[0]? with
    | none => rw [hr] at h; cases h
    | some x =>
      rw [hr] at h
      have : x.name = bankB := by simpa using h
      rw [List.getD_eq_getElem?_getD, hr]
      exact this
  rw [if_pos hbank]
  have := loadL_same (lim := lim) (sup := P.sup) P.rows [] P.sup (by simpa using hn) (by simpa using h1.2) (by omega) hP.coins
  rw [this]
  have e : P.sup - total P.rows = P.held := by omega
  rw [e, List.nil_append, ← hP.eqlim]
theorem new_NI : NI (nms [⟨bankB, 0⟩]) := by
  refine ⟨fun n hn => ?_, by simp [nms], rfl⟩
  have : n = bankB := by simpa [nms] using hn
  rw [this]; exact bank_ok
theorem new_PI {lim : Int} (h : 1 ≤ lim ∧ lim ≤ 64) : PI lim ⟨lim, [⟨bankB, 0⟩], 0, 0⟩ :=
  ⟨rfl, h, by simp; omega, by simp, Int.le_refl _, rfl, by show (0 : Int) ≤ _; decide, fun i hi => by
    have : i = 0 := by simpa using hi
    subst this
    simp [bankB]⟩
end Go.HL.Pu

namespace Go.HL.Pu
open Go.HL Go.HL.Nm Go.Proofs
set_option maxRecDepth 4000
set_option linter.unusedSimpArgs false
set_option linter.unusedVariables false
theorem account_nil (n : Int) (w0 w : World) (A : Asn) (s : St w0 A w) : CallW Try.prog 75 [.pointer none, .int .i64 n] (fun r w' => r = .int .i64 1 ∧ St w0 A w') w := by
  refine callW_of_lift l75_ok (by simp [l75]) ?_
  simp [l75]
  exact s
theorem Open_nil (x : List UInt8) (w0 w : World) (A : Asn) (s : St w0 A w) : CallW Try.prog 13 [.pointer none, .string (mk x)] (fun r w' => r = .tuple #[.int .i64 0, .int .i64 1] ∧ St w0 A w') w := by
  refine callW_of_lift l13_ok (by simp [l13]) ?_
  simp [l13]
  exact s
theorem Find_nil (x : List UInt8) (w0 w : World) (A : Asn) (s : St w0 A w) : CallW Try.prog 14 [.pointer none, .string (mk x)] (fun r w' => r = .tuple #[.int .i64 0, .bool false] ∧ St w0 A w') w := by
  refine callW_of_lift l14_ok (by simp [l14]) ?_
  simp [l14]
  exact s
theorem Near_nil (x : List UInt8) (w0 w : World) (A : Asn) (s : St w0 A w) : CallW Try.prog 16 [.pointer none, .string (mk x)] (fun r w' => r = .slice none 0 0 ∧ St w0 A w') w := by
  refine callW_of_lift l16_ok (by simp [l16]) ?_
  simp [l16]
  exact s
theorem Supply_nil (w0 w : World) (A : Asn) (s : St w0 A w) : CallW Try.prog 30 [.pointer none] (fun r w' => r = .int .u64 0 ∧ St w0 A w') w := by
  refine callW_of_lift l30_ok (by simp [l30]) ?_
  simp [l30]
  exact s
theorem Held_nil (w0 w : World) (A : Asn) (s : St w0 A w) : CallW Try.prog 37 [.pointer none] (fun r w' => r = .int .u64 0 ∧ St w0 A w') w := by
  refine callW_of_lift l37_ok (by simp [l37]) ?_
  simp [l37]
  exact s
theorem Limit_nil (w0 w : World) (A : Asn) (s : St w0 A w) : CallW Try.prog 28 [.pointer none] (fun r w' => r = .int .i64 0 ∧ St w0 A w') w := by
  refine callW_of_lift l28_ok (by simp [l28]) ?_
  simp [l28]
  exact s
theorem Len_nil (w0 w : World) (A : Asn) (s : St w0 A w) : CallW Try.prog 18 [.pointer none] (fun r w' => r = .int .i64 0 ∧ St w0 A w') w := by
  refine callW_of_lift l18_ok (by simp [l18]) ?_
  simp [l18]
  exact s
theorem Rows_nil (w0 w : World) (A : Asn) (s : St w0 A w) : CallW Try.prog 29 [.pointer none] (fun r w' => r = .slice none 0 0 ∧ St w0 A w') w := by
  refine callW_of_lift l29_ok (by simp [l29]) ?_
  simp [l29]
  exact s
theorem Copy_nil (w0 w : World) (A : Asn) (s : St w0 A w) : CallW Try.prog 26 [.pointer none] (fun r w' => r = .pointer none ∧ St w0 A w') w := by
  refine callW_of_lift l26_ok (by simp [l26]) ?_
  simp [l26]
  exact s
theorem Mint_nil (n c : Int) (w0 w : World) (A : Asn) (s : St w0 A w) : CallW Try.prog 62 [.pointer none, .int .i64 n, .int .u64 c] (fun r w' => r = .int .i64 1 ∧ St w0 A w') w := by
  refine callW_of_lift l62_ok (by simp [l62]) ?_
  simp [l62]
  refine eff_call ((account_nil _ w0 w A s).mono ?_)
  rintro r w1 ⟨rfl, s1⟩
  simp
  exact s1
theorem Take_nil (n c : Int) (w0 w : World) (A : Asn) (s : St w0 A w) : CallW Try.prog 34 [.pointer none, .int .i64 n, .int .u64 c] (fun r w' => r = .int .i64 1 ∧ St w0 A w') w := by
  refine callW_of_lift l34_ok (by simp [l34]) ?_
  simp [l34]
  refine eff_call ((account_nil _ w0 w A s).mono ?_)
  rintro r w1 ⟨rfl, s1⟩
  simp
  exact s1
theorem Put_nil (n c : Int) (w0 w : World) (A : Asn) (s : St w0 A w) : CallW Try.prog 35 [.pointer none, .int .i64 n, .int .u64 c] (fun r w' => r = .int .i64 1 ∧ St w0 A w') w := by
  refine callW_of_lift l35_ok (by simp [l35]) ?_
  simp [l35]
  refine eff_call ((account_nil _ w0 w A s).mono ?_)
  rintro r w1 ⟨rfl, s1⟩
  simp
  exact s1
theorem Pay_nil (a b c : Int) (w0 w : World) (A : Asn) (s : St w0 A w) : CallW Try.prog 64 [.pointer none, .int .i64 a, .int .i64 b, .int .u64 c] (fun r w' => r = .int .i64 1 ∧ St w0 A w') w := by
  refine callW_of_lift l64_ok (by simp [l64]) ?_
  simp [l64]
  refine eff_call ((account_nil _ w0 w A s).mono ?_)
  rintro r w1 ⟨rfl, s1⟩
  simp
  refine eff_call ((account_nil _ w0 w1 A s1).mono ?_)
  rintro r w2 ⟨rfl, s2⟩
  simp
  refine eff_max ?_
  simp
  exact s2
theorem Get_nil (n : Int) (w0 w : World) (A : Asn) (s : St w0 A w) : CallW Try.prog 36 [.pointer none, .int .i64 n] (fun r w' => r = .tuple #[.agg (Ac.cs ⟨[], 0⟩).toArray, .int .i64 1] ∧ St w0 A w') w := by
  refine callW_of_lift l36_ok (by simp [l36]) ?_
  simp [l36]
  refine eff_new s ?_
  intro b w1 s1
  simp
  refine eff_call ((account_nil _ w0 w1 _ s1).mono ?_)
  rintro r w2 ⟨rfl, s2⟩
  simp [Instr.fill, Value.cells]
  refine eff_stA (vs := Ac.cs ⟨[], 0⟩) s2 rfl rfl (cs_one _) (by simp [Ac.cs]) ?_
  intro w3 s3
  simp
  have s4 : St w0 (A * pt b (.cells (Ac.cs ⟨[], 0⟩).toArray 66 (0, 0))) w3 := by simpa [Ac.cs] using s3
  refine rv_cellA (vs := Ac.cs ⟨[], 0⟩) rfl s4.row_cells rfl ?_
  simp
  exact s4.drop
-- bazaar/bazaarlaw14.nothing
end Go.HL.Pu

namespace Go.HL.Pu
open Go.HL Go.HL.Nm Go.Proofs
set_option maxRecDepth 4000
set_option linter.unusedSimpArgs false
set_option linter.unusedVariables false
abbrev rpt (q : Nat) (P : Ps) (v : Value) : Asn := pt q (.cells #[.int .i64 P.lim, v, .int .u64 P.sup] 90 (0, 0))
def rpur (q : Nat) (P : Ps) : Asn := fun h => ∃ v, (rpt q P v * own 66 2 v P.rows.length (flat P.rows)) h
theorem ropen {w0 w : World} {A : Asn} {q : Nat} {P : Ps} (s : St w0 (A * rpur q P) w) : ∃ v, St w0 (A * rpt q P v * own 66 2 v P.rows.length (flat P.rows)) w := by
  obtain ⟨g, h1, h2, h3, d, e, a, v, b⟩ := s.holds
  refine ⟨v, ?_⟩
  rw [sep_assoc]
  exact s.of ⟨g, h1, h2, h3, d, e, a, b⟩
theorem rclose {w0 w : World} {A : Asn} {q : Nat} {P : Ps} {v : Value} (s : St w0 (A * rpt q P v * own 66 2 v P.rows.length (flat P.rows)) w) : St w0 (A * rpur q P) w := by
  rw [sep_assoc] at s
  obtain ⟨g, h1, h2, h3, d, e, a, b⟩ := s.holds
  exact s.of ⟨g, h1, h2, h3, d, e, a, v, b⟩
theorem st_coin2 {w0 w : World} {A : Asn} {g cap i n : Nat} {c : Int} {l : List Ac} (hi : i < l.length) (hn : l.length = n)
    (s : St w0 (A * own 66 2 (.slice (some ⟨g, 0, none⟩) n cap) n (flat l)) w) {K : Value → World → Prop}
    (hk : ∀ w', St w0 (A * own 66 2 (.slice (some ⟨g, 0, none⟩) n cap) n (flat (setC l i c))) w' → K undef w') :
    EffW Try.prog (.st 1) [.pointer (some ⟨g, i * 2 + 1, none⟩), .int .u64 c] K w := by
  have hfl := flat_len l
  refine eff_stC (u := .int .u64 c) s (by omega) rfl ?_
  intro w3 s4
  rw [setC_at hi] at s4
  exact hk w3 s4
theorem lookK_first {k : List UInt8} : ∀ {ks : List (List UInt8)} {j i : Nat}, (∀ n, n < i → ks[n]? ≠ some k) → ks[i]? = some k → lookK k ks j = some (j + i)
  | [], _, _, _, h => by simp at h
  | x :: r, j, 0, _, h => by
    have : x = k := by simpa using h
    simp [lookK, this]
  | x :: r, j, i + 1, hn, h => by
    have h0 : x ≠ k := by have := hn 0 (by omega); simpa using this
    simp only [lookK]
    rw [if_neg (Ne.symm h0), lookK_first (i := i) (fun n hlt => by have := hn (n + 1) (by omega); simpa using this) (by simpa using h)]
    congr 1; omega
theorem lookK_never {k : List UInt8} {ks : List (List UInt8)} (h : k ∉ ks) : lookK k ks 0 = none := by
  cases hl : lookK k ks 0 with
  | none => rfl
  | some n => exact absurd (List.mem_of_getElem? (lookK_some hl).2) h
-- bazaar/bazaarref14.Same
def h55_0 : HC := (.seq (.reg (.eff (.call 83) (.cons (.inp 0) .nil) (.eff (.call 83) (.cons (.inp 1) .nil) (.chk none (.bin .eql) (.cons (.bv 0) (.cons (.bv 1) .nil)) (.done [(2, (.op (.bin .eql) (.cons (.bv 0) (.cons (.bv 1) .nil))))] none))))) .ret)
@[simp] theorem h55_0_wp {P : Program} {F : PF P} {Q : EX → List Value → World → Prop} {env : List Value} {w : World} : h55_0.wp F Q env w = HC.wp F (.seq (.reg (.eff (.call 83) (.cons (.inp 0) .nil) (.eff (.call 83) (.cons (.inp 1) .nil) (.chk none (.bin .eql) (.cons (.bv 0) (.cons (.bv 1) .nil)) (.done [(2, (.op (.bin .eql) (.cons (.bv 0) (.cons (.bv 1) .nil))))] none))))) .ret) Q env w := rfl
def l55 : Lifted := ⟨[0, 1, 4], 10, [.slot 2], (.seq (.reg (.done [(2, (.cst (.bool false)))] none)) h55_0)⟩
theorem l55_ok : liftFn U1 55 400 = some l55 := by kernel_rfl

-- (*bazaar/bazaarref14.Purse).Find
def h68_0 : HC := (.seq (.reg (.done [(2, (.cst (.int .i64 0))), (3, (.cst (.bool false)))] none)) .ret)
@[simp] theorem h68_0_wp {P : Program} {F : PF P} {Q : EX → List Value → World → Prop} {env : List Value} {w : World} : h68_0.wp F Q env w = HC.wp F (.seq (.reg (.done [(2, (.cst (.int .i64 0))), (3, (.cst (.bool false)))] none)) .ret) Q env w := rfl
def h68_1 : HC := (.reg (.chk none (.bin .add) (.cons (.inp 4) (.cons (.cst (.int .i64 1)) .nil)) (.done [(4, (.op (.bin .add) (.cons (.inp 4) (.cons (.cst (.int .i64 1)) .nil))))] none)))
@[simp] theorem h68_1_wp {P : Program} {F : PF P} {Q : EX → List Value → World → Prop} {env : List Value} {w : World} : h68_1.wp F Q env w = HC.wp F (.reg (.chk none (.bin .add) (.cons (.inp 4) (.cons (.cst (.int .i64 1)) .nil)) (.done [(4, (.op (.bin .add) (.cons (.inp 4) (.cons (.cst (.int .i64 1)) .nil))))] none))) Q env w := rfl
def h68_2 : HC := (.seq (.reg (.done [(2, (.inp 4)), (3, (.cst (.bool true)))] none)) .ret)
@[simp] theorem h68_2_wp {P : Program} {F : PF P} {Q : EX → List Value → World → Prop} {env : List Value} {w : World} : h68_2.wp F Q env w = HC.wp F (.seq (.reg (.done [(2, (.inp 4)), (3, (.cst (.bool true)))] none)) .ret) Q env w := rfl
def h68_3 : HC := (.br (.chk none .chkp (.cons (.inp 0) .nil) (.chk none (.fld 1) (.cons (.op .chkp (.cons (.inp 0) .nil)) .nil) (.eff (.ld false 1) (.cons (.op (.fld 1) (.cons (.op .chkp (.cons (.inp 0) .nil)) .nil)) .nil) (.chk none (.idxL 2) (.cons (.bv 0) (.cons (.inp 4) .nil)) (.chk none (.fld 0) (.cons (.op (.idxL 2) (.cons (.bv 0) (.cons (.inp 4) .nil))) .nil) (.eff (.ld false 1) (.cons (.op (.fld 0) (.cons (.op (.idxL 2) (.cons (.bv 0) (.cons (.inp 4) .nil))) .nil)) .nil) (.eff (.call 55) (.cons (.bv 1) (.cons (.inp 1) .nil)) (.done [] (some (.bv 2)))))))))) h68_2 .skip)
@[simp] theorem h68_3_wp {P : Program} {F : PF P} {Q : EX → List Value → World → Prop} {env : List Value} {w : World} : h68_3.wp F Q env w = HC.wp F (.br (.chk none .chkp (.cons (.inp 0) .nil) (.chk none (.fld 1) (.cons (.op .chkp (.cons (.inp 0) .nil)) .nil) (.eff (.ld false 1) (.cons (.op (.fld 1) (.cons (.op .chkp (.cons (.inp 0) .nil)) .nil)) .nil) (.chk none (.idxL 2) (.cons (.bv 0) (.cons (.inp 4) .nil)) (.chk none (.fld 0) (.cons (.op (.idxL 2) (.cons (.bv 0) (.cons (.inp 4) .nil))) .nil) (.eff (.ld false 1) (.cons (.op (.fld 0) (.cons (.op (.idxL 2) (.cons (.bv 0) (.cons (.inp 4) .nil))) .nil)) .nil) (.eff (.call 55) (.cons (.bv 1) (.cons (.inp 1) .nil)) (.done [] (some (.bv 2)))))))))) h68_2 .skip) Q env w := rfl
def h68_4 : HC := (.seq (.block 1 h68_3) h68_1)
@[simp] theorem h68_4_wp {P : Program} {F : PF P} {Q : EX → List Value → World → Prop} {env : List Value} {w : World} : h68_4.wp F Q env w = HC.wp F (.seq (.block 1 h68_3) h68_1) Q env w := rfl
def h68_5 : HC := (.seq (.br (.chk none .chkp (.cons (.inp 0) .nil) (.chk none (.fld 1) (.cons (.op .chkp (.cons (.inp 0) .nil)) .nil) (.eff (.ld false 1) (.cons (.op (.fld 1) (.cons (.op .chkp (.cons (.inp 0) .nil)) .nil)) .nil) (.chk none .lenL (.cons (.bv 0) .nil) (.chk none (.bin .lss) (.cons (.inp 4) (.cons (.op .lenL (.cons (.bv 0) .nil)) .nil)) (.done [] (some (.op (.bin .lss) (.cons (.inp 4) (.cons (.op .lenL (.cons (.bv 0) .nil)) .nil)))))))))) .skip (.exit 0)) h68_4)
@[simp] theorem h68_5_wp {P : Program} {F : PF P} {Q : EX → List Value → World → Prop} {env : List Value} {w : World} : h68_5.wp F Q env w = HC.wp F (.seq (.br (.chk none .chkp (.cons (.inp 0) .nil) (.chk none (.fld 1) (.cons (.op .chkp (.cons (.inp 0) .nil)) .nil) (.eff (.ld false 1) (.cons (.op (.fld 1) (.cons (.op .chkp (.cons (.inp 0) .nil)) .nil)) .nil) (.chk none .lenL (.cons (.bv 0) .nil) (.chk none (.bin .lss) (.cons (.inp 4) (.cons (.op .lenL (.cons (.bv 0) .nil)) .nil)) (.done [] (some (.op (.bin .lss) (.cons (.inp 4) (.cons (.op .lenL (.cons (.bv 0) .nil)) .nil)))))))))) .skip (.exit 0)) h68_4) Q env w := rfl
def h68_6 : HC := (.loop h68_5)
@[simp] theorem h68_6_wp {P : Program} {F : PF P} {Q : EX → List Value → World → Prop} {env : List Value} {w : World} : h68_6.wp F Q env w = HC.wp F (.loop h68_5) Q env w := rfl
def h68_7 : HC := (.seq (.block 0 h68_6) h68_0)
@[simp] theorem h68_7_wp {P : Program} {F : PF P} {Q : EX → List Value → World → Prop} {env : List Value} {w : World} : h68_7.wp F Q env w = HC.wp F (.seq (.block 0 h68_6) h68_0) Q env w := rfl
def h68_8 : HC := (.seq (.reg (.done [(4, (.cst (.int .i64 0)))] none)) h68_7)
@[simp] theorem h68_8_wp {P : Program} {F : PF P} {Q : EX → List Value → World → Prop} {env : List Value} {w : World} : h68_8.wp F Q env w = HC.wp F (.seq (.reg (.done [(4, (.cst (.int .i64 0)))] none)) h68_7) Q env w := rfl
def h68_9 : HC := (.seq (.reg (.done [(2, (.cst (.int .i64 0))), (3, (.cst (.bool false)))] none)) .ret)
@[simp] theorem h68_9_wp {P : Program} {F : PF P} {Q : EX → List Value → World → Prop} {env : List Value} {w : World} : h68_9.wp F Q env w = HC.wp F (.seq (.reg (.done [(2, (.cst (.int .i64 0))), (3, (.cst (.bool false)))] none)) .ret) Q env w := rfl
def h68_10 : HC := (.seq (.br (.chk none (.eqNil false (.pointer 90) (.pointer none)) (.cons (.inp 0) .nil) (.done [] (some (.op (.eqNil false (.pointer 90) (.pointer none)) (.cons (.inp 0) .nil))))) h68_9 .skip) h68_8)
@[simp] theorem h68_10_wp {P : Program} {F : PF P} {Q : EX → List Value → World → Prop} {env : List Value} {w : World} : h68_10.wp F Q env w = HC.wp F (.seq (.br (.chk none (.eqNil false (.pointer 90) (.pointer none)) (.cons (.inp 0) .nil) (.done [] (some (.op (.eqNil false (.pointer 90) (.pointer none)) (.cons (.inp 0) .nil))))) h68_9 .skip) h68_8) Q env w := rfl
def l68 : Lifted := ⟨[0, 1, 4, 5, 6], 29, [.slot 2, .slot 3], (.seq (.reg (.done [(2, (.cst (.int .i64 0))), (3, (.cst (.bool false)))] none)) h68_10)⟩
theorem l68_ok : liftFn U1 68 400 = some l68 := by kernel_rfl

-- bazaar/bazaarref14.New
def h21_0 : HC := (.seq (.reg (.chk none (.build #[(.string ⟨#[]⟩), (.int .u64 0)] [(0, 1), (1, 1)] [0]) (.cons (.cst (.string ⟨#[98, 97, 110, 107]⟩)) .nil) (.eff (.bsl 66 1 2 #[(.string ⟨#[]⟩), (.int .u64 0)] [0]) (.cons (.op (.build #[(.string ⟨#[]⟩), (.int .u64 0)] [(0, 1), (1, 1)] [0]) (.cons (.cst (.string ⟨#[98, 97, 110, 107]⟩)) .nil)) .nil) (.chk none (.build #[(.int .i64 0), (.slice none 0 0), (.int .u64 0)] [(0, 1), (1, 1), (2, 1)] [0, 1]) (.cons (.inp 0) (.cons (.bv 0) .nil)) (.eff (.box 90) (.cons (.op (.build #[(.int .i64 0), (.slice none 0 0), (.int .u64 0)] [(0, 1), (1, 1), (2, 1)] [0, 1]) (.cons (.inp 0) (.cons (.bv 0) .nil))) .nil) (.done [(1, (.bv 1)), (2, (.cst (.int .i64 0)))] none)))))) .ret)
@[simp] theorem h21_0_wp {P : Program} {F : PF P} {Q : EX → List Value → World → Prop} {env : List Value} {w : World} : h21_0.wp F Q env w = HC.wp F (.seq (.reg (.chk none (.build #[(.string ⟨#[]⟩), (.int .u64 0)] [(0, 1), (1, 1)] [0]) (.cons (.cst (.string ⟨#[98, 97, 110, 107]⟩)) .nil) (.eff (.bsl 66 1 2 #[(.string ⟨#[]⟩), (.int .u64 0)] [0]) (.cons (.op (.build #[(.string ⟨#[]⟩), (.int .u64 0)] [(0, 1), (1, 1)] [0]) (.cons (.cst (.string ⟨#[98, 97, 110, 107]⟩)) .nil)) .nil) (.chk none (.build #[(.int .i64 0), (.slice none 0 0), (.int .u64 0)] [(0, 1), (1, 1), (2, 1)] [0, 1]) (.cons (.inp 0) (.cons (.bv 0) .nil)) (.eff (.box 90) (.cons (.op (.build #[(.int .i64 0), (.slice none 0 0), (.int .u64 0)] [(0, 1), (1, 1), (2, 1)] [0, 1]) (.cons (.inp 0) (.cons (.bv 0) .nil))) .nil) (.done [(1, (.bv 1)), (2, (.cst (.int .i64 0)))] none)))))) .ret) Q env w := rfl
def h21_1 : HC := (.seq (.reg (.done [(1, (.cst (.pointer none))), (2, (.cst (.int .i64 2)))] none)) .ret)
@[simp] theorem h21_1_wp {P : Program} {F : PF P} {Q : EX → List Value → World → Prop} {env : List Value} {w : World} : h21_1.wp F Q env w = HC.wp F (.seq (.reg (.done [(1, (.cst (.pointer none))), (2, (.cst (.int .i64 2)))] none)) .ret) Q env w := rfl
def h21_2 : HC := (.seq (.br (.chk none (.bin .lss) (.cons (.inp 0) (.cons (.cst (.int .i64 1)) .nil)) (.bnd (.op (.bin .lss) (.cons (.inp 0) (.cons (.cst (.int .i64 1)) .nil))) (.chk (some ((.bv 0), false)) (.bin .gtr) (.cons (.inp 0) (.cons (.cst (.int .i64 64)) .nil)) (.isb none (.bv 0) (.done [] (some (.ite (.bv 0) true (.cst (.bool true)) (.op (.bin .gtr) (.cons (.inp 0) (.cons (.cst (.int .i64 64)) .nil)))))))))) h21_1 .skip) h21_0)
@[simp] theorem h21_2_wp {P : Program} {F : PF P} {Q : EX → List Value → World → Prop} {env : List Value} {w : World} : h21_2.wp F Q env w = HC.wp F (.seq (.br (.chk none (.bin .lss) (.cons (.inp 0) (.cons (.cst (.int .i64 1)) .nil)) (.bnd (.op (.bin .lss) (.cons (.inp 0) (.cons (.cst (.int .i64 1)) .nil))) (.chk (some ((.bv 0), false)) (.bin .gtr) (.cons (.inp 0) (.cons (.cst (.int .i64 64)) .nil)) (.isb none (.bv 0) (.done [] (some (.ite (.bv 0) true (.cst (.bool true)) (.op (.bin .gtr) (.cons (.inp 0) (.cons (.cst (.int .i64 64)) .nil)))))))))) h21_1 .skip) h21_0) Q env w := rfl
def l21 : Lifted := ⟨[0, 2, 3], 15, [.slot 1, .slot 2], (.seq (.reg (.done [(1, (.cst (.pointer none))), (2, (.cst (.int .i64 0)))] none)) h21_2)⟩
theorem l21_ok : liftFn U1 21 400 = some l21 := by kernel_rfl

-- (*bazaar/bazaarref14.Purse).there
def h85_0 : HC := (.seq (.reg (.chk none (.bin .geq) (.cons (.inp 1) (.cons (.cst (.int .i64 0)) .nil)) (.bnd (.op (.bin .geq) (.cons (.inp 1) (.cons (.cst (.int .i64 0)) .nil))) (.chk (some ((.bv 0), true)) .chkp (.cons (.inp 0) .nil) (.chk (some ((.bv 0), true)) (.fld 1) (.cons (.op .chkp (.cons (.inp 0) .nil)) .nil) (.ite (.bv 0) true (.eff (.ld false 1) (.cons (.ite (.bv 0) true (.op (.fld 1) (.cons (.op .chkp (.cons (.inp 0) .nil)) .nil)) (.cst (.tuple #[]))) .nil) (.chk none .lenL (.cons (.bv 1) .nil) (.chk none (.bin .lss) (.cons (.ite (.bv 0) true (.inp 1) (.cst (.tuple #[]))) (.cons (.op .lenL (.cons (.bv 1) .nil)) .nil)) (.isb none (.bv 0) (.done [(2, (.op (.bin .lss) (.cons (.ite (.bv 0) true (.inp 1) (.cst (.tuple #[]))) (.cons (.op .lenL (.cons (.bv 1) .nil)) .nil))))] none))))) (.isb none (.bv 0) (.done [(2, (.cst (.bool false)))] none)))))))) .ret)
@[simp] theorem h85_0_wp {P : Program} {F : PF P} {Q : EX → List Value → World → Prop} {env : List Value} {w : World} : h85_0.wp F Q env w = HC.wp F (.seq (.reg (.chk none (.bin .geq) (.cons (.inp 1) (.cons (.cst (.int .i64 0)) .nil)) (.bnd (.op (.bin .geq) (.cons (.inp 1) (.cons (.cst (.int .i64 0)) .nil))) (.chk (some ((.bv 0), true)) .chkp (.cons (.inp 0) .nil) (.chk (some ((.bv 0), true)) (.fld 1) (.cons (.op .chkp (.cons (.inp 0) .nil)) .nil) (.ite (.bv 0) true (.eff (.ld false 1) (.cons (.ite (.bv 0) true (.op (.fld 1) (.cons (.op .chkp (.cons (.inp 0) .nil)) .nil)) (.cst (.tuple #[]))) .nil) (.chk none .lenL (.cons (.bv 1) .nil) (.chk none (.bin .lss) (.cons (.ite (.bv 0) true (.inp 1) (.cst (.tuple #[]))) (.cons (.op .lenL (.cons (.bv 1) .nil)) .nil)) (.isb none (.bv 0) (.done [(2, (.op (.bin .lss) (.cons (.ite (.bv 0) true (.inp 1) (.cst (.tuple #[]))) (.cons (.op .lenL (.cons (.bv 1) .nil)) .nil))))] none))))) (.isb none (.bv 0) (.done [(2, (.cst (.bool false)))] none)))))))) .ret) Q env w := rfl
def l85 : Lifted := ⟨[0, 1, 4], 16, [.slot 2], (.seq (.reg (.done [(2, (.cst (.bool false)))] none)) h85_0)⟩
theorem l85_ok : liftFn U1 85 400 = some l85 := by kernel_rfl

-- (*bazaar/bazaarref14.Purse).Open
def h60_0 : HC := (.seq (.reg (.chk none .chkp (.cons (.inp 0) .nil) (.chk none (.fld 1) (.cons (.op .chkp (.cons (.inp 0) .nil)) .nil) (.eff (.ld false 1) (.cons (.op (.fld 1) (.cons (.op .chkp (.cons (.inp 0) .nil)) .nil)) .nil) (.chk none .lenL (.cons (.bv 0) .nil) (.chk none (.bin .sub) (.cons (.op .lenL (.cons (.bv 0) .nil)) (.cons (.cst (.int .i64 1)) .nil)) (.done [(2, (.op (.bin .sub) (.cons (.op .lenL (.cons (.bv 0) .nil)) (.cons (.cst (.int .i64 1)) .nil)))), (3, (.cst (.int .i64 0)))] none))))))) .ret)
@[simp] theorem h60_0_wp {P : Program} {F : PF P} {Q : EX → List Value → World → Prop} {env : List Value} {w : World} : h60_0.wp F Q env w = HC.wp F (.seq (.reg (.chk none .chkp (.cons (.inp 0) .nil) (.chk none (.fld 1) (.cons (.op .chkp (.cons (.inp 0) .nil)) .nil) (.eff (.ld false 1) (.cons (.op (.fld 1) (.cons (.op .chkp (.cons (.inp 0) .nil)) .nil)) .nil) (.chk none .lenL (.cons (.bv 0) .nil) (.chk none (.bin .sub) (.cons (.op .lenL (.cons (.bv 0) .nil)) (.cons (.cst (.int .i64 1)) .nil)) (.done [(2, (.op (.bin .sub) (.cons (.op .lenL (.cons (.bv 0) .nil)) (.cons (.cst (.int .i64 1)) .nil)))), (3, (.cst (.int .i64 0)))] none))))))) .ret) Q env w := rfl
def h60_1 : HC := (.seq (.reg (.chk none .chkp (.cons (.inp 0) .nil) (.chk none (.fld 1) (.cons (.op .chkp (.cons (.inp 0) .nil)) .nil) (.eff (.ld false 1) (.cons (.op (.fld 1) (.cons (.op .chkp (.cons (.inp 0) .nil)) .nil)) .nil) (.chk none (.build #[(.string ⟨#[]⟩), (.int .u64 0)] [(0, 1), (1, 1)] [0]) (.cons (.inp 1) .nil) (.eff (.bsl 66 1 2 #[(.string ⟨#[]⟩), (.int .u64 0)] [0]) (.cons (.op (.build #[(.string ⟨#[]⟩), (.int .u64 0)] [(0, 1), (1, 1)] [0]) (.cons (.inp 1) .nil)) .nil) (.eff (.app 39 39 66 2 24 (.agg #[(.string ⟨#[]⟩), (.int .u64 0)])) (.cons (.bv 0) (.cons (.bv 1) .nil)) (.chk none .chkp (.cons (.inp 0) .nil) (.chk none (.fld 1) (.cons (.op .chkp (.cons (.inp 0) .nil)) .nil) (.eff (.st 1) (.cons (.op (.fld 1) (.cons (.op .chkp (.cons (.inp 0) .nil)) .nil)) (.cons (.bv 2) .nil)) (.done [] none))))))))))) h60_0)
@[simp] theorem h60_1_wp {P : Program} {F : PF P} {Q : EX → List Value → World → Prop} {env : List Value} {w : World} : h60_1.wp F Q env w = HC.wp F (.seq (.reg (.chk none .chkp (.cons (.inp 0) .nil) (.chk none (.fld 1) (.cons (.op .chkp (.cons (.inp 0) .nil)) .nil) (.eff (.ld false 1) (.cons (.op (.fld 1) (.cons (.op .chkp (.cons (.inp 0) .nil)) .nil)) .nil) (.chk none (.build #[(.string ⟨#[]⟩), (.int .u64 0)] [(0, 1), (1, 1)] [0]) (.cons (.inp 1) .nil) (.eff (.bsl 66 1 2 #[(.string ⟨#[]⟩), (.int .u64 0)] [0]) (.cons (.op (.build #[(.string ⟨#[]⟩), (.int .u64 0)] [(0, 1), (1, 1)] [0]) (.cons (.inp 1) .nil)) .nil) (.eff (.app 39 39 66 2 24 (.agg #[(.string ⟨#[]⟩), (.int .u64 0)])) (.cons (.bv 0) (.cons (.bv 1) .nil)) (.chk none .chkp (.cons (.inp 0) .nil) (.chk none (.fld 1) (.cons (.op .chkp (.cons (.inp 0) .nil)) .nil) (.eff (.st 1) (.cons (.op (.fld 1) (.cons (.op .chkp (.cons (.inp 0) .nil)) .nil)) (.cons (.bv 2) .nil)) (.done [] none))))))))))) h60_0) Q env w := rfl
def h60_2 : HC := (.seq (.reg (.done [(2, (.cst (.int .i64 0))), (3, (.cst (.int .i64 141)))] none)) .ret)
@[simp] theorem h60_2_wp {P : Program} {F : PF P} {Q : EX → List Value → World → Prop} {env : List Value} {w : World} : h60_2.wp F Q env w = HC.wp F (.seq (.reg (.done [(2, (.cst (.int .i64 0))), (3, (.cst (.int .i64 141)))] none)) .ret) Q env w := rfl
def h60_3 : HC := (.seq (.brq (some 0) (.chk none .chkp (.cons (.inp 0) .nil) (.chk none (.fld 1) (.cons (.op .chkp (.cons (.inp 0) .nil)) .nil) (.eff (.ld false 1) (.cons (.op (.fld 1) (.cons (.op .chkp (.cons (.inp 0) .nil)) .nil)) .nil) (.chk none .lenL (.cons (.bv 0) .nil) (.chk none .chkp (.cons (.inp 0) .nil) (.chk none (.fld 0) (.cons (.op .chkp (.cons (.inp 0) .nil)) .nil) (.eff (.ld false 1) (.cons (.op (.fld 0) (.cons (.op .chkp (.cons (.inp 0) .nil)) .nil)) .nil) (.chk none (.bin .eql) (.cons (.op .lenL (.cons (.bv 0) .nil)) (.cons (.bv 1) .nil)) (.done [] (some (.op (.bin .eql) (.cons (.op .lenL (.cons (.bv 0) .nil)) (.cons (.bv 1) .nil))))))))))))) h60_2 .skip) h60_1)
@[simp] theorem h60_3_wp {P : Program} {F : PF P} {Q : EX → List Value → World → Prop} {env : List Value} {w : World} : h60_3.wp F Q env w = HC.wp F (.seq (.brq (some 0) (.chk none .chkp (.cons (.inp 0) .nil) (.chk none (.fld 1) (.cons (.op .chkp (.cons (.inp 0) .nil)) .nil) (.eff (.ld false 1) (.cons (.op (.fld 1) (.cons (.op .chkp (.cons (.inp 0) .nil)) .nil)) .nil) (.chk none .lenL (.cons (.bv 0) .nil) (.chk none .chkp (.cons (.inp 0) .nil) (.chk none (.fld 0) (.cons (.op .chkp (.cons (.inp 0) .nil)) .nil) (.eff (.ld false 1) (.cons (.op (.fld 0) (.cons (.op .chkp (.cons (.inp 0) .nil)) .nil)) .nil) (.chk none (.bin .eql) (.cons (.op .lenL (.cons (.bv 0) .nil)) (.cons (.bv 1) .nil)) (.done [] (some (.op (.bin .eql) (.cons (.op .lenL (.cons (.bv 0) .nil)) (.cons (.bv 1) .nil))))))))))))) h60_2 .skip) h60_1) Q env w := rfl
def h60_4 : HC := (.seq (.reg (.done [(2, (.cst (.int .i64 0))), (3, (.cst (.int .i64 140)))] none)) .ret)
@[simp] theorem h60_4_wp {P : Program} {F : PF P} {Q : EX → List Value → World → Prop} {env : List Value} {w : World} : h60_4.wp F Q env w = HC.wp F (.seq (.reg (.done [(2, (.cst (.int .i64 0))), (3, (.cst (.int .i64 140)))] none)) .ret) Q env w := rfl
def h60_5 : HC := (.seq (.br (.done [] (some (.inp 5))) h60_4 .skip) h60_3)
@[simp] theorem h60_5_wp {P : Program} {F : PF P} {Q : EX → List Value → World → Prop} {env : List Value} {w : World} : h60_5.wp F Q env w = HC.wp F (.seq (.br (.done [] (some (.inp 5))) h60_4 .skip) h60_3) Q env w := rfl
def h60_6 : HC := (.seq (.reg (.eff (.call 68) (.cons (.inp 0) (.cons (.inp 1) .nil)) (.chk none (.ext 0) (.cons (.bv 0) .nil) (.chk none (.ext 1) (.cons (.bv 0) .nil) (.done [(5, (.op (.ext 1) (.cons (.bv 0) .nil)))] none))))) h60_5)
@[simp] theorem h60_6_wp {P : Program} {F : PF P} {Q : EX → List Value → World → Prop} {env : List Value} {w : World} : h60_6.wp F Q env w = HC.wp F (.seq (.reg (.eff (.call 68) (.cons (.inp 0) (.cons (.inp 1) .nil)) (.chk none (.ext 0) (.cons (.bv 0) .nil) (.chk none (.ext 1) (.cons (.bv 0) .nil) (.done [(5, (.op (.ext 1) (.cons (.bv 0) .nil)))] none))))) h60_5) Q env w := rfl
def h60_7 : HC := (.seq (.reg (.done [(2, (.cst (.int .i64 0))), (3, (.inp 4))] none)) .ret)
@[simp] theorem h60_7_wp {P : Program} {F : PF P} {Q : EX → List Value → World → Prop} {env : List Value} {w : World} : h60_7.wp F Q env w = HC.wp F (.seq (.reg (.done [(2, (.cst (.int .i64 0))), (3, (.inp 4))] none)) .ret) Q env w := rfl
def h60_8 : HC := (.seq (.br (.chk none (.bin .neq) (.cons (.inp 4) (.cons (.cst (.int .i64 0)) .nil)) (.done [] (some (.op (.bin .neq) (.cons (.inp 4) (.cons (.cst (.int .i64 0)) .nil)))))) h60_7 .skip) h60_6)
@[simp] theorem h60_8_wp {P : Program} {F : PF P} {Q : EX → List Value → World → Prop} {env : List Value} {w : World} : h60_8.wp F Q env w = HC.wp F (.seq (.br (.chk none (.bin .neq) (.cons (.inp 4) (.cons (.cst (.int .i64 0)) .nil)) (.done [] (some (.op (.bin .neq) (.cons (.inp 4) (.cons (.cst (.int .i64 0)) .nil)))))) h60_7 .skip) h60_6) Q env w := rfl
def h60_9 : HC := (.seq (.reg (.eff (.call 54) (.cons (.inp 1) .nil) (.chk none (.ext 0) (.cons (.bv 0) .nil) (.chk none (.ext 1) (.cons (.bv 0) .nil) (.done [(4, (.op (.ext 1) (.cons (.bv 0) .nil)))] none))))) h60_8)
@[simp] theorem h60_9_wp {P : Program} {F : PF P} {Q : EX → List Value → World → Prop} {env : List Value} {w : World} : h60_9.wp F Q env w = HC.wp F (.seq (.reg (.eff (.call 54) (.cons (.inp 1) .nil) (.chk none (.ext 0) (.cons (.bv 0) .nil) (.chk none (.ext 1) (.cons (.bv 0) .nil) (.done [(4, (.op (.ext 1) (.cons (.bv 0) .nil)))] none))))) h60_8) Q env w := rfl
def h60_10 : HC := (.seq (.reg (.done [(2, (.cst (.int .i64 0))), (3, (.cst (.int .i64 1)))] none)) .ret)
@[simp] theorem h60_10_wp {P : Program} {F : PF P} {Q : EX → List Value → World → Prop} {env : List Value} {w : World} : h60_10.wp F Q env w = HC.wp F (.seq (.reg (.done [(2, (.cst (.int .i64 0))), (3, (.cst (.int .i64 1)))] none)) .ret) Q env w := rfl
def h60_11 : HC := (.seq (.br (.chk none (.eqNil false (.pointer 90) (.pointer none)) (.cons (.inp 0) .nil) (.done [] (some (.op (.eqNil false (.pointer 90) (.pointer none)) (.cons (.inp 0) .nil))))) h60_10 .skip) h60_9)
@[simp] theorem h60_11_wp {P : Program} {F : PF P} {Q : EX → List Value → World → Prop} {env : List Value} {w : World} : h60_11.wp F Q env w = HC.wp F (.seq (.br (.chk none (.eqNil false (.pointer 90) (.pointer none)) (.cons (.inp 0) .nil) (.done [] (some (.op (.eqNil false (.pointer 90) (.pointer none)) (.cons (.inp 0) .nil))))) h60_10 .skip) h60_9) Q env w := rfl
def l60 : Lifted := ⟨[0, 1, 4, 5, 7, 9], 54, [.slot 2, .slot 3], (.seq (.reg (.done [(2, (.cst (.int .i64 0))), (3, (.cst (.int .i64 0)))] none)) h60_11)⟩
theorem l60_ok : liftFn U1 60 400 = some l60 := by kernel_rfl

-- (*bazaar/bazaarref14.Purse).Mint
def h61_0 : HC := (.seq (.reg (.done [(3, (.cst (.int .i64 0)))] none)) .ret)
@[simp] theorem h61_0_wp {P : Program} {F : PF P} {Q : EX → List Value → World → Prop} {env : List Value} {w : World} : h61_0.wp F Q env w = HC.wp F (.seq (.reg (.done [(3, (.cst (.int .i64 0)))] none)) .ret) Q env w := rfl
def h61_1 : HC := (.seq (.regq (some 1) (.chk none .chkp (.cons (.inp 0) .nil) (.chk none (.fld 1) (.cons (.op .chkp (.cons (.inp 0) .nil)) .nil) (.eff (.ld false 1) (.cons (.op (.fld 1) (.cons (.op .chkp (.cons (.inp 0) .nil)) .nil)) .nil) (.chk none .chkp (.cons (.inp 0) .nil) (.chk none (.fld 1) (.cons (.op .chkp (.cons (.inp 0) .nil)) .nil) (.eff (.ld false 1) (.cons (.op (.fld 1) (.cons (.op .chkp (.cons (.inp 0) .nil)) .nil)) .nil) (.chk none (.idxL 2) (.cons (.bv 1) (.cons (.inp 1) .nil)) (.chk none (.fld 1) (.cons (.op (.idxL 2) (.cons (.bv 1) (.cons (.inp 1) .nil))) .nil) (.eff (.ld false 1) (.cons (.op (.fld 1) (.cons (.op (.idxL 2) (.cons (.bv 1) (.cons (.inp 1) .nil))) .nil)) .nil) (.chk none (.bin .add) (.cons (.bv 2) (.cons (.inp 2) .nil)) (.chk none (.idxL 2) (.cons (.bv 0) (.cons (.inp 1) .nil)) (.chk none (.fld 1) (.cons (.op (.idxL 2) (.cons (.bv 0) (.cons (.inp 1) .nil))) .nil) (.eff (.st 1) (.cons (.op (.fld 1) (.cons (.op (.idxL 2) (.cons (.bv 0) (.cons (.inp 1) .nil))) .nil)) (.cons (.op (.bin .add) (.cons (.bv 2) (.cons (.inp 2) .nil))) .nil)) (.done [] none))))))))))))))) h61_0)
@[simp] theorem h61_1_wp {P : Program} {F : PF P} {Q : EX → List Value → World → Prop} {env : List Value} {w : World} : h61_1.wp F Q env w = HC.wp F (.seq (.regq (some 1) (.chk none .chkp (.cons (.inp 0) .nil) (.chk none (.fld 1) (.cons (.op .chkp (.cons (.inp 0) .nil)) .nil) (.eff (.ld false 1) (.cons (.op (.fld 1) (.cons (.op .chkp (.cons (.inp 0) .nil)) .nil)) .nil) (.chk none .chkp (.cons (.inp 0) .nil) (.chk none (.fld 1) (.cons (.op .chkp (.cons (.inp 0) .nil)) .nil) (.eff (.ld false 1) (.cons (.op (.fld 1) (.cons (.op .chkp (.cons (.inp 0) .nil)) .nil)) .nil) (.chk none (.idxL 2) (.cons (.bv 1) (.cons (.inp 1) .nil)) (.chk none (.fld 1) (.cons (.op (.idxL 2) (.cons (.bv 1) (.cons (.inp 1) .nil))) .nil) (.eff (.ld false 1) (.cons (.op (.fld 1) (.cons (.op (.idxL 2) (.cons (.bv 1) (.cons (.inp 1) .nil))) .nil)) .nil) (.chk none (.bin .add) (.cons (.bv 2) (.cons (.inp 2) .nil)) (.chk none (.idxL 2) (.cons (.bv 0) (.cons (.inp 1) .nil)) (.chk none (.fld 1) (.cons (.op (.idxL 2) (.cons (.bv 0) (.cons (.inp 1) .nil))) .nil) (.eff (.st 1) (.cons (.op (.fld 1) (.cons (.op (.idxL 2) (.cons (.bv 0) (.cons (.inp 1) .nil))) .nil)) (.cons (.op (.bin .add) (.cons (.bv 2) (.cons (.inp 2) .nil))) .nil)) (.done [] none))))))))))))))) h61_0) Q env w := rfl
def h61_2 : HC := (.seq (.reg (.chk none .chkp (.cons (.inp 0) .nil) (.chk none (.fld 2) (.cons (.op .chkp (.cons (.inp 0) .nil)) .nil) (.eff (.ld false 1) (.cons (.op (.fld 2) (.cons (.op .chkp (.cons (.inp 0) .nil)) .nil)) .nil) (.chk none (.bin .add) (.cons (.bv 0) (.cons (.inp 2) .nil)) (.chk none .chkp (.cons (.inp 0) .nil) (.chk none (.fld 2) (.cons (.op .chkp (.cons (.inp 0) .nil)) .nil) (.eff (.st 1) (.cons (.op (.fld 2) (.cons (.op .chkp (.cons (.inp 0) .nil)) .nil)) (.cons (.op (.bin .add) (.cons (.bv 0) (.cons (.inp 2) .nil))) .nil)) (.done [] none))))))))) h61_1)
@[simp] theorem h61_2_wp {P : Program} {F : PF P} {Q : EX → List Value → World → Prop} {env : List Value} {w : World} : h61_2.wp F Q env w = HC.wp F (.seq (.reg (.chk none .chkp (.cons (.inp 0) .nil) (.chk none (.fld 2) (.cons (.op .chkp (.cons (.inp 0) .nil)) .nil) (.eff (.ld false 1) (.cons (.op (.fld 2) (.cons (.op .chkp (.cons (.inp 0) .nil)) .nil)) .nil) (.chk none (.bin .add) (.cons (.bv 0) (.cons (.inp 2) .nil)) (.chk none .chkp (.cons (.inp 0) .nil) (.chk none (.fld 2) (.cons (.op .chkp (.cons (.inp 0) .nil)) .nil) (.eff (.st 1) (.cons (.op (.fld 2) (.cons (.op .chkp (.cons (.inp 0) .nil)) .nil)) (.cons (.op (.bin .add) (.cons (.bv 0) (.cons (.inp 2) .nil))) .nil)) (.done [] none))))))))) h61_1) Q env w := rfl
def h61_3 : HC := (.seq (.reg (.done [(3, (.cst (.int .i64 144)))] none)) .ret)
@[simp] theorem h61_3_wp {P : Program} {F : PF P} {Q : EX → List Value → World → Prop} {env : List Value} {w : World} : h61_3.wp F Q env w = HC.wp F (.seq (.reg (.done [(3, (.cst (.int .i64 144)))] none)) .ret) Q env w := rfl
def h61_4 : HC := (.seq (.br (.chk none (.bin .gtr) (.cons (.inp 2) (.cons (.cst (.int .u64 4611686018427387904)) .nil)) (.bnd (.op (.bin .gtr) (.cons (.inp 2) (.cons (.cst (.int .u64 4611686018427387904)) .nil))) (.chk (some ((.bv 0), false)) .chkp (.cons (.inp 0) .nil) (.chk (some ((.bv 0), false)) (.fld 2) (.cons (.op .chkp (.cons (.inp 0) .nil)) .nil) (.ite (.bv 0) false (.eff (.ld false 1) (.cons (.ite (.bv 0) false (.op (.fld 2) (.cons (.op .chkp (.cons (.inp 0) .nil)) .nil)) (.cst (.tuple #[]))) .nil) (.chk none (.bin .add) (.cons (.bv 1) (.cons (.inp 2) .nil)) (.chk none (.bin .gtr) (.cons (.op (.bin .add) (.cons (.bv 1) (.cons (.inp 2) .nil))) (.cons (.cst (.int .u64 4611686018427387904)) .nil)) (.isb none (.bv 0) (.done [] (some (.op (.bin .gtr) (.cons (.op (.bin .add) (.cons (.bv 1) (.cons (.inp 2) .nil))) (.cons (.cst (.int .u64 4611686018427387904)) .nil))))))))) (.isb none (.bv 0) (.done [] (some (.cst (.bool true)))))))))) h61_3 .skip) h61_2)
@[simp] theorem h61_4_wp {P : Program} {F : PF P} {Q : EX → List Value → World → Prop} {env : List Value} {w : World} : h61_4.wp F Q env w = HC.wp F (.seq (.br (.chk none (.bin .gtr) (.cons (.inp 2) (.cons (.cst (.int .u64 4611686018427387904)) .nil)) (.bnd (.op (.bin .gtr) (.cons (.inp 2) (.cons (.cst (.int .u64 4611686018427387904)) .nil))) (.chk (some ((.bv 0), false)) .chkp (.cons (.inp 0) .nil) (.chk (some ((.bv 0), false)) (.fld 2) (.cons (.op .chkp (.cons (.inp 0) .nil)) .nil) (.ite (.bv 0) false (.eff (.ld false 1) (.cons (.ite (.bv 0) false (.op (.fld 2) (.cons (.op .chkp (.cons (.inp 0) .nil)) .nil)) (.cst (.tuple #[]))) .nil) (.chk none (.bin .add) (.cons (.bv 1) (.cons (.inp 2) .nil)) (.chk none (.bin .gtr) (.cons (.op (.bin .add) (.cons (.bv 1) (.cons (.inp 2) .nil))) (.cons (.cst (.int .u64 4611686018427387904)) .nil)) (.isb none (.bv 0) (.done [] (some (.op (.bin .gtr) (.cons (.op (.bin .add) (.cons (.bv 1) (.cons (.inp 2) .nil))) (.cons (.cst (.int .u64 4611686018427387904)) .nil))))))))) (.isb none (.bv 0) (.done [] (some (.cst (.bool true)))))))))) h61_3 .skip) h61_2) Q env w := rfl
def h61_5 : HC := (.seq (.reg (.done [(3, (.cst (.int .i64 2)))] none)) .ret)
@[simp] theorem h61_5_wp {P : Program} {F : PF P} {Q : EX → List Value → World → Prop} {env : List Value} {w : World} : h61_5.wp F Q env w = HC.wp F (.seq (.reg (.done [(3, (.cst (.int .i64 2)))] none)) .ret) Q env w := rfl
def h61_6 : HC := (.seq (.br (.chk none (.bin .eql) (.cons (.inp 2) (.cons (.cst (.int .u64 0)) .nil)) (.done [] (some (.op (.bin .eql) (.cons (.inp 2) (.cons (.cst (.int .u64 0)) .nil)))))) h61_5 .skip) h61_4)
@[simp] theorem h61_6_wp {P : Program} {F : PF P} {Q : EX → List Value → World → Prop} {env : List Value} {w : World} : h61_6.wp F Q env w = HC.wp F (.seq (.br (.chk none (.bin .eql) (.cons (.inp 2) (.cons (.cst (.int .u64 0)) .nil)) (.done [] (some (.op (.bin .eql) (.cons (.inp 2) (.cons (.cst (.int .u64 0)) .nil)))))) h61_5 .skip) h61_4) Q env w := rfl
def h61_7 : HC := (.seq (.reg (.done [(3, (.cst (.int .i64 142)))] none)) .ret)
@[simp] theorem h61_7_wp {P : Program} {F : PF P} {Q : EX → List Value → World → Prop} {env : List Value} {w : World} : h61_7.wp F Q env w = HC.wp F (.seq (.reg (.done [(3, (.cst (.int .i64 142)))] none)) .ret) Q env w := rfl
def h61_8 : HC := (.seq (.br (.eff (.call 85) (.cons (.inp 0) (.cons (.inp 1) .nil)) (.chk none (.un .not) (.cons (.bv 0) .nil) (.done [] (some (.op (.un .not) (.cons (.bv 0) .nil)))))) h61_7 .skip) h61_6)
@[simp] theorem h61_8_wp {P : Program} {F : PF P} {Q : EX → List Value → World → Prop} {env : List Value} {w : World} : h61_8.wp F Q env w = HC.wp F (.seq (.br (.eff (.call 85) (.cons (.inp 0) (.cons (.inp 1) .nil)) (.chk none (.un .not) (.cons (.bv 0) .nil) (.done [] (some (.op (.un .not) (.cons (.bv 0) .nil)))))) h61_7 .skip) h61_6) Q env w := rfl
def h61_9 : HC := (.seq (.reg (.done [(3, (.cst (.int .i64 1)))] none)) .ret)
@[simp] theorem h61_9_wp {P : Program} {F : PF P} {Q : EX → List Value → World → Prop} {env : List Value} {w : World} : h61_9.wp F Q env w = HC.wp F (.seq (.reg (.done [(3, (.cst (.int .i64 1)))] none)) .ret) Q env w := rfl
def h61_10 : HC := (.seq (.br (.chk none (.eqNil false (.pointer 90) (.pointer none)) (.cons (.inp 0) .nil) (.done [] (some (.op (.eqNil false (.pointer 90) (.pointer none)) (.cons (.inp 0) .nil))))) h61_9 .skip) h61_8)
@[simp] theorem h61_10_wp {P : Program} {F : PF P} {Q : EX → List Value → World → Prop} {env : List Value} {w : World} : h61_10.wp F Q env w = HC.wp F (.seq (.br (.chk none (.eqNil false (.pointer 90) (.pointer none)) (.cons (.inp 0) .nil) (.done [] (some (.op (.eqNil false (.pointer 90) (.pointer none)) (.cons (.inp 0) .nil))))) h61_9 .skip) h61_8) Q env w := rfl
def l61 : Lifted := ⟨[0, 1, 2, 6], 52, [.slot 3], (.seq (.reg (.done [(3, (.cst (.int .i64 0)))] none)) h61_10)⟩
theorem l61_ok : liftFn U1 61 400 = some l61 := by kernel_rfl

-- (*bazaar/bazaarref14.Purse).Pay
def h63_0 : HC := (.seq (.reg (.done [(4, (.cst (.int .i64 0)))] none)) .ret)
@[simp] theorem h63_0_wp {P : Program} {F : PF P} {Q : EX → List Value → World → Prop} {env : List Value} {w : World} : h63_0.wp F Q env w = HC.wp F (.seq (.reg (.done [(4, (.cst (.int .i64 0)))] none)) .ret) Q env w := rfl
def h63_1 : HC := (.seq (.regq (some 1) (.chk none .chkp (.cons (.inp 0) .nil) (.chk none (.fld 1) (.cons (.op .chkp (.cons (.inp 0) .nil)) .nil) (.eff (.ld false 1) (.cons (.op (.fld 1) (.cons (.op .chkp (.cons (.inp 0) .nil)) .nil)) .nil) (.chk none .chkp (.cons (.inp 0) .nil) (.chk none (.fld 1) (.cons (.op .chkp (.cons (.inp 0) .nil)) .nil) (.eff (.ld false 1) (.cons (.op (.fld 1) (.cons (.op .chkp (.cons (.inp 0) .nil)) .nil)) .nil) (.chk none (.idxL 2) (.cons (.bv 1) (.cons (.inp 2) .nil)) (.chk none (.fld 1) (.cons (.op (.idxL 2) (.cons (.bv 1) (.cons (.inp 2) .nil))) .nil) (.eff (.ld false 1) (.cons (.op (.fld 1) (.cons (.op (.idxL 2) (.cons (.bv 1) (.cons (.inp 2) .nil))) .nil)) .nil) (.chk none (.bin .add) (.cons (.bv 2) (.cons (.inp 3) .nil)) (.chk none (.idxL 2) (.cons (.bv 0) (.cons (.inp 2) .nil)) (.chk none (.fld 1) (.cons (.op (.idxL 2) (.cons (.bv 0) (.cons (.inp 2) .nil))) .nil) (.eff (.st 1) (.cons (.op (.fld 1) (.cons (.op (.idxL 2) (.cons (.bv 0) (.cons (.inp 2) .nil))) .nil)) (.cons (.op (.bin .add) (.cons (.bv 2) (.cons (.inp 3) .nil))) .nil)) (.done [] none))))))))))))))) h63_0)
@[simp] theorem h63_1_wp {P : Program} {F : PF P} {Q : EX → List Value → World → Prop} {env : List Value} {w : World} : h63_1.wp F Q env w = HC.wp F (.seq (.regq (some 1) (.chk none .chkp (.cons (.inp 0) .nil) (.chk none (.fld 1) (.cons (.op .chkp (.cons (.inp 0) .nil)) .nil) (.eff (.ld false 1) (.cons (.op (.fld 1) (.cons (.op .chkp (.cons (.inp 0) .nil)) .nil)) .nil) (.chk none .chkp (.cons (.inp 0) .nil) (.chk none (.fld 1) (.cons (.op .chkp (.cons (.inp 0) .nil)) .nil) (.eff (.ld false 1) (.cons (.op (.fld 1) (.cons (.op .chkp (.cons (.inp 0) .nil)) .nil)) .nil) (.chk none (.idxL 2) (.cons (.bv 1) (.cons (.inp 2) .nil)) (.chk none (.fld 1) (.cons (.op (.idxL 2) (.cons (.bv 1) (.cons (.inp 2) .nil))) .nil) (.eff (.ld false 1) (.cons (.op (.fld 1) (.cons (.op (.idxL 2) (.cons (.bv 1) (.cons (.inp 2) .nil))) .nil)) .nil) (.chk none (.bin .add) (.cons (.bv 2) (.cons (.inp 3) .nil)) (.chk none (.idxL 2) (.cons (.bv 0) (.cons (.inp 2) .nil)) (.chk none (.fld 1) (.cons (.op (.idxL 2) (.cons (.bv 0) (.cons (.inp 2) .nil))) .nil) (.eff (.st 1) (.cons (.op (.fld 1) (.cons (.op (.idxL 2) (.cons (.bv 0) (.cons (.inp 2) .nil))) .nil)) (.cons (.op (.bin .add) (.cons (.bv 2) (.cons (.inp 3) .nil))) .nil)) (.done [] none))))))))))))))) h63_0) Q env w := rfl
def h63_2 : HC := (.seq (.regq (some 1) (.chk none .chkp (.cons (.inp 0) .nil) (.chk none (.fld 1) (.cons (.op .chkp (.cons (.inp 0) .nil)) .nil) (.eff (.ld false 1) (.cons (.op (.fld 1) (.cons (.op .chkp (.cons (.inp 0) .nil)) .nil)) .nil) (.chk none .chkp (.cons (.inp 0) .nil) (.chk none (.fld 1) (.cons (.op .chkp (.cons (.inp 0) .nil)) .nil) (.eff (.ld false 1) (.cons (.op (.fld 1) (.cons (.op .chkp (.cons (.inp 0) .nil)) .nil)) .nil) (.chk none (.idxL 2) (.cons (.bv 1) (.cons (.inp 1) .nil)) (.chk none (.fld 1) (.cons (.op (.idxL 2) (.cons (.bv 1) (.cons (.inp 1) .nil))) .nil) (.eff (.ld false 1) (.cons (.op (.fld 1) (.cons (.op (.idxL 2) (.cons (.bv 1) (.cons (.inp 1) .nil))) .nil)) .nil) (.chk none (.bin .sub) (.cons (.bv 2) (.cons (.inp 3) .nil)) (.chk none (.idxL 2) (.cons (.bv 0) (.cons (.inp 1) .nil)) (.chk none (.fld 1) (.cons (.op (.idxL 2) (.cons (.bv 0) (.cons (.inp 1) .nil))) .nil) (.eff (.st 1) (.cons (.op (.fld 1) (.cons (.op (.idxL 2) (.cons (.bv 0) (.cons (.inp 1) .nil))) .nil)) (.cons (.op (.bin .sub) (.cons (.bv 2) (.cons (.inp 3) .nil))) .nil)) (.done [] none))))))))))))))) h63_1)
@[simp] theorem h63_2_wp {P : Program} {F : PF P} {Q : EX → List Value → World → Prop} {env : List Value} {w : World} : h63_2.wp F Q env w = HC.wp F (.seq (.regq (some 1) (.chk none .chkp (.cons (.inp 0) .nil) (.chk none (.fld 1) (.cons (.op .chkp (.cons (.inp 0) .nil)) .nil) (.eff (.ld false 1) (.cons (.op (.fld 1) (.cons (.op .chkp (.cons (.inp 0) .nil)) .nil)) .nil) (.chk none .chkp (.cons (.inp 0) .nil) (.chk none (.fld 1) (.cons (.op .chkp (.cons (.inp 0) .nil)) .nil) (.eff (.ld false 1) (.cons (.op (.fld 1) (.cons (.op .chkp (.cons (.inp 0) .nil)) .nil)) .nil) (.chk none (.idxL 2) (.cons (.bv 1) (.cons (.inp 1) .nil)) (.chk none (.fld 1) (.cons (.op (.idxL 2) (.cons (.bv 1) (.cons (.inp 1) .nil))) .nil) (.eff (.ld false 1) (.cons (.op (.fld 1) (.cons (.op (.idxL 2) (.cons (.bv 1) (.cons (.inp 1) .nil))) .nil)) .nil) (.chk none (.bin .sub) (.cons (.bv 2) (.cons (.inp 3) .nil)) (.chk none (.idxL 2) (.cons (.bv 0) (.cons (.inp 1) .nil)) (.chk none (.fld 1) (.cons (.op (.idxL 2) (.cons (.bv 0) (.cons (.inp 1) .nil))) .nil) (.eff (.st 1) (.cons (.op (.fld 1) (.cons (.op (.idxL 2) (.cons (.bv 0) (.cons (.inp 1) .nil))) .nil)) (.cons (.op (.bin .sub) (.cons (.bv 2) (.cons (.inp 3) .nil))) .nil)) (.done [] none))))))))))))))) h63_1) Q env w := rfl
def h63_3 : HC := (.seq (.reg (.done [(4, (.cst (.int .i64 143)))] none)) .ret)
@[simp] theorem h63_3_wp {P : Program} {F : PF P} {Q : EX → List Value → World → Prop} {env : List Value} {w : World} : h63_3.wp F Q env w = HC.wp F (.seq (.reg (.done [(4, (.cst (.int .i64 143)))] none)) .ret) Q env w := rfl
def h63_4 : HC := (.seq (.br (.chk none .chkp (.cons (.inp 0) .nil) (.chk none (.fld 1) (.cons (.op .chkp (.cons (.inp 0) .nil)) .nil) (.eff (.ld false 1) (.cons (.op (.fld 1) (.cons (.op .chkp (.cons (.inp 0) .nil)) .nil)) .nil) (.chk none (.idxL 2) (.cons (.bv 0) (.cons (.inp 1) .nil)) (.chk none (.fld 1) (.cons (.op (.idxL 2) (.cons (.bv 0) (.cons (.inp 1) .nil))) .nil) (.eff (.ld false 1) (.cons (.op (.fld 1) (.cons (.op (.idxL 2) (.cons (.bv 0) (.cons (.inp 1) .nil))) .nil)) .nil) (.chk none (.bin .lss) (.cons (.bv 1) (.cons (.inp 3) .nil)) (.done [] (some (.op (.bin .lss) (.cons (.bv 1) (.cons (.inp 3) .nil)))))))))))) h63_3 .skip) h63_2)
@[simp] theorem h63_4_wp {P : Program} {F : PF P} {Q : EX → List Value → World → Prop} {env : List Value} {w : World} : h63_4.wp F Q env w = HC.wp F (.seq (.br (.chk none .chkp (.cons (.inp 0) .nil) (.chk none (.fld 1) (.cons (.op .chkp (.cons (.inp 0) .nil)) .nil) (.eff (.ld false 1) (.cons (.op (.fld 1) (.cons (.op .chkp (.cons (.inp 0) .nil)) .nil)) .nil) (.chk none (.idxL 2) (.cons (.bv 0) (.cons (.inp 1) .nil)) (.chk none (.fld 1) (.cons (.op (.idxL 2) (.cons (.bv 0) (.cons (.inp 1) .nil))) .nil) (.eff (.ld false 1) (.cons (.op (.fld 1) (.cons (.op (.idxL 2) (.cons (.bv 0) (.cons (.inp 1) .nil))) .nil)) .nil) (.chk none (.bin .lss) (.cons (.bv 1) (.cons (.inp 3) .nil)) (.done [] (some (.op (.bin .lss) (.cons (.bv 1) (.cons (.inp 3) .nil)))))))))))) h63_3 .skip) h63_2) Q env w := rfl
def h63_5 : HC := (.seq (.reg (.done [(4, (.cst (.int .i64 2)))] none)) .ret)
@[simp] theorem h63_5_wp {P : Program} {F : PF P} {Q : EX → List Value → World → Prop} {env : List Value} {w : World} : h63_5.wp F Q env w = HC.wp F (.seq (.reg (.done [(4, (.cst (.int .i64 2)))] none)) .ret) Q env w := rfl
def h63_6 : HC := (.seq (.br (.chk none (.bin .eql) (.cons (.inp 3) (.cons (.cst (.int .u64 0)) .nil)) (.done [] (some (.op (.bin .eql) (.cons (.inp 3) (.cons (.cst (.int .u64 0)) .nil)))))) h63_5 .skip) h63_4)
@[simp] theorem h63_6_wp {P : Program} {F : PF P} {Q : EX → List Value → World → Prop} {env : List Value} {w : World} : h63_6.wp F Q env w = HC.wp F (.seq (.br (.chk none (.bin .eql) (.cons (.inp 3) (.cons (.cst (.int .u64 0)) .nil)) (.done [] (some (.op (.bin .eql) (.cons (.inp 3) (.cons (.cst (.int .u64 0)) .nil)))))) h63_5 .skip) h63_4) Q env w := rfl
def h63_7 : HC := (.seq (.reg (.done [(4, (.cst (.int .i64 234)))] none)) .ret)
@[simp] theorem h63_7_wp {P : Program} {F : PF P} {Q : EX → List Value → World → Prop} {env : List Value} {w : World} : h63_7.wp F Q env w = HC.wp F (.seq (.reg (.done [(4, (.cst (.int .i64 234)))] none)) .ret) Q env w := rfl
def h63_8 : HC := (.seq (.br (.chk none (.bin .eql) (.cons (.inp 1) (.cons (.inp 2) .nil)) (.done [] (some (.op (.bin .eql) (.cons (.inp 1) (.cons (.inp 2) .nil)))))) h63_7 .skip) h63_6)
@[simp] theorem h63_8_wp {P : Program} {F : PF P} {Q : EX → List Value → World → Prop} {env : List Value} {w : World} : h63_8.wp F Q env w = HC.wp F (.seq (.br (.chk none (.bin .eql) (.cons (.inp 1) (.cons (.inp 2) .nil)) (.done [] (some (.op (.bin .eql) (.cons (.inp 1) (.cons (.inp 2) .nil)))))) h63_7 .skip) h63_6) Q env w := rfl
def h63_9 : HC := (.seq (.reg (.done [(4, (.cst (.int .i64 142)))] none)) .ret)
@[simp] theorem h63_9_wp {P : Program} {F : PF P} {Q : EX → List Value → World → Prop} {env : List Value} {w : World} : h63_9.wp F Q env w = HC.wp F (.seq (.reg (.done [(4, (.cst (.int .i64 142)))] none)) .ret) Q env w := rfl
def h63_10 : HC := (.seq (.br (.eff (.call 85) (.cons (.inp 0) (.cons (.inp 1) .nil)) (.chk none (.un .not) (.cons (.bv 0) .nil) (.bnd (.op (.un .not) (.cons (.bv 0) .nil)) (.ite (.bv 1) false (.eff (.call 85) (.cons (.ite (.bv 1) false (.inp 0) (.cst (.tuple #[]))) (.cons (.ite (.bv 1) false (.inp 2) (.cst (.tuple #[]))) .nil)) (.chk none (.un .not) (.cons (.bv 2) .nil) (.isb none (.bv 1) (.done [] (some (.op (.un .not) (.cons (.bv 2) .nil))))))) (.isb none (.bv 1) (.done [] (some (.cst (.bool true))))))))) h63_9 .skip) h63_8)
@[simp] theorem h63_10_wp {P : Program} {F : PF P} {Q : EX → List Value → World → Prop} {env : List Value} {w : World} : h63_10.wp F Q env w = HC.wp F (.seq (.br (.eff (.call 85) (.cons (.inp 0) (.cons (.inp 1) .nil)) (.chk none (.un .not) (.cons (.bv 0) .nil) (.bnd (.op (.un .not) (.cons (.bv 0) .nil)) (.ite (.bv 1) false (.eff (.call 85) (.cons (.ite (.bv 1) false (.inp 0) (.cst (.tuple #[]))) (.cons (.ite (.bv 1) false (.inp 2) (.cst (.tuple #[]))) .nil)) (.chk none (.un .not) (.cons (.bv 2) .nil) (.isb none (.bv 1) (.done [] (some (.op (.un .not) (.cons (.bv 2) .nil))))))) (.isb none (.bv 1) (.done [] (some (.cst (.bool true))))))))) h63_9 .skip) h63_8) Q env w := rfl
def h63_11 : HC := (.seq (.reg (.done [(4, (.cst (.int .i64 1)))] none)) .ret)
@[simp] theorem h63_11_wp {P : Program} {F : PF P} {Q : EX → List Value → World → Prop} {env : List Value} {w : World} : h63_11.wp F Q env w = HC.wp F (.seq (.reg (.done [(4, (.cst (.int .i64 1)))] none)) .ret) Q env w := rfl
def h63_12 : HC := (.seq (.br (.chk none (.eqNil false (.pointer 90) (.pointer none)) (.cons (.inp 0) .nil) (.done [] (some (.op (.eqNil false (.pointer 90) (.pointer none)) (.cons (.inp 0) .nil))))) h63_11 .skip) h63_10)
@[simp] theorem h63_12_wp {P : Program} {F : PF P} {Q : EX → List Value → World → Prop} {env : List Value} {w : World} : h63_12.wp F Q env w = HC.wp F (.seq (.br (.chk none (.eqNil false (.pointer 90) (.pointer none)) (.cons (.inp 0) .nil) (.done [] (some (.op (.eqNil false (.pointer 90) (.pointer none)) (.cons (.inp 0) .nil))))) h63_11 .skip) h63_10) Q env w := rfl
def l63 : Lifted := ⟨[0, 1, 2, 3, 8], 70, [.slot 4], (.seq (.reg (.done [(4, (.cst (.int .i64 0)))] none)) h63_12)⟩
theorem l63_ok : liftFn U1 63 400 = some l63 := by kernel_rfl

-- (*bazaar/bazaarref14.Purse).Take
def h65_0 : HC := (.seq (.reg (.done [(3, (.cst (.int .i64 0)))] none)) .ret)
@[simp] theorem h65_0_wp {P : Program} {F : PF P} {Q : EX → List Value → World → Prop} {env : List Value} {w : World} : h65_0.wp F Q env w = HC.wp F (.seq (.reg (.done [(3, (.cst (.int .i64 0)))] none)) .ret) Q env w := rfl
def h65_1 : HC := (.seq (.regq (some 1) (.chk none .chkp (.cons (.inp 0) .nil) (.chk none (.fld 1) (.cons (.op .chkp (.cons (.inp 0) .nil)) .nil) (.eff (.ld false 1) (.cons (.op (.fld 1) (.cons (.op .chkp (.cons (.inp 0) .nil)) .nil)) .nil) (.chk none .chkp (.cons (.inp 0) .nil) (.chk none (.fld 1) (.cons (.op .chkp (.cons (.inp 0) .nil)) .nil) (.eff (.ld false 1) (.cons (.op (.fld 1) (.cons (.op .chkp (.cons (.inp 0) .nil)) .nil)) .nil) (.chk none (.idxL 2) (.cons (.bv 1) (.cons (.inp 1) .nil)) (.chk none (.fld 1) (.cons (.op (.idxL 2) (.cons (.bv 1) (.cons (.inp 1) .nil))) .nil) (.eff (.ld false 1) (.cons (.op (.fld 1) (.cons (.op (.idxL 2) (.cons (.bv 1) (.cons (.inp 1) .nil))) .nil)) .nil) (.chk none (.bin .sub) (.cons (.bv 2) (.cons (.inp 2) .nil)) (.chk none (.idxL 2) (.cons (.bv 0) (.cons (.inp 1) .nil)) (.chk none (.fld 1) (.cons (.op (.idxL 2) (.cons (.bv 0) (.cons (.inp 1) .nil))) .nil) (.eff (.st 1) (.cons (.op (.fld 1) (.cons (.op (.idxL 2) (.cons (.bv 0) (.cons (.inp 1) .nil))) .nil)) (.cons (.op (.bin .sub) (.cons (.bv 2) (.cons (.inp 2) .nil))) .nil)) (.done [] none))))))))))))))) h65_0)
@[simp] theorem h65_1_wp {P : Program} {F : PF P} {Q : EX → List Value → World → Prop} {env : List Value} {w : World} : h65_1.wp F Q env w = HC.wp F (.seq (.regq (some 1) (.chk none .chkp (.cons (.inp 0) .nil) (.chk none (.fld 1) (.cons (.op .chkp (.cons (.inp 0) .nil)) .nil) (.eff (.ld false 1) (.cons (.op (.fld 1) (.cons (.op .chkp (.cons (.inp 0) .nil)) .nil)) .nil) (.chk none .chkp (.cons (.inp 0) .nil) (.chk none (.fld 1) (.cons (.op .chkp (.cons (.inp 0) .nil)) .nil) (.eff (.ld false 1) (.cons (.op (.fld 1) (.cons (.op .chkp (.cons (.inp 0) .nil)) .nil)) .nil) (.chk none (.idxL 2) (.cons (.bv 1) (.cons (.inp 1) .nil)) (.chk none (.fld 1) (.cons (.op (.idxL 2) (.cons (.bv 1) (.cons (.inp 1) .nil))) .nil) (.eff (.ld false 1) (.cons (.op (.fld 1) (.cons (.op (.idxL 2) (.cons (.bv 1) (.cons (.inp 1) .nil))) .nil)) .nil) (.chk none (.bin .sub) (.cons (.bv 2) (.cons (.inp 2) .nil)) (.chk none (.idxL 2) (.cons (.bv 0) (.cons (.inp 1) .nil)) (.chk none (.fld 1) (.cons (.op (.idxL 2) (.cons (.bv 0) (.cons (.inp 1) .nil))) .nil) (.eff (.st 1) (.cons (.op (.fld 1) (.cons (.op (.idxL 2) (.cons (.bv 0) (.cons (.inp 1) .nil))) .nil)) (.cons (.op (.bin .sub) (.cons (.bv 2) (.cons (.inp 2) .nil))) .nil)) (.done [] none))))))))))))))) h65_0) Q env w := rfl
def h65_2 : HC := (.seq (.reg (.done [(3, (.cst (.int .i64 143)))] none)) .ret)
@[simp] theorem h65_2_wp {P : Program} {F : PF P} {Q : EX → List Value → World → Prop} {env : List Value} {w : World} : h65_2.wp F Q env w = HC.wp F (.seq (.reg (.done [(3, (.cst (.int .i64 143)))] none)) .ret) Q env w := rfl
def h65_3 : HC := (.seq (.br (.chk none .chkp (.cons (.inp 0) .nil) (.chk none (.fld 1) (.cons (.op .chkp (.cons (.inp 0) .nil)) .nil) (.eff (.ld false 1) (.cons (.op (.fld 1) (.cons (.op .chkp (.cons (.inp 0) .nil)) .nil)) .nil) (.chk none (.idxL 2) (.cons (.bv 0) (.cons (.inp 1) .nil)) (.chk none (.fld 1) (.cons (.op (.idxL 2) (.cons (.bv 0) (.cons (.inp 1) .nil))) .nil) (.eff (.ld false 1) (.cons (.op (.fld 1) (.cons (.op (.idxL 2) (.cons (.bv 0) (.cons (.inp 1) .nil))) .nil)) .nil) (.chk none (.bin .lss) (.cons (.bv 1) (.cons (.inp 2) .nil)) (.done [] (some (.op (.bin .lss) (.cons (.bv 1) (.cons (.inp 2) .nil)))))))))))) h65_2 .skip) h65_1)
@[simp] theorem h65_3_wp {P : Program} {F : PF P} {Q : EX → List Value → World → Prop} {env : List Value} {w : World} : h65_3.wp F Q env w = HC.wp F (.seq (.br (.chk none .chkp (.cons (.inp 0) .nil) (.chk none (.fld 1) (.cons (.op .chkp (.cons (.inp 0) .nil)) .nil) (.eff (.ld false 1) (.cons (.op (.fld 1) (.cons (.op .chkp (.cons (.inp 0) .nil)) .nil)) .nil) (.chk none (.idxL 2) (.cons (.bv 0) (.cons (.inp 1) .nil)) (.chk none (.fld 1) (.cons (.op (.idxL 2) (.cons (.bv 0) (.cons (.inp 1) .nil))) .nil) (.eff (.ld false 1) (.cons (.op (.fld 1) (.cons (.op (.idxL 2) (.cons (.bv 0) (.cons (.inp 1) .nil))) .nil)) .nil) (.chk none (.bin .lss) (.cons (.bv 1) (.cons (.inp 2) .nil)) (.done [] (some (.op (.bin .lss) (.cons (.bv 1) (.cons (.inp 2) .nil)))))))))))) h65_2 .skip) h65_1) Q env w := rfl
def h65_4 : HC := (.seq (.reg (.done [(3, (.cst (.int .i64 142)))] none)) .ret)
@[simp] theorem h65_4_wp {P : Program} {F : PF P} {Q : EX → List Value → World → Prop} {env : List Value} {w : World} : h65_4.wp F Q env w = HC.wp F (.seq (.reg (.done [(3, (.cst (.int .i64 142)))] none)) .ret) Q env w := rfl
def h65_5 : HC := (.seq (.br (.eff (.call 85) (.cons (.inp 0) (.cons (.inp 1) .nil)) (.chk none (.un .not) (.cons (.bv 0) .nil) (.done [] (some (.op (.un .not) (.cons (.bv 0) .nil)))))) h65_4 .skip) h65_3)
@[simp] theorem h65_5_wp {P : Program} {F : PF P} {Q : EX → List Value → World → Prop} {env : List Value} {w : World} : h65_5.wp F Q env w = HC.wp F (.seq (.br (.eff (.call 85) (.cons (.inp 0) (.cons (.inp 1) .nil)) (.chk none (.un .not) (.cons (.bv 0) .nil) (.done [] (some (.op (.un .not) (.cons (.bv 0) .nil)))))) h65_4 .skip) h65_3) Q env w := rfl
def h65_6 : HC := (.seq (.reg (.done [(3, (.cst (.int .i64 1)))] none)) .ret)
@[simp] theorem h65_6_wp {P : Program} {F : PF P} {Q : EX → List Value → World → Prop} {env : List Value} {w : World} : h65_6.wp F Q env w = HC.wp F (.seq (.reg (.done [(3, (.cst (.int .i64 1)))] none)) .ret) Q env w := rfl
def h65_7 : HC := (.seq (.br (.chk none (.eqNil false (.pointer 90) (.pointer none)) (.cons (.inp 0) .nil) (.done [] (some (.op (.eqNil false (.pointer 90) (.pointer none)) (.cons (.inp 0) .nil))))) h65_6 .skip) h65_5)
@[simp] theorem h65_7_wp {P : Program} {F : PF P} {Q : EX → List Value → World → Prop} {env : List Value} {w : World} : h65_7.wp F Q env w = HC.wp F (.seq (.br (.chk none (.eqNil false (.pointer 90) (.pointer none)) (.cons (.inp 0) .nil) (.done [] (some (.op (.eqNil false (.pointer 90) (.pointer none)) (.cons (.inp 0) .nil))))) h65_6 .skip) h65_5) Q env w := rfl
def l65 : Lifted := ⟨[0, 1, 2, 6], 40, [.slot 3], (.seq (.reg (.done [(3, (.cst (.int .i64 0)))] none)) h65_7)⟩
theorem l65_ok : liftFn U1 65 400 = some l65 := by kernel_rfl

-- (*bazaar/bazaarref14.Purse).Put
def h66_0 : HC := (.seq (.reg (.done [(3, (.cst (.int .i64 0)))] none)) .ret)
@[simp] theorem h66_0_wp {P : Program} {F : PF P} {Q : EX → List Value → World → Prop} {env : List Value} {w : World} : h66_0.wp F Q env w = HC.wp F (.seq (.reg (.done [(3, (.cst (.int .i64 0)))] none)) .ret) Q env w := rfl
def h66_1 : HC := (.seq (.regq (some 1) (.chk none .chkp (.cons (.inp 0) .nil) (.chk none (.fld 1) (.cons (.op .chkp (.cons (.inp 0) .nil)) .nil) (.eff (.ld false 1) (.cons (.op (.fld 1) (.cons (.op .chkp (.cons (.inp 0) .nil)) .nil)) .nil) (.chk none .chkp (.cons (.inp 0) .nil) (.chk none (.fld 1) (.cons (.op .chkp (.cons (.inp 0) .nil)) .nil) (.eff (.ld false 1) (.cons (.op (.fld 1) (.cons (.op .chkp (.cons (.inp 0) .nil)) .nil)) .nil) (.chk none (.idxL 2) (.cons (.bv 1) (.cons (.inp 1) .nil)) (.chk none (.fld 1) (.cons (.op (.idxL 2) (.cons (.bv 1) (.cons (.inp 1) .nil))) .nil) (.eff (.ld false 1) (.cons (.op (.fld 1) (.cons (.op (.idxL 2) (.cons (.bv 1) (.cons (.inp 1) .nil))) .nil)) .nil) (.chk none (.bin .add) (.cons (.bv 2) (.cons (.inp 2) .nil)) (.chk none (.idxL 2) (.cons (.bv 0) (.cons (.inp 1) .nil)) (.chk none (.fld 1) (.cons (.op (.idxL 2) (.cons (.bv 0) (.cons (.inp 1) .nil))) .nil) (.eff (.st 1) (.cons (.op (.fld 1) (.cons (.op (.idxL 2) (.cons (.bv 0) (.cons (.inp 1) .nil))) .nil)) (.cons (.op (.bin .add) (.cons (.bv 2) (.cons (.inp 2) .nil))) .nil)) (.done [] none))))))))))))))) h66_0)
@[simp] theorem h66_1_wp {P : Program} {F : PF P} {Q : EX → List Value → World → Prop} {env : List Value} {w : World} : h66_1.wp F Q env w = HC.wp F (.seq (.regq (some 1) (.chk none .chkp (.cons (.inp 0) .nil) (.chk none (.fld 1) (.cons (.op .chkp (.cons (.inp 0) .nil)) .nil) (.eff (.ld false 1) (.cons (.op (.fld 1) (.cons (.op .chkp (.cons (.inp 0) .nil)) .nil)) .nil) (.chk none .chkp (.cons (.inp 0) .nil) (.chk none (.fld 1) (.cons (.op .chkp (.cons (.inp 0) .nil)) .nil) (.eff (.ld false 1) (.cons (.op (.fld 1) (.cons (.op .chkp (.cons (.inp 0) .nil)) .nil)) .nil) (.chk none (.idxL 2) (.cons (.bv 1) (.cons (.inp 1) .nil)) (.chk none (.fld 1) (.cons (.op (.idxL 2) (.cons (.bv 1) (.cons (.inp 1) .nil))) .nil) (.eff (.ld false 1) (.cons (.op (.fld 1) (.cons (.op (.idxL 2) (.cons (.bv 1) (.cons (.inp 1) .nil))) .nil)) .nil) (.chk none (.bin .add) (.cons (.bv 2) (.cons (.inp 2) .nil)) (.chk none (.idxL 2) (.cons (.bv 0) (.cons (.inp 1) .nil)) (.chk none (.fld 1) (.cons (.op (.idxL 2) (.cons (.bv 0) (.cons (.inp 1) .nil))) .nil) (.eff (.st 1) (.cons (.op (.fld 1) (.cons (.op (.idxL 2) (.cons (.bv 0) (.cons (.inp 1) .nil))) .nil)) (.cons (.op (.bin .add) (.cons (.bv 2) (.cons (.inp 2) .nil))) .nil)) (.done [] none))))))))))))))) h66_0) Q env w := rfl
def h66_2 : HC := (.seq (.reg (.done [(3, (.cst (.int .i64 143)))] none)) .ret)
@[simp] theorem h66_2_wp {P : Program} {F : PF P} {Q : EX → List Value → World → Prop} {env : List Value} {w : World} : h66_2.wp F Q env w = HC.wp F (.seq (.reg (.done [(3, (.cst (.int .i64 143)))] none)) .ret) Q env w := rfl
def h66_3 : HC := (.seq (.br (.eff (.call 72) (.cons (.inp 0) .nil) (.chk none (.bin .lss) (.cons (.bv 0) (.cons (.inp 2) .nil)) (.done [] (some (.op (.bin .lss) (.cons (.bv 0) (.cons (.inp 2) .nil))))))) h66_2 .skip) h66_1)
@[simp] theorem h66_3_wp {P : Program} {F : PF P} {Q : EX → List Value → World → Prop} {env : List Value} {w : World} : h66_3.wp F Q env w = HC.wp F (.seq (.br (.eff (.call 72) (.cons (.inp 0) .nil) (.chk none (.bin .lss) (.cons (.bv 0) (.cons (.inp 2) .nil)) (.done [] (some (.op (.bin .lss) (.cons (.bv 0) (.cons (.inp 2) .nil))))))) h66_2 .skip) h66_1) Q env w := rfl
def h66_4 : HC := (.seq (.reg (.done [(3, (.cst (.int .i64 142)))] none)) .ret)
@[simp] theorem h66_4_wp {P : Program} {F : PF P} {Q : EX → List Value → World → Prop} {env : List Value} {w : World} : h66_4.wp F Q env w = HC.wp F (.seq (.reg (.done [(3, (.cst (.int .i64 142)))] none)) .ret) Q env w := rfl
def h66_5 : HC := (.seq (.br (.eff (.call 85) (.cons (.inp 0) (.cons (.inp 1) .nil)) (.chk none (.un .not) (.cons (.bv 0) .nil) (.done [] (some (.op (.un .not) (.cons (.bv 0) .nil)))))) h66_4 .skip) h66_3)
@[simp] theorem h66_5_wp {P : Program} {F : PF P} {Q : EX → List Value → World → Prop} {env : List Value} {w : World} : h66_5.wp F Q env w = HC.wp F (.seq (.br (.eff (.call 85) (.cons (.inp 0) (.cons (.inp 1) .nil)) (.chk none (.un .not) (.cons (.bv 0) .nil) (.done [] (some (.op (.un .not) (.cons (.bv 0) .nil)))))) h66_4 .skip) h66_3) Q env w := rfl
def h66_6 : HC := (.seq (.reg (.done [(3, (.cst (.int .i64 1)))] none)) .ret)
@[simp] theorem h66_6_wp {P : Program} {F : PF P} {Q : EX → List Value → World → Prop} {env : List Value} {w : World} : h66_6.wp F Q env w = HC.wp F (.seq (.reg (.done [(3, (.cst (.int .i64 1)))] none)) .ret) Q env w := rfl
def h66_7 : HC := (.seq (.br (.chk none (.eqNil false (.pointer 90) (.pointer none)) (.cons (.inp 0) .nil) (.done [] (some (.op (.eqNil false (.pointer 90) (.pointer none)) (.cons (.inp 0) .nil))))) h66_6 .skip) h66_5)
@[simp] theorem h66_7_wp {P : Program} {F : PF P} {Q : EX → List Value → World → Prop} {env : List Value} {w : World} : h66_7.wp F Q env w = HC.wp F (.seq (.br (.chk none (.eqNil false (.pointer 90) (.pointer none)) (.cons (.inp 0) .nil) (.done [] (some (.op (.eqNil false (.pointer 90) (.pointer none)) (.cons (.inp 0) .nil))))) h66_6 .skip) h66_5) Q env w := rfl
def l66 : Lifted := ⟨[0, 1, 2, 6], 34, [.slot 3], (.seq (.reg (.done [(3, (.cst (.int .i64 0)))] none)) h66_7)⟩
theorem l66_ok : liftFn U1 66 400 = some l66 := by kernel_rfl

-- (*bazaar/bazaarref14.Purse).Get
def h67_0 : HC := (.seq (.reg (.chk none .chkp (.cons (.inp 0) .nil) (.chk none (.fld 1) (.cons (.op .chkp (.cons (.inp 0) .nil)) .nil) (.eff (.ld false 1) (.cons (.op (.fld 1) (.cons (.op .chkp (.cons (.inp 0) .nil)) .nil)) .nil) (.chk none (.idxL 2) (.cons (.bv 0) (.cons (.inp 1) .nil)) (.eff (.ld true 2) (.cons (.op (.idxL 2) (.cons (.bv 0) (.cons (.inp 1) .nil))) .nil) (.eff (.st 2) (.cons (.inp 2) (.cons (.bv 1) .nil)) (.done [(3, (.cst (.int .i64 0)))] none)))))))) .ret)
@[simp] theorem h67_0_wp {P : Program} {F : PF P} {Q : EX → List Value → World → Prop} {env : List Value} {w : World} : h67_0.wp F Q env w = HC.wp F (.seq (.reg (.chk none .chkp (.cons (.inp 0) .nil) (.chk none (.fld 1) (.cons (.op .chkp (.cons (.inp 0) .nil)) .nil) (.eff (.ld false 1) (.cons (.op (.fld 1) (.cons (.op .chkp (.cons (.inp 0) .nil)) .nil)) .nil) (.chk none (.idxL 2) (.cons (.bv 0) (.cons (.inp 1) .nil)) (.eff (.ld true 2) (.cons (.op (.idxL 2) (.cons (.bv 0) (.cons (.inp 1) .nil))) .nil) (.eff (.st 2) (.cons (.inp 2) (.cons (.bv 1) .nil)) (.done [(3, (.cst (.int .i64 0)))] none)))))))) .ret) Q env w := rfl
def h67_1 : HC := (.seq (.reg (.chk none (.build #[(.string ⟨#[]⟩), (.int .u64 0)] [(0, 1), (1, 1)] []) .nil (.eff (.st 2) (.cons (.inp 2) (.cons (.op (.build #[(.string ⟨#[]⟩), (.int .u64 0)] [(0, 1), (1, 1)] []) .nil) .nil)) (.done [(3, (.cst (.int .i64 142)))] none)))) .ret)
@[simp] theorem h67_1_wp {P : Program} {F : PF P} {Q : EX → List Value → World → Prop} {env : List Value} {w : World} : h67_1.wp F Q env w = HC.wp F (.seq (.reg (.chk none (.build #[(.string ⟨#[]⟩), (.int .u64 0)] [(0, 1), (1, 1)] []) .nil (.eff (.st 2) (.cons (.inp 2) (.cons (.op (.build #[(.string ⟨#[]⟩), (.int .u64 0)] [(0, 1), (1, 1)] []) .nil) .nil)) (.done [(3, (.cst (.int .i64 142)))] none)))) .ret) Q env w := rfl
def h67_2 : HC := (.seq (.br (.eff (.call 85) (.cons (.inp 0) (.cons (.inp 1) .nil)) (.chk none (.un .not) (.cons (.bv 0) .nil) (.done [] (some (.op (.un .not) (.cons (.bv 0) .nil)))))) h67_1 .skip) h67_0)
@[simp] theorem h67_2_wp {P : Program} {F : PF P} {Q : EX → List Value → World → Prop} {env : List Value} {w : World} : h67_2.wp F Q env w = HC.wp F (.seq (.br (.eff (.call 85) (.cons (.inp 0) (.cons (.inp 1) .nil)) (.chk none (.un .not) (.cons (.bv 0) .nil) (.done [] (some (.op (.un .not) (.cons (.bv 0) .nil)))))) h67_1 .skip) h67_0) Q env w := rfl
def h67_3 : HC := (.seq (.reg (.chk none (.build #[(.string ⟨#[]⟩), (.int .u64 0)] [(0, 1), (1, 1)] []) .nil (.eff (.st 2) (.cons (.inp 2) (.cons (.op (.build #[(.string ⟨#[]⟩), (.int .u64 0)] [(0, 1), (1, 1)] []) .nil) .nil)) (.done [(3, (.cst (.int .i64 1)))] none)))) .ret)
@[simp] theorem h67_3_wp {P : Program} {F : PF P} {Q : EX → List Value → World → Prop} {env : List Value} {w : World} : h67_3.wp F Q env w = HC.wp F (.seq (.reg (.chk none (.build #[(.string ⟨#[]⟩), (.int .u64 0)] [(0, 1), (1, 1)] []) .nil (.eff (.st 2) (.cons (.inp 2) (.cons (.op (.build #[(.string ⟨#[]⟩), (.int .u64 0)] [(0, 1), (1, 1)] []) .nil) .nil)) (.done [(3, (.cst (.int .i64 1)))] none)))) .ret) Q env w := rfl
def h67_4 : HC := (.seq (.br (.chk none (.eqNil false (.pointer 90) (.pointer none)) (.cons (.inp 0) .nil) (.done [] (some (.op (.eqNil false (.pointer 90) (.pointer none)) (.cons (.inp 0) .nil))))) h67_3 .skip) h67_2)
@[simp] theorem h67_4_wp {P : Program} {F : PF P} {Q : EX → List Value → World → Prop} {env : List Value} {w : World} : h67_4.wp F Q env w = HC.wp F (.seq (.br (.chk none (.eqNil false (.pointer 90) (.pointer none)) (.cons (.inp 0) .nil) (.done [] (some (.op (.eqNil false (.pointer 90) (.pointer none)) (.cons (.inp 0) .nil))))) h67_3 .skip) h67_2) Q env w := rfl
def l67 : Lifted := ⟨[0, 1, 4, 5], 21, [.cell 2 true 2, .slot 3], (.seq (.reg (.eff (.new 66 (.agg #[(.string ⟨#[]⟩), (.int .u64 0)])) .nil (.done [(2, (.bv 0)), (3, (.cst (.int .i64 0)))] none))) h67_4)⟩
theorem l67_ok : liftFn U1 67 400 = some l67 := by kernel_rfl

-- (*bazaar/bazaarref14.Purse).Near
def h69_0 : HC := (.seq (.reg (.done [(2, (.inp 3))] none)) .ret)
@[simp] theorem h69_0_wp {P : Program} {F : PF P} {Q : EX → List Value → World → Prop} {env : List Value} {w : World} : h69_0.wp F Q env w = HC.wp F (.seq (.reg (.done [(2, (.inp 3))] none)) .ret) Q env w := rfl
def h69_1 : HC := (.reg (.chk none (.bin .add) (.cons (.inp 4) (.cons (.cst (.int .i64 1)) .nil)) (.done [(4, (.op (.bin .add) (.cons (.inp 4) (.cons (.cst (.int .i64 1)) .nil))))] none)))
@[simp] theorem h69_1_wp {P : Program} {F : PF P} {Q : EX → List Value → World → Prop} {env : List Value} {w : World} : h69_1.wp F Q env w = HC.wp F (.reg (.chk none (.bin .add) (.cons (.inp 4) (.cons (.cst (.int .i64 1)) .nil)) (.done [(4, (.op (.bin .add) (.cons (.inp 4) (.cons (.cst (.int .i64 1)) .nil))))] none))) Q env w := rfl
def h69_2 : HC := (.reg (.eff (.bsl 3 1 1 #[(.int .i64 0)] [0]) (.cons (.inp 4) .nil) (.eff (.app 35 35 3 1 8 (.int .i64 0)) (.cons (.inp 3) (.cons (.bv 0) .nil)) (.done [(3, (.bv 1))] none))))
@[simp] theorem h69_2_wp {P : Program} {F : PF P} {Q : EX → List Value → World → Prop} {env : List Value} {w : World} : h69_2.wp F Q env w = HC.wp F (.reg (.eff (.bsl 3 1 1 #[(.int .i64 0)] [0]) (.cons (.inp 4) .nil) (.eff (.app 35 35 3 1 8 (.int .i64 0)) (.cons (.inp 3) (.cons (.bv 0) .nil)) (.done [(3, (.bv 1))] none)))) Q env w := rfl
def h69_3 : HC := (.br (.chk none .chkp (.cons (.inp 0) .nil) (.chk none (.fld 1) (.cons (.op .chkp (.cons (.inp 0) .nil)) .nil) (.eff (.ld false 1) (.cons (.op (.fld 1) (.cons (.op .chkp (.cons (.inp 0) .nil)) .nil)) .nil) (.chk none (.idxL 2) (.cons (.bv 0) (.cons (.inp 4) .nil)) (.chk none (.fld 0) (.cons (.op (.idxL 2) (.cons (.bv 0) (.cons (.inp 4) .nil))) .nil) (.eff (.ld false 1) (.cons (.op (.fld 0) (.cons (.op (.idxL 2) (.cons (.bv 0) (.cons (.inp 4) .nil))) .nil)) .nil) (.eff (.call 86) (.cons (.bv 1) .nil) (.eff (.call 86) (.cons (.inp 1) .nil) (.chk none (.bin .eql) (.cons (.bv 2) (.cons (.bv 3) .nil)) (.done [] (some (.op (.bin .eql) (.cons (.bv 2) (.cons (.bv 3) .nil)))))))))))))) h69_2 .skip)
@[simp] theorem h69_3_wp {P : Program} {F : PF P} {Q : EX → List Value → World → Prop} {env : List Value} {w : World} : h69_3.wp F Q env w = HC.wp F (.br (.chk none .chkp (.cons (.inp 0) .nil) (.chk none (.fld 1) (.cons (.op .chkp (.cons (.inp 0) .nil)) .nil) (.eff (.ld false 1) (.cons (.op (.fld 1) (.cons (.op .chkp (.cons (.inp 0) .nil)) .nil)) .nil) (.chk none (.idxL 2) (.cons (.bv 0) (.cons (.inp 4) .nil)) (.chk none (.fld 0) (.cons (.op (.idxL 2) (.cons (.bv 0) (.cons (.inp 4) .nil))) .nil) (.eff (.ld false 1) (.cons (.op (.fld 0) (.cons (.op (.idxL 2) (.cons (.bv 0) (.cons (.inp 4) .nil))) .nil)) .nil) (.eff (.call 86) (.cons (.bv 1) .nil) (.eff (.call 86) (.cons (.inp 1) .nil) (.chk none (.bin .eql) (.cons (.bv 2) (.cons (.bv 3) .nil)) (.done [] (some (.op (.bin .eql) (.cons (.bv 2) (.cons (.bv 3) .nil)))))))))))))) h69_2 .skip) Q env w := rfl
def h69_4 : HC := (.seq (.block 1 h69_3) h69_1)
@[simp] theorem h69_4_wp {P : Program} {F : PF P} {Q : EX → List Value → World → Prop} {env : List Value} {w : World} : h69_4.wp F Q env w = HC.wp F (.seq (.block 1 h69_3) h69_1) Q env w := rfl
def h69_5 : HC := (.seq (.br (.chk none .chkp (.cons (.inp 0) .nil) (.chk none (.fld 1) (.cons (.op .chkp (.cons (.inp 0) .nil)) .nil) (.eff (.ld false 1) (.cons (.op (.fld 1) (.cons (.op .chkp (.cons (.inp 0) .nil)) .nil)) .nil) (.chk none .lenL (.cons (.bv 0) .nil) (.chk none (.bin .lss) (.cons (.inp 4) (.cons (.op .lenL (.cons (.bv 0) .nil)) .nil)) (.done [] (some (.op (.bin .lss) (.cons (.inp 4) (.cons (.op .lenL (.cons (.bv 0) .nil)) .nil)))))))))) .skip (.exit 0)) h69_4)
@[simp] theorem h69_5_wp {P : Program} {F : PF P} {Q : EX → List Value → World → Prop} {env : List Value} {w : World} : h69_5.wp F Q env w = HC.wp F (.seq (.br (.chk none .chkp (.cons (.inp 0) .nil) (.chk none (.fld 1) (.cons (.op .chkp (.cons (.inp 0) .nil)) .nil) (.eff (.ld false 1) (.cons (.op (.fld 1) (.cons (.op .chkp (.cons (.inp 0) .nil)) .nil)) .nil) (.chk none .lenL (.cons (.bv 0) .nil) (.chk none (.bin .lss) (.cons (.inp 4) (.cons (.op .lenL (.cons (.bv 0) .nil)) .nil)) (.done [] (some (.op (.bin .lss) (.cons (.inp 4) (.cons (.op .lenL (.cons (.bv 0) .nil)) .nil)))))))))) .skip (.exit 0)) h69_4) Q env w := rfl
def h69_6 : HC := (.loop h69_5)
@[simp] theorem h69_6_wp {P : Program} {F : PF P} {Q : EX → List Value → World → Prop} {env : List Value} {w : World} : h69_6.wp F Q env w = HC.wp F (.loop h69_5) Q env w := rfl
def h69_7 : HC := (.seq (.block 0 h69_6) h69_0)
@[simp] theorem h69_7_wp {P : Program} {F : PF P} {Q : EX → List Value → World → Prop} {env : List Value} {w : World} : h69_7.wp F Q env w = HC.wp F (.seq (.block 0 h69_6) h69_0) Q env w := rfl
def h69_8 : HC := (.seq (.reg (.done [(4, (.cst (.int .i64 0)))] none)) h69_7)
@[simp] theorem h69_8_wp {P : Program} {F : PF P} {Q : EX → List Value → World → Prop} {env : List Value} {w : World} : h69_8.wp F Q env w = HC.wp F (.seq (.reg (.done [(4, (.cst (.int .i64 0)))] none)) h69_7) Q env w := rfl
def h69_9 : HC := (.seq (.reg (.done [(2, (.inp 3))] none)) .ret)
@[simp] theorem h69_9_wp {P : Program} {F : PF P} {Q : EX → List Value → World → Prop} {env : List Value} {w : World} : h69_9.wp F Q env w = HC.wp F (.seq (.reg (.done [(2, (.inp 3))] none)) .ret) Q env w := rfl
def h69_10 : HC := (.seq (.br (.chk none (.eqNil false (.pointer 90) (.pointer none)) (.cons (.inp 0) .nil) (.done [] (some (.op (.eqNil false (.pointer 90) (.pointer none)) (.cons (.inp 0) .nil))))) h69_9 .skip) h69_8)
@[simp] theorem h69_10_wp {P : Program} {F : PF P} {Q : EX → List Value → World → Prop} {env : List Value} {w : World} : h69_10.wp F Q env w = HC.wp F (.seq (.br (.chk none (.eqNil false (.pointer 90) (.pointer none)) (.cons (.inp 0) .nil) (.done [] (some (.op (.eqNil false (.pointer 90) (.pointer none)) (.cons (.inp 0) .nil))))) h69_9 .skip) h69_8) Q env w := rfl
def h69_11 : HC := (.seq (.reg (.done [(3, (.cst (.slice none 0 0)))] none)) h69_10)
@[simp] theorem h69_11_wp {P : Program} {F : PF P} {Q : EX → List Value → World → Prop} {env : List Value} {w : World} : h69_11.wp F Q env w = HC.wp F (.seq (.reg (.done [(3, (.cst (.slice none 0 0)))] none)) h69_10) Q env w := rfl
def l69 : Lifted := ⟨[0, 1, 4, 5, 6], 36, [.slot 2], (.seq (.reg (.done [(2, (.cst (.slice none 0 0)))] none)) h69_11)⟩
theorem l69_ok : liftFn U1 69 400 = some l69 := by kernel_rfl

-- (*bazaar/bazaarref14.Purse).Supply
def h71_0 : HC := (.seq (.reg (.chk none .chkp (.cons (.inp 0) .nil) (.chk none (.fld 2) (.cons (.op .chkp (.cons (.inp 0) .nil)) .nil) (.eff (.ld false 1) (.cons (.op (.fld 2) (.cons (.op .chkp (.cons (.inp 0) .nil)) .nil)) .nil) (.done [(1, (.bv 0))] none))))) .ret)
@[simp] theorem h71_0_wp {P : Program} {F : PF P} {Q : EX → List Value → World → Prop} {env : List Value} {w : World} : h71_0.wp F Q env w = HC.wp F (.seq (.reg (.chk none .chkp (.cons (.inp 0) .nil) (.chk none (.fld 2) (.cons (.op .chkp (.cons (.inp 0) .nil)) .nil) (.eff (.ld false 1) (.cons (.op (.fld 2) (.cons (.op .chkp (.cons (.inp 0) .nil)) .nil)) .nil) (.done [(1, (.bv 0))] none))))) .ret) Q env w := rfl
def h71_1 : HC := (.seq (.reg (.done [(1, (.cst (.int .u64 0)))] none)) .ret)
@[simp] theorem h71_1_wp {P : Program} {F : PF P} {Q : EX → List Value → World → Prop} {env : List Value} {w : World} : h71_1.wp F Q env w = HC.wp F (.seq (.reg (.done [(1, (.cst (.int .u64 0)))] none)) .ret) Q env w := rfl
def h71_2 : HC := (.seq (.br (.chk none (.eqNil false (.pointer 90) (.pointer none)) (.cons (.inp 0) .nil) (.done [] (some (.op (.eqNil false (.pointer 90) (.pointer none)) (.cons (.inp 0) .nil))))) h71_1 .skip) h71_0)
@[simp] theorem h71_2_wp {P : Program} {F : PF P} {Q : EX → List Value → World → Prop} {env : List Value} {w : World} : h71_2.wp F Q env w = HC.wp F (.seq (.br (.chk none (.eqNil false (.pointer 90) (.pointer none)) (.cons (.inp 0) .nil) (.done [] (some (.op (.eqNil false (.pointer 90) (.pointer none)) (.cons (.inp 0) .nil))))) h71_1 .skip) h71_0) Q env w := rfl
def l71 : Lifted := ⟨[0, 2], 9, [.slot 1], (.seq (.reg (.done [(1, (.cst (.int .u64 0)))] none)) h71_2)⟩
theorem l71_ok : liftFn U1 71 400 = some l71 := by kernel_rfl

-- (*bazaar/bazaarref14.Purse).Held
def h72_0 : HC := (.seq (.reg (.done [(1, (.inp 2))] none)) .ret)
@[simp] theorem h72_0_wp {P : Program} {F : PF P} {Q : EX → List Value → World → Prop} {env : List Value} {w : World} : h72_0.wp F Q env w = HC.wp F (.seq (.reg (.done [(1, (.inp 2))] none)) .ret) Q env w := rfl
def h72_1 : HC := (.reg (.chk none (.bin .add) (.cons (.inp 3) (.cons (.cst (.int .i64 1)) .nil)) (.done [(3, (.op (.bin .add) (.cons (.inp 3) (.cons (.cst (.int .i64 1)) .nil))))] none)))
@[simp] theorem h72_1_wp {P : Program} {F : PF P} {Q : EX → List Value → World → Prop} {env : List Value} {w : World} : h72_1.wp F Q env w = HC.wp F (.reg (.chk none (.bin .add) (.cons (.inp 3) (.cons (.cst (.int .i64 1)) .nil)) (.done [(3, (.op (.bin .add) (.cons (.inp 3) (.cons (.cst (.int .i64 1)) .nil))))] none))) Q env w := rfl
def h72_2 : HC := (.reg (.chk none .chkp (.cons (.inp 0) .nil) (.chk none (.fld 1) (.cons (.op .chkp (.cons (.inp 0) .nil)) .nil) (.eff (.ld false 1) (.cons (.op (.fld 1) (.cons (.op .chkp (.cons (.inp 0) .nil)) .nil)) .nil) (.chk none (.idxL 2) (.cons (.bv 0) (.cons (.inp 3) .nil)) (.chk none (.fld 1) (.cons (.op (.idxL 2) (.cons (.bv 0) (.cons (.inp 3) .nil))) .nil) (.eff (.ld false 1) (.cons (.op (.fld 1) (.cons (.op (.idxL 2) (.cons (.bv 0) (.cons (.inp 3) .nil))) .nil)) .nil) (.chk none (.bin .sub) (.cons (.inp 2) (.cons (.bv 1) .nil)) (.done [(2, (.op (.bin .sub) (.cons (.inp 2) (.cons (.bv 1) .nil))))] none)))))))))
@[simp] theorem h72_2_wp {P : Program} {F : PF P} {Q : EX → List Value → World → Prop} {env : List Value} {w : World} : h72_2.wp F Q env w = HC.wp F (.reg (.chk none .chkp (.cons (.inp 0) .nil) (.chk none (.fld 1) (.cons (.op .chkp (.cons (.inp 0) .nil)) .nil) (.eff (.ld false 1) (.cons (.op (.fld 1) (.cons (.op .chkp (.cons (.inp 0) .nil)) .nil)) .nil) (.chk none (.idxL 2) (.cons (.bv 0) (.cons (.inp 3) .nil)) (.chk none (.fld 1) (.cons (.op (.idxL 2) (.cons (.bv 0) (.cons (.inp 3) .nil))) .nil) (.eff (.ld false 1) (.cons (.op (.fld 1) (.cons (.op (.idxL 2) (.cons (.bv 0) (.cons (.inp 3) .nil))) .nil)) .nil) (.chk none (.bin .sub) (.cons (.inp 2) (.cons (.bv 1) .nil)) (.done [(2, (.op (.bin .sub) (.cons (.inp 2) (.cons (.bv 1) .nil))))] none))))))))) Q env w := rfl
def h72_3 : HC := (.seq (.block 1 h72_2) h72_1)
@[simp] theorem h72_3_wp {P : Program} {F : PF P} {Q : EX → List Value → World → Prop} {env : List Value} {w : World} : h72_3.wp F Q env w = HC.wp F (.seq (.block 1 h72_2) h72_1) Q env w := rfl
def h72_4 : HC := (.seq (.br (.chk none .chkp (.cons (.inp 0) .nil) (.chk none (.fld 1) (.cons (.op .chkp (.cons (.inp 0) .nil)) .nil) (.eff (.ld false 1) (.cons (.op (.fld 1) (.cons (.op .chkp (.cons (.inp 0) .nil)) .nil)) .nil) (.chk none .lenL (.cons (.bv 0) .nil) (.chk none (.bin .lss) (.cons (.inp 3) (.cons (.op .lenL (.cons (.bv 0) .nil)) .nil)) (.done [] (some (.op (.bin .lss) (.cons (.inp 3) (.cons (.op .lenL (.cons (.bv 0) .nil)) .nil)))))))))) .skip (.exit 0)) h72_3)
@[simp] theorem h72_4_wp {P : Program} {F : PF P} {Q : EX → List Value → World → Prop} {env : List Value} {w : World} : h72_4.wp F Q env w = HC.wp F (.seq (.br (.chk none .chkp (.cons (.inp 0) .nil) (.chk none (.fld 1) (.cons (.op .chkp (.cons (.inp 0) .nil)) .nil) (.eff (.ld false 1) (.cons (.op (.fld 1) (.cons (.op .chkp (.cons (.inp 0) .nil)) .nil)) .nil) (.chk none .lenL (.cons (.bv 0) .nil) (.chk none (.bin .lss) (.cons (.inp 3) (.cons (.op .lenL (.cons (.bv 0) .nil)) .nil)) (.done [] (some (.op (.bin .lss) (.cons (.inp 3) (.cons (.op .lenL (.cons (.bv 0) .nil)) .nil)))))))))) .skip (.exit 0)) h72_3) Q env w := rfl
def h72_5 : HC := (.loop h72_4)
@[simp] theorem h72_5_wp {P : Program} {F : PF P} {Q : EX → List Value → World → Prop} {env : List Value} {w : World} : h72_5.wp F Q env w = HC.wp F (.loop h72_4) Q env w := rfl
def h72_6 : HC := (.seq (.block 0 h72_5) h72_0)
@[simp] theorem h72_6_wp {P : Program} {F : PF P} {Q : EX → List Value → World → Prop} {env : List Value} {w : World} : h72_6.wp F Q env w = HC.wp F (.seq (.block 0 h72_5) h72_0) Q env w := rfl
def h72_7 : HC := (.seq (.reg (.done [(3, (.cst (.int .i64 0)))] none)) h72_6)
@[simp] theorem h72_7_wp {P : Program} {F : PF P} {Q : EX → List Value → World → Prop} {env : List Value} {w : World} : h72_7.wp F Q env w = HC.wp F (.seq (.reg (.done [(3, (.cst (.int .i64 0)))] none)) h72_6) Q env w := rfl
def h72_8 : HC := (.seq (.reg (.chk none .chkp (.cons (.inp 0) .nil) (.chk none (.fld 2) (.cons (.op .chkp (.cons (.inp 0) .nil)) .nil) (.eff (.ld false 1) (.cons (.op (.fld 2) (.cons (.op .chkp (.cons (.inp 0) .nil)) .nil)) .nil) (.done [(2, (.bv 0))] none))))) h72_7)
@[simp] theorem h72_8_wp {P : Program} {F : PF P} {Q : EX → List Value → World → Prop} {env : List Value} {w : World} : h72_8.wp F Q env w = HC.wp F (.seq (.reg (.chk none .chkp (.cons (.inp 0) .nil) (.chk none (.fld 2) (.cons (.op .chkp (.cons (.inp 0) .nil)) .nil) (.eff (.ld false 1) (.cons (.op (.fld 2) (.cons (.op .chkp (.cons (.inp 0) .nil)) .nil)) .nil) (.done [(2, (.bv 0))] none))))) h72_7) Q env w := rfl
def h72_9 : HC := (.seq (.reg (.done [(1, (.cst (.int .u64 0)))] none)) .ret)
@[simp] theorem h72_9_wp {P : Program} {F : PF P} {Q : EX → List Value → World → Prop} {env : List Value} {w : World} : h72_9.wp F Q env w = HC.wp F (.seq (.reg (.done [(1, (.cst (.int .u64 0)))] none)) .ret) Q env w := rfl
def h72_10 : HC := (.seq (.br (.chk none (.eqNil false (.pointer 90) (.pointer none)) (.cons (.inp 0) .nil) (.done [] (some (.op (.eqNil false (.pointer 90) (.pointer none)) (.cons (.inp 0) .nil))))) h72_9 .skip) h72_8)
@[simp] theorem h72_10_wp {P : Program} {F : PF P} {Q : EX → List Value → World → Prop} {env : List Value} {w : World} : h72_10.wp F Q env w = HC.wp F (.seq (.br (.chk none (.eqNil false (.pointer 90) (.pointer none)) (.cons (.inp 0) .nil) (.done [] (some (.op (.eqNil false (.pointer 90) (.pointer none)) (.cons (.inp 0) .nil))))) h72_9 .skip) h72_8) Q env w := rfl
def l72 : Lifted := ⟨[0, 2, 3, 4], 31, [.slot 1], (.seq (.reg (.done [(1, (.cst (.int .u64 0)))] none)) h72_10)⟩
theorem l72_ok : liftFn U1 72 400 = some l72 := by kernel_rfl

-- (*bazaar/bazaarref14.Purse).Limit
def h73_0 : HC := (.seq (.reg (.chk none .chkp (.cons (.inp 0) .nil) (.chk none (.fld 0) (.cons (.op .chkp (.cons (.inp 0) .nil)) .nil) (.eff (.ld false 1) (.cons (.op (.fld 0) (.cons (.op .chkp (.cons (.inp 0) .nil)) .nil)) .nil) (.done [(1, (.bv 0))] none))))) .ret)
@[simp] theorem h73_0_wp {P : Program} {F : PF P} {Q : EX → List Value → World → Prop} {env : List Value} {w : World} : h73_0.wp F Q env w = HC.wp F (.seq (.reg (.chk none .chkp (.cons (.inp 0) .nil) (.chk none (.fld 0) (.cons (.op .chkp (.cons (.inp 0) .nil)) .nil) (.eff (.ld false 1) (.cons (.op (.fld 0) (.cons (.op .chkp (.cons (.inp 0) .nil)) .nil)) .nil) (.done [(1, (.bv 0))] none))))) .ret) Q env w := rfl
def h73_1 : HC := (.seq (.reg (.done [(1, (.cst (.int .i64 0)))] none)) .ret)
@[simp] theorem h73_1_wp {P : Program} {F : PF P} {Q : EX → List Value → World → Prop} {env : List Value} {w : World} : h73_1.wp F Q env w = HC.wp F (.seq (.reg (.done [(1, (.cst (.int .i64 0)))] none)) .ret) Q env w := rfl
def h73_2 : HC := (.seq (.br (.chk none (.eqNil false (.pointer 90) (.pointer none)) (.cons (.inp 0) .nil) (.done [] (some (.op (.eqNil false (.pointer 90) (.pointer none)) (.cons (.inp 0) .nil))))) h73_1 .skip) h73_0)
@[simp] theorem h73_2_wp {P : Program} {F : PF P} {Q : EX → List Value → World → Prop} {env : List Value} {w : World} : h73_2.wp F Q env w = HC.wp F (.seq (.br (.chk none (.eqNil false (.pointer 90) (.pointer none)) (.cons (.inp 0) .nil) (.done [] (some (.op (.eqNil false (.pointer 90) (.pointer none)) (.cons (.inp 0) .nil))))) h73_1 .skip) h73_0) Q env w := rfl
def l73 : Lifted := ⟨[0, 2], 9, [.slot 1], (.seq (.reg (.done [(1, (.cst (.int .i64 0)))] none)) h73_2)⟩
theorem l73_ok : liftFn U1 73 400 = some l73 := by kernel_rfl

-- (*bazaar/bazaarref14.Purse).Len
def h74_0 : HC := (.seq (.reg (.chk none .chkp (.cons (.inp 0) .nil) (.chk none (.fld 1) (.cons (.op .chkp (.cons (.inp 0) .nil)) .nil) (.eff (.ld false 1) (.cons (.op (.fld 1) (.cons (.op .chkp (.cons (.inp 0) .nil)) .nil)) .nil) (.chk none .lenL (.cons (.bv 0) .nil) (.done [(1, (.op .lenL (.cons (.bv 0) .nil)))] none)))))) .ret)
@[simp] theorem h74_0_wp {P : Program} {F : PF P} {Q : EX → List Value → World → Prop} {env : List Value} {w : World} : h74_0.wp F Q env w = HC.wp F (.seq (.reg (.chk none .chkp (.cons (.inp 0) .nil) (.chk none (.fld 1) (.cons (.op .chkp (.cons (.inp 0) .nil)) .nil) (.eff (.ld false 1) (.cons (.op (.fld 1) (.cons (.op .chkp (.cons (.inp 0) .nil)) .nil)) .nil) (.chk none .lenL (.cons (.bv 0) .nil) (.done [(1, (.op .lenL (.cons (.bv 0) .nil)))] none)))))) .ret) Q env w := rfl
def h74_1 : HC := (.seq (.reg (.done [(1, (.cst (.int .i64 0)))] none)) .ret)
@[simp] theorem h74_1_wp {P : Program} {F : PF P} {Q : EX → List Value → World → Prop} {env : List Value} {w : World} : h74_1.wp F Q env w = HC.wp F (.seq (.reg (.done [(1, (.cst (.int .i64 0)))] none)) .ret) Q env w := rfl
def h74_2 : HC := (.seq (.br (.chk none (.eqNil false (.pointer 90) (.pointer none)) (.cons (.inp 0) .nil) (.done [] (some (.op (.eqNil false (.pointer 90) (.pointer none)) (.cons (.inp 0) .nil))))) h74_1 .skip) h74_0)
@[simp] theorem h74_2_wp {P : Program} {F : PF P} {Q : EX → List Value → World → Prop} {env : List Value} {w : World} : h74_2.wp F Q env w = HC.wp F (.seq (.br (.chk none (.eqNil false (.pointer 90) (.pointer none)) (.cons (.inp 0) .nil) (.done [] (some (.op (.eqNil false (.pointer 90) (.pointer none)) (.cons (.inp 0) .nil))))) h74_1 .skip) h74_0) Q env w := rfl
def l74 : Lifted := ⟨[0, 2], 10, [.slot 1], (.seq (.reg (.done [(1, (.cst (.int .i64 0)))] none)) h74_2)⟩
theorem l74_ok : liftFn U1 74 400 = some l74 := by kernel_rfl

-- (*bazaar/bazaarref14.Purse).Rows
def h58_0 : HC := (.seq (.reg (.chk none .chkp (.cons (.inp 0) .nil) (.chk none (.fld 1) (.cons (.op .chkp (.cons (.inp 0) .nil)) .nil) (.eff (.ld false 1) (.cons (.op (.fld 1) (.cons (.op .chkp (.cons (.inp 0) .nil)) .nil)) .nil) (.eff (.app 39 39 66 2 24 (.agg #[(.string ⟨#[]⟩), (.int .u64 0)])) (.cons (.inp 2) (.cons (.bv 0) .nil)) (.done [(1, (.bv 1))] none)))))) .ret)
@[simp] theorem h58_0_wp {P : Program} {F : PF P} {Q : EX → List Value → World → Prop} {env : List Value} {w : World} : h58_0.wp F Q env w = HC.wp F (.seq (.reg (.chk none .chkp (.cons (.inp 0) .nil) (.chk none (.fld 1) (.cons (.op .chkp (.cons (.inp 0) .nil)) .nil) (.eff (.ld false 1) (.cons (.op (.fld 1) (.cons (.op .chkp (.cons (.inp 0) .nil)) .nil)) .nil) (.eff (.app 39 39 66 2 24 (.agg #[(.string ⟨#[]⟩), (.int .u64 0)])) (.cons (.inp 2) (.cons (.bv 0) .nil)) (.done [(1, (.bv 1))] none)))))) .ret) Q env w := rfl
def h58_1 : HC := (.seq (.reg (.done [(1, (.inp 2))] none)) .ret)
@[simp] theorem h58_1_wp {P : Program} {F : PF P} {Q : EX → List Value → World → Prop} {env : List Value} {w : World} : h58_1.wp F Q env w = HC.wp F (.seq (.reg (.done [(1, (.inp 2))] none)) .ret) Q env w := rfl
def h58_2 : HC := (.seq (.br (.chk none (.eqNil false (.pointer 90) (.pointer none)) (.cons (.inp 0) .nil) (.done [] (some (.op (.eqNil false (.pointer 90) (.pointer none)) (.cons (.inp 0) .nil))))) h58_1 .skip) h58_0)
@[simp] theorem h58_2_wp {P : Program} {F : PF P} {Q : EX → List Value → World → Prop} {env : List Value} {w : World} : h58_2.wp F Q env w = HC.wp F (.seq (.br (.chk none (.eqNil false (.pointer 90) (.pointer none)) (.cons (.inp 0) .nil) (.done [] (some (.op (.eqNil false (.pointer 90) (.pointer none)) (.cons (.inp 0) .nil))))) h58_1 .skip) h58_0) Q env w := rfl
def h58_3 : HC := (.seq (.reg (.done [(2, (.cst (.slice none 0 0)))] none)) h58_2)
@[simp] theorem h58_3_wp {P : Program} {F : PF P} {Q : EX → List Value → World → Prop} {env : List Value} {w : World} : h58_3.wp F Q env w = HC.wp F (.seq (.reg (.done [(2, (.cst (.slice none 0 0)))] none)) h58_2) Q env w := rfl
def l58 : Lifted := ⟨[0, 2, 3], 13, [.slot 1], (.seq (.reg (.done [(1, (.cst (.slice none 0 0)))] none)) h58_3)⟩
theorem l58_ok : liftFn U1 58 400 = some l58 := by kernel_rfl

-- (*bazaar/bazaarref14.Purse).Copy
def h27_0 : HC := (.seq (.regq (some 2) (.chk none .chkp (.cons (.inp 0) .nil) (.chk none (.fld 0) (.cons (.op .chkp (.cons (.inp 0) .nil)) .nil) (.eff (.ld false 1) (.cons (.op (.fld 0) (.cons (.op .chkp (.cons (.inp 0) .nil)) .nil)) .nil) (.eff (.call 58) (.cons (.inp 0) .nil) (.chk none .chkp (.cons (.inp 0) .nil) (.chk none (.fld 2) (.cons (.op .chkp (.cons (.inp 0) .nil)) .nil) (.eff (.ld false 1) (.cons (.op (.fld 2) (.cons (.op .chkp (.cons (.inp 0) .nil)) .nil)) .nil) (.chk none (.build #[(.int .i64 0), (.slice none 0 0), (.int .u64 0)] [(0, 1), (1, 1), (2, 1)] [0, 1, 2]) (.cons (.bv 0) (.cons (.bv 1) (.cons (.bv 2) .nil))) (.eff (.box 90) (.cons (.op (.build #[(.int .i64 0), (.slice none 0 0), (.int .u64 0)] [(0, 1), (1, 1), (2, 1)] [0, 1, 2]) (.cons (.bv 0) (.cons (.bv 1) (.cons (.bv 2) .nil)))) .nil) (.done [(1, (.bv 3))] none))))))))))) .ret)
@[simp] theorem h27_0_wp {P : Program} {F : PF P} {Q : EX → List Value → World → Prop} {env : List Value} {w : World} : h27_0.wp F Q env w = HC.wp F (.seq (.regq (some 2) (.chk none .chkp (.cons (.inp 0) .nil) (.chk none (.fld 0) (.cons (.op .chkp (.cons (.inp 0) .nil)) .nil) (.eff (.ld false 1) (.cons (.op (.fld 0) (.cons (.op .chkp (.cons (.inp 0) .nil)) .nil)) .nil) (.eff (.call 58) (.cons (.inp 0) .nil) (.chk none .chkp (.cons (.inp 0) .nil) (.chk none (.fld 2) (.cons (.op .chkp (.cons (.inp 0) .nil)) .nil) (.eff (.ld false 1) (.cons (.op (.fld 2) (.cons (.op .chkp (.cons (.inp 0) .nil)) .nil)) .nil) (.chk none (.build #[(.int .i64 0), (.slice none 0 0), (.int .u64 0)] [(0, 1), (1, 1), (2, 1)] [0, 1, 2]) (.cons (.bv 0) (.cons (.bv 1) (.cons (.bv 2) .nil))) (.eff (.box 90) (.cons (.op (.build #[(.int .i64 0), (.slice none 0 0), (.int .u64 0)] [(0, 1), (1, 1), (2, 1)] [0, 1, 2]) (.cons (.bv 0) (.cons (.bv 1) (.cons (.bv 2) .nil)))) .nil) (.done [(1, (.bv 3))] none))))))))))) .ret) Q env w := rfl
def h27_1 : HC := (.seq (.reg (.done [(1, (.cst (.pointer none)))] none)) .ret)
@[simp] theorem h27_1_wp {P : Program} {F : PF P} {Q : EX → List Value → World → Prop} {env : List Value} {w : World} : h27_1.wp F Q env w = HC.wp F (.seq (.reg (.done [(1, (.cst (.pointer none)))] none)) .ret) Q env w := rfl
def h27_2 : HC := (.seq (.br (.chk none (.eqNil false (.pointer 90) (.pointer none)) (.cons (.inp 0) .nil) (.done [] (some (.op (.eqNil false (.pointer 90) (.pointer none)) (.cons (.inp 0) .nil))))) h27_1 .skip) h27_0)
@[simp] theorem h27_2_wp {P : Program} {F : PF P} {Q : EX → List Value → World → Prop} {env : List Value} {w : World} : h27_2.wp F Q env w = HC.wp F (.seq (.br (.chk none (.eqNil false (.pointer 90) (.pointer none)) (.cons (.inp 0) .nil) (.done [] (some (.op (.eqNil false (.pointer 90) (.pointer none)) (.cons (.inp 0) .nil))))) h27_1 .skip) h27_0) Q env w := rfl
def l27 : Lifted := ⟨[0, 2], 17, [.slot 1], (.seq (.reg (.done [(1, (.cst (.pointer none)))] none)) h27_2)⟩
theorem l27_ok : liftFn U1 27 400 = some l27 := by kernel_rfl

-- bazaar/bazaarref14.Load
def h22_0 : HC := (.seq (.reg (.done [(3, (.inp 9)), (4, (.cst (.int .i64 0)))] none)) .ret)
@[simp] theorem h22_0_wp {P : Program} {F : PF P} {Q : EX → List Value → World → Prop} {env : List Value} {w : World} : h22_0.wp F Q env w = HC.wp F (.seq (.reg (.done [(3, (.inp 9)), (4, (.cst (.int .i64 0)))] none)) .ret) Q env w := rfl
def h22_1 : HC := (.seq (.reg (.chk none .chkp (.cons (.inp 9) .nil) (.chk none (.fld 1) (.cons (.op .chkp (.cons (.inp 9) .nil)) .nil) (.eff (.ld false 1) (.cons (.op (.fld 1) (.cons (.op .chkp (.cons (.inp 9) .nil)) .nil)) .nil) (.eff (.app 39 39 66 2 24 (.agg #[(.string ⟨#[]⟩), (.int .u64 0)])) (.cons (.bv 0) (.cons (.inp 1) .nil)) (.chk none .chkp (.cons (.inp 9) .nil) (.chk none (.fld 1) (.cons (.op .chkp (.cons (.inp 9) .nil)) .nil) (.eff (.st 1) (.cons (.op (.fld 1) (.cons (.op .chkp (.cons (.inp 9) .nil)) .nil)) (.cons (.bv 1) .nil)) (.done [] none))))))))) h22_0)
@[simp] theorem h22_1_wp {P : Program} {F : PF P} {Q : EX → List Value → World → Prop} {env : List Value} {w : World} : h22_1.wp F Q env w = HC.wp F (.seq (.reg (.chk none .chkp (.cons (.inp 9) .nil) (.chk none (.fld 1) (.cons (.op .chkp (.cons (.inp 9) .nil)) .nil) (.eff (.ld false 1) (.cons (.op (.fld 1) (.cons (.op .chkp (.cons (.inp 9) .nil)) .nil)) .nil) (.eff (.app 39 39 66 2 24 (.agg #[(.string ⟨#[]⟩), (.int .u64 0)])) (.cons (.bv 0) (.cons (.inp 1) .nil)) (.chk none .chkp (.cons (.inp 9) .nil) (.chk none (.fld 1) (.cons (.op .chkp (.cons (.inp 9) .nil)) .nil) (.eff (.st 1) (.cons (.op (.fld 1) (.cons (.op .chkp (.cons (.inp 9) .nil)) .nil)) (.cons (.bv 1) .nil)) (.done [] none))))))))) h22_0) Q env w := rfl
def h22_2 : HC := (.seq (.reg (.chk none (.build #[(.int .i64 0), (.slice none 0 0), (.int .u64 0)] [(0, 1), (1, 1), (2, 1)] [0, 2]) (.cons (.inp 0) (.cons (.inp 2) .nil)) (.eff (.box 90) (.cons (.op (.build #[(.int .i64 0), (.slice none 0 0), (.int .u64 0)] [(0, 1), (1, 1), (2, 1)] [0, 2]) (.cons (.inp 0) (.cons (.inp 2) .nil))) .nil) (.done [(9, (.bv 0))] none)))) h22_1)
@[simp] theorem h22_2_wp {P : Program} {F : PF P} {Q : EX → List Value → World → Prop} {env : List Value} {w : World} : h22_2.wp F Q env w = HC.wp F (.seq (.reg (.chk none (.build #[(.int .i64 0), (.slice none 0 0), (.int .u64 0)] [(0, 1), (1, 1), (2, 1)] [0, 2]) (.cons (.inp 0) (.cons (.inp 2) .nil)) (.eff (.box 90) (.cons (.op (.build #[(.int .i64 0), (.slice none 0 0), (.int .u64 0)] [(0, 1), (1, 1), (2, 1)] [0, 2]) (.cons (.inp 0) (.cons (.inp 2) .nil))) .nil) (.done [(9, (.bv 0))] none)))) h22_1) Q env w := rfl
def h22_3 : HC := (.reg (.chk none (.bin .add) (.cons (.inp 6) (.cons (.cst (.int .i64 1)) .nil)) (.done [(6, (.op (.bin .add) (.cons (.inp 6) (.cons (.cst (.int .i64 1)) .nil))))] none)))
@[simp] theorem h22_3_wp {P : Program} {F : PF P} {Q : EX → List Value → World → Prop} {env : List Value} {w : World} : h22_3.wp F Q env w = HC.wp F (.reg (.chk none (.bin .add) (.cons (.inp 6) (.cons (.cst (.int .i64 1)) .nil)) (.done [(6, (.op (.bin .add) (.cons (.inp 6) (.cons (.cst (.int .i64 1)) .nil))))] none))) Q env w := rfl
def h22_4 : HC := (.reg (.chk none (.idxL 2) (.cons (.inp 1) (.cons (.inp 6) .nil)) (.chk none (.fld 1) (.cons (.op (.idxL 2) (.cons (.inp 1) (.cons (.inp 6) .nil))) .nil) (.eff (.ld false 1) (.cons (.op (.fld 1) (.cons (.op (.idxL 2) (.cons (.inp 1) (.cons (.inp 6) .nil))) .nil)) .nil) (.chk none (.bin .sub) (.cons (.inp 5) (.cons (.bv 0) .nil)) (.done [(5, (.op (.bin .sub) (.cons (.inp 5) (.cons (.bv 0) .nil))))] none))))))
@[simp] theorem h22_4_wp {P : Program} {F : PF P} {Q : EX → List Value → World → Prop} {env : List Value} {w : World} : h22_4.wp F Q env w = HC.wp F (.reg (.chk none (.idxL 2) (.cons (.inp 1) (.cons (.inp 6) .nil)) (.chk none (.fld 1) (.cons (.op (.idxL 2) (.cons (.inp 1) (.cons (.inp 6) .nil))) .nil) (.eff (.ld false 1) (.cons (.op (.fld 1) (.cons (.op (.idxL 2) (.cons (.inp 1) (.cons (.inp 6) .nil))) .nil)) .nil) (.chk none (.bin .sub) (.cons (.inp 5) (.cons (.bv 0) .nil)) (.done [(5, (.op (.bin .sub) (.cons (.inp 5) (.cons (.bv 0) .nil))))] none)))))) Q env w := rfl
def h22_5 : HC := (.seq (.reg (.done [(3, (.cst (.pointer none))), (4, (.cst (.int .i64 144)))] none)) .ret)
@[simp] theorem h22_5_wp {P : Program} {F : PF P} {Q : EX → List Value → World → Prop} {env : List Value} {w : World} : h22_5.wp F Q env w = HC.wp F (.seq (.reg (.done [(3, (.cst (.pointer none))), (4, (.cst (.int .i64 144)))] none)) .ret) Q env w := rfl
def h22_6 : HC := (.seq (.br (.chk none (.idxL 2) (.cons (.inp 1) (.cons (.inp 6) .nil)) (.chk none (.fld 1) (.cons (.op (.idxL 2) (.cons (.inp 1) (.cons (.inp 6) .nil))) .nil) (.eff (.ld false 1) (.cons (.op (.fld 1) (.cons (.op (.idxL 2) (.cons (.inp 1) (.cons (.inp 6) .nil))) .nil)) .nil) (.chk none (.bin .gtr) (.cons (.bv 0) (.cons (.inp 5) .nil)) (.done [] (some (.op (.bin .gtr) (.cons (.bv 0) (.cons (.inp 5) .nil))))))))) h22_5 .skip) h22_4)
@[simp] theorem h22_6_wp {P : Program} {F : PF P} {Q : EX → List Value → World → Prop} {env : List Value} {w : World} : h22_6.wp F Q env w = HC.wp F (.seq (.br (.chk none (.idxL 2) (.cons (.inp 1) (.cons (.inp 6) .nil)) (.chk none (.fld 1) (.cons (.op (.idxL 2) (.cons (.inp 1) (.cons (.inp 6) .nil))) .nil) (.eff (.ld false 1) (.cons (.op (.fld 1) (.cons (.op (.idxL 2) (.cons (.inp 1) (.cons (.inp 6) .nil))) .nil)) .nil) (.chk none (.bin .gtr) (.cons (.bv 0) (.cons (.inp 5) .nil)) (.done [] (some (.op (.bin .gtr) (.cons (.bv 0) (.cons (.inp 5) .nil))))))))) h22_5 .skip) h22_4) Q env w := rfl
def h22_7 : HC := (.reg (.chk none (.bin .add) (.cons (.inp 8) (.cons (.cst (.int .i64 1)) .nil)) (.done [(8, (.op (.bin .add) (.cons (.inp 8) (.cons (.cst (.int .i64 1)) .nil))))] none)))
@[simp] theorem h22_7_wp {P : Program} {F : PF P} {Q : EX → List Value → World → Prop} {env : List Value} {w : World} : h22_7.wp F Q env w = HC.wp F (.reg (.chk none (.bin .add) (.cons (.inp 8) (.cons (.cst (.int .i64 1)) .nil)) (.done [(8, (.op (.bin .add) (.cons (.inp 8) (.cons (.cst (.int .i64 1)) .nil))))] none))) Q env w := rfl
def h22_8 : HC := (.seq (.reg (.done [(3, (.cst (.pointer none))), (4, (.cst (.int .i64 140)))] none)) .ret)
@[simp] theorem h22_8_wp {P : Program} {F : PF P} {Q : EX → List Value → World → Prop} {env : List Value} {w : World} : h22_8.wp F Q env w = HC.wp F (.seq (.reg (.done [(3, (.cst (.pointer none))), (4, (.cst (.int .i64 140)))] none)) .ret) Q env w := rfl
def h22_9 : HC := (.brq (some 1) (.chk none (.idxL 2) (.cons (.inp 1) (.cons (.inp 8) .nil)) (.chk none (.fld 0) (.cons (.op (.idxL 2) (.cons (.inp 1) (.cons (.inp 8) .nil))) .nil) (.eff (.ld false 1) (.cons (.op (.fld 0) (.cons (.op (.idxL 2) (.cons (.inp 1) (.cons (.inp 8) .nil))) .nil)) .nil) (.chk none (.idxL 2) (.cons (.inp 1) (.cons (.inp 6) .nil)) (.chk none (.fld 0) (.cons (.op (.idxL 2) (.cons (.inp 1) (.cons (.inp 6) .nil))) .nil) (.eff (.ld false 1) (.cons (.op (.fld 0) (.cons (.op (.idxL 2) (.cons (.inp 1) (.cons (.inp 6) .nil))) .nil)) .nil) (.eff (.call 55) (.cons (.bv 0) (.cons (.bv 1) .nil)) (.done [] (some (.bv 2)))))))))) h22_8 .skip)
@[simp] theorem h22_9_wp {P : Program} {F : PF P} {Q : EX → List Value → World → Prop} {env : List Value} {w : World} : h22_9.wp F Q env w = HC.wp F (.brq (some 1) (.chk none (.idxL 2) (.cons (.inp 1) (.cons (.inp 8) .nil)) (.chk none (.fld 0) (.cons (.op (.idxL 2) (.cons (.inp 1) (.cons (.inp 8) .nil))) .nil) (.eff (.ld false 1) (.cons (.op (.fld 0) (.cons (.op (.idxL 2) (.cons (.inp 1) (.cons (.inp 8) .nil))) .nil)) .nil) (.chk none (.idxL 2) (.cons (.inp 1) (.cons (.inp 6) .nil)) (.chk none (.fld 0) (.cons (.op (.idxL 2) (.cons (.inp 1) (.cons (.inp 6) .nil))) .nil) (.eff (.ld false 1) (.cons (.op (.fld 0) (.cons (.op (.idxL 2) (.cons (.inp 1) (.cons (.inp 6) .nil))) .nil)) .nil) (.eff (.call 55) (.cons (.bv 0) (.cons (.bv 1) .nil)) (.done [] (some (.bv 2)))))))))) h22_8 .skip) Q env w := rfl
def h22_10 : HC := (.seq (.block 3 h22_9) h22_7)
@[simp] theorem h22_10_wp {P : Program} {F : PF P} {Q : EX → List Value → World → Prop} {env : List Value} {w : World} : h22_10.wp F Q env w = HC.wp F (.seq (.block 3 h22_9) h22_7) Q env w := rfl
def h22_11 : HC := (.seq (.br (.chk none (.bin .lss) (.cons (.inp 8) (.cons (.inp 6) .nil)) (.done [] (some (.op (.bin .lss) (.cons (.inp 8) (.cons (.inp 6) .nil)))))) .skip (.exit 2)) h22_10)
@[simp] theorem h22_11_wp {P : Program} {F : PF P} {Q : EX → List Value → World → Prop} {env : List Value} {w : World} : h22_11.wp F Q env w = HC.wp F (.seq (.br (.chk none (.bin .lss) (.cons (.inp 8) (.cons (.inp 6) .nil)) (.done [] (some (.op (.bin .lss) (.cons (.inp 8) (.cons (.inp 6) .nil)))))) .skip (.exit 2)) h22_10) Q env w := rfl
def h22_12 : HC := (.loop h22_11)
@[simp] theorem h22_12_wp {P : Program} {F : PF P} {Q : EX → List Value → World → Prop} {env : List Value} {w : World} : h22_12.wp F Q env w = HC.wp F (.loop h22_11) Q env w := rfl
def h22_13 : HC := (.seq (.block 2 h22_12) h22_6)
@[simp] theorem h22_13_wp {P : Program} {F : PF P} {Q : EX → List Value → World → Prop} {env : List Value} {w : World} : h22_13.wp F Q env w = HC.wp F (.seq (.block 2 h22_12) h22_6) Q env w := rfl
def h22_14 : HC := (.seq (.reg (.done [(8, (.cst (.int .i64 0)))] none)) h22_13)
@[simp] theorem h22_14_wp {P : Program} {F : PF P} {Q : EX → List Value → World → Prop} {env : List Value} {w : World} : h22_14.wp F Q env w = HC.wp F (.seq (.reg (.done [(8, (.cst (.int .i64 0)))] none)) h22_13) Q env w := rfl
def h22_15 : HC := (.seq (.reg (.done [(3, (.cst (.pointer none))), (4, (.inp 7))] none)) .ret)
@[simp] theorem h22_15_wp {P : Program} {F : PF P} {Q : EX → List Value → World → Prop} {env : List Value} {w : World} : h22_15.wp F Q env w = HC.wp F (.seq (.reg (.done [(3, (.cst (.pointer none))), (4, (.inp 7))] none)) .ret) Q env w := rfl
def h22_16 : HC := (.seq (.br (.chk none (.bin .neq) (.cons (.inp 7) (.cons (.cst (.int .i64 0)) .nil)) (.done [] (some (.op (.bin .neq) (.cons (.inp 7) (.cons (.cst (.int .i64 0)) .nil)))))) h22_15 .skip) h22_14)
@[simp] theorem h22_16_wp {P : Program} {F : PF P} {Q : EX → List Value → World → Prop} {env : List Value} {w : World} : h22_16.wp F Q env w = HC.wp F (.seq (.br (.chk none (.bin .neq) (.cons (.inp 7) (.cons (.cst (.int .i64 0)) .nil)) (.done [] (some (.op (.bin .neq) (.cons (.inp 7) (.cons (.cst (.int .i64 0)) .nil)))))) h22_15 .skip) h22_14) Q env w := rfl
def h22_17 : HC := (.seq (.reg (.chk none (.idxL 2) (.cons (.inp 1) (.cons (.inp 6) .nil)) (.chk none (.fld 0) (.cons (.op (.idxL 2) (.cons (.inp 1) (.cons (.inp 6) .nil))) .nil) (.eff (.ld false 1) (.cons (.op (.fld 0) (.cons (.op (.idxL 2) (.cons (.inp 1) (.cons (.inp 6) .nil))) .nil)) .nil) (.eff (.call 54) (.cons (.bv 0) .nil) (.chk none (.ext 0) (.cons (.bv 1) .nil) (.chk none (.ext 1) (.cons (.bv 1) .nil) (.done [(7, (.op (.ext 1) (.cons (.bv 1) .nil)))] none)))))))) h22_16)
@[simp] theorem h22_17_wp {P : Program} {F : PF P} {Q : EX → List Value → World → Prop} {env : List Value} {w : World} : h22_17.wp F Q env w = HC.wp F (.seq (.reg (.chk none (.idxL 2) (.cons (.inp 1) (.cons (.inp 6) .nil)) (.chk none (.fld 0) (.cons (.op (.idxL 2) (.cons (.inp 1) (.cons (.inp 6) .nil))) .nil) (.eff (.ld false 1) (.cons (.op (.fld 0) (.cons (.op (.idxL 2) (.cons (.inp 1) (.cons (.inp 6) .nil))) .nil)) .nil) (.eff (.call 54) (.cons (.bv 0) .nil) (.chk none (.ext 0) (.cons (.bv 1) .nil) (.chk none (.ext 1) (.cons (.bv 1) .nil) (.done [(7, (.op (.ext 1) (.cons (.bv 1) .nil)))] none)))))))) h22_16) Q env w := rfl
def h22_18 : HC := (.seq (.block 1 h22_17) h22_3)
@[simp] theorem h22_18_wp {P : Program} {F : PF P} {Q : EX → List Value → World → Prop} {env : List Value} {w : World} : h22_18.wp F Q env w = HC.wp F (.seq (.block 1 h22_17) h22_3) Q env w := rfl
def h22_19 : HC := (.seq (.br (.chk none .lenL (.cons (.inp 1) .nil) (.chk none (.bin .lss) (.cons (.inp 6) (.cons (.op .lenL (.cons (.inp 1) .nil)) .nil)) (.done [] (some (.op (.bin .lss) (.cons (.inp 6) (.cons (.op .lenL (.cons (.inp 1) .nil)) .nil))))))) .skip (.exit 0)) h22_18)
@[simp] theorem h22_19_wp {P : Program} {F : PF P} {Q : EX → List Value → World → Prop} {env : List Value} {w : World} : h22_19.wp F Q env w = HC.wp F (.seq (.br (.chk none .lenL (.cons (.inp 1) .nil) (.chk none (.bin .lss) (.cons (.inp 6) (.cons (.op .lenL (.cons (.inp 1) .nil)) .nil)) (.done [] (some (.op (.bin .lss) (.cons (.inp 6) (.cons (.op .lenL (.cons (.inp 1) .nil)) .nil))))))) .skip (.exit 0)) h22_18) Q env w := rfl
def h22_20 : HC := (.loop h22_19)
@[simp] theorem h22_20_wp {P : Program} {F : PF P} {Q : EX → List Value → World → Prop} {env : List Value} {w : World} : h22_20.wp F Q env w = HC.wp F (.loop h22_19) Q env w := rfl
def h22_21 : HC := (.seq (.block 0 h22_20) h22_2)
@[simp] theorem h22_21_wp {P : Program} {F : PF P} {Q : EX → List Value → World → Prop} {env : List Value} {w : World} : h22_21.wp F Q env w = HC.wp F (.seq (.block 0 h22_20) h22_2) Q env w := rfl
def h22_22 : HC := (.seq (.reg (.done [(6, (.cst (.int .i64 0)))] none)) h22_21)
@[simp] theorem h22_22_wp {P : Program} {F : PF P} {Q : EX → List Value → World → Prop} {env : List Value} {w : World} : h22_22.wp F Q env w = HC.wp F (.seq (.reg (.done [(6, (.cst (.int .i64 0)))] none)) h22_21) Q env w := rfl
def h22_23 : HC := (.seq (.reg (.done [(5, (.inp 2))] none)) h22_22)
@[simp] theorem h22_23_wp {P : Program} {F : PF P} {Q : EX → List Value → World → Prop} {env : List Value} {w : World} : h22_23.wp F Q env w = HC.wp F (.seq (.reg (.done [(5, (.inp 2))] none)) h22_22) Q env w := rfl
def h22_24 : HC := (.seq (.reg (.done [(3, (.cst (.pointer none))), (4, (.cst (.int .i64 142)))] none)) .ret)
@[simp] theorem h22_24_wp {P : Program} {F : PF P} {Q : EX → List Value → World → Prop} {env : List Value} {w : World} : h22_24.wp F Q env w = HC.wp F (.seq (.reg (.done [(3, (.cst (.pointer none))), (4, (.cst (.int .i64 142)))] none)) .ret) Q env w := rfl
def h22_25 : HC := (.seq (.br (.chk none .lenL (.cons (.inp 1) .nil) (.chk none (.bin .eql) (.cons (.op .lenL (.cons (.inp 1) .nil)) (.cons (.cst (.int .i64 0)) .nil)) (.bnd (.op (.bin .eql) (.cons (.op .lenL (.cons (.inp 1) .nil)) (.cons (.cst (.int .i64 0)) .nil))) (.chk (some ((.bv 0), false)) (.idxL 2) (.cons (.inp 1) (.cons (.cst (.int .i64 0)) .nil)) (.chk (some ((.bv 0), false)) (.fld 0) (.cons (.op (.idxL 2) (.cons (.inp 1) (.cons (.cst (.int .i64 0)) .nil))) .nil) (.ite (.bv 0) false (.eff (.ld false 1) (.cons (.ite (.bv 0) false (.op (.fld 0) (.cons (.op (.idxL 2) (.cons (.inp 1) (.cons (.cst (.int .i64 0)) .nil))) .nil)) (.cst (.tuple #[]))) .nil) (.chk none (.bin .neq) (.cons (.bv 1) (.cons (.cst (.string ⟨#[98, 97, 110, 107]⟩)) .nil)) (.isb none (.bv 0) (.done [] (some (.op (.bin .neq) (.cons (.bv 1) (.cons (.cst (.string ⟨#[98, 97, 110, 107]⟩)) .nil)))))))) (.isb none (.bv 0) (.done [] (some (.cst (.bool true))))))))))) h22_24 .skip) h22_23)
@[simp] theorem h22_25_wp {P : Program} {F : PF P} {Q : EX → List Value → World → Prop} {env : List Value} {w : World} : h22_25.wp F Q env w = HC.wp F (.seq (.br (.chk none .lenL (.cons (.inp 1) .nil) (.chk none (.bin .eql) (.cons (.op .lenL (.cons (.inp 1) .nil)) (.cons (.cst (.int .i64 0)) .nil)) (.bnd (.op (.bin .eql) (.cons (.op .lenL (.cons (.inp 1) .nil)) (.cons (.cst (.int .i64 0)) .nil))) (.chk (some ((.bv 0), false)) (.idxL 2) (.cons (.inp 1) (.cons (.cst (.int .i64 0)) .nil)) (.chk (some ((.bv 0), false)) (.fld 0) (.cons (.op (.idxL 2) (.cons (.inp 1) (.cons (.cst (.int .i64 0)) .nil))) .nil) (.ite (.bv 0) false (.eff (.ld false 1) (.cons (.ite (.bv 0) false (.op (.fld 0) (.cons (.op (.idxL 2) (.cons (.inp 1) (.cons (.cst (.int .i64 0)) .nil))) .nil)) (.cst (.tuple #[]))) .nil) (.chk none (.bin .neq) (.cons (.bv 1) (.cons (.cst (.string ⟨#[98, 97, 110, 107]⟩)) .nil)) (.isb none (.bv 0) (.done [] (some (.op (.bin .neq) (.cons (.bv 1) (.cons (.cst (.string ⟨#[98, 97, 110, 107]⟩)) .nil)))))))) (.isb none (.bv 0) (.done [] (some (.cst (.bool true))))))))))) h22_24 .skip) h22_23) Q env w := rfl
def h22_26 : HC := (.seq (.reg (.done [(3, (.cst (.pointer none))), (4, (.cst (.int .i64 141)))] none)) .ret)
@[simp] theorem h22_26_wp {P : Program} {F : PF P} {Q : EX → List Value → World → Prop} {env : List Value} {w : World} : h22_26.wp F Q env w = HC.wp F (.seq (.reg (.done [(3, (.cst (.pointer none))), (4, (.cst (.int .i64 141)))] none)) .ret) Q env w := rfl
def h22_27 : HC := (.seq (.br (.chk none .lenL (.cons (.inp 1) .nil) (.chk none (.bin .gtr) (.cons (.op .lenL (.cons (.inp 1) .nil)) (.cons (.inp 0) .nil)) (.done [] (some (.op (.bin .gtr) (.cons (.op .lenL (.cons (.inp 1) .nil)) (.cons (.inp 0) .nil))))))) h22_26 .skip) h22_25)
@[simp] theorem h22_27_wp {P : Program} {F : PF P} {Q : EX → List Value → World → Prop} {env : List Value} {w : World} : h22_27.wp F Q env w = HC.wp F (.seq (.br (.chk none .lenL (.cons (.inp 1) .nil) (.chk none (.bin .gtr) (.cons (.op .lenL (.cons (.inp 1) .nil)) (.cons (.inp 0) .nil)) (.done [] (some (.op (.bin .gtr) (.cons (.op .lenL (.cons (.inp 1) .nil)) (.cons (.inp 0) .nil))))))) h22_26 .skip) h22_25) Q env w := rfl
def h22_28 : HC := (.seq (.reg (.done [(3, (.cst (.pointer none))), (4, (.cst (.int .i64 144)))] none)) .ret)
@[simp] theorem h22_28_wp {P : Program} {F : PF P} {Q : EX → List Value → World → Prop} {env : List Value} {w : World} : h22_28.wp F Q env w = HC.wp F (.seq (.reg (.done [(3, (.cst (.pointer none))), (4, (.cst (.int .i64 144)))] none)) .ret) Q env w := rfl
def h22_29 : HC := (.seq (.br (.chk none (.bin .gtr) (.cons (.inp 2) (.cons (.cst (.int .u64 4611686018427387904)) .nil)) (.done [] (some (.op (.bin .gtr) (.cons (.inp 2) (.cons (.cst (.int .u64 4611686018427387904)) .nil)))))) h22_28 .skip) h22_27)
@[simp] theorem h22_29_wp {P : Program} {F : PF P} {Q : EX → List Value → World → Prop} {env : List Value} {w : World} : h22_29.wp F Q env w = HC.wp F (.seq (.br (.chk none (.bin .gtr) (.cons (.inp 2) (.cons (.cst (.int .u64 4611686018427387904)) .nil)) (.done [] (some (.op (.bin .gtr) (.cons (.inp 2) (.cons (.cst (.int .u64 4611686018427387904)) .nil)))))) h22_28 .skip) h22_27) Q env w := rfl
def h22_30 : HC := (.seq (.reg (.done [(3, (.cst (.pointer none))), (4, (.cst (.int .i64 2)))] none)) .ret)
@[simp] theorem h22_30_wp {P : Program} {F : PF P} {Q : EX → List Value → World → Prop} {env : List Value} {w : World} : h22_30.wp F Q env w = HC.wp F (.seq (.reg (.done [(3, (.cst (.pointer none))), (4, (.cst (.int .i64 2)))] none)) .ret) Q env w := rfl
def h22_31 : HC := (.seq (.br (.chk none (.bin .lss) (.cons (.inp 0) (.cons (.cst (.int .i64 1)) .nil)) (.bnd (.op (.bin .lss) (.cons (.inp 0) (.cons (.cst (.int .i64 1)) .nil))) (.chk (some ((.bv 0), false)) (.bin .gtr) (.cons (.inp 0) (.cons (.cst (.int .i64 64)) .nil)) (.isb none (.bv 0) (.done [] (some (.ite (.bv 0) true (.cst (.bool true)) (.op (.bin .gtr) (.cons (.inp 0) (.cons (.cst (.int .i64 64)) .nil)))))))))) h22_30 .skip) h22_29)
@[simp] theorem h22_31_wp {P : Program} {F : PF P} {Q : EX → List Value → World → Prop} {env : List Value} {w : World} : h22_31.wp F Q env w = HC.wp F (.seq (.br (.chk none (.bin .lss) (.cons (.inp 0) (.cons (.cst (.int .i64 1)) .nil)) (.bnd (.op (.bin .lss) (.cons (.inp 0) (.cons (.cst (.int .i64 1)) .nil))) (.chk (some ((.bv 0), false)) (.bin .gtr) (.cons (.inp 0) (.cons (.cst (.int .i64 64)) .nil)) (.isb none (.bv 0) (.done [] (some (.ite (.bv 0) true (.cst (.bool true)) (.op (.bin .gtr) (.cons (.inp 0) (.cons (.cst (.int .i64 64)) .nil)))))))))) h22_30 .skip) h22_29) Q env w := rfl
def l22 : Lifted := ⟨[0, 1, 2, 6, 7, 8, 9, 11, 12, 13], 99, [.slot 3, .slot 4], (.seq (.reg (.done [(3, (.cst (.pointer none))), (4, (.cst (.int .i64 0)))] none)) h22_31)⟩
theorem l22_ok : liftFn U1 22 400 = some l22 := by kernel_rfl


theorem rSame_spec (a b : List UInt8) (w0 w : World) (A : Asn) (ha : a.length ≤ 1048576) (hb : b.length ≤ 1048576) (s : St w0 A w) :
    CallW Try.prog 55 [.string (mk a), .string (mk b)] (fun r w' => r = .bool (decide (keyF a = keyF b)) ∧ St w0 A w') w := by
  refine callW_of_lift l55_ok (by simp [l55]) ?_
  simp [l55]
  refine eff_call ((rFold_spec a w0 w A ha s).mono ?_)
  rintro r w1 ⟨rfl, s1⟩
  simp
  refine eff_call ((rFold_spec b w0 w1 A hb s1).mono ?_)
  rintro r w2 ⟨rfl, s2⟩
  simp
  refine ⟨?_, s2⟩
  rw [Bool.eq_iff_iff]
  simp only [beq_iff_eq, decide_eq_true_eq]
  exact Iff.rfl
theorem rFind_spec (q : Nat) (P : Ps) (x : List UInt8) (w0 w : World) (A : Asn) (hx : x.length ≤ 1048576) (hl : P.rows.length ≤ 64) (hn : ∀ i, (h : i < P.rows.length) → P.rows[i].name.length ≤ 1048576) (s : St w0 (A * rpur q P) w) :
    CallW Try.prog 68 [.pointer (some ⟨q, 0, none⟩), .string (mk x)] (fun r w' => r = .tuple #[.int .i64 (askN (keyF x) (keys P.rows)), .bool (askB (keyF x) (keys P.rows))] ∧ St w0 (A * rpur q P) w') w := by
  refine callW_of_lift l68_ok (by simp [l68]) ?_
  simp [l68]
  obtain ⟨v, s1⟩ := ropen s
  clear s
  obtain ⟨a, cap, rfl, _⟩ := s1.own_val
  have hkl : (keys P.rows).length = P.rows.length := by simp [keys]
  refine loopI (fun env w' => ∃ (i : Nat), env = [.pointer (some ⟨q, 0, none⟩), .string (mk x), .int .i64 0, .bool false, .int .i64 i] ∧ i ≤ P.rows.length ∧ (∀ n, n < i → (keys P.rows)[n]? ≠ some (keyF x)) ∧
      St w0 (A * rpt q P (.slice a P.rows.length cap) * own 66 2 (.slice a P.rows.length cap) P.rows.length (flat P.rows)) w')
    (fun env _ => P.rows.length - slotN env 4) ⟨0, rfl, by omega, fun n hn => by omega, s1⟩ ?_
  clear s1
  rintro LQ env w' ⟨i, rfl, hi, hno, s⟩ hN hE hR
  simp
  refine eff_ldc (v := .slice a P.rows.length cap) (by rw [cell_of s.drop.look]; rfl) ?_
  simp
  refine cndI (fun h => ?_) (fun h => ?_)
  · have h0 := h
    simp at h0
    simp at h
    have h : i < P.rows.length := by omega
    obtain ⟨g, _, hv, _, hcell⟩ := s.own_at (by omega)
    cases hv
    simp
    refine eff_ldc (v := .slice (some ⟨g, 0, none⟩) P.rows.length cap) (by rw [cell_of s.drop.look]; rfl) ?_
    simp [h]
    refine eff_ldc (hcell _ _ (flat_name h)) ?_
    simp
    refine eff_call ((rSame_spec P.rows[i].name x w0 w' _ (hn i h) hx s).mono ?_)
    rintro r w2 ⟨rfl, s2⟩
    simp
    have hki : (keys P.rows)[i]? = some (keyF P.rows[i].name) := by simp [keys, h]
    refine cndI (fun h2 => ?_) (fun h2 => ?_)
    · have h3 := of_decide_eq_true h2
      have hlk := lookK_first (j := 0) hno (by rw [hki, h3])
      rw [Nat.zero_add] at hlk
      simp
      refine hR _ _ ?_
      simp [askN, askB, hlk]
      exact rclose s2
    · have h3 := of_decide_eq_false h2
      simp
      try simp (disch := omega) only [wrap64]
      refine hN _ _ ⟨i + 1, by simp, by omega, fun n hn' => ?_, s2⟩ (by simp [slotN]; omega)
      by_cases e : n = i
      · subst e
        rw [hki]
        intro hh
        exact h3 (by simpa using hh)
      · exact hno n (by omega)
  simp at h
  simp
  refine hE _ _ _ ?_
  have hlk : lookK (keyF x) (keys P.rows) 0 = none := by
    refine lookK_never fun hm => ?_
    obtain ⟨n, hn', he⟩ := List.getElem_of_mem hm
    exact hno n (by omega) (by rw [List.getElem?_eq_getElem hn', he])
  simp [askN, askB, hlk]
  exact rclose s
theorem rthere_spec (q : Nat) (P : Ps) (n : Int) (w0 w : World) (A : Asn) (s : St w0 (A * rpur q P) w) :
    CallW Try.prog 85 [.pointer (some ⟨q, 0, none⟩), .int .i64 n] (fun r w' => r = .bool (decide (accE P.rows n = 0)) ∧ St w0 (A * rpur q P) w') w := by
  refine callW_of_lift l85_ok (by simp [l85]) ?_
  simp [l85]
  obtain ⟨v, s1⟩ := ropen s
  obtain ⟨a, cap, rfl, _⟩ := s1.own_val
  by_cases h : 0 ≤ n
  · simp [h]
    refine eff_ldc (v := .slice a P.rows.length cap) (by rw [cell_of s1.drop.look]; rfl) ?_
    simp
    refine ⟨?_, s⟩
    unfold accE
    by_cases h2 : n < P.rows.length
    · simp [h, h2]
    · simp [h, h2]
  · simp [h]
    refine ⟨?_, s⟩
    unfold accE
    rw [if_neg (fun e => h e.1)]
    decide
theorem rOpen_spec (q : Nat) (P : Ps) (x : List UInt8) (w0 w : World) (A : Asn) (hx : x.length ≤ 1048576) (hl : P.rows.length ≤ 64) (hn : ∀ i, (h : i < P.rows.length) → P.rows[i].name.length ≤ 1048576) (s : St w0 (A * rpur q P) w) :
    CallW Try.prog 60 [.pointer (some ⟨q, 0, none⟩), .string (mk x)] (fun r w' => r = .tuple #[.int .i64 (openF P x).1, .int .i64 (openF P x).2.1] ∧ St w0 (A * rpur q (openF P x).2.2) w') w := by
  refine callW_of_lift l60_ok (by simp [l60]) ?_
  simp [l60]
  refine eff_call ((rcheck_spec x w0 w _ hx s).mono ?_)
  rintro r w1 ⟨rfl, s⟩
  simp
  refine cndI (fun h => ?_) (fun h => ?_)
  · simp at h
    simp [openF, h]
    exact s
  simp at h
  simp
  refine eff_call ((rFind_spec q P x w0 w1 A hx hl hn s).mono ?_)
  rintro r w2 ⟨rfl, s2⟩
  simp
  refine cndI (fun h2 => ?_) (fun h2 => ?_)
  · simp [openF, h, h2]
    exact s2
  simp
  obtain ⟨v, s3⟩ := ropen s2
  clear s s2
  obtain ⟨a, cap, rfl, _⟩ := s3.own_val
  refine brqI s3 ?_
  simp
  refine effq_ldc (v := .slice a P.rows.length cap) (fun w s => by rw [cell_of s.drop.look]; rfl) ?_
  simp
  refine effq_ldc (v := .int .i64 P.lim) (fun w s => by rw [cell_of s.drop.look]; rfl) ?_
  simp
  clear s3
  intro w9 s3
  refine cndI (fun h3 => ?_) (fun h3 => ?_)
  · simp at h3
    simp [openF, h, h2, h3]
    exact rclose s3
  simp at h3
  simp
  refine eff_ldc (v := .slice a P.rows.length cap) (by rw [cell_of s3.drop.look]; rfl) ?_
  simp [Instr.fill, Value.cells]
  refine eff_bslV s3 rfl ?_
  intro c w3 s4
  simp
  refine eff_app (m := 1) (news := Ac.cs ⟨x, 0⟩) (s4.to (B := A * rpt q P (.slice a P.rows.length cap) * pt c (.cells (Ac.cs ⟨x, 0⟩).toArray 66 (0, 0)) * own 66 2 (.slice a P.rows.length cap) P.rows.length (flat P.rows)) (by ac_rfl)) rfl s4.cells_look (cs_one _) (by decide) rfl (by unfold maxLen; omega) (by omega) ?_
  intro v2 w4 s5
  simp
  obtain ⟨a2, cap2, rfl, _⟩ := s5.own_val
  refine eff_st1 (s5.to (B := A * pt c (.cells (Ac.cs ⟨x, 0⟩).toArray 66 (0, 0)) * own 66 2 (.slice a2 (P.rows.length + 1) cap2) (P.rows.length + 1) (flat P.rows ++ Ac.cs ⟨x, 0⟩) * rpt q P (.slice a P.rows.length cap)) (by ac_rfl)) rfl (by simp) ?_
  intro w5 s6
  simp at s6
  simp
  refine eff_ldc (v := .slice a2 (P.rows.length + 1) cap2) (by rw [cell_of s6.look]; rfl) ?_
  simp
  try simp (disch := omega) only [wrap64]
  simp [openF, h, h2, h3]
  have s6 : St w0 (A * pt c (.cells (Ac.cs ⟨x, 0⟩).toArray 66 (0, 0)) * own 66 2 (.slice a2 (P.rows.length + 1) cap2) (P.rows.length + 1) (flat P.rows ++ Ac.cs ⟨x, 0⟩) * rpt q P (.slice a2 (P.rows.length + 1) cap2)) w5 := s6
  refine rclose (v := .slice a2 (P.rows.length + 1) cap2) ?_
  have e : flat (P.rows ++ [⟨x, 0⟩]) = flat P.rows ++ Ac.cs ⟨x, 0⟩ := by simp [flat]
  show St w0 (A * rpt q P (.slice a2 (P.rows.length + 1) cap2) * own 66 2 (.slice a2 (P.rows.length + 1) cap2) (P.rows ++ [(⟨x, 0⟩ : Ac)]).length (flat (P.rows ++ [⟨x, 0⟩]))) w5
  rw [e, List.length_append]
  exact St.cut (pt c (.cells (Ac.cs ⟨x, 0⟩).toArray 66 (0, 0))) s6 (by simp only [List.length_singleton]; ac_rfl)
theorem rSupply_spec (q : Nat) (P : Ps) (w0 w : World) (A : Asn) (s : St w0 (A * rpur q P) w) :
    CallW Try.prog 71 [.pointer (some ⟨q, 0, none⟩)] (fun r w' => r = .int .u64 P.sup ∧ St w0 (A * rpur q P) w') w := by
  refine callW_of_lift l71_ok (by simp [l71]) ?_
  simp [l71]
  obtain ⟨v, s1⟩ := ropen s
  obtain ⟨a, cap, rfl, _⟩ := s1.own_val
  refine eff_ldc (v := .int .u64 P.sup) (by rw [cell_of s1.drop.look]; rfl) ?_
  simp
  exact s
theorem rLimit_spec (q : Nat) (P : Ps) (w0 w : World) (A : Asn) (s : St w0 (A * rpur q P) w) :
    CallW Try.prog 73 [.pointer (some ⟨q, 0, none⟩)] (fun r w' => r = .int .i64 P.lim ∧ St w0 (A * rpur q P) w') w := by
  refine callW_of_lift l73_ok (by simp [l73]) ?_
  simp [l73]
  obtain ⟨v, s1⟩ := ropen s
  obtain ⟨a, cap, rfl, _⟩ := s1.own_val
  refine eff_ldc (v := .int .i64 P.lim) (by rw [cell_of s1.drop.look]; rfl) ?_
  simp
  exact s
theorem rLen_spec (q : Nat) (P : Ps) (w0 w : World) (A : Asn) (s : St w0 (A * rpur q P) w) :
    CallW Try.prog 74 [.pointer (some ⟨q, 0, none⟩)] (fun r w' => r = .int .i64 P.rows.length ∧ St w0 (A * rpur q P) w') w := by
  refine callW_of_lift l74_ok (by simp [l74]) ?_
  simp [l74]
  obtain ⟨v, s1⟩ := ropen s
  obtain ⟨a, cap, rfl, _⟩ := s1.own_val
  refine eff_ldc (v := .slice a P.rows.length cap) (by rw [cell_of s1.drop.look]; rfl) ?_
  simp
  exact s
theorem rHeld_spec (q : Nat) (lim : Int) (P : Ps) (w0 w : World) (A : Asn) (hP : PI lim P) (s : St w0 (A * rpur q P) w) :
    CallW Try.prog 72 [.pointer (some ⟨q, 0, none⟩)] (fun r w' => r = .int .u64 P.held ∧ St w0 (A * rpur q P) w') w := by
  have hb := hP.bd
  have hlen := hb.len
  have h1 := hP.held
  have h2 := hP.sum
  have h3 := hP.sup
  refine callW_of_lift l72_ok (by simp [l72]) ?_
  simp [l72]
  obtain ⟨v, s1⟩ := ropen s
  clear s
  obtain ⟨a, cap, rfl, _⟩ := s1.own_val
  refine eff_ldc (v := .int .u64 P.sup) (by rw [cell_of s1.drop.look]; rfl) ?_
  simp
  refine loopI (fun env w' => ∃ (i : Nat), env = [.pointer (some ⟨q, 0, none⟩), .int .u64 0, .int .u64 (P.sup - total (P.rows.take i)), .int .i64 i] ∧ i ≤ P.rows.length ∧
      St w0 (A * rpt q P (.slice a P.rows.length cap) * own 66 2 (.slice a P.rows.length cap) P.rows.length (flat P.rows)) w')
    (fun env _ => P.rows.length - slotN env 3) ⟨0, by simp [total], by omega, s1⟩ ?_
  clear s1
  rintro LQ env w' ⟨i, rfl, hi, s⟩ hN hE hR
  simp
  refine eff_ldc (v := .slice a P.rows.length cap) (by rw [cell_of s.drop.look]; rfl) ?_
  simp
  refine cndI (fun h => ?_) (fun h => ?_)
  · simp at h
    have h : i < P.rows.length := by omega
    obtain ⟨g, _, hv, _, hcell⟩ := s.own_at (by omega)
    cases hv
    simp
    refine eff_ldc (v := .slice (some ⟨g, 0, none⟩) P.rows.length cap) (by rw [cell_of s.drop.look]; rfl) ?_
    simp [h]
    refine eff_ldc (hcell _ _ (flat_coins h)) ?_
    simp
    have ht := total_take hP.coins (i + 1)
    rw [List.take_succ_eq_append_getElem h, total_snoc] at ht
    have ht0 := total_take hP.coins i
    have hc0 := hP.coins _ (List.getElem_mem h)
    try simp (disch := omega) only [wrap64, wrapu64]
    refine hN _ _ ⟨i + 1, ?_, by omega, s⟩ (by simp [slotN]; omega)
    rw [List.take_succ_eq_append_getElem h, total_snoc]
    simp
    omega
  simp at h
  simp
  refine hE _ _ _ ?_
  have hie : i = P.rows.length := by omega
  rw [hie, List.take_length]
  have e : P.sup - total P.rows = P.held := by omega
  rw [e]
  simp
  exact rclose s
theorem rRows_spec (q : Nat) (P : Ps) (w0 w : World) (A : Asn) (hl : P.rows.length ≤ 1048576) (s : St w0 (A * rpur q P) w) :
    CallW Try.prog 58 [.pointer (some ⟨q, 0, none⟩)] (fun r w' => St w0 (A * rpur q P * own 66 2 r P.rows.length (flat P.rows)) w') w := by
  refine callW_of_lift l58_ok (by simp [l58]) ?_
  simp [l58]
  obtain ⟨v, s1⟩ := ropen s
  clear s
  obtain ⟨a, cap, rfl, _⟩ := s1.own_val
  refine eff_ldc (v := .slice a P.rows.length cap) (by rw [cell_of s1.drop.look]; rfl) ?_
  simp
  refine eff_appR (s1.own_nil 66 2) (row_in (e := 66) (B := A * rpt q P (.slice a P.rows.length cap) * own 66 2 (.slice none 0 0) 0 []) (s1.own_nil 66 2) (by ac_rfl)) (flat_one _) (by decide) rfl (by unfold maxLen; omega) (by omega) ?_
  intro v2 w2 s2
  simp
  have s3 : St w0 (A * rpt q P (.slice a P.rows.length cap) * own 66 2 (.slice a P.rows.length cap) P.rows.length (flat P.rows) * own 66 2 v2 P.rows.length (flat P.rows)) w2 := by simpa using s2
  exact (rclose (v := .slice a P.rows.length cap) (s3.to (B := A * own 66 2 v2 P.rows.length (flat P.rows) * rpt q P (.slice a P.rows.length cap) * own 66 2 (.slice a P.rows.length cap) P.rows.length (flat P.rows)) (by ac_rfl))).to (by ac_rfl)
end Go.HL.Pu

namespace Go.HL.Pu
open Go.HL Go.HL.Nm Go.Proofs
set_option maxRecDepth 4000
set_option linter.unusedSimpArgs false
set_option linter.unusedVariables false
theorem rMint_spec (q : Nat) (lim : Int) (P : Ps) (n c : Int) (w0 w : World) (A : Asn) (hP : PI lim P) (hc : 0 ≤ c ∧ c < 18446744073709551616) (s : St w0 (A * rpur q P) w) :
    CallW Try.prog 61 [.pointer (some ⟨q, 0, none⟩), .int .i64 n, .int .u64 c] (fun r w' => r = .int .i64 (mintF P n c).1 ∧ St w0 (A * rpur q (mintF P n c).2) w') w := by
  have hb := hP.bd
  have hlen := hb.len
  have hs := hb.sup
  refine callW_of_lift l61_ok (by simp [l61]) ?_
  simp [l61]
  refine eff_call ((rthere_spec q P n w0 w A s).mono ?_)
  rintro r w1 ⟨rfl, s⟩
  simp
  refine cndI (fun h => ?_) (fun h => ?_)
  · simp at h
    have h142 := (accE_or P.rows n).resolve_left h
    simp [mintF, h142]
    exact s
  simp at h
  obtain ⟨i, rfl, hi⟩ := acc_in h
  simp
  refine cndI (fun h1 => ?_) (fun h1 => ?_)
  · simp at h1
    simp [mintF, h, h1]
    exact s
  simp at h1
  simp
  obtain ⟨v, s1⟩ := ropen s
  clear s
  obtain ⟨g, cap, rfl, hcap, _⟩ := s1.own_at (by omega)
  have done144 : 4611686018427387904 - P.sup < c → mintF P (i : Int) c = (144, P) := fun e => by unfold mintF; rw [if_pos h, if_neg h1, if_pos e]
  by_cases hbig : 4611686018427387904 < c
  · simp [hbig]
    rw [done144 (by omega)]
    exact ⟨rfl, rclose s1⟩
  simp [hbig]
  refine eff_ldc (v := .int .u64 P.sup) (by rw [cell_of s1.drop.look]; rfl) ?_
  simp
  try simp (disch := omega) only [wrapu64]
  refine cndI (fun h2 => ?_) (fun h2 => ?_)
  · simp at h2
    simp
    rw [done144 (by omega)]
    exact ⟨rfl, rclose s1⟩
  simp at h2
  simp
  refine eff_ldc (v := .int .u64 P.sup) (by rw [cell_of s1.drop.look]; rfl) ?_
  simp
  try simp (disch := omega) only [wrapu64]
  refine eff_st1 (s1.to (B := A * own 66 2 (.slice (some ⟨g, 0, none⟩) P.rows.length cap) P.rows.length (flat P.rows) * rpt q P (.slice (some ⟨g, 0, none⟩) P.rows.length cap)) (by ac_rfl)) rfl (by simp) ?_
  intro w2 s2
  simp at s2
  have s2 : St w0 (A * rpt q { P with sup := P.sup + c } (.slice (some ⟨g, 0, none⟩) P.rows.length cap) * own 66 2 (.slice (some ⟨g, 0, none⟩) P.rows.length cap) P.rows.length (flat P.rows)) w2 := s2.swap
  simp
  have hci := coin_bd hb hi
  have hcell_s3 : ∀ {w}, St w0 (A * rpt q { P with sup := P.sup + c } (.slice (some ⟨g, 0, none⟩) P.rows.length cap) * own 66 2 (.slice (some ⟨g, 0, none⟩) P.rows.length cap) P.rows.length (flat P.rows)) w → w.cell? ⟨g, i * 2 + 1, none⟩ = some (.int .u64 (coin P.rows i)) := fun h => by
    obtain ⟨_, _, hv, _, hc⟩ := h.own_at (by omega)
    cases hv
    rw [hc _ _ (flat_coins hi), coin_at hi]
  have hptr_s3 : ∀ {w}, St w0 (A * rpt q { P with sup := P.sup + c } (.slice (some ⟨g, 0, none⟩) P.rows.length cap)) w → w.cell? ⟨q, 1, none⟩ = some (.slice (some ⟨g, 0, none⟩) P.rows.length cap) := fun h => by rw [cell_of h.look]; rfl
  refine regmI (cls1 (St w0 (A * rpt q { P with sup := P.sup + c } (.slice (some ⟨g, 0, none⟩) P.rows.length cap) * own 66 2 (.slice (some ⟨g, 0, none⟩) P.rows.length cap) P.rows.length (flat P.rows)))
    (St w0 (A * rpt q { P with sup := P.sup + c } (.slice (some ⟨g, 0, none⟩) P.rows.length cap) * own 66 2 (.slice (some ⟨g, 0, none⟩) P.rows.length cap) P.rows.length (flat (setC P.rows i (coin P.rows i + c)))))) s2.drew ?_
  simp
  refine effm_ldc (v := .slice (some ⟨g, 0, none⟩) P.rows.length cap) (fun vs' w he hw => cls1_low (fun h => hptr_s3 h.drop) (fun h => hptr_s3 h.drop) hw) ?_
  simp
  refine effm_ldc (v := .slice (some ⟨g, 0, none⟩) P.rows.length cap) (fun vs' w he hw => cls1_low (fun h => hptr_s3 h.drop) (fun h => hptr_s3 h.drop) hw) ?_
  simp [hi]
  refine effm_ldc (v := .int .u64 (coin P.rows i)) (fun vs' w he hw => ?_) ?_
  · match vs', hw with
    | [], hw => exact hcell_s3 hw
    | _ :: _, hw => simp [era] at he
  simp [hi]
  try simp (disch := omega) only [wrapu64]
  try simp
  refine effm_mv (by rfl) (fun w hw => ?_) (fun r hr => ?_)
  · rw [cls1_nil] at hw
    exact st_coin2 hi (by simp [setC_len]) hw fun w' h => h
  simp
  intro w_s3 s3
  have e : mintF P (i : Int) c = (0, { P with sup := P.sup + c, rows := setC P.rows i (coin P.rows i + c) }) := by unfold mintF; rw [if_pos h, if_neg h1, if_neg (by omega)]; simp
  rw [e]
  refine ⟨rfl, rclose (v := .slice (some ⟨g, 0, none⟩) P.rows.length cap) ?_⟩
  show St w0 (A * rpt q { P with sup := P.sup + c } (.slice (some ⟨g, 0, none⟩) P.rows.length cap) * own 66 2 (.slice (some ⟨g, 0, none⟩) P.rows.length cap) (setC P.rows i (coin P.rows i + c)).length (flat (setC P.rows i (coin P.rows i + c)))) _
  rw [setC_len]
  exact s3
theorem rTake_spec (q : Nat) (lim : Int) (P : Ps) (n c : Int) (w0 w : World) (A : Asn) (hP : PI lim P) (hc : 0 ≤ c ∧ c < 18446744073709551616) (s : St w0 (A * rpur q P) w) :
    CallW Try.prog 65 [.pointer (some ⟨q, 0, none⟩), .int .i64 n, .int .u64 c] (fun r w' => r = .int .i64 (takeF P n c).1 ∧ St w0 (A * rpur q (takeF P n c).2) w') w := by
  have hb := hP.bd
  have hlen := hb.len
  have hs := hb.sup
  refine callW_of_lift l65_ok (by simp [l65]) ?_
  simp [l65]
  refine eff_call ((rthere_spec q P n w0 w A s).mono ?_)
  rintro r w1 ⟨rfl, s⟩
  simp
  refine cndI (fun h => ?_) (fun h => ?_)
  · simp at h
    have h142 := (accE_or P.rows n).resolve_left h
    simp [takeF, h142]
    exact s
  simp at h
  obtain ⟨i, rfl, hi⟩ := acc_in h
  simp
  obtain ⟨v, s1⟩ := ropen s
  clear s
  obtain ⟨g, cap, rfl, hcap, hcell⟩ := s1.own_at (by omega)
  have hci := coin_bd hb hi
  refine eff_ldc (v := .slice (some ⟨g, 0, none⟩) P.rows.length cap) (by rw [cell_of s1.drop.look]; rfl) ?_
  simp [hi]
  refine eff_ldc (v := .int .u64 (coin P.rows i)) (by rw [hcell _ _ (flat_coins hi), coin_at hi]) ?_
  simp
  refine cndI (fun h2 => ?_) (fun h2 => ?_)
  · simp at h2
    simp [takeF, h, h2]
    exact rclose s1
  simp at h2
  simp
  have hcell_s3 : ∀ {w}, St w0 (A * rpt q P (.slice (some ⟨g, 0, none⟩) P.rows.length cap) * own 66 2 (.slice (some ⟨g, 0, none⟩) P.rows.length cap) P.rows.length (flat P.rows)) w → w.cell? ⟨g, i * 2 + 1, none⟩ = some (.int .u64 (coin P.rows i)) := fun h => by
    obtain ⟨_, _, hv, _, hc⟩ := h.own_at (by omega)
    cases hv
    rw [hc _ _ (flat_coins hi), coin_at hi]
  have hptr_s3 : ∀ {w}, St w0 (A * rpt q P (.slice (some ⟨g, 0, none⟩) P.rows.length cap)) w → w.cell? ⟨q, 1, none⟩ = some (.slice (some ⟨g, 0, none⟩) P.rows.length cap) := fun h => by rw [cell_of h.look]; rfl
  refine regmI (cls1 (St w0 (A * rpt q P (.slice (some ⟨g, 0, none⟩) P.rows.length cap) * own 66 2 (.slice (some ⟨g, 0, none⟩) P.rows.length cap) P.rows.length (flat P.rows)))
    (St w0 (A * rpt q P (.slice (some ⟨g, 0, none⟩) P.rows.length cap) * own 66 2 (.slice (some ⟨g, 0, none⟩) P.rows.length cap) P.rows.length (flat (setC P.rows i (coin P.rows i - c)))))) s1.drew ?_
  simp
  refine effm_ldc (v := .slice (some ⟨g, 0, none⟩) P.rows.length cap) (fun vs' w he hw => cls1_low (fun h => hptr_s3 h.drop) (fun h => hptr_s3 h.drop) hw) ?_
  simp
  refine effm_ldc (v := .slice (some ⟨g, 0, none⟩) P.rows.length cap) (fun vs' w he hw => cls1_low (fun h => hptr_s3 h.drop) (fun h => hptr_s3 h.drop) hw) ?_
  simp [hi]
  refine effm_ldc (v := .int .u64 (coin P.rows i)) (fun vs' w he hw => ?_) ?_
  · match vs', hw with
    | [], hw => exact hcell_s3 hw
    | _ :: _, hw => simp [era] at he
  simp [hi]
  try simp (disch := omega) only [wrapu64]
  try simp
  refine effm_mv (by rfl) (fun w hw => ?_) (fun r hr => ?_)
  · rw [cls1_nil] at hw
    exact st_coin2 hi (by simp [setC_len]) hw fun w' h => h
  simp
  intro w_s3 s3
  have e : takeF P (i : Int) c = (0, { P with held := P.held + c, rows := setC P.rows i (coin P.rows i - c) }) := by unfold takeF; rw [if_pos h, if_neg (by simp; omega)]; simp
  rw [e]
  refine ⟨rfl, rclose (v := .slice (some ⟨g, 0, none⟩) P.rows.length cap) ?_⟩
  show St w0 (A * rpt q P (.slice (some ⟨g, 0, none⟩) P.rows.length cap) * own 66 2 (.slice (some ⟨g, 0, none⟩) P.rows.length cap) (setC P.rows i (coin P.rows i - c)).length (flat (setC P.rows i (coin P.rows i - c)))) _
  rw [setC_len]
  exact s3
theorem rPut_spec (q : Nat) (lim : Int) (P : Ps) (n c : Int) (w0 w : World) (A : Asn) (hP : PI lim P) (hc : 0 ≤ c ∧ c < 18446744073709551616) (s : St w0 (A * rpur q P) w) :
    CallW Try.prog 66 [.pointer (some ⟨q, 0, none⟩), .int .i64 n, .int .u64 c] (fun r w' => r = .int .i64 (putF P n c).1 ∧ St w0 (A * rpur q (putF P n c).2) w') w := by
  have hb := hP.bd
  have hlen := hb.len
  have hs := hb.sup
  refine callW_of_lift l66_ok (by simp [l66]) ?_
  simp [l66]
  refine eff_call ((rthere_spec q P n w0 w A s).mono ?_)
  rintro r w1 ⟨rfl, s⟩
  simp
  refine cndI (fun h => ?_) (fun h => ?_)
  · simp at h
    have h142 := (accE_or P.rows n).resolve_left h
    simp [putF, h142]
    exact s
  simp at h
  obtain ⟨i, rfl, hi⟩ := acc_in h
  simp
  have hhd := hb.held
  refine eff_call ((rHeld_spec q lim P w0 w1 A hP s).mono ?_)
  rintro r w2 ⟨rfl, s⟩
  simp
  refine cndI (fun h2 => ?_) (fun h2 => ?_)
  · simp at h2
    simp [putF, h, h2]
    exact s
  simp at h2
  simp
  obtain ⟨v, s1⟩ := ropen s
  clear s
  obtain ⟨g, cap, rfl, hcap, hcell⟩ := s1.own_at (by omega)
  have hci := coin_bd hb hi
  have hcell_s3 : ∀ {w}, St w0 (A * rpt q P (.slice (some ⟨g, 0, none⟩) P.rows.length cap) * own 66 2 (.slice (some ⟨g, 0, none⟩) P.rows.length cap) P.rows.length (flat P.rows)) w → w.cell? ⟨g, i * 2 + 1, none⟩ = some (.int .u64 (coin P.rows i)) := fun h => by
    obtain ⟨_, _, hv, _, hc⟩ := h.own_at (by omega)
    cases hv
    rw [hc _ _ (flat_coins hi), coin_at hi]
  have hptr_s3 : ∀ {w}, St w0 (A * rpt q P (.slice (some ⟨g, 0, none⟩) P.rows.length cap)) w → w.cell? ⟨q, 1, none⟩ = some (.slice (some ⟨g, 0, none⟩) P.rows.length cap) := fun h => by rw [cell_of h.look]; rfl
  refine regmI (cls1 (St w0 (A * rpt q P (.slice (some ⟨g, 0, none⟩) P.rows.length cap) * own 66 2 (.slice (some ⟨g, 0, none⟩) P.rows.length cap) P.rows.length (flat P.rows)))
    (St w0 (A * rpt q P (.slice (some ⟨g, 0, none⟩) P.rows.length cap) * own 66 2 (.slice (some ⟨g, 0, none⟩) P.rows.length cap) P.rows.length (flat (setC P.rows i (coin P.rows i + c)))))) s1.drew ?_
  simp
  refine effm_ldc (v := .slice (some ⟨g, 0, none⟩) P.rows.length cap) (fun vs' w he hw => cls1_low (fun h => hptr_s3 h.drop) (fun h => hptr_s3 h.drop) hw) ?_
  simp
  refine effm_ldc (v := .slice (some ⟨g, 0, none⟩) P.rows.length cap) (fun vs' w he hw => cls1_low (fun h => hptr_s3 h.drop) (fun h => hptr_s3 h.drop) hw) ?_
  simp [hi]
  refine effm_ldc (v := .int .u64 (coin P.rows i)) (fun vs' w he hw => ?_) ?_
  · match vs', hw with
    | [], hw => exact hcell_s3 hw
    | _ :: _, hw => simp [era] at he
  simp [hi]
  try simp (disch := omega) only [wrapu64]
  try simp
  refine effm_mv (by rfl) (fun w hw => ?_) (fun r hr => ?_)
  · rw [cls1_nil] at hw
    exact st_coin2 hi (by simp [setC_len]) hw fun w' h => h
  simp
  intro w_s3 s3
  have e : putF P (i : Int) c = (0, { P with held := P.held - c, rows := setC P.rows i (coin P.rows i + c) }) := by unfold putF; rw [if_pos h, if_neg (by omega)]; simp
  rw [e]
  refine ⟨rfl, rclose (v := .slice (some ⟨g, 0, none⟩) P.rows.length cap) ?_⟩
  show St w0 (A * rpt q P (.slice (some ⟨g, 0, none⟩) P.rows.length cap) * own 66 2 (.slice (some ⟨g, 0, none⟩) P.rows.length cap) (setC P.rows i (coin P.rows i + c)).length (flat (setC P.rows i (coin P.rows i + c)))) _
  rw [setC_len]
  exact s3
theorem rPay_spec (q : Nat) (lim : Int) (P : Ps) (a b c : Int) (w0 w : World) (A : Asn) (hP : PI lim P) (hc : 0 ≤ c ∧ c < 18446744073709551616) (s : St w0 (A * rpur q P) w) :
    CallW Try.prog 63 [.pointer (some ⟨q, 0, none⟩), .int .i64 a, .int .i64 b, .int .u64 c] (fun r w' => r = .int .i64 (payF P a b c).1 ∧ St w0 (A * rpur q (payF P a b c).2) w') w := by
  have hb := hP.bd
  have hlen := hb.len
  have hs := hb.sup
  refine callW_of_lift l63_ok (by simp [l63]) ?_
  simp [l63]
  refine eff_call ((rthere_spec q P a w0 w A s).mono ?_)
  rintro r w1 ⟨rfl, s⟩
  simp
  by_cases ha : accE P.rows a = 0
  · simp [ha]
    refine eff_call ((rthere_spec q P b w0 w1 A s).mono ?_)
    rintro r w2 ⟨rfl, s⟩
    simp
    by_cases hbb : accE P.rows b = 0
    · simp [hbb]
      obtain ⟨i, rfl, hi⟩ := acc_in ha
      obtain ⟨j, rfl, hj⟩ := acc_in hbb
      refine cndI (fun h => ?_) (fun h => ?_)
      · simp at h
        simp [payF, ha, hbb, h]
        exact s
      simp at h
      simp
      refine cndI (fun h1 => ?_) (fun h1 => ?_)
      · simp at h1
        simp [payF, ha, hbb, h, h1]
        exact s
      simp at h1
      simp
      obtain ⟨v, s1⟩ := ropen s
      clear s
      obtain ⟨g, cap, rfl, hcap, hcell⟩ := s1.own_at (by omega)
      have hci := coin_bd hb hi
      refine eff_ldc (v := .slice (some ⟨g, 0, none⟩) P.rows.length cap) (by rw [cell_of s1.drop.look]; rfl) ?_
      simp [hi]
      refine eff_ldc (v := .int .u64 (coin P.rows i)) (by rw [hcell _ _ (flat_coins hi), coin_at hi]) ?_
      simp
      have hcj := coin_bd hb hj
      refine cndI (fun h2 => ?_) (fun h2 => ?_)
      · simp at h2
        simp [payF, ha, hbb, h, h1, h2]
        exact rclose s1
      simp at h2
      simp
      have hj2 : j < (setC P.rows i (coin P.rows i - c)).length := by rw [setC_len]; exact hj
      have hcj2 : coin (setC P.rows i (coin P.rows i - c)) j = coin P.rows j := by rw [coin_set hi, if_neg (by omega)]
      have hcell_s3 : ∀ {w}, St w0 (A * rpt q P (.slice (some ⟨g, 0, none⟩) P.rows.length cap) * own 66 2 (.slice (some ⟨g, 0, none⟩) P.rows.length cap) P.rows.length (flat P.rows)) w → w.cell? ⟨g, i * 2 + 1, none⟩ = some (.int .u64 (coin P.rows i)) := fun h => by
        obtain ⟨_, _, hv, _, hc⟩ := h.own_at (by omega)
        cases hv
        rw [hc _ _ (flat_coins hi), coin_at hi]
      have hptr_s3 : ∀ {w}, St w0 (A * rpt q P (.slice (some ⟨g, 0, none⟩) P.rows.length cap)) w → w.cell? ⟨q, 1, none⟩ = some (.slice (some ⟨g, 0, none⟩) P.rows.length cap) := fun h => by rw [cell_of h.look]; rfl
      refine regmI (cls1 (St w0 (A * rpt q P (.slice (some ⟨g, 0, none⟩) P.rows.length cap) * own 66 2 (.slice (some ⟨g, 0, none⟩) P.rows.length cap) P.rows.length (flat P.rows)))
        (St w0 (A * rpt q P (.slice (some ⟨g, 0, none⟩) P.rows.length cap) * own 66 2 (.slice (some ⟨g, 0, none⟩) P.rows.length cap) P.rows.length (flat (setC P.rows i (coin P.rows i - c)))))) s1.drew ?_
      simp
      refine effm_ldc (v := .slice (some ⟨g, 0, none⟩) P.rows.length cap) (fun vs' w he hw => cls1_low (fun h => hptr_s3 h.drop) (fun h => hptr_s3 h.drop) hw) ?_
      simp
      refine effm_ldc (v := .slice (some ⟨g, 0, none⟩) P.rows.length cap) (fun vs' w he hw => cls1_low (fun h => hptr_s3 h.drop) (fun h => hptr_s3 h.drop) hw) ?_
      simp [hi]
      refine effm_ldc (v := .int .u64 (coin P.rows i)) (fun vs' w he hw => ?_) ?_
      · match vs', hw with
        | [], hw => exact hcell_s3 hw
        | _ :: _, hw => simp [era] at he
      simp [hi]
      try simp (disch := omega) only [wrapu64]
      try simp
      refine effm_mv (by rfl) (fun w hw => ?_) (fun r hr => ?_)
      · rw [cls1_nil] at hw
        exact st_coin2 hi (by simp [setC_len]) hw fun w' h => h
      simp
      intro w_s3 s3
      have hcell_s4 : ∀ {w}, St w0 (A * rpt q P (.slice (some ⟨g, 0, none⟩) P.rows.length cap) * own 66 2 (.slice (some ⟨g, 0, none⟩) P.rows.length cap) P.rows.length (flat (setC P.rows i (coin P.rows i - c)))) w → w.cell? ⟨g, j * 2 + 1, none⟩ = some (.int .u64 (coin (setC P.rows i (coin P.rows i - c)) j)) := fun h => by
        obtain ⟨_, _, hv, _, hc⟩ := h.own_at (by omega)
        cases hv
        rw [hc _ _ (flat_coins hj2), coin_at hj2]
      have hptr_s4 : ∀ {w}, St w0 (A * rpt q P (.slice (some ⟨g, 0, none⟩) P.rows.length cap)) w → w.cell? ⟨q, 1, none⟩ = some (.slice (some ⟨g, 0, none⟩) P.rows.length cap) := fun h => by rw [cell_of h.look]; rfl
      refine regmI (cls1 (St w0 (A * rpt q P (.slice (some ⟨g, 0, none⟩) P.rows.length cap) * own 66 2 (.slice (some ⟨g, 0, none⟩) P.rows.length cap) P.rows.length (flat (setC P.rows i (coin P.rows i - c)))))
        (St w0 (A * rpt q P (.slice (some ⟨g, 0, none⟩) P.rows.length cap) * own 66 2 (.slice (some ⟨g, 0, none⟩) P.rows.length cap) P.rows.length (flat (setC (setC P.rows i (coin P.rows i - c)) j (coin (setC P.rows i (coin P.rows i - c)) j + c)))))) s3.drew ?_
      simp
      refine effm_ldc (v := .slice (some ⟨g, 0, none⟩) P.rows.length cap) (fun vs' w he hw => cls1_low (fun h => hptr_s4 h.drop) (fun h => hptr_s4 h.drop) hw) ?_
      simp
      refine effm_ldc (v := .slice (some ⟨g, 0, none⟩) P.rows.length cap) (fun vs' w he hw => cls1_low (fun h => hptr_s4 h.drop) (fun h => hptr_s4 h.drop) hw) ?_
      simp [hj]
      refine effm_ldc (v := .int .u64 (coin (setC P.rows i (coin P.rows i - c)) j)) (fun vs' w he hw => ?_) ?_
      · match vs', hw with
        | [], hw => exact hcell_s4 hw
        | _ :: _, hw => simp [era] at he
      simp [hj]
      try simp (disch := omega) only [wrapu64]
      try simp
      refine effm_mv (by rfl) (fun w hw => ?_) (fun r hr => ?_)
      · rw [cls1_nil] at hw
        exact st_coin2 hj2 (by simp [setC_len]) hw fun w' h => h
      simp
      intro w_s4 s4
      have e : payF P (i : Int) (j : Int) c = (0, { P with rows := setC (setC P.rows i (coin P.rows i - c)) j (coin P.rows j + c) }) := by unfold payF; rw [if_pos ⟨ha, hbb⟩, if_neg (by omega), if_neg h1, if_neg (by simp; omega)]; simp
      rw [e, ← hcj2]
      refine ⟨rfl, rclose (v := .slice (some ⟨g, 0, none⟩) P.rows.length cap) ?_⟩
      show St w0 (A * rpt q P (.slice (some ⟨g, 0, none⟩) P.rows.length cap) * own 66 2 (.slice (some ⟨g, 0, none⟩) P.rows.length cap) (setC (setC P.rows i (coin P.rows i - c)) j (coin (setC P.rows i (coin P.rows i - c)) j + c)).length (flat (setC (setC P.rows i (coin P.rows i - c)) j (coin (setC P.rows i (coin P.rows i - c)) j + c)))) _
      rw [setC_len (setC P.rows i (coin P.rows i - c)), setC_len]
      exact s4
    · simp [hbb, payF]
      exact s
  · simp [ha, payF]
    exact s
end Go.HL.Pu

namespace Go.HL.Pu
open Go.HL Go.HL.Nm Go.Proofs
set_option maxRecDepth 4000
set_option linter.unusedSimpArgs false
set_option linter.unusedVariables false
theorem rGet_spec (q : Nat) (P : Ps) (n : Int) (w0 w : World) (A : Asn) (hP : P.rows.length ≤ 64) (s : St w0 (A * rpur q P) w) :
    CallW Try.prog 67 [.pointer (some ⟨q, 0, none⟩), .int .i64 n] (fun r w' => r = .tuple #[.agg (getF P n).1.cs.toArray, .int .i64 (getF P n).2] ∧ St w0 (A * rpur q P) w') w := by
  refine callW_of_lift l67_ok (by simp [l67]) ?_
  simp [l67]
  refine eff_new s ?_
  intro b w1 s1
  simp
  refine eff_call ((rthere_spec q P n w0 w1 (A * pt b (.cells (Ac.cs ⟨[], 0⟩).toArray 66 (0, 0))) (s1.to (by ac_rfl))).mono ?_)
  rintro r w2 ⟨rfl, s2⟩
  simp
  have s2' := s2.swap
  refine cndI (fun h => ?_) (fun h => ?_)
  · simp at h
    simp [getF, h, Instr.fill, Value.cells]
    refine eff_stA (vs := Ac.cs ⟨[], 0⟩) s2' rfl rfl (cs_one _) (by simp [Ac.cs]) ?_
    intro w3 s3
    simp
    have s4 : St w0 (A * rpur q P * pt b (.cells (Ac.cs ⟨[], 0⟩).toArray 66 (0, 0))) w3 := by simpa [Ac.cs] using s3
    refine rv_cellA (vs := Ac.cs ⟨[], 0⟩) rfl s4.row_cells rfl ?_
    simp
    exact s4.drop
  simp at h
  simp
  obtain ⟨i, rfl, hi⟩ := acc_in h
  obtain ⟨v, s3⟩ := ropen s2
  obtain ⟨g, gcap, hv, hcap, hcell⟩ := s3.own_at (by omega)
  subst hv
  refine eff_ldc (v := .slice (some ⟨g, 0, none⟩) P.rows.length gcap) (by rw [cell_of s3.drop.look]; rfl) ?_
  simp [hi]
  refine eff_ldcs (vs := P.rows[i].cs) (fun j u hu => hcell _ _ (flat_at hi j u hu)) rfl ?_
  simp
  have hg : getF P (i : Int) = (P.rows[i], 0) := by simp [getF, h, hi]
  refine eff_stA (vs := P.rows[i].cs) s2' rfl rfl (cs_one _) (by simp [Ac.cs]) ?_
  intro w3 s3
  simp [hg]
  have s4 : St w0 (A * rpur q P * pt b (.cells P.rows[i].cs.toArray 66 (0, 0))) w3 := by simpa [Ac.cs] using s3
  refine rv_cellA (vs := P.rows[i].cs) rfl s4.row_cells rfl ?_
  simp
  exact s4.drop
theorem rNear_spec (q : Nat) (P : Ps) (x : List UInt8) (w0 w : World) (A : Asn) (hx : x.length ≤ 1048576) (hl : P.rows.length ≤ 64) (hn : ∀ i, (h : i < P.rows.length) → P.rows[i].name.length ≤ 1048576) (s : St w0 (A * rpur q P) w) :
    CallW Try.prog 69 [.pointer (some ⟨q, 0, none⟩), .string (mk x)] (fun r w' => St w0 (A * rpur q P * own 3 1 r (nearF P.rows x 0).length (ints (nearF P.rows x 0))) w') w := by
  refine callW_of_lift l69_ok (by simp [l69]) ?_
  simp [l69]
  obtain ⟨v, s1⟩ := ropen s
  clear s
  obtain ⟨a, cap, rfl, _⟩ := s1.own_val
  refine loopI (fun env w' => ∃ (i : Nat) (lv : Value), env = [.pointer (some ⟨q, 0, none⟩), .string (mk x), .slice none 0 0, lv, .int .i64 i] ∧ i ≤ P.rows.length ∧
      St w0 (A * rpt q P (.slice a P.rows.length cap) * own 66 2 (.slice a P.rows.length cap) P.rows.length (flat P.rows) * own 3 1 lv (nearF (P.rows.take i) x 0).length (ints (nearF (P.rows.take i) x 0))) w')
    (fun env _ => P.rows.length - slotN env 4) ⟨0, _, rfl, by omega, s1.own_nil _ _⟩ ?_
  clear s1
  rintro LQ env w' ⟨i, lv, rfl, hi, s⟩ hN hE hR
  simp
  refine eff_ldc (v := .slice a P.rows.length cap) (by rw [cell_of s.drop.drop.look]; rfl) ?_
  simp
  refine cndI (fun h => ?_) (fun h => ?_)
  · simp at h
    have h : i < P.rows.length := by omega
    obtain ⟨g, _, hv, _, hcell⟩ := s.drop.own_at (by omega)
    cases hv
    simp
    refine eff_ldc (v := .slice (some ⟨g, 0, none⟩) P.rows.length cap) (by rw [cell_of s.drop.drop.look]; rfl) ?_
    simp [h]
    refine eff_ldc (hcell _ _ (flat_name h)) ?_
    simp
    refine eff_call ((rLook_spec P.rows[i].name w0 w' _ (hn i h) s).mono ?_)
    rintro r w2 ⟨rfl, s2⟩
    simp
    refine eff_call ((rLook_spec x w0 w2 _ hx s2).mono ?_)
    rintro r w3 ⟨rfl, s3⟩
    simp
    have htk : P.rows.take (i + 1) = P.rows.take i ++ [P.rows[i]] := List.take_succ_eq_append_getElem h
    have hti : (P.rows.take i).length = i := by rw [List.length_take]; omega
    have hnl := nearF_len (P.rows.take i) x 0
    refine cndI (fun h2 => ?_) (fun h2 => ?_)
    · simp at h2
      have h2 : seemF P.rows[i].name = seemF x := h2
      simp
      refine eff_bsl1 s3 rfl ?_
      intro c w5 s6
      simp
      refine eff_app (m := 1) (news := [.int .i64 i]) (s6.to (B := A * rpt q P (.slice (some ⟨g, 0, none⟩) P.rows.length cap) * own 66 2 (.slice (some ⟨g, 0, none⟩) P.rows.length cap) P.rows.length (flat P.rows) * pt c (.cells #[.int .i64 i] 3 (0, 0)) * own 3 1 lv (nearF (P.rows.take i) x 0).length (ints (nearF (P.rows.take i) x 0))) (by ac_rfl)) rfl s6.cells_look (by simp [Value.oneCell']) (by decide) rfl (by unfold maxLen; omega) (by omega) ?_
      intro lv2 w6 s7
      simp
      try simp (disch := omega) only [wrap64]
      refine hN _ _ ⟨i + 1, lv2, by simp, by omega, ?_⟩ (by simp [slotN]; omega)
      have e : nearF (P.rows.take (i + 1)) x 0 = nearF (P.rows.take i) x 0 ++ [(i : Int)] := by
        rw [htk, nearF_snoc, hti, if_pos h2, Nat.zero_add]
      rw [e, List.length_append]
      have e2 : ints (nearF (P.rows.take i) x 0 ++ [(i : Int)]) = ints (nearF (P.rows.take i) x 0) ++ [.int .i64 i] := by simp [ints]
      rw [e2]
      exact St.cut (pt c (.cells #[.int .i64 i] 3 (0, 0))) s7 (by simp only [List.length_singleton]; ac_rfl)
    · simp at h2
      have h2 : ¬ seemF P.rows[i].name = seemF x := h2
      simp
      try simp (disch := omega) only [wrap64]
      refine hN _ _ ⟨i + 1, lv, by simp, by omega, ?_⟩ (by simp [slotN]; omega)
      have e : nearF (P.rows.take (i + 1)) x 0 = nearF (P.rows.take i) x 0 := by
        rw [htk, nearF_snoc, if_neg h2, List.append_nil]
      rw [e]
      exact s3
  simp at h
  simp
  refine hE _ _ _ ?_
  simp
  have hie : i = P.rows.length := by omega
  rw [hie, List.take_length] at s
  exact (rclose (v := .slice a P.rows.length cap) (P := P) (s.to (B := A * own 3 1 lv (nearF P.rows x 0).length (ints (nearF P.rows x 0)) * rpt q P (.slice a P.rows.length cap) * own 66 2 (.slice a P.rows.length cap) P.rows.length (flat P.rows)) (by ac_rfl))).to (by ac_rfl)
theorem rCopy_spec (q : Nat) (P : Ps) (w0 w : World) (A : Asn) (hl : P.rows.length ≤ 1048576) (s : St w0 (A * rpur q P) w) :
    CallW Try.prog 27 [.pointer (some ⟨q, 0, none⟩)] (fun r w' => ∃ q', r = .pointer (some ⟨q', 0, none⟩) ∧ St w0 (A * rpur q P * rpur q' P) w') w := by
  refine callW_of_lift l27_ok (by simp [l27]) ?_
  simp [l27]
  have hld : ∀ {w : World} {B : Asn}, St w0 (B * rpur q P) w → w.cell? ⟨q, 0, none⟩ = some (.int .i64 P.lim) ∧ w.cell? ⟨q, 2, none⟩ = some (.int .u64 P.sup) := fun h => by
    obtain ⟨v, s1⟩ := ropen h
    exact ⟨by rw [cell_of s1.drop.look]; rfl, by rw [cell_of s1.drop.look]; rfl⟩
  refine regmI (fun vs w => match vs with
    | [] => St w0 (A * rpur q P) w
    | [r] => St w0 (A * rpur q P * own 66 2 r P.rows.length (flat P.rows)) w
    | _ :: r :: _ => ∃ q', r = .pointer (some ⟨q', 0, none⟩) ∧ St w0 (A * rpur q P * rpur q' P) w) s.drew ?_
  simp
  refine effm_ldc (v := .int .i64 P.lim) (fun vs' w he hw => ?_) ?_
  · match vs', hw with
    | [], hw => exact (hld hw).1
    | [_], hw => exact (hld (St.drop hw)).1
    | _ :: _ :: _, hw => simp [era] at he
  simp
  refine effm_mv rfl (fun w hw => eff_call ((rRows_spec q P w0 w A hl hw).mono fun r w' h => h)) (fun r hr => ?_)
  simp
  refine effm_ldc (v := .int .u64 P.sup) (fun vs' w he hw => ?_) ?_
  · match vs', hw with
    | [], hw => exact (hld hw).2
    | [_], hw => exact (hld (St.drop hw)).2
    | _ :: _ :: _, hw => simp [era] at he
  obtain ⟨wr, hr⟩ := hr
  obtain ⟨ra, rc, rfl, _⟩ := St.own_val hr
  simp [Instr.fill, Value.cells]
  refine effm_mv rfl (fun w hw => eff_box hw fun b w' h => ⟨b, rfl, ?_⟩) (fun r2 hr2 => ?_)
  · exact rclose (v := .slice ra P.rows.length rc) (St.to (B := A * rpur q P * rpt b P (.slice ra P.rows.length rc) * own 66 2 (.slice ra P.rows.length rc) P.rows.length (flat P.rows)) h (by show A * rpur q P * own 66 2 (.slice ra P.rows.length rc) P.rows.length (flat P.rows) * rpt b P (.slice ra P.rows.length rc) = _; ac_rfl))
  obtain ⟨_, q', rfl, _⟩ := hr2
  simp
theorem rNew_spec (lim : Int) (w0 w : World) (A : Asn) (s : St w0 A w) :
    CallW Try.prog 21 [.int .i64 lim] (fun r w' => if 1 ≤ lim ∧ lim ≤ 64 then ∃ q, r = .tuple #[.pointer (some ⟨q, 0, none⟩), .int .i64 0] ∧ St w0 (A * rpur q ⟨lim, [⟨bankB, 0⟩], 0, 0⟩) w' else r = .tuple #[.pointer none, .int .i64 2] ∧ St w0 A w') w := by
  refine callW_of_lift l21_ok (by simp [l21]) ?_
  simp [l21]
  refine cndI (fun h => ?_) (fun h => ?_)
  · simp at h
    have h' : ¬ (1 ≤ lim ∧ lim ≤ 64) := by omega
    simp [h']
    exact s
  simp at h
  have h' : 1 ≤ lim ∧ lim ≤ 64 := by omega
  simp [h', Instr.fill, Value.cells]
  refine eff_bslV s rfl ?_
  intro c w1 s1
  simp [Instr.fill, Value.cells]
  refine eff_box s1 ?_
  intro q w2 s2
  simp
  have s3 : St w0 (A * rpt q ⟨lim, [⟨bankB, 0⟩], 0, 0⟩ (.slice (some ⟨c, 0, none⟩) 1 1) * pt c (.cells (Ac.cs ⟨bankB, 0⟩).toArray 66 (0, 0))) w2 := s2.swap
  exact rclose (v := .slice (some ⟨c, 0, none⟩) 1 1) (s3.own_mk (n := 1) (cap := 1) (Nat.le_refl 1) (by decide) rfl rfl)
end Go.HL.Pu

namespace Go.HL.Pu
open Go.HL Go.HL.Nm Go.Proofs
set_option maxRecDepth 4000
set_option linter.unusedSimpArgs false
set_option linter.unusedVariables false
def clsV (v : Value) (S : World → Prop) : List Value → World → Prop
  | [], w => S w
  | r :: _, w => r = v ∧ S w
@[simp] theorem clsV_nil (v : Value) (S : World → Prop) (w : World) : clsV v S [] w = S w := rfl
@[simp] theorem clsV_cons (v : Value) (S : World → Prop) (u : Value) (l : List Value) (w : World) : clsV v S (u :: l) w = (u = v ∧ S w) := rfl
theorem clsV_low {v : Value} {S : World → Prop} {vs : List Value} {w : World} (h : clsV v S vs w) : S w := by
  cases vs with
  | nil => exact h
  | cons _ _ => exact h.2
end Go.HL.Pu

namespace Go.HL.Pu
open Go.HL Go.HL.Nm Go.Proofs
set_option maxRecDepth 4000
set_option linter.unusedSimpArgs false
set_option linter.unusedVariables false
theorem rload_rest (lim : Int) (rows : List Ac) (sup : Int) (ra : Option Addr) (rcap : Nat) (w0 w : World) (A : Asn) (hlim : (rows.length : Int) ≤ lim) (hl : rows.length ≤ 64) (hsup : 0 ≤ sup ∧ sup ≤ 4611686018427387904) (hn : ∀ x ∈ rows, x.name.length ≤ 1048576) (hc : ∀ x ∈ rows, 0 ≤ x.coins ∧ x.coins < 18446744073709551616)
    (hrow : Row w0 A (.slice ra rows.length rcap) rows.length 2 (flat rows)) (s : St w0 A w) :
    HC.wp U1 h22_23 (endQ Try.prog [RV.slot 3, RV.slot 4] fun r w' => if (loadL ⟨lim, [], sup, sup⟩ rows).1 = 0 then ∃ q, r = .tuple #[.pointer (some ⟨q, 0, none⟩), .int .i64 0] ∧ St w0 (A * rpur q (loadL ⟨lim, [], sup, sup⟩ rows).2) w' else r = .tuple #[.pointer none, .int .i64 (loadL ⟨lim, [], sup, sup⟩ rows).1] ∧ St w0 A w')
      [.int .i64 lim, .slice ra rows.length rcap, .int .u64 sup, .pointer none, .int .i64 0, undef, undef, undef, undef, undef] w := by
  simp
  generalize hP0 : (⟨lim, [], sup, sup⟩ : Ps) = P0 at *
  have hP0h : P0.held = sup := by rw [← hP0]
  refine loopI (fun env w' => ∃ (i : Nat) (P : Ps) (o7 o8 : Value), env = [.int .i64 lim, .slice ra rows.length rcap, .int .u64 sup, .pointer none, .int .i64 0, .int .u64 P.held, .int .i64 i, o7, o8, undef] ∧ i ≤ rows.length ∧
      loadL P0 rows = loadL P (rows.drop i) ∧ P.rows = rows.take i ∧ P.lim = lim ∧ P.sup = sup ∧ 0 ≤ P.held ∧ P.held ≤ sup ∧ St w0 A w')
    (fun env _ => rows.length - slotN env 6) ⟨0, P0, _, _, by rw [hP0h]; rfl, by omega, rfl, by rw [← hP0]; rfl, by rw [← hP0], by rw [← hP0], by omega, by omega, s⟩ ?_
  clear s
  rintro LQ env w' ⟨i, P, o7, o8, rfl, hi, hL, hPr, hPl, hPs, hh0, hh1, s⟩ hN hE hR
  simp
  refine cndI (fun h => ?_) (fun h => ?_)
  · simp at h
    have h : i < rows.length := by omega
    obtain ⟨g, o, gcap, hv, hcell⟩ := hrow.at (by omega)
    cases hv
    have hPlen : P.rows.length = i := by rw [hPr, List.length_take]; omega
    have hmem : rows[i] ∈ rows := List.getElem_mem h
    have hdrop : rows.drop i = rows[i] :: rows.drop (i + 1) := List.drop_eq_getElem_cons h
    have htk : rows.take (i + 1) = rows.take i ++ [rows[i]] := List.take_succ_eq_append_getElem h
    have cname : ∀ {w}, St w0 A w → w.cell? ⟨g, o + i * 2, none⟩ = some (.string (mk rows[i].name)) := fun s => hcell _ s _ _ (flat_name h)
    have ccoin : ∀ {w}, St w0 A w → w.cell? ⟨g, o + i * 2 + 1, none⟩ = some (.int .u64 rows[i].coins) := fun s => by rw [Nat.add_assoc]; exact hcell _ s _ _ (flat_coins h)
    rw [hdrop] at hL
    have hna := hn _ hmem
    have hca := hc _ hmem
    obtain ⟨a, ha⟩ : ∃ a, rows[i] = a := ⟨_, rfl⟩
    rw [ha] at hmem hdrop htk hna hca hL cname ccoin
    simp [h]
    refine eff_ldc (cname s) ?_
    simp
    refine eff_call ((rcheck_spec a.name w0 w' A hna s).mono ?_)
    rintro r w1 ⟨rfl, s1⟩
    simp
    clear s
    refine cndI (fun h1 => ?_) (fun h1 => ?_)
    · simp at h1
      have ho : (openF P a.name).2.1 = (checkF a.name).2 := by unfold openF; rw [if_neg h1]
      have hse : stepE P a = (checkF a.name).2 := by unfold stepE; rw [if_neg (by rw [ho]; exact h1), ho]
      have hLL : loadL P0 rows = (stepE P a, P) := by rw [hL, loadL, if_neg (by rw [hse]; exact h1)]
      simp
      refine hR _ _ ?_
      simp
      rw [hLL, hse]
      simp [h1]
      exact s1
    simp at h1
    simp
    refine loopI (fun env w' => ∃ (k : Nat), env = [.int .i64 lim, .slice (some ⟨g, o, none⟩) rows.length rcap, .int .u64 sup, .pointer none, .int .i64 0, .int .u64 P.held, .int .i64 i, .int .i64 (checkF a.name).2, .int .i64 k, undef] ∧ k ≤ i ∧
        (∀ n, n < k → (keys P.rows)[n]? ≠ some (keyF a.name)) ∧ St w0 A w')
      (fun env _ => i - slotN env 8) ⟨0, by simp, by omega, fun n hn => by omega, s1⟩ ?_
    clear s1
    rintro LQ2 env w2 ⟨k, rfl, hk, hno, s⟩ hN2 hE2 hR2
    simp
    refine cndI (fun h2 => ?_) (fun h2 => ?_)
    · have h20 := h2
      simp at h20
      simp at h2
      have h2 : k < i := by omega
      have hkr : k < rows.length := by omega
      have hkk : (keys P.rows)[k]? = some (keyF rows[k].name) := by
        rw [hPr]; simp [keys, List.getElem?_take, h2, hkr]
      have hkn := hn _ (List.getElem_mem hkr)
      have ck : ∀ {w}, St w0 A w → w.cell? ⟨g, o + k * 2, none⟩ = some (.string (mk rows[k].name)) := fun s => hcell _ s _ _ (flat_name hkr)
      refine brmI (clsV (.bool (decide (keyF rows[k].name = keyF a.name))) (St w0 A)) s.drew ?_
      simp [hkr, h]
      refine effm_ldc (v := .string (mk rows[k].name)) (fun vs' w he hw => ck (clsV_low hw)) ?_
      simp [h]
      refine effm_ldc (v := .string (mk a.name)) (fun vs' w he hw => cname (clsV_low hw)) ?_
      simp
      refine effm_mv rfl (fun w hw => eff_call ((rSame_spec rows[k].name a.name w0 w A hkn hna hw).mono fun r w' h => h)) (fun r hr => ?_)
      obtain ⟨_, rfl, _⟩ := hr
      simp
      intro w9 s9
      refine cndI (fun h3 => ?_) (fun h3 => ?_)
      · have h3 := of_decide_eq_true h3
        have hask : askB (keyF a.name) (keys P.rows) = true := by
          refine (askB_iff _ _).2 ?_
          rw [← h3]
          exact List.mem_of_getElem? hkk
        have ho : (openF P a.name).2.1 = 140 := by unfold openF; rw [if_pos h1, if_pos hask]
        have hse : stepE P a = 140 := by unfold stepE; rw [if_neg (by rw [ho]; decide), ho]
        have hLL : loadL P0 rows = (stepE P a, P) := by rw [hL, loadL, if_neg (by rw [hse]; decide)]
        simp
        refine hR2 _ _ ?_
        simp
        refine hR _ _ ?_
        simp
        rw [hLL, hse]
        simp
        exact s9
      · have h3 := of_decide_eq_false h3
        simp [thenQ]
        try simp (disch := omega) only [wrap64]
        refine hN2 _ _ ⟨k + 1, by simp, by omega, fun n hn' => ?_, s9⟩ (by simp [slotN]; omega)
        by_cases e : n = k
        · subst e
          rw [hkk]
          intro hh
          exact h3 (by simpa using hh)
        · exact hno n (by omega)
    simp at h2
    simp
    refine hE2 _ _ _ ?_
    have hki : k = i := by omega
    subst hki
    have hask : askB (keyF a.name) (keys P.rows) = false := by
      cases hb : askB (keyF a.name) (keys P.rows) with
      | false => rfl
      | true =>
        obtain ⟨n, _, hg⟩ := askN_get hb
        have hnl : n < (keys P.rows).length := (List.getElem?_eq_some_iff.1 hg).1
        simp only [keys, List.length_map] at hnl
        exact absurd hg (hno n (by omega))
    have ho : (openF P a.name).2.1 = 0 := by unfold openF; rw [if_pos h1, if_neg (by rw [hask]; decide), if_neg (by rw [hPlen, hPl]; omega)]
    simp [h]
    refine eff_ldc (ccoin s) ?_
    simp
    refine cndI (fun h3 => ?_) (fun h3 => ?_)
    · simp at h3
      have hse : stepE P a = 144 := by unfold stepE; rw [if_pos ho, if_pos h3]
      have hLL : loadL P0 rows = (stepE P a, P) := by rw [hL, loadL, if_neg (by rw [hse]; decide)]
      simp
      refine hR _ _ ?_
      simp
      rw [hLL, hse]
      simp
      exact s
    simp at h3
    simp [h]
    refine eff_ldc (ccoin s) ?_
    simp
    have hse : stepE P a = 0 := by unfold stepE; rw [if_pos ho, if_neg (by omega)]
    try simp (disch := omega) only [wrap64, wrapu64]
    refine hN _ _ ⟨k + 1, stepP P a, _, _, by simp [stepP]; exact ⟨rfl, rfl⟩, by omega, ?_, ?_, hPl, hPs, ?_, ?_, s⟩ (by simp [slotN]; omega)
    · rw [hL, loadL, if_pos hse]
    · rw [htk, ← hPr]; rfl
    · show 0 ≤ P.held - a.coins; omega
    · show P.held - a.coins ≤ sup; omega
  simp at h
  simp
  refine hE _ _ _ ?_
  have hie : i = rows.length := by omega
  rw [hie, List.drop_length] at hL
  have hLL : loadL P0 rows = (0, P) := hL
  rw [hLL]
  simp [Instr.fill, Value.cells]
  refine eff_box s ?_
  intro q w2 s2
  simp
  rw [hie, List.take_length] at hPr
  have s3 : St w0 (A * rpt q P (.slice none 0 0)) w2 := by rw [← hPl, ← hPs] at s2; exact s2
  refine eff_ldc (v := .slice none 0 0) (by rw [cell_of s3.look]; rfl) ?_
  simp
  refine eff_appR (s3.own_nil 66 2) ((hrow.mono fun w s => s.drop.drop) : Row w0 (A * rpt q P (.slice none 0 0) * own 66 2 (.slice none 0 0) 0 []) (.slice ra rows.length rcap) rows.length 2 (flat rows)) (flat_one _) (by decide) rfl (by unfold maxLen; omega) (by omega) ?_
  intro v w3 s4
  simp
  obtain ⟨va, vc, rfl, _⟩ := s4.own_val
  refine eff_st1 (s4.swap) rfl (by simp) ?_
  intro w4 s5
  simp at s5
  simp
  have s6 : St w0 (A * own 66 2 (.slice va rows.length vc) rows.length (flat rows) * rpt q P (.slice va rows.length vc)) w4 := by simpa using s5
  refine rclose (v := .slice va rows.length vc) ?_
  rw [hPr]
  exact s6.swap
theorem rLoad_spec (lim : Int) (rows : List Ac) (sup : Int) (v : Value) (w0 w : World) (A : Asn) (hl : rows.length ≤ 1048576) (hsup : 0 ≤ sup ∧ sup < 18446744073709551616) (hn : ∀ x ∈ rows, x.name.length ≤ 1048576) (hc : ∀ x ∈ rows, 0 ≤ x.coins ∧ x.coins < 18446744073709551616)
    (hrow : Row w0 A v rows.length 2 (flat rows)) (s : St w0 A w) :
    CallW Try.prog 22 [.int .i64 lim, v, .int .u64 sup] (fun r w' => if (loadF lim rows sup).1 = 0 then ∃ q, r = .tuple #[.pointer (some ⟨q, 0, none⟩), .int .i64 0] ∧ St w0 (A * rpur q (loadF lim rows sup).2) w' else r = .tuple #[.pointer none, .int .i64 (loadF lim rows sup).1] ∧ St w0 A w') w := by
  obtain ⟨ra, rcap, rfl⟩ := hrow.val
  refine callW_of_lift l22_ok (by simp [l22]) ?_
  simp [l22]
  refine cndI (fun h => ?_) (fun h => ?_)
  · simp at h
    have e : (loadF lim rows sup).1 = 2 := by unfold loadF; rw [if_neg (by omega)]
    simp [e]
    exact s
  simp at h
  simp
  refine cndI (fun h1 => ?_) (fun h1 => ?_)
  · simp at h1
    have e : (loadF lim rows sup).1 = 144 := by unfold loadF; rw [if_pos (by omega), if_pos h1]
    simp [e]
    exact s
  simp at h1
  simp
  refine cndI (fun h2 => ?_) (fun h2 => ?_)
  · simp at h2
    have e : (loadF lim rows sup).1 = 141 := by unfold loadF; rw [if_pos (by omega), if_neg (by omega), if_pos h2]
    simp [e]
    exact s
  simp at h2
  simp
  by_cases hnil : rows = []
  · subst hnil
    simp
    have e : (loadF lim [] sup).1 = 142 := by unfold loadF; rw [if_pos (by omega), if_neg (by omega), if_neg (by simpa using h2), if_neg (by decide)]
    simp [e]
    exact s
  have hpos : 0 < rows.length := List.length_pos_iff.2 hnil
  obtain ⟨g, o, gcap, hv, hcell⟩ := hrow.at hpos
  cases hv
  simp [hnil, hpos]
  refine eff_ldc (v := .string (mk rows[0].name)) (hcell w s 0 _ (flat_name hpos)) ?_
  simp
  refine cndI (fun h3 => ?_) (fun h3 => ?_)
  · simp at h3
    have hnb : (rows.getD 0 ⟨[], 0⟩).name ≠ bankB := by
      simpa [hpos, bankB] using h3
    have e : (loadF lim rows sup).1 = 142 := by unfold loadF; rw [if_pos (by omega), if_neg (by omega), if_neg (by omega), if_neg hnb]
    rw [e]
    simp
    exact s
  have hb : (rows.getD 0 ⟨[], 0⟩).name = bankB := by
    simpa [hpos, bankB] using h3
  have e : loadF lim rows sup = loadL ⟨lim, [], sup, sup⟩ rows := by unfold loadF; rw [if_pos (by omega), if_neg (by omega), if_neg (by omega), if_pos hb]
  rw [e]
  simp
  simpa using rload_rest lim rows sup _ rcap w0 w A (by omega) (by omega) (by omega) hn hc hrow s
end Go.HL.Pu

namespace Go.HL.Pu
open Go.HL Go.HL.Nm Go.Proofs
set_option maxRecDepth 4000
set_option linter.unusedSimpArgs false
set_option linter.unusedVariables false
theorem rOpen_nil (x : List UInt8) (w0 w : World) (A : Asn) (s : St w0 A w) : CallW Try.prog 60 [.pointer none, .string (mk x)] (fun r w' => r = .tuple #[.int .i64 0, .int .i64 1] ∧ St w0 A w') w := by
  refine callW_of_lift l60_ok (by simp [l60]) ?_
  simp [l60]
  exact s
theorem rFind_nil (x : List UInt8) (w0 w : World) (A : Asn) (s : St w0 A w) : CallW Try.prog 68 [.pointer none, .string (mk x)] (fun r w' => r = .tuple #[.int .i64 0, .bool false] ∧ St w0 A w') w := by
  refine callW_of_lift l68_ok (by simp [l68]) ?_
  simp [l68]
  exact s
theorem rNear_nil (x : List UInt8) (w0 w : World) (A : Asn) (s : St w0 A w) : CallW Try.prog 69 [.pointer none, .string (mk x)] (fun r w' => r = .slice none 0 0 ∧ St w0 A w') w := by
  refine callW_of_lift l69_ok (by simp [l69]) ?_
  simp [l69]
  exact s
theorem rSupply_nil (w0 w : World) (A : Asn) (s : St w0 A w) : CallW Try.prog 71 [.pointer none] (fun r w' => r = .int .u64 0 ∧ St w0 A w') w := by
  refine callW_of_lift l71_ok (by simp [l71]) ?_
  simp [l71]
  exact s
theorem rHeld_nil (w0 w : World) (A : Asn) (s : St w0 A w) : CallW Try.prog 72 [.pointer none] (fun r w' => r = .int .u64 0 ∧ St w0 A w') w := by
  refine callW_of_lift l72_ok (by simp [l72]) ?_
  simp [l72]
  exact s
theorem rLimit_nil (w0 w : World) (A : Asn) (s : St w0 A w) : CallW Try.prog 73 [.pointer none] (fun r w' => r = .int .i64 0 ∧ St w0 A w') w := by
  refine callW_of_lift l73_ok (by simp [l73]) ?_
  simp [l73]
  exact s
theorem rLen_nil (w0 w : World) (A : Asn) (s : St w0 A w) : CallW Try.prog 74 [.pointer none] (fun r w' => r = .int .i64 0 ∧ St w0 A w') w := by
  refine callW_of_lift l74_ok (by simp [l74]) ?_
  simp [l74]
  exact s
theorem rRows_nil (w0 w : World) (A : Asn) (s : St w0 A w) : CallW Try.prog 58 [.pointer none] (fun r w' => r = .slice none 0 0 ∧ St w0 A w') w := by
  refine callW_of_lift l58_ok (by simp [l58]) ?_
  simp [l58]
  exact s
theorem rCopy_nil (w0 w : World) (A : Asn) (s : St w0 A w) : CallW Try.prog 27 [.pointer none] (fun r w' => r = .pointer none ∧ St w0 A w') w := by
  refine callW_of_lift l27_ok (by simp [l27]) ?_
  simp [l27]
  exact s
theorem rMint_nil (n c : Int) (w0 w : World) (A : Asn) (s : St w0 A w) : CallW Try.prog 61 [.pointer none, .int .i64 n, .int .u64 c] (fun r w' => r = .int .i64 1 ∧ St w0 A w') w := by
  refine callW_of_lift l61_ok (by simp [l61]) ?_
  simp [l61]
  exact s
theorem rTake_nil (n c : Int) (w0 w : World) (A : Asn) (s : St w0 A w) : CallW Try.prog 65 [.pointer none, .int .i64 n, .int .u64 c] (fun r w' => r = .int .i64 1 ∧ St w0 A w') w := by
  refine callW_of_lift l65_ok (by simp [l65]) ?_
  simp [l65]
  exact s
theorem rPut_nil (n c : Int) (w0 w : World) (A : Asn) (s : St w0 A w) : CallW Try.prog 66 [.pointer none, .int .i64 n, .int .u64 c] (fun r w' => r = .int .i64 1 ∧ St w0 A w') w := by
  refine callW_of_lift l66_ok (by simp [l66]) ?_
  simp [l66]
  exact s
theorem rPay_nil (a b c : Int) (w0 w : World) (A : Asn) (s : St w0 A w) : CallW Try.prog 63 [.pointer none, .int .i64 a, .int .i64 b, .int .u64 c] (fun r w' => r = .int .i64 1 ∧ St w0 A w') w := by
  refine callW_of_lift l63_ok (by simp [l63]) ?_
  simp [l63]
  exact s
theorem rGet_nil (n : Int) (w0 w : World) (A : Asn) (s : St w0 A w) : CallW Try.prog 67 [.pointer none, .int .i64 n] (fun r w' => r = .tuple #[.agg (Ac.cs ⟨[], 0⟩).toArray, .int .i64 1] ∧ St w0 A w') w := by
  refine callW_of_lift l67_ok (by simp [l67]) ?_
  simp [l67]
  refine eff_new s ?_
  intro b w1 s1
  simp [Instr.fill, Value.cells]
  refine eff_stA (vs := Ac.cs ⟨[], 0⟩) s1 rfl rfl (cs_one _) (by simp [Ac.cs]) ?_
  intro w3 s3
  simp
  have s4 : St w0 (A * pt b (.cells (Ac.cs ⟨[], 0⟩).toArray 66 (0, 0))) w3 := by simpa [Ac.cs] using s3
  refine rv_cellA (vs := Ac.cs ⟨[], 0⟩) rfl s4.row_cells rfl ?_
  simp
  exact s4.drop
-- bazaar/bazaarlaw14.lent
def h19_0 : HC := (.seq (.reg (.chk none .lenL (.cons (.inp 0) .nil) (.chk none (.slL 2 false true false) (.cons (.inp 2) (.cons (.op .lenL (.cons (.inp 0) .nil)) .nil)) (.done [(1, (.op (.slL 2 false true false) (.cons (.inp 2) (.cons (.op .lenL (.cons (.inp 0) .nil)) .nil))))] none)))) .ret)
@[simp] theorem h19_0_wp {P : Program} {F : PF P} {Q : EX → List Value → World → Prop} {env : List Value} {w : World} : h19_0.wp F Q env w = HC.wp F (.seq (.reg (.chk none .lenL (.cons (.inp 0) .nil) (.chk none (.slL 2 false true false) (.cons (.inp 2) (.cons (.op .lenL (.cons (.inp 0) .nil)) .nil)) (.done [(1, (.op (.slL 2 false true false) (.cons (.inp 2) (.cons (.op .lenL (.cons (.inp 0) .nil)) .nil))))] none)))) .ret) Q env w := rfl
def h19_1 : HC := (.seq (.reg (.chk none (.build #[(.string ⟨#[]⟩), (.int .u64 0)] [(0, 1), (1, 1)] [0, 1]) (.cons (.cst (.string ⟨#[109, 97, 114, 107]⟩)) (.cons (.cst (.int .u64 71)) .nil)) (.chk none (.build #[(.string ⟨#[]⟩), (.int .u64 0)] [(0, 1), (1, 1)] [0, 1]) (.cons (.cst (.string ⟨#[109, 97, 114, 107]⟩)) (.cons (.cst (.int .u64 72)) .nil)) (.eff (.bsl 66 2 2 #[(.string ⟨#[]⟩), (.int .u64 0)] [0, 1]) (.cons (.op (.build #[(.string ⟨#[]⟩), (.int .u64 0)] [(0, 1), (1, 1)] [0, 1]) (.cons (.cst (.string ⟨#[109, 97, 114, 107]⟩)) (.cons (.cst (.int .u64 71)) .nil))) (.cons (.op (.build #[(.string ⟨#[]⟩), (.int .u64 0)] [(0, 1), (1, 1)] [0, 1]) (.cons (.cst (.string ⟨#[109, 97, 114, 107]⟩)) (.cons (.cst (.int .u64 72)) .nil))) .nil)) (.eff (.app 39 39 66 2 24 (.agg #[(.string ⟨#[]⟩), (.int .u64 0)])) (.cons (.inp 2) (.cons (.bv 0) .nil)) (.done [(2, (.bv 1))] none)))))) h19_0)
@[simp] theorem h19_1_wp {P : Program} {F : PF P} {Q : EX → List Value → World → Prop} {env : List Value} {w : World} : h19_1.wp F Q env w = HC.wp F (.seq (.reg (.chk none (.build #[(.string ⟨#[]⟩), (.int .u64 0)] [(0, 1), (1, 1)] [0, 1]) (.cons (.cst (.string ⟨#[109, 97, 114, 107]⟩)) (.cons (.cst (.int .u64 71)) .nil)) (.chk none (.build #[(.string ⟨#[]⟩), (.int .u64 0)] [(0, 1), (1, 1)] [0, 1]) (.cons (.cst (.string ⟨#[109, 97, 114, 107]⟩)) (.cons (.cst (.int .u64 72)) .nil)) (.eff (.bsl 66 2 2 #[(.string ⟨#[]⟩), (.int .u64 0)] [0, 1]) (.cons (.op (.build #[(.string ⟨#[]⟩), (.int .u64 0)] [(0, 1), (1, 1)] [0, 1]) (.cons (.cst (.string ⟨#[109, 97, 114, 107]⟩)) (.cons (.cst (.int .u64 71)) .nil))) (.cons (.op (.build #[(.string ⟨#[]⟩), (.int .u64 0)] [(0, 1), (1, 1)] [0, 1]) (.cons (.cst (.string ⟨#[109, 97, 114, 107]⟩)) (.cons (.cst (.int .u64 72)) .nil))) .nil)) (.eff (.app 39 39 66 2 24 (.agg #[(.string ⟨#[]⟩), (.int .u64 0)])) (.cons (.inp 2) (.cons (.bv 0) .nil)) (.done [(2, (.bv 1))] none)))))) h19_0) Q env w := rfl
def h19_2 : HC := (.seq (.reg (.eff (.app 39 39 66 2 24 (.agg #[(.string ⟨#[]⟩), (.int .u64 0)])) (.cons (.inp 2) (.cons (.inp 0) .nil)) (.done [(2, (.bv 0))] none))) h19_1)
@[simp] theorem h19_2_wp {P : Program} {F : PF P} {Q : EX → List Value → World → Prop} {env : List Value} {w : World} : h19_2.wp F Q env w = HC.wp F (.seq (.reg (.eff (.app 39 39 66 2 24 (.agg #[(.string ⟨#[]⟩), (.int .u64 0)])) (.cons (.inp 2) (.cons (.inp 0) .nil)) (.done [(2, (.bv 0))] none))) h19_1) Q env w := rfl
def h19_3 : HC := (.seq (.reg (.done [(2, (.cst (.slice none 0 0)))] none)) h19_2)
@[simp] theorem h19_3_wp {P : Program} {F : PF P} {Q : EX → List Value → World → Prop} {env : List Value} {w : World} : h19_3.wp F Q env w = HC.wp F (.seq (.reg (.done [(2, (.cst (.slice none 0 0)))] none)) h19_2) Q env w := rfl
def l19 : Lifted := ⟨[0, 2, 3], 16, [.slot 1], (.seq (.reg (.done [(1, (.cst (.slice none 0 0)))] none)) h19_3)⟩
theorem l19_ok : liftFn U1 19 400 = some l19 := by kernel_rfl

-- bazaar/bazaarlaw14.kept
def h23_0 : HC := (.seq (.reg (.chk none .lenL (.cons (.inp 0) .nil) (.chk none (.idxL 2) (.cons (.inp 3) (.cons (.op .lenL (.cons (.inp 0) .nil)) .nil)) (.eff (.ld true 2) (.cons (.op (.idxL 2) (.cons (.inp 3) (.cons (.op .lenL (.cons (.inp 0) .nil)) .nil))) .nil) (.chk none (.build #[(.string ⟨#[]⟩), (.int .u64 0)] [(0, 1), (1, 1)] [0, 1]) (.cons (.cst (.string ⟨#[109, 97, 114, 107]⟩)) (.cons (.cst (.int .u64 71)) .nil)) (.eff (.bin .eql 66 (.tmp 19) (.tmp 20)) (.cons (.bv 0) (.cons (.op (.build #[(.string ⟨#[]⟩), (.int .u64 0)] [(0, 1), (1, 1)] [0, 1]) (.cons (.cst (.string ⟨#[109, 97, 114, 107]⟩)) (.cons (.cst (.int .u64 71)) .nil))) .nil)) (.chk (some ((.bv 1), true)) .lenL (.cons (.inp 0) .nil) (.chk (some ((.bv 1), true)) (.bin .add) (.cons (.op .lenL (.cons (.inp 0) .nil)) (.cons (.cst (.int .i64 1)) .nil)) (.chk (some ((.bv 1), true)) (.idxL 2) (.cons (.inp 3) (.cons (.op (.bin .add) (.cons (.op .lenL (.cons (.inp 0) .nil)) (.cons (.cst (.int .i64 1)) .nil))) .nil)) (.ite (.bv 1) true (.eff (.ld true 2) (.cons (.ite (.bv 1) true (.op (.idxL 2) (.cons (.inp 3) (.cons (.op (.bin .add) (.cons (.op .lenL (.cons (.inp 0) .nil)) (.cons (.cst (.int .i64 1)) .nil))) .nil))) (.cst (.tuple #[]))) .nil) (.chk none (.build #[(.string ⟨#[]⟩), (.int .u64 0)] [(0, 1), (1, 1)] [0, 1]) (.cons (.cst (.string ⟨#[109, 97, 114, 107]⟩)) (.cons (.cst (.int .u64 72)) .nil)) (.eff (.bin .eql 66 (.tmp 28) (.tmp 29)) (.cons (.bv 2) (.cons (.op (.build #[(.string ⟨#[]⟩), (.int .u64 0)] [(0, 1), (1, 1)] [0, 1]) (.cons (.cst (.string ⟨#[109, 97, 114, 107]⟩)) (.cons (.cst (.int .u64 72)) .nil))) .nil)) (.isb none (.bv 1) (.done [(2, (.bv 3))] none))))) (.isb none (.bv 1) (.done [(2, (.cst (.bool false)))] none)))))))))))) .ret)
@[simp] theorem h23_0_wp {P : Program} {F : PF P} {Q : EX → List Value → World → Prop} {env : List Value} {w : World} : h23_0.wp F Q env w = HC.wp F (.seq (.reg (.chk none .lenL (.cons (.inp 0) .nil) (.chk none (.idxL 2) (.cons (.inp 3) (.cons (.op .lenL (.cons (.inp 0) .nil)) .nil)) (.eff (.ld true 2) (.cons (.op (.idxL 2) (.cons (.inp 3) (.cons (.op .lenL (.cons (.inp 0) .nil)) .nil))) .nil) (.chk none (.build #[(.string ⟨#[]⟩), (.int .u64 0)] [(0, 1), (1, 1)] [0, 1]) (.cons (.cst (.string ⟨#[109, 97, 114, 107]⟩)) (.cons (.cst (.int .u64 71)) .nil)) (.eff (.bin .eql 66 (.tmp 19) (.tmp 20)) (.cons (.bv 0) (.cons (.op (.build #[(.string ⟨#[]⟩), (.int .u64 0)] [(0, 1), (1, 1)] [0, 1]) (.cons (.cst (.string ⟨#[109, 97, 114, 107]⟩)) (.cons (.cst (.int .u64 71)) .nil))) .nil)) (.chk (some ((.bv 1), true)) .lenL (.cons (.inp 0) .nil) (.chk (some ((.bv 1), true)) (.bin .add) (.cons (.op .lenL (.cons (.inp 0) .nil)) (.cons (.cst (.int .i64 1)) .nil)) (.chk (some ((.bv 1), true)) (.idxL 2) (.cons (.inp 3) (.cons (.op (.bin .add) (.cons (.op .lenL (.cons (.inp 0) .nil)) (.cons (.cst (.int .i64 1)) .nil))) .nil)) (.ite (.bv 1) true (.eff (.ld true 2) (.cons (.ite (.bv 1) true (.op (.idxL 2) (.cons (.inp 3) (.cons (.op (.bin .add) (.cons (.op .lenL (.cons (.inp 0) .nil)) (.cons (.cst (.int .i64 1)) .nil))) .nil))) (.cst (.tuple #[]))) .nil) (.chk none (.build #[(.string ⟨#[]⟩), (.int .u64 0)] [(0, 1), (1, 1)] [0, 1]) (.cons (.cst (.string ⟨#[109, 97, 114, 107]⟩)) (.cons (.cst (.int .u64 72)) .nil)) (.eff (.bin .eql 66 (.tmp 28) (.tmp 29)) (.cons (.bv 2) (.cons (.op (.build #[(.string ⟨#[]⟩), (.int .u64 0)] [(0, 1), (1, 1)] [0, 1]) (.cons (.cst (.string ⟨#[109, 97, 114, 107]⟩)) (.cons (.cst (.int .u64 72)) .nil))) .nil)) (.isb none (.bv 1) (.done [(2, (.bv 3))] none))))) (.isb none (.bv 1) (.done [(2, (.cst (.bool false)))] none)))))))))))) .ret) Q env w := rfl
def h23_1 : HC := (.seq (.reg (.chk none .lenL (.cons (.inp 0) .nil) (.chk none (.bin .add) (.cons (.op .lenL (.cons (.inp 0) .nil)) (.cons (.cst (.int .i64 2)) .nil)) (.chk none (.slL 2 false true false) (.cons (.inp 0) (.cons (.op (.bin .add) (.cons (.op .lenL (.cons (.inp 0) .nil)) (.cons (.cst (.int .i64 2)) .nil))) .nil)) (.done [(3, (.op (.slL 2 false true false) (.cons (.inp 0) (.cons (.op (.bin .add) (.cons (.op .lenL (.cons (.inp 0) .nil)) (.cons (.cst (.int .i64 2)) .nil))) .nil))))] none))))) h23_0)
@[simp] theorem h23_1_wp {P : Program} {F : PF P} {Q : EX → List Value → World → Prop} {env : List Value} {w : World} : h23_1.wp F Q env w = HC.wp F (.seq (.reg (.chk none .lenL (.cons (.inp 0) .nil) (.chk none (.bin .add) (.cons (.op .lenL (.cons (.inp 0) .nil)) (.cons (.cst (.int .i64 2)) .nil)) (.chk none (.slL 2 false true false) (.cons (.inp 0) (.cons (.op (.bin .add) (.cons (.op .lenL (.cons (.inp 0) .nil)) (.cons (.cst (.int .i64 2)) .nil))) .nil)) (.done [(3, (.op (.slL 2 false true false) (.cons (.inp 0) (.cons (.op (.bin .add) (.cons (.op .lenL (.cons (.inp 0) .nil)) (.cons (.cst (.int .i64 2)) .nil))) .nil))))] none))))) h23_0) Q env w := rfl
def h23_2 : HC := (.seq (.reg (.done [(2, (.cst (.bool false)))] none)) .ret)
@[simp] theorem h23_2_wp {P : Program} {F : PF P} {Q : EX → List Value → World → Prop} {env : List Value} {w : World} : h23_2.wp F Q env w = HC.wp F (.seq (.reg (.done [(2, (.cst (.bool false)))] none)) .ret) Q env w := rfl
def h23_3 : HC := (.seq (.br (.eff (.call 43) (.cons (.inp 0) (.cons (.inp 1) .nil)) (.chk none (.un .not) (.cons (.bv 0) .nil) (.done [] (some (.op (.un .not) (.cons (.bv 0) .nil)))))) h23_2 .skip) h23_1)
@[simp] theorem h23_3_wp {P : Program} {F : PF P} {Q : EX → List Value → World → Prop} {env : List Value} {w : World} : h23_3.wp F Q env w = HC.wp F (.seq (.br (.eff (.call 43) (.cons (.inp 0) (.cons (.inp 1) .nil)) (.chk none (.un .not) (.cons (.bv 0) .nil) (.done [] (some (.op (.un .not) (.cons (.bv 0) .nil)))))) h23_2 .skip) h23_1) Q env w := rfl
def l23 : Lifted := ⟨[0, 1, 4, 5], 32, [.slot 2], (.seq (.reg (.done [(2, (.cst (.bool false)))] none)) h23_3)⟩
theorem l23_ok : liftFn U1 23 400 = some l23 := by kernel_rfl

-- bazaar/bazaarlaw14.spoil
def h24_0 : HC := (.reg (.chk none (.bin .add) (.cons (.inp 2) (.cons (.cst (.int .i64 1)) .nil)) (.done [(2, (.op (.bin .add) (.cons (.inp 2) (.cons (.cst (.int .i64 1)) .nil))))] none)))
@[simp] theorem h24_0_wp {P : Program} {F : PF P} {Q : EX → List Value → World → Prop} {env : List Value} {w : World} : h24_0.wp F Q env w = HC.wp F (.reg (.chk none (.bin .add) (.cons (.inp 2) (.cons (.cst (.int .i64 1)) .nil)) (.done [(2, (.op (.bin .add) (.cons (.inp 2) (.cons (.cst (.int .i64 1)) .nil))))] none))) Q env w := rfl
def h24_1 : HC := (.reg (.chk none (.build #[(.string ⟨#[]⟩), (.int .u64 0)] [(0, 1), (1, 1)] [0, 1]) (.cons (.cst (.string ⟨#[109, 111, 114, 101]⟩)) (.cons (.cst (.int .u64 8)) .nil)) (.eff (.bsl 66 1 2 #[(.string ⟨#[]⟩), (.int .u64 0)] [0]) (.cons (.op (.build #[(.string ⟨#[]⟩), (.int .u64 0)] [(0, 1), (1, 1)] [0, 1]) (.cons (.cst (.string ⟨#[109, 111, 114, 101]⟩)) (.cons (.cst (.int .u64 8)) .nil))) .nil) (.eff (.app 39 39 66 2 24 (.agg #[(.string ⟨#[]⟩), (.int .u64 0)])) (.cons (.inp 0) (.cons (.bv 0) .nil)) (.done [(0, (.bv 1))] none)))))
@[simp] theorem h24_1_wp {P : Program} {F : PF P} {Q : EX → List Value → World → Prop} {env : List Value} {w : World} : h24_1.wp F Q env w = HC.wp F (.reg (.chk none (.build #[(.string ⟨#[]⟩), (.int .u64 0)] [(0, 1), (1, 1)] [0, 1]) (.cons (.cst (.string ⟨#[109, 111, 114, 101]⟩)) (.cons (.cst (.int .u64 8)) .nil)) (.eff (.bsl 66 1 2 #[(.string ⟨#[]⟩), (.int .u64 0)] [0]) (.cons (.op (.build #[(.string ⟨#[]⟩), (.int .u64 0)] [(0, 1), (1, 1)] [0, 1]) (.cons (.cst (.string ⟨#[109, 111, 114, 101]⟩)) (.cons (.cst (.int .u64 8)) .nil))) .nil) (.eff (.app 39 39 66 2 24 (.agg #[(.string ⟨#[]⟩), (.int .u64 0)])) (.cons (.inp 0) (.cons (.bv 0) .nil)) (.done [(0, (.bv 1))] none))))) Q env w := rfl
def h24_2 : HC := (.seq (.block 3 h24_1) h24_0)
@[simp] theorem h24_2_wp {P : Program} {F : PF P} {Q : EX → List Value → World → Prop} {env : List Value} {w : World} : h24_2.wp F Q env w = HC.wp F (.seq (.block 3 h24_1) h24_0) Q env w := rfl
def h24_3 : HC := (.seq (.br (.chk none (.bin .lss) (.cons (.inp 2) (.cons (.cst (.int .i64 70)) .nil)) (.done [] (some (.op (.bin .lss) (.cons (.inp 2) (.cons (.cst (.int .i64 70)) .nil)))))) .skip (.exit 2)) h24_2)
@[simp] theorem h24_3_wp {P : Program} {F : PF P} {Q : EX → List Value → World → Prop} {env : List Value} {w : World} : h24_3.wp F Q env w = HC.wp F (.seq (.br (.chk none (.bin .lss) (.cons (.inp 2) (.cons (.cst (.int .i64 70)) .nil)) (.done [] (some (.op (.bin .lss) (.cons (.inp 2) (.cons (.cst (.int .i64 70)) .nil)))))) .skip (.exit 2)) h24_2) Q env w := rfl
def h24_4 : HC := (.loop h24_3)
@[simp] theorem h24_4_wp {P : Program} {F : PF P} {Q : EX → List Value → World → Prop} {env : List Value} {w : World} : h24_4.wp F Q env w = HC.wp F (.loop h24_3) Q env w := rfl
def h24_5 : HC := (.block 2 h24_4)
@[simp] theorem h24_5_wp {P : Program} {F : PF P} {Q : EX → List Value → World → Prop} {env : List Value} {w : World} : h24_5.wp F Q env w = HC.wp F (.block 2 h24_4) Q env w := rfl
def h24_6 : HC := (.seq (.reg (.done [(2, (.cst (.int .i64 0)))] none)) h24_5)
@[simp] theorem h24_6_wp {P : Program} {F : PF P} {Q : EX → List Value → World → Prop} {env : List Value} {w : World} : h24_6.wp F Q env w = HC.wp F (.seq (.reg (.done [(2, (.cst (.int .i64 0)))] none)) h24_5) Q env w := rfl
def h24_7 : HC := (.reg (.chk none (.bin .add) (.cons (.inp 1) (.cons (.cst (.int .i64 1)) .nil)) (.done [(1, (.op (.bin .add) (.cons (.inp 1) (.cons (.cst (.int .i64 1)) .nil))))] none)))
@[simp] theorem h24_7_wp {P : Program} {F : PF P} {Q : EX → List Value → World → Prop} {env : List Value} {w : World} : h24_7.wp F Q env w = HC.wp F (.reg (.chk none (.bin .add) (.cons (.inp 1) (.cons (.cst (.int .i64 1)) .nil)) (.done [(1, (.op (.bin .add) (.cons (.inp 1) (.cons (.cst (.int .i64 1)) .nil))))] none))) Q env w := rfl
def h24_8 : HC := (.reg (.chk none (.build #[(.string ⟨#[]⟩), (.int .u64 0)] [(0, 1), (1, 1)] [0, 1]) (.cons (.cst (.string ⟨#[115, 112, 111, 105, 108, 116]⟩)) (.cons (.cst (.int .u64 9)) .nil)) (.chk none (.idxL 2) (.cons (.inp 0) (.cons (.inp 1) .nil)) (.eff (.st 2) (.cons (.op (.idxL 2) (.cons (.inp 0) (.cons (.inp 1) .nil))) (.cons (.op (.build #[(.string ⟨#[]⟩), (.int .u64 0)] [(0, 1), (1, 1)] [0, 1]) (.cons (.cst (.string ⟨#[115, 112, 111, 105, 108, 116]⟩)) (.cons (.cst (.int .u64 9)) .nil))) .nil)) (.done [] none)))))
@[simp] theorem h24_8_wp {P : Program} {F : PF P} {Q : EX → List Value → World → Prop} {env : List Value} {w : World} : h24_8.wp F Q env w = HC.wp F (.reg (.chk none (.build #[(.string ⟨#[]⟩), (.int .u64 0)] [(0, 1), (1, 1)] [0, 1]) (.cons (.cst (.string ⟨#[115, 112, 111, 105, 108, 116]⟩)) (.cons (.cst (.int .u64 9)) .nil)) (.chk none (.idxL 2) (.cons (.inp 0) (.cons (.inp 1) .nil)) (.eff (.st 2) (.cons (.op (.idxL 2) (.cons (.inp 0) (.cons (.inp 1) .nil))) (.cons (.op (.build #[(.string ⟨#[]⟩), (.int .u64 0)] [(0, 1), (1, 1)] [0, 1]) (.cons (.cst (.string ⟨#[115, 112, 111, 105, 108, 116]⟩)) (.cons (.cst (.int .u64 9)) .nil))) .nil)) (.done [] none))))) Q env w := rfl
def h24_9 : HC := (.seq (.block 1 h24_8) h24_7)
@[simp] theorem h24_9_wp {P : Program} {F : PF P} {Q : EX → List Value → World → Prop} {env : List Value} {w : World} : h24_9.wp F Q env w = HC.wp F (.seq (.block 1 h24_8) h24_7) Q env w := rfl
def h24_10 : HC := (.seq (.br (.chk none .lenL (.cons (.inp 0) .nil) (.chk none (.bin .lss) (.cons (.inp 1) (.cons (.op .lenL (.cons (.inp 0) .nil)) .nil)) (.done [] (some (.op (.bin .lss) (.cons (.inp 1) (.cons (.op .lenL (.cons (.inp 0) .nil)) .nil))))))) .skip (.exit 0)) h24_9)
@[simp] theorem h24_10_wp {P : Program} {F : PF P} {Q : EX → List Value → World → Prop} {env : List Value} {w : World} : h24_10.wp F Q env w = HC.wp F (.seq (.br (.chk none .lenL (.cons (.inp 0) .nil) (.chk none (.bin .lss) (.cons (.inp 1) (.cons (.op .lenL (.cons (.inp 0) .nil)) .nil)) (.done [] (some (.op (.bin .lss) (.cons (.inp 1) (.cons (.op .lenL (.cons (.inp 0) .nil)) .nil))))))) .skip (.exit 0)) h24_9) Q env w := rfl
def h24_11 : HC := (.loop h24_10)
@[simp] theorem h24_11_wp {P : Program} {F : PF P} {Q : EX → List Value → World → Prop} {env : List Value} {w : World} : h24_11.wp F Q env w = HC.wp F (.loop h24_10) Q env w := rfl
def h24_12 : HC := (.seq (.block 0 h24_11) h24_6)
@[simp] theorem h24_12_wp {P : Program} {F : PF P} {Q : EX → List Value → World → Prop} {env : List Value} {w : World} : h24_12.wp F Q env w = HC.wp F (.seq (.block 0 h24_11) h24_6) Q env w := rfl
def l24 : Lifted := ⟨[0, 2, 3], 22, [], (.seq (.reg (.done [(1, (.cst (.int .i64 0)))] none)) h24_12)⟩
theorem l24_ok : liftFn U1 24 400 = some l24 := by kernel_rfl

-- bazaar/bazaarlaw14.spoilInts
def h70_0 : HC := (.reg (.chk none (.bin .add) (.cons (.inp 2) (.cons (.cst (.int .i64 1)) .nil)) (.done [(2, (.op (.bin .add) (.cons (.inp 2) (.cons (.cst (.int .i64 1)) .nil))))] none)))
@[simp] theorem h70_0_wp {P : Program} {F : PF P} {Q : EX → List Value → World → Prop} {env : List Value} {w : World} : h70_0.wp F Q env w = HC.wp F (.reg (.chk none (.bin .add) (.cons (.inp 2) (.cons (.cst (.int .i64 1)) .nil)) (.done [(2, (.op (.bin .add) (.cons (.inp 2) (.cons (.cst (.int .i64 1)) .nil))))] none))) Q env w := rfl
def h70_1 : HC := (.reg (.eff (.bsl 3 1 1 #[(.int .i64 0)] [0]) (.cons (.cst (.int .i64 (-8))) .nil) (.eff (.app 35 35 3 1 8 (.int .i64 0)) (.cons (.inp 0) (.cons (.bv 0) .nil)) (.done [(0, (.bv 1))] none))))
@[simp] theorem h70_1_wp {P : Program} {F : PF P} {Q : EX → List Value → World → Prop} {env : List Value} {w : World} : h70_1.wp F Q env w = HC.wp F (.reg (.eff (.bsl 3 1 1 #[(.int .i64 0)] [0]) (.cons (.cst (.int .i64 (-8))) .nil) (.eff (.app 35 35 3 1 8 (.int .i64 0)) (.cons (.inp 0) (.cons (.bv 0) .nil)) (.done [(0, (.bv 1))] none)))) Q env w := rfl
def h70_2 : HC := (.seq (.block 3 h70_1) h70_0)
@[simp] theorem h70_2_wp {P : Program} {F : PF P} {Q : EX → List Value → World → Prop} {env : List Value} {w : World} : h70_2.wp F Q env w = HC.wp F (.seq (.block 3 h70_1) h70_0) Q env w := rfl
def h70_3 : HC := (.seq (.br (.chk none (.bin .lss) (.cons (.inp 2) (.cons (.cst (.int .i64 70)) .nil)) (.done [] (some (.op (.bin .lss) (.cons (.inp 2) (.cons (.cst (.int .i64 70)) .nil)))))) .skip (.exit 2)) h70_2)
@[simp] theorem h70_3_wp {P : Program} {F : PF P} {Q : EX → List Value → World → Prop} {env : List Value} {w : World} : h70_3.wp F Q env w = HC.wp F (.seq (.br (.chk none (.bin .lss) (.cons (.inp 2) (.cons (.cst (.int .i64 70)) .nil)) (.done [] (some (.op (.bin .lss) (.cons (.inp 2) (.cons (.cst (.int .i64 70)) .nil)))))) .skip (.exit 2)) h70_2) Q env w := rfl
def h70_4 : HC := (.loop h70_3)
@[simp] theorem h70_4_wp {P : Program} {F : PF P} {Q : EX → List Value → World → Prop} {env : List Value} {w : World} : h70_4.wp F Q env w = HC.wp F (.loop h70_3) Q env w := rfl
def h70_5 : HC := (.block 2 h70_4)
@[simp] theorem h70_5_wp {P : Program} {F : PF P} {Q : EX → List Value → World → Prop} {env : List Value} {w : World} : h70_5.wp F Q env w = HC.wp F (.block 2 h70_4) Q env w := rfl
def h70_6 : HC := (.seq (.reg (.done [(2, (.cst (.int .i64 0)))] none)) h70_5)
@[simp] theorem h70_6_wp {P : Program} {F : PF P} {Q : EX → List Value → World → Prop} {env : List Value} {w : World} : h70_6.wp F Q env w = HC.wp F (.seq (.reg (.done [(2, (.cst (.int .i64 0)))] none)) h70_5) Q env w := rfl
def h70_7 : HC := (.reg (.chk none (.bin .add) (.cons (.inp 1) (.cons (.cst (.int .i64 1)) .nil)) (.done [(1, (.op (.bin .add) (.cons (.inp 1) (.cons (.cst (.int .i64 1)) .nil))))] none)))
@[simp] theorem h70_7_wp {P : Program} {F : PF P} {Q : EX → List Value → World → Prop} {env : List Value} {w : World} : h70_7.wp F Q env w = HC.wp F (.reg (.chk none (.bin .add) (.cons (.inp 1) (.cons (.cst (.int .i64 1)) .nil)) (.done [(1, (.op (.bin .add) (.cons (.inp 1) (.cons (.cst (.int .i64 1)) .nil))))] none))) Q env w := rfl
def h70_8 : HC := (.reg (.chk none (.idxL 1) (.cons (.inp 0) (.cons (.inp 1) .nil)) (.eff (.st 1) (.cons (.op (.idxL 1) (.cons (.inp 0) (.cons (.inp 1) .nil))) (.cons (.cst (.int .i64 (-7))) .nil)) (.done [] none))))
@[simp] theorem h70_8_wp {P : Program} {F : PF P} {Q : EX → List Value → World → Prop} {env : List Value} {w : World} : h70_8.wp F Q env w = HC.wp F (.reg (.chk none (.idxL 1) (.cons (.inp 0) (.cons (.inp 1) .nil)) (.eff (.st 1) (.cons (.op (.idxL 1) (.cons (.inp 0) (.cons (.inp 1) .nil))) (.cons (.cst (.int .i64 (-7))) .nil)) (.done [] none)))) Q env w := rfl
def h70_9 : HC := (.seq (.block 1 h70_8) h70_7)
@[simp] theorem h70_9_wp {P : Program} {F : PF P} {Q : EX → List Value → World → Prop} {env : List Value} {w : World} : h70_9.wp F Q env w = HC.wp F (.seq (.block 1 h70_8) h70_7) Q env w := rfl
def h70_10 : HC := (.seq (.br (.chk none .lenL (.cons (.inp 0) .nil) (.chk none (.bin .lss) (.cons (.inp 1) (.cons (.op .lenL (.cons (.inp 0) .nil)) .nil)) (.done [] (some (.op (.bin .lss) (.cons (.inp 1) (.cons (.op .lenL (.cons (.inp 0) .nil)) .nil))))))) .skip (.exit 0)) h70_9)
@[simp] theorem h70_10_wp {P : Program} {F : PF P} {Q : EX → List Value → World → Prop} {env : List Value} {w : World} : h70_10.wp F Q env w = HC.wp F (.seq (.br (.chk none .lenL (.cons (.inp 0) .nil) (.chk none (.bin .lss) (.cons (.inp 1) (.cons (.op .lenL (.cons (.inp 0) .nil)) .nil)) (.done [] (some (.op (.bin .lss) (.cons (.inp 1) (.cons (.op .lenL (.cons (.inp 0) .nil)) .nil))))))) .skip (.exit 0)) h70_9) Q env w := rfl
def h70_11 : HC := (.loop h70_10)
@[simp] theorem h70_11_wp {P : Program} {F : PF P} {Q : EX → List Value → World → Prop} {env : List Value} {w : World} : h70_11.wp F Q env w = HC.wp F (.loop h70_10) Q env w := rfl
def h70_12 : HC := (.seq (.block 0 h70_11) h70_6)
@[simp] theorem h70_12_wp {P : Program} {F : PF P} {Q : EX → List Value → World → Prop} {env : List Value} {w : World} : h70_12.wp F Q env w = HC.wp F (.seq (.block 0 h70_11) h70_6) Q env w := rfl
def l70 : Lifted := ⟨[0, 2, 3], 20, [], (.seq (.reg (.done [(1, (.cst (.int .i64 0)))] none)) h70_12)⟩
theorem l70_ok : liftFn U1 70 400 = some l70 := by kernel_rfl


def roundF (k n : Int) : Int := if k.tmod n < 0 then k.tmod n + n else k.tmod n
theorem round_spec (a n : Int) (w : World) (h1 : 0 < n) (h2 : n ≤ 1000000) : CallW Try.prog 25 [.int .i64 a, .int .i64 n] (fun r w' => r = .int .i64 (roundF a n) ∧ w' = w) w := by
  refine callW_of_lift l25_ok (by simp [l25]) ?_
  simp [l25]
  have k1 := Int.tmod_lt_of_pos a h1
  have k2 : -n < a.tmod n := by
    have := Int.lt_tmod_of_pos a h1
    omega
  refine ⟨by omega, cndI (fun h => ?_) (fun h => ?_)⟩
  · simp at h
    have hw : IntKind.i64.wrap (a.tmod n + n) = a.tmod n + n := wrap64 (by omega) (by omega)
    simp [roundF, h, hw]
  · simp at h
    have : ¬ a.tmod n < 0 := by omega
    simp [roundF, this]
theorem round_bd (a n : Int) (h1 : 0 < n) : 0 ≤ roundF a n ∧ roundF a n < n := by
  have k1 := Int.tmod_lt_of_pos a h1
  have k2 : -n < a.tmod n := by
    have := Int.lt_tmod_of_pos a h1
    omega
  unfold roundF
  split <;> omega
def marks : List Ac := [⟨[109, 97, 114, 107], 71⟩, ⟨[109, 97, 114, 107], 72⟩]
def lentA (v : Value) (l : List Ac) : Asn := fun h => ∃ g cap, v = .slice (some ⟨g, 0, none⟩) l.length cap ∧ l.length + 2 ≤ cap ∧ cap ≤ maxLen ∧ own 66 2 (.slice (some ⟨g, 0, none⟩) (l.length + 2) cap) (l.length + 2) (flat (l ++ marks)) h
theorem lopen {w0 w : World} {A : Asn} {v : Value} {l : List Ac} (s : St w0 (A * lentA v l) w) : ∃ g cap, v = .slice (some ⟨g, 0, none⟩) l.length cap ∧ l.length + 2 ≤ cap ∧ cap ≤ maxLen ∧ St w0 (A * own 66 2 (.slice (some ⟨g, 0, none⟩) (l.length + 2) cap) (l.length + 2) (flat (l ++ marks))) w := by
  obtain ⟨g', h1, h2, h3, d, e, a, g, cap, rfl, hc, hm, b⟩ := s.holds
  exact ⟨g, cap, rfl, hc, hm, s.of ⟨g', h1, h2, h3, d, e, a, b⟩⟩
theorem lclose {w0 w : World} {A : Asn} {g cap : Nat} {l : List Ac} (hc : l.length + 2 ≤ cap) (hm : cap ≤ maxLen) (s : St w0 (A * own 66 2 (.slice (some ⟨g, 0, none⟩) (l.length + 2) cap) (l.length + 2) (flat (l ++ marks))) w) : St w0 (A * lentA (.slice (some ⟨g, 0, none⟩) l.length cap) l) w :=
  s.mono (sep_mono (fun _ h => h) fun h hh => ⟨g, cap, rfl, hc, hm, hh⟩)
theorem flat_app (a b : List Ac) : flat (a ++ b) = flat a ++ flat b := by simp [flat]
theorem lent_own {w0 w : World} {A : Asn} {v : Value} {l : List Ac} (s : St w0 (A * lentA v l) w) : St w0 (A * own 66 2 v l.length (flat l)) w := by
  obtain ⟨g, cap, rfl, hc, hm, s1⟩ := lopen s
  rw [flat_app] at s1
  exact s1.mono (sep_mono (fun _ h => h) fun h hh => own_less (by rw [flat_len]) hh)
theorem lent_row {w0 w : World} {A : Asn} {v : Value} {l : List Ac} (s : St w0 (A * lentA v l) w) : Row w0 (A * lentA v l) v l.length 2 (flat l) :=
  (row_own (lent_own s)).mono fun w s => lent_own s
theorem lent_spec (l : List Ac) (v : Value) (w0 w : World) (A : Asn) (hl : l.length ≤ 1048576) (hrow : Row w0 A v l.length 2 (flat l)) (s : St w0 A w) :
    CallW Try.prog 19 [v] (fun r w' => St w0 (A * lentA r l) w') w := by
  obtain ⟨ra, rcap, rfl⟩ := hrow.val
  refine callW_of_lift l19_ok (by simp [l19]) ?_
  simp [l19]
  refine eff_appR (s.own_nil 66 2) (hrow.mono fun w s => s.drop) (flat_one _) (by decide) rfl (by unfold maxLen; omega) (by omega) ?_
  intro v1 w1 s1
  simp [Instr.fill, Value.cells]
  refine eff_bslN (vs := [.agg (Ac.cs ⟨[109, 97, 114, 107], 71⟩).toArray, .agg (Ac.cs ⟨[109, 97, 114, 107], 72⟩).toArray]) s1 (by simp [Value.cells, Ac.cs]) rfl rfl (by decide) ?_
  intro mv w2 s2
  simp
  have s3 : St w0 (A * own 66 2 mv 2 (flat marks) * own 66 2 v1 l.length (flat l)) w2 := by
    have : St w0 (A * own 66 2 v1 l.length (flat l) * own 66 2 mv 2 (flat marks)) w2 := by simpa [marks, flat] using s2
    exact this.swap
  refine eff_appR s3 (row_in (e := 66) (B := A * own 66 2 v1 l.length (flat l)) s3 (by ac_rfl)) (flat_one _) (by decide) rfl (by unfold maxLen; omega) (by omega) ?_
  intro v2 w3 s4
  rw [← flat_app] at s4
  obtain ⟨g, cap, rfl, hcap, _⟩ := s4.own_at (by omega)
  simp
  have hle : l.length ≤ cap := by omega
  simp [hle, add_zero]
  have hm : cap ≤ maxLen := by
    rcases s4.own.2 with ⟨h, _⟩ | ⟨_, _, _, h, _, hm, _⟩
    · cases h
    · cases h; exact hm
  exact lclose hcap hm (St.cut (own 66 2 mv 2 (flat marks)) s4 (by ac_rfl))
theorem kept_spec (l : List Ac) (v v0 : Value) (w0 w : World) (A : Asn) (hl : l.length ≤ 1048576) (hrow : Row w0 A v0 l.length 2 (flat l)) (s : St w0 (A * lentA v l) w) :
    CallW Try.prog 23 [v, v0] (fun r w' => r = .bool true ∧ St w0 (A * lentA v l) w') w := by
  obtain ⟨g, cap, rfl, hcap, hm, _⟩ := lopen s
  refine callW_of_lift l23_ok (by simp [l23]) ?_
  simp [l23]
  refine eff_call ((rows_spec l l (.slice (some ⟨g, 0, none⟩) l.length cap) v0 w0 w _ hl (lent_row s) (hrow.mono fun w s => s.drop) s).mono ?_)
  rintro r w1 ⟨rfl, s1⟩
  have hw2 : IntKind.i64.wrap ((l.length : Int) + 2) = (l.length : Int) + 2 := wrap64 (by omega) (by omega)
  have hw1 : IntKind.i64.wrap ((l.length : Int) + 1) = (l.length : Int) + 1 := wrap64 (by omega) (by omega)
  have hwn : ((l.length : Int) + 2).toNat = l.length + 2 := by omega
  obtain ⟨_, _, hv, _, _, s2⟩ := lopen s1
  cases hv
  obtain ⟨_, _, hv, _, hcell⟩ := s2.own_at (by omega)
  cases hv
  have hml : (l ++ marks).length = l.length + 2 := by simp [marks]
  have hm0 : (l ++ marks)[l.length]'(by omega) = ⟨[109, 97, 114, 107], 71⟩ := by simp [marks]
  have hm1 : (l ++ marks)[l.length + 1]'(by omega) = ⟨[109, 97, 114, 107], 72⟩ := by simp [marks]
  have c0 := flat_at (its := l ++ marks) (i := l.length) (by omega)
  have c1 := flat_at (its := l ++ marks) (i := l.length + 1) (by omega)
  rw [hm0] at c0
  rw [hm1] at c1
  simp [hw2, hwn, hcap, add_zero]
  refine ⟨by omega, by omega, ?_⟩
  refine eff_ldcs (vs := Ac.cs ⟨[109, 97, 114, 107], 71⟩) (fun j u hu => hcell _ _ (c0 j u hu)) rfl ?_
  simp [Instr.fill, Value.cells]
  refine eff_eqlP accT (⟨[109, 97, 114, 107], 71⟩ : Ac).pv (⟨[109, 97, 114, 107], 71⟩ : Ac).pv rfl rfl ?_
  simp [hw1]
  refine ⟨by omega, ?_⟩
  refine eff_ldcs (vs := Ac.cs ⟨[109, 97, 114, 107], 72⟩) (fun j u hu => hcell _ _ (c1 j u hu)) rfl ?_
  simp [Instr.fill, Value.cells]
  refine eff_eqlP accT (⟨[109, 97, 114, 107], 72⟩ : Ac).pv (⟨[109, 97, 114, 107], 72⟩ : Ac).pv rfl rfl ?_
  simp
  exact s1
theorem spoil_spec (l : List Ac) (v : Value) (w0 w : World) (A : Asn) (hl : l.length ≤ 1048576) (s : St w0 (A * own 66 2 v l.length (flat l)) w) :
    CallW Try.prog 24 [v] (fun r w' => St w0 A w') w := by
  obtain ⟨a, cap, rfl, hcap, _⟩ := s.own_val
  refine callW_of_lift l24_ok (by simp [l24]) ?_
  simp [l24]
  refine loopI (fun env w' => ∃ (i : Nat) (l' : List Ac), env = [.slice a l.length cap, .int .i64 i, undef] ∧ i ≤ l.length ∧ l'.length = l.length ∧ St w0 (A * own 66 2 (.slice a l.length cap) l.length (flat l')) w')
    (fun env _ => l.length - slotN env 1) ⟨0, l, rfl, by omega, rfl, s⟩ ?_
  clear s
  rintro LQ env w' ⟨i, l', rfl, hi, hl', s⟩ hN hE hR
  simp
  refine cndI (fun h => ?_) (fun h => ?_)
  · simp at h
    have h : i < l.length := by omega
    obtain ⟨g, _, hv, _, _⟩ := s.own_at (by omega)
    cases hv
    simp [h, Instr.fill, Value.cells]
    have hfl := flat_len l'
    refine eff_stR (vs := Ac.cs ⟨[115, 112, 111, 105, 108, 116], 9⟩) s rfl rfl (cs_one _) (by omega) ?_
    intro w3 s3
    rw [show flat l' = l'.flatMap Ac.cs from rfl, flat_set Ac.cs 2 cs_len _ l' i (by omega)] at s3
    simp
    try simp (disch := omega) only [wrap64]
    exact hN _ _ ⟨i + 1, _, by simp, by omega, by rw [List.length_set]; exact hl', s3⟩ (by simp [slotN]; omega)
  simp at h
  simp
  refine hE _ _ _ ?_
  simp
  clear hN hE hR h
  refine loopI (fun env w' => ∃ (j : Nat) (v : Value) (l2 : List Ac), env = [v, .int .i64 i, .int .i64 j] ∧ j ≤ 70 ∧ l2.length = l.length + j ∧ St w0 (A * own 66 2 v l2.length (flat l2)) w')
    (fun env _ => 70 - slotN env 2) ⟨0, _, l', rfl, by omega, by omega, by rw [hl']; exact s⟩ ?_
  clear s
  rintro LQ env w' ⟨j, v, l2, rfl, hj, hl2, s⟩ hN hE hR
  simp
  refine cndI (fun h => ?_) (fun h => ?_)
  · simp at h
    obtain ⟨va, vc, rfl, _⟩ := s.own_val
    simp [Instr.fill, Value.cells]
    refine eff_bslV s rfl ?_
    intro c w3 s3
    simp
    refine eff_app (m := 1) (news := Ac.cs ⟨[109, 111, 114, 101], 8⟩) s3.swap rfl s3.cells_look (cs_one _) (by decide) rfl (by unfold maxLen; omega) (by omega) ?_
    intro v3 w4 s4
    simp
    try simp (disch := omega) only [wrap64]
    refine hN _ _ ⟨j + 1, v3, l2 ++ [⟨[109, 111, 114, 101], 8⟩], by simp, by omega, by simp; omega, ?_⟩ (by simp [slotN]; omega)
    have e : flat (l2 ++ [⟨[109, 111, 114, 101], 8⟩]) = flat l2 ++ Ac.cs ⟨[109, 111, 114, 101], 8⟩ := by simp [flat]
    rw [e, List.length_append]
    exact St.cut (pt c (.cells (Ac.cs ⟨[109, 111, 114, 101], 8⟩).toArray 66 (0, 0))) s4 (by simp only [List.length_singleton]; ac_rfl)
  simp at h
  simp
  refine hE _ _ _ ?_
  simp
  exact s.drop
theorem spoilInts_spec (l : List Int) (v : Value) (w0 w : World) (A : Asn) (hl : l.length ≤ 1048576) (s : St w0 (A * own 3 1 v l.length (ints l)) w) :
    CallW Try.prog 70 [v] (fun r w' => St w0 A w') w := by
  obtain ⟨a, cap, rfl, hcap, _⟩ := s.own_val
  refine callW_of_lift l70_ok (by simp [l70]) ?_
  simp [l70]
  refine loopI (fun env w' => ∃ (i : Nat) (l' : List Int), env = [.slice a l.length cap, .int .i64 i, undef] ∧ i ≤ l.length ∧ l'.length = l.length ∧ St w0 (A * own 3 1 (.slice a l.length cap) l.length (ints l')) w')
    (fun env _ => l.length - slotN env 1) ⟨0, l, rfl, by omega, rfl, s⟩ ?_
  clear s
  rintro LQ env w' ⟨i, l', rfl, hi, hl', s⟩ hN hE hR
  simp
  refine cndI (fun h => ?_) (fun h => ?_)
  · simp at h
    have h : i < l.length := by omega
    obtain ⟨g, _, hv, _, _⟩ := s.own_at (by omega)
    cases hv
    simp [h]
    refine eff_stC (u := .int .i64 (-7)) s (by simp [ints]; omega) rfl ?_
    intro w3 s3
    simp
    try simp (disch := omega) only [wrap64]
    have e : (ints l').set i (.int .i64 (-7)) = ints (l'.set i (-7)) := by simp [ints, List.map_set]
    rw [e] at s3
    exact hN _ _ ⟨i + 1, _, by simp, by omega, by rw [List.length_set]; exact hl', s3⟩ (by simp [slotN]; omega)
  simp at h
  simp
  refine hE _ _ _ ?_
  simp
  clear hN hE hR h
  refine loopI (fun env w' => ∃ (j : Nat) (v : Value) (l2 : List Int), env = [v, .int .i64 i, .int .i64 j] ∧ j ≤ 70 ∧ l2.length = l.length + j ∧ St w0 (A * own 3 1 v l2.length (ints l2)) w')
    (fun env _ => 70 - slotN env 2) ⟨0, _, l', rfl, by omega, by omega, by rw [hl']; exact s⟩ ?_
  clear s
  rintro LQ env w' ⟨j, v, l2, rfl, hj, hl2, s⟩ hN hE hR
  simp
  refine cndI (fun h => ?_) (fun h => ?_)
  · simp at h
    obtain ⟨va, vc, rfl, _⟩ := s.own_val
    simp
    refine eff_bsl1 s rfl ?_
    intro c w3 s3
    simp
    refine eff_app (m := 1) (news := [.int .i64 (-8)]) s3.swap rfl s3.cells_look (by simp [Value.oneCell']) (by decide) rfl (by unfold maxLen; omega) (by omega) ?_
    intro v3 w4 s4
    simp
    try simp (disch := omega) only [wrap64]
    refine hN _ _ ⟨j + 1, v3, l2 ++ [-8], by simp, by omega, by simp; omega, ?_⟩ (by simp [slotN]; omega)
    have e : ints (l2 ++ [-8]) = ints l2 ++ [.int .i64 (-8)] := by simp [ints]
    rw [e, List.length_append]
    exact St.cut (pt c (.cells #[.int .i64 (-8)] 3 (0, 0))) s4 (by simp only [List.length_singleton]; ac_rfl)
  simp at h
  simp
  refine hE _ _ _ ?_
  simp
  exact s.drop
end Go.HL.Pu

namespace Go.HL.Pu
open Go.HL Go.HL.Nm Go.Proofs
set_option maxRecDepth 4000
set_option linter.unusedSimpArgs false
set_option linter.unusedVariables false
structure Sl where
  p : Nat
  q : Nat
  lim : Int
  P : Ps
abbrev Slot := Option Sl
def gp : Slot → Value
  | none => .pointer none
  | some x => .pointer (some ⟨x.p, 0, none⟩)
def mp : Slot → Value
  | none => .pointer none
  | some x => .pointer (some ⟨x.q, 0, none⟩)
def gO : Slot → Ps → Asn
  | none, _ => emp
  | some x, P => pur x.p P
def rO : Slot → Ps → Asn
  | none, _ => emp
  | some x, P => rpur x.q P
def nilP : Ps := ⟨0, [], 0, 0⟩
def psS : Slot → Ps
  | none => nilP
  | some x => x.P
def slotOK : Slot → Prop
  | none => True
  | some x => PI x.lim x.P ∧ NI (nms x.P.rows)
def setS (t : Slot) (P : Ps) : Slot := t.map fun x => ⟨x.p, x.q, x.lim, P⟩
def copyS (t : Slot) (p q : Nat) : Slot := t.map fun x => ⟨p, q, x.lim, x.P⟩
def slotA (t : Slot) : Asn := gO t (psS t) * rO t (psS t)
theorem gp_set (t : Slot) (P : Ps) : gp (setS t P) = gp t := by cases t <;> rfl
theorem mp_set (t : Slot) (P : Ps) : mp (setS t P) = mp t := by cases t <;> rfl
theorem slot_set (t : Slot) (P : Ps) : slotA (setS t P) = gO t P * rO t P := by cases t <;> rfl
theorem ps_len {t : Slot} (h : slotOK t) : (psS t).rows.length ≤ 64 := by
  cases t with
  | none => exact Nat.zero_le _
  | some x => exact (PI.bd h.1).len
def rS (t : Slot) (f : Ps → Int × Ps) : Int × Ps := match t with
  | none => (1, nilP)
  | some x => f x.P
def openS (t : Slot) (x : List UInt8) : Int × Int × Ps := match t with
  | none => (0, 1, nilP)
  | some s => openF s.P x
def getS (t : Slot) (n : Int) : Ac × Int := match t with
  | none => (⟨[], 0⟩, 1)
  | some s => getF s.P n
theorem hOpen (t : Slot) (x : List UInt8) (w0 w : World) (A : Asn) (ht : slotOK t) (hx : x.length ≤ 1048576) (s : St w0 (A * gO t (psS t)) w) :
    CallW Try.prog 13 [gp t, .string (mk x)] (fun r w' => r = .tuple #[.int .i64 (openS t x).1, .int .i64 (openS t x).2.1] ∧ St w0 (A * gO t (openS t x).2.2) w') w := by
  cases t with
  | none => exact (Open_nil x w0 w _ s)
  | some y => exact Open_spec y.p y.P x w0 w A hx (by have := (PI.bd ht.1).len; omega) s
theorem hrOpen (t : Slot) (x : List UInt8) (w0 w : World) (A : Asn) (ht : slotOK t) (hx : x.length ≤ 1048576) (s : St w0 (A * rO t (psS t)) w) :
    CallW Try.prog 60 [mp t, .string (mk x)] (fun r w' => r = .tuple #[.int .i64 (openS t x).1, .int .i64 (openS t x).2.1] ∧ St w0 (A * rO t (openS t x).2.2) w') w := by
  cases t with
  | none => exact (rOpen_nil x w0 w _ s)
  | some y => exact rOpen_spec y.q y.P x w0 w A hx (PI.bd ht.1).len ht.1.names s
theorem hMint (t : Slot) (n c : Int) (w0 w : World) (A : Asn) (ht : slotOK t) (hc : 0 ≤ c ∧ c < 18446744073709551616) (s : St w0 (A * gO t (psS t)) w) :
    CallW Try.prog 62 [gp t, .int .i64 n, .int .u64 c] (fun r w' => r = .int .i64 (rS t fun P => mintF P n c).1 ∧ St w0 (A * gO t (rS t fun P => mintF P n c).2) w') w := by
  cases t with
  | none => exact (Mint_nil n c w0 w _ s)
  | some x => exact Mint_spec x.p x.P n c w0 w A (PI.bd ht.1) hc s
theorem hrMint (t : Slot) (n c : Int) (w0 w : World) (A : Asn) (ht : slotOK t) (hc : 0 ≤ c ∧ c < 18446744073709551616) (s : St w0 (A * rO t (psS t)) w) :
    CallW Try.prog 61 [mp t, .int .i64 n, .int .u64 c] (fun r w' => r = .int .i64 (rS t fun P => mintF P n c).1 ∧ St w0 (A * rO t (rS t fun P => mintF P n c).2) w') w := by
  cases t with
  | none => exact (rMint_nil n c w0 w _ s)
  | some x => exact rMint_spec x.q x.lim x.P n c w0 w A ht.1 hc s
theorem hTake (t : Slot) (n c : Int) (w0 w : World) (A : Asn) (ht : slotOK t) (hc : 0 ≤ c ∧ c < 18446744073709551616) (s : St w0 (A * gO t (psS t)) w) :
    CallW Try.prog 34 [gp t, .int .i64 n, .int .u64 c] (fun r w' => r = .int .i64 (rS t fun P => takeF P n c).1 ∧ St w0 (A * gO t (rS t fun P => takeF P n c).2) w') w := by
  cases t with
  | none => exact (Take_nil n c w0 w _ s)
  | some x => exact Take_spec x.p x.P n c w0 w A (PI.bd ht.1) hc s
theorem hrTake (t : Slot) (n c : Int) (w0 w : World) (A : Asn) (ht : slotOK t) (hc : 0 ≤ c ∧ c < 18446744073709551616) (s : St w0 (A * rO t (psS t)) w) :
    CallW Try.prog 65 [mp t, .int .i64 n, .int .u64 c] (fun r w' => r = .int .i64 (rS t fun P => takeF P n c).1 ∧ St w0 (A * rO t (rS t fun P => takeF P n c).2) w') w := by
  cases t with
  | none => exact (rTake_nil n c w0 w _ s)
  | some x => exact rTake_spec x.q x.lim x.P n c w0 w A ht.1 hc s
theorem hPut (t : Slot) (n c : Int) (w0 w : World) (A : Asn) (ht : slotOK t) (hc : 0 ≤ c ∧ c < 18446744073709551616) (s : St w0 (A * gO t (psS t)) w) :
    CallW Try.prog 35 [gp t, .int .i64 n, .int .u64 c] (fun r w' => r = .int .i64 (rS t fun P => putF P n c).1 ∧ St w0 (A * gO t (rS t fun P => putF P n c).2) w') w := by
  cases t with
  | none => exact (Put_nil n c w0 w _ s)
  | some x => exact Put_spec x.p x.P n c w0 w A (PI.bd ht.1) hc s
theorem hrPut (t : Slot) (n c : Int) (w0 w : World) (A : Asn) (ht : slotOK t) (hc : 0 ≤ c ∧ c < 18446744073709551616) (s : St w0 (A * rO t (psS t)) w) :
    CallW Try.prog 66 [mp t, .int .i64 n, .int .u64 c] (fun r w' => r = .int .i64 (rS t fun P => putF P n c).1 ∧ St w0 (A * rO t (rS t fun P => putF P n c).2) w') w := by
  cases t with
  | none => exact (rPut_nil n c w0 w _ s)
  | some x => exact rPut_spec x.q x.lim x.P n c w0 w A ht.1 hc s
theorem hPay (t : Slot) (a b c : Int) (w0 w : World) (A : Asn) (ht : slotOK t) (hc : 0 ≤ c ∧ c < 18446744073709551616) (s : St w0 (A * gO t (psS t)) w) :
    CallW Try.prog 64 [gp t, .int .i64 a, .int .i64 b, .int .u64 c] (fun r w' => r = .int .i64 (rS t fun P => payF P a b c).1 ∧ St w0 (A * gO t (rS t fun P => payF P a b c).2) w') w := by
  cases t with
  | none => exact (Pay_nil a b c w0 w _ s)
  | some x => exact Pay_spec x.p x.P a b c w0 w A (PI.bd ht.1) hc s
theorem hrPay (t : Slot) (a b c : Int) (w0 w : World) (A : Asn) (ht : slotOK t) (hc : 0 ≤ c ∧ c < 18446744073709551616) (s : St w0 (A * rO t (psS t)) w) :
    CallW Try.prog 63 [mp t, .int .i64 a, .int .i64 b, .int .u64 c] (fun r w' => r = .int .i64 (rS t fun P => payF P a b c).1 ∧ St w0 (A * rO t (rS t fun P => payF P a b c).2) w') w := by
  cases t with
  | none => exact (rPay_nil a b c w0 w _ s)
  | some x => exact rPay_spec x.q x.lim x.P a b c w0 w A ht.1 hc s
theorem hGet (t : Slot) (n : Int) (w0 w : World) (A : Asn) (ht : slotOK t) (s : St w0 (A * gO t (psS t)) w) :
    CallW Try.prog 36 [gp t, .int .i64 n] (fun r w' => r = .tuple #[.agg (getS t n).1.cs.toArray, .int .i64 (getS t n).2] ∧ St w0 (A * gO t (psS t)) w') w := by
  cases t with
  | none => exact (Get_nil n w0 w _ s)
  | some x => exact Get_spec x.p x.P n w0 w A (PI.bd ht.1).len s
theorem hrGet (t : Slot) (n : Int) (w0 w : World) (A : Asn) (ht : slotOK t) (s : St w0 (A * rO t (psS t)) w) :
    CallW Try.prog 67 [mp t, .int .i64 n] (fun r w' => r = .tuple #[.agg (getS t n).1.cs.toArray, .int .i64 (getS t n).2] ∧ St w0 (A * rO t (psS t)) w') w := by
  cases t with
  | none => exact (rGet_nil n w0 w _ s)
  | some x => exact rGet_spec x.q x.P n w0 w A (PI.bd ht.1).len s
theorem hFind (t : Slot) (x : List UInt8) (w0 w : World) (A : Asn) (ht : slotOK t) (hx : x.length ≤ 1048576) (s : St w0 (A * gO t (psS t)) w) :
    CallW Try.prog 14 [gp t, .string (mk x)] (fun r w' => r = .tuple #[.int .i64 (askN (keyF x) (keys (psS t).rows)), .bool (askB (keyF x) (keys (psS t).rows))] ∧ St w0 (A * gO t (psS t)) w') w := by
  cases t with
  | none => exact (Find_nil x w0 w _ s)
  | some y => exact Find_spec y.p y.P x w0 w A hx s
theorem hrFind (t : Slot) (x : List UInt8) (w0 w : World) (A : Asn) (ht : slotOK t) (hx : x.length ≤ 1048576) (s : St w0 (A * rO t (psS t)) w) :
    CallW Try.prog 68 [mp t, .string (mk x)] (fun r w' => r = .tuple #[.int .i64 (askN (keyF x) (keys (psS t).rows)), .bool (askB (keyF x) (keys (psS t).rows))] ∧ St w0 (A * rO t (psS t)) w') w := by
  cases t with
  | none => exact (rFind_nil x w0 w _ s)
  | some y => exact rFind_spec y.q y.P x w0 w A hx (PI.bd ht.1).len ht.1.names s
theorem hSupply (t : Slot) (w0 w : World) (A : Asn) (ht : slotOK t) (s : St w0 (A * gO t (psS t)) w) :
    CallW Try.prog 30 [gp t] (fun r w' => r = .int .u64 (psS t).sup ∧ St w0 (A * gO t (psS t)) w') w := by
  cases t with
  | none => exact (Supply_nil  w0 w _ s)
  | some x => exact Supply_spec x.p x.P w0 w A s
theorem hrSupply (t : Slot) (w0 w : World) (A : Asn) (ht : slotOK t) (s : St w0 (A * rO t (psS t)) w) :
    CallW Try.prog 71 [mp t] (fun r w' => r = .int .u64 (psS t).sup ∧ St w0 (A * rO t (psS t)) w') w := by
  cases t with
  | none => exact (rSupply_nil  w0 w _ s)
  | some x => exact rSupply_spec x.q x.P w0 w A s
theorem hHeld (t : Slot) (w0 w : World) (A : Asn) (ht : slotOK t) (s : St w0 (A * gO t (psS t)) w) :
    CallW Try.prog 37 [gp t] (fun r w' => r = .int .u64 (psS t).held ∧ St w0 (A * gO t (psS t)) w') w := by
  cases t with
  | none => exact (Held_nil  w0 w _ s)
  | some x => exact Held_spec x.p x.P w0 w A s
theorem hrHeld (t : Slot) (w0 w : World) (A : Asn) (ht : slotOK t) (s : St w0 (A * rO t (psS t)) w) :
    CallW Try.prog 72 [mp t] (fun r w' => r = .int .u64 (psS t).held ∧ St w0 (A * rO t (psS t)) w') w := by
  cases t with
  | none => exact (rHeld_nil  w0 w _ s)
  | some x => exact rHeld_spec x.q x.lim x.P w0 w A ht.1 s
theorem hLimit (t : Slot) (w0 w : World) (A : Asn) (ht : slotOK t) (s : St w0 (A * gO t (psS t)) w) :
    CallW Try.prog 28 [gp t] (fun r w' => r = .int .i64 (psS t).lim ∧ St w0 (A * gO t (psS t)) w') w := by
  cases t with
  | none => exact (Limit_nil  w0 w _ s)
  | some x => exact Limit_spec x.p x.P w0 w A s
theorem hrLimit (t : Slot) (w0 w : World) (A : Asn) (ht : slotOK t) (s : St w0 (A * rO t (psS t)) w) :
    CallW Try.prog 73 [mp t] (fun r w' => r = .int .i64 (psS t).lim ∧ St w0 (A * rO t (psS t)) w') w := by
  cases t with
  | none => exact (rLimit_nil  w0 w _ s)
  | some x => exact rLimit_spec x.q x.P w0 w A s
theorem hLen (t : Slot) (w0 w : World) (A : Asn) (ht : slotOK t) (s : St w0 (A * gO t (psS t)) w) :
    CallW Try.prog 18 [gp t] (fun r w' => r = .int .i64 (psS t).rows.length ∧ St w0 (A * gO t (psS t)) w') w := by
  cases t with
  | none => exact (Len_nil  w0 w _ s)
  | some x => exact Len_spec x.p x.P w0 w A s
theorem hrLen (t : Slot) (w0 w : World) (A : Asn) (ht : slotOK t) (s : St w0 (A * rO t (psS t)) w) :
    CallW Try.prog 74 [mp t] (fun r w' => r = .int .i64 (psS t).rows.length ∧ St w0 (A * rO t (psS t)) w') w := by
  cases t with
  | none => exact (rLen_nil  w0 w _ s)
  | some x => exact rLen_spec x.q x.P w0 w A s
theorem hRows (t : Slot) (w0 w : World) (A : Asn) (ht : slotOK t) (s : St w0 (A * gO t (psS t)) w) :
    CallW Try.prog 29 [gp t] (fun r w' => St w0 (A * gO t (psS t) * own 66 2 r (psS t).rows.length (flat (psS t).rows)) w') w := by
  cases t with
  | none => exact (Rows_nil w0 w _ s).mono fun r w' ⟨h1, h2⟩ => by rw [h1]; exact h2.own_nil _ _
  | some y => exact Rows_spec y.p y.P w0 w A (by have := (PI.bd ht.1).len; omega) s
theorem hNear (t : Slot) (x : List UInt8) (w0 w : World) (A : Asn) (ht : slotOK t) (hx : x.length ≤ 1048576) (s : St w0 (A * gO t (psS t)) w) :
    CallW Try.prog 16 [gp t, .string (mk x)] (fun r w' => St w0 (A * gO t (psS t) * own 3 1 r (nearF (psS t).rows x 0).length (ints (nearF (psS t).rows x 0))) w') w := by
  cases t with
  | none => exact (Near_nil x w0 w _ s).mono fun r w' ⟨h1, h2⟩ => by rw [h1]; exact h2.own_nil _ _
  | some y => exact Near_spec y.p y.P x w0 w A hx (PI.bd ht.1).len ht.1.names s
theorem hCopy (t : Slot) (w0 w : World) (A : Asn) (ht : slotOK t) (s : St w0 (A * gO t (psS t)) w) :
    CallW Try.prog 26 [gp t] (fun r w' => ∃ k : Nat, r = gp (copyS t k k) ∧ St w0 (A * gO t (psS t) * gO (copyS t k k) (psS t)) w') w := by
  cases t with
  | none => exact (Copy_nil w0 w _ s).mono fun r w' ⟨h1, h2⟩ => ⟨0, h1, by rw [show gO (copyS none 0 0) (psS none) = emp from rfl, sep_emp]; exact h2⟩
  | some y => exact (Copy_spec y.p y.P w0 w A (by have := (PI.bd ht.1).len; omega) s).mono fun r w' ⟨k, h1, h2⟩ => ⟨k, h1, h2⟩
theorem hrRows (t : Slot) (w0 w : World) (A : Asn) (ht : slotOK t) (s : St w0 (A * rO t (psS t)) w) :
    CallW Try.prog 58 [mp t] (fun r w' => St w0 (A * rO t (psS t) * own 66 2 r (psS t).rows.length (flat (psS t).rows)) w') w := by
  cases t with
  | none => exact (rRows_nil w0 w _ s).mono fun r w' ⟨h1, h2⟩ => by rw [h1]; exact h2.own_nil _ _
  | some y => exact rRows_spec y.q y.P w0 w A (by have := (PI.bd ht.1).len; omega) s
theorem hrNear (t : Slot) (x : List UInt8) (w0 w : World) (A : Asn) (ht : slotOK t) (hx : x.length ≤ 1048576) (s : St w0 (A * rO t (psS t)) w) :
    CallW Try.prog 69 [mp t, .string (mk x)] (fun r w' => St w0 (A * rO t (psS t) * own 3 1 r (nearF (psS t).rows x 0).length (ints (nearF (psS t).rows x 0))) w') w := by
  cases t with
  | none => exact (rNear_nil x w0 w _ s).mono fun r w' ⟨h1, h2⟩ => by rw [h1]; exact h2.own_nil _ _
  | some y => exact rNear_spec y.q y.P x w0 w A hx (PI.bd ht.1).len ht.1.names s
theorem hrCopy (t : Slot) (w0 w : World) (A : Asn) (ht : slotOK t) (s : St w0 (A * rO t (psS t)) w) :
    CallW Try.prog 27 [mp t] (fun r w' => ∃ k : Nat, r = mp (copyS t k k) ∧ St w0 (A * rO t (psS t) * rO (copyS t k k) (psS t)) w') w := by
  cases t with
  | none => exact (rCopy_nil w0 w _ s).mono fun r w' ⟨h1, h2⟩ => ⟨0, h1, by rw [show rO (copyS none 0 0) (psS none) = emp from rfl, sep_emp]; exact h2⟩
  | some y => exact (rCopy_spec y.q y.P w0 w A (by have := (PI.bd ht.1).len; omega) s).mono fun r w' ⟨k, h1, h2⟩ => ⟨k, h1, h2⟩
theorem step_ok {t : Slot} (ht : slotOK t) (o : Sp) (ho : o.ok) : slotOK (setS t (doesF (psS t) o).2) := by
  cases t with
  | none => trivial
  | some y => exact ⟨(does_step ht.1 ho).pi, does_NI ht.2⟩
end Go.HL.Pu
