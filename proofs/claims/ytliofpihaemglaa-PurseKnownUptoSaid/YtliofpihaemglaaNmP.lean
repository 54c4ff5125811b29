/-
  Same, Alike; slices.Equal over runes. Conditions: texts within the bound.
-/
import Derived.Test.YtliofpihaemglaaNmN
namespace Go.HL.Nm
open Go.HL Go.Proofs
set_option maxRecDepth 4000
set_option linter.unusedSimpArgs false
set_option linter.unusedVariables false
/-- a slice of numbers, as it is seen while A holds -/
def View (w0 : World) (A : Asn) (k : IntKind) (v : Value) (xs : List Int) : Prop :=
  ∃ a cap, v = .slice a xs.length cap ∧ xs.length ≤ cap ∧ (0 < xs.length → ∃ g o, a = some ⟨g, o, none⟩ ∧ ∀ w, St w0 A w → ∀ j u, xs[j]? = some u → w.cell? ⟨g, o + j, none⟩ = some (.int k u))
theorem view_own {w0 w : World} {A : Asn} {e n : Nat} {k : IntKind} {v : Value} {xs : List Int} (s : St w0 (A * own e 1 v n (xs.map (Value.int k))) w) : View w0 (A * own e 1 v n (xs.map (Value.int k))) k v xs := by
  have hl : xs.length = n := by simpa using s.own.1
  obtain ⟨a, cap, hv, hc, hn⟩ := s.own_val
  refine ⟨a, cap, by rw [hl]; exact hv, by omega, fun h => ?_⟩
  obtain ⟨g, c', hv', _, _⟩ := s.own_at (by omega)
  rw [hv] at hv'
  cases hv'
  refine ⟨g, 0, rfl, fun w' s' j u hu => ?_⟩
  obtain ⟨g', c', hv', _, hcell⟩ := s'.own_at (by omega)
  rw [hv] at hv'
  cases hv'
  rw [Nat.zero_add]
  exact hcell j _ (by simp [hu])
theorem View.mono {w0 : World} {A B : Asn} {k : IntKind} {v : Value} {xs : List Int} (h : View w0 A k v xs) (hs : ∀ w, St w0 B w → St w0 A w) : View w0 B k v xs := by
  obtain ⟨a, cap, hv, hc, h⟩ := h
  refine ⟨a, cap, hv, hc, fun h0 => ?_⟩
  obtain ⟨g, o, ha, h⟩ := h h0
  exact ⟨g, o, ha, fun w s => h w (hs w s)⟩
-- bazaar/name.Same
def h12_0 : HC := (.seq (.reg (.eff (.call 15) (.cons (.inp 0) .nil) (.eff (.call 15) (.cons (.inp 1) .nil) (.chk none (.bin .eql) (.cons (.bv 0) (.cons (.bv 1) .nil)) (.done [(2, (.op (.bin .eql) (.cons (.bv 0) (.cons (.bv 1) .nil))))] none))))) .ret)
@[simp] theorem h12_0_wp {P : Program} {F : PF P} {Q : EX → List Value → World → Prop} {env : List Value} {w : World} : h12_0.wp F Q env w = HC.wp F (.seq (.reg (.eff (.call 15) (.cons (.inp 0) .nil) (.eff (.call 15) (.cons (.inp 1) .nil) (.chk none (.bin .eql) (.cons (.bv 0) (.cons (.bv 1) .nil)) (.done [(2, (.op (.bin .eql) (.cons (.bv 0) (.cons (.bv 1) .nil))))] none))))) .ret) Q env w := rfl
def l12 : Lifted := ⟨[0, 1, 4], 10, [.slot 2], (.seq (.reg (.done [(2, (.cst (.bool false)))] none)) h12_0)⟩
theorem l12_ok : liftFn F4 12 400 = some l12 := by kernel_rfl

-- bazaar/name.Alike
def h17_0 : HC := (.seq (.reg (.eff (.call 51) (.cons (.inp 0) .nil) (.eff (.call 51) (.cons (.inp 1) .nil) (.chk none (.bin .eql) (.cons (.bv 0) (.cons (.bv 1) .nil)) (.done [(2, (.op (.bin .eql) (.cons (.bv 0) (.cons (.bv 1) .nil))))] none))))) .ret)
@[simp] theorem h17_0_wp {P : Program} {F : PF P} {Q : EX → List Value → World → Prop} {env : List Value} {w : World} : h17_0.wp F Q env w = HC.wp F (.seq (.reg (.eff (.call 51) (.cons (.inp 0) .nil) (.eff (.call 51) (.cons (.inp 1) .nil) (.chk none (.bin .eql) (.cons (.bv 0) (.cons (.bv 1) .nil)) (.done [(2, (.op (.bin .eql) (.cons (.bv 0) (.cons (.bv 1) .nil))))] none))))) .ret) Q env w := rfl
def l17 : Lifted := ⟨[0, 1, 4], 10, [.slot 2], (.seq (.reg (.done [(2, (.cst (.bool false)))] none)) h17_0)⟩
theorem l17_ok : liftFn F4 17 400 = some l17 := by kernel_rfl


theorem mk_beq (a b : List UInt8) : ((mk a).data.toList == (mk b).data.toList) = (a == b) := by simp
theorem same_spec (a b : List UInt8) (w0 w : World) (A : Asn) (ha : a.length ≤ 1048576) (hb : b.length ≤ 1048576) (s : St w0 A w) :
    CallW Try.prog 12 [.string (mk a), .string (mk b)] (fun r w' => r = .bool (encAll (foldedF a) == encAll (foldedF b)) ∧ St w0 A w') w := by
  refine callW_of_lift l12_ok (by simp [l12]) ?_
  simp [l12]
  refine eff_call ((Fold_spec a w0 w A ha s).mono ?_)
  rintro r w1 ⟨rfl, s1⟩
  simp
  refine eff_call ((Fold_spec b w0 w1 A hb s1).mono ?_)
  rintro r w2 ⟨rfl, s2⟩
  simp
  exact s2
theorem alike_spec (a b : List UInt8) (w0 w : World) (A : Asn) (ha : a.length ≤ 1048576) (hb : b.length ≤ 1048576) (s : St w0 A w) :
    CallW Try.prog 17 [.string (mk a), .string (mk b)] (fun r w' => r = .bool (encAll (lookF a) == encAll (lookF b)) ∧ St w0 A w') w := by
  refine callW_of_lift l17_ok (by simp [l17]) ?_
  simp [l17]
  refine eff_call ((Look_spec a w0 w A ha s).mono ?_)
  rintro r w1 ⟨rfl, s1⟩
  simp
  refine eff_call ((Look_spec b w0 w1 A hb s1).mono ?_)
  rintro r w2 ⟨rfl, s2⟩
  simp
  exact s2
end Go.HL.Nm
