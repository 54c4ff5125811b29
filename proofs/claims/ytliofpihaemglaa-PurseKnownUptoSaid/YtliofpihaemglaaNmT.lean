/-
  strings.Compare, cmp.Or, Compare of name. Conditions: texts within the bound.
-/
import Derived.Test.YtliofpihaemglaaNmS
import Derived.Lib.Bytealg
namespace Go.HL.Nm
open Go.HL Go.Proofs
set_option maxRecDepth 4000
set_option linter.unusedSimpArgs false
set_option linter.unusedVariables false
theorem compareBytes_cmpB : ∀ x y : List UInt8, Go.Lib.compareBytes x y = cmpB x y
  | [], [] => rfl
  | [], b :: y => by simp [Go.Lib.compareBytes, cmpB, Op.bytesLess]
  | a :: x, [] => by simp [Go.Lib.compareBytes, cmpB, Op.bytesLess]
  | a :: x, b :: y => by
    have ih := compareBytes_cmpB x y
    rw [Go.Lib.compareBytes, ih]
    by_cases h : a < b
    · simp [cmpB, Op.bytesLess, h]
    · by_cases h2 : b < a
      · have hne : a ≠ b := by intro e; subst e; exact h h2
        simp [cmpB, Op.bytesLess, h, h2, hne]
      · have e : a = b := by
          apply UInt8.toNat_inj.1
          rw [UInt8.lt_iff_toNat_lt] at h h2
          omega
        subst e
        simp [cmpB, Op.bytesLess, h]
end Go.HL.Nm
