/-
  Wheel: what time that goes turns; plain laws. No condition.
-/
import Derived.Test.YtngjaibngkhidaaWhD
namespace Go.HL.Wh
open Go.HL
set_option linter.unusedSimpArgs false
set_option linter.unusedVariables false
structure Dg (a d4 d3 d2 d1 d0 : Nat) : Prop where
  eq : a = d4 * 16777216 + d3 * 262144 + d2 * 4096 + d1 * 64 + d0
  b3 : d3 < 64
  b2 : d2 < 64
  b1 : d1 < 64
  b0 : d0 < 64
theorem dg_ex (a : Nat) : ∃ d4 d3 d2 d1 d0, Dg a d4 d3 d2 d1 d0 :=
  ⟨a / 16777216, a / 262144 % 64, a / 4096 % 64, a / 64 % 64, a % 64, by omega, by omega, by omega, by omega, by omega⟩
theorem Dg.d4 {a d4 d3 d2 d1 d0 : Nat} (h : Dg a d4 d3 d2 d1 d0) : a / 16777216 = d4 := by
  obtain ⟨h, _, _, _, _⟩ := h; omega
theorem Dg.d3 {a d4 d3 d2 d1 d0 : Nat} (h : Dg a d4 d3 d2 d1 d0) : digF a 3 = d3 := by
  obtain ⟨h, _, _, _, _⟩ := h
  show a / 262144 % 64 = d3
  omega
theorem Dg.d2 {a d4 d3 d2 d1 d0 : Nat} (h : Dg a d4 d3 d2 d1 d0) : digF a 2 = d2 := by
  obtain ⟨h, _, _, _, _⟩ := h
  show a / 4096 % 64 = d2
  omega
theorem Dg.d1 {a d4 d3 d2 d1 d0 : Nat} (h : Dg a d4 d3 d2 d1 d0) : digF a 1 = d1 := by
  obtain ⟨h, _, _, _, _⟩ := h
  show a / 64 % 64 = d1
  omega
theorem Dg.d0 {a d4 d3 d2 d1 d0 : Nat} (h : Dg a d4 d3 d2 d1 d0) : digF a 0 = d0 := by
  obtain ⟨h, _, _, _, _⟩ := h
  show a / 1 % 64 = d0
  omega
theorem lvF_of {a a4 a3 a2 a1 a0 n n4 n3 n2 n1 n0 : Nat} (ha : Dg a a4 a3 a2 a1 a0) (hn : Dg n n4 n3 n2 n1 n0) :
    (a4 ≠ n4 ∧ lvF a n = (4, 0)) ∨ (a4 = n4 ∧ a3 ≠ n3 ∧ lvF a n = (3, a3)) ∨ (a4 = n4 ∧ a3 = n3 ∧ a2 ≠ n2 ∧ lvF a n = (2, a2)) ∨
    (a4 = n4 ∧ a3 = n3 ∧ a2 = n2 ∧ a1 ≠ n1 ∧ lvF a n = (1, a1)) ∨ (a4 = n4 ∧ a3 = n3 ∧ a2 = n2 ∧ a1 = n1 ∧ lvF a n = (0, a0)) := by
  unfold lvF
  rw [ha.d4, ha.d3, ha.d2, ha.d1, ha.d0, hn.d4, hn.d3, hn.d2, hn.d1]
  by_cases h4 : a4 = n4
  · by_cases h3 : a3 = n3
    · by_cases h2 : a2 = n2
      · by_cases h1 : a1 = n1
        · simp [h4, h3, h2, h1]
        · simp [h4, h3, h2, h1]
      · simp [h4, h3, h2]
    · simp [h4, h3]
  · simp [h4]
/-- has time been there? -/
def visF (now to : Nat) (p : Nat × Nat) : Prop := p.1 < (lvF to now).1 ∨ p.1 = (lvF to now).1 ∧ p.2 ≤ (lvF to now).2
set_option maxHeartbeats 4000000 in
theorem lv_law (a now to : Nat) (h1 : now < a) (h2 : now < to) :
    (visF now to (lvF a now) → to < a → lvF a now = lvF to now ∧ ((lvF a to).1 < (lvF to now).1 ∨ lvF a to = lvF a now)) ∧
    (¬ visF now to (lvF a now) → to < a ∧ lvF a to = lvF a now) := by
  obtain ⟨a4, a3, a2, a1, a0, ha⟩ := dg_ex a
  obtain ⟨n4, n3, n2, n1, n0, hn⟩ := dg_ex now
  obtain ⟨t4, t3, t2, t1, t0, ht⟩ := dg_ex to
  have L1 := lvF_of ha hn
  have L2 := lvF_of ha ht
  have L3 := lvF_of ht hn
  obtain ⟨ea, ba3, ba2, ba1, ba0⟩ := ha
  obtain ⟨en, bn3, bn2, bn1, bn0⟩ := hn
  obtain ⟨et, bt3, bt2, bt1, bt0⟩ := ht
  unfold visF
  generalize lvF a now = x at *
  generalize lvF a to = y at *
  generalize lvF to now = z at *
  obtain ⟨x1, x2⟩ := x
  obtain ⟨y1, y2⟩ := y
  obtain ⟨z1, z2⟩ := z
  simp only [Prod.mk.injEq] at *
  rcases L3 with L3 | L3 | L3 | L3 | L3 <;> rcases L1 with L1 | L1 | L1 | L1 | L1 <;> omega
end Go.HL.Wh
