/-
  Wheel: Advance. Conditions: so many timers at most.
-/
import Derived.Test.YtngjaibngkhidaaWhJ
import Derived.Test.YtngjaibngkhidaaWhS
namespace Go.HL.Wh
open Go.HL Go.Proofs
set_option maxRecDepth 4000
set_option linter.unusedSimpArgs false
set_option linter.unusedVariables false
def endD (top last l : Nat) : Tm → Bool := if l ≤ top then vD l 0 else vD top (last + 1)
theorem level_part (p now to mv0 : Nat) (ts : List Tm) (w0 w : World) (A : Asn) {Q : EX → List Value → World → Prop} (l top last : Nat) (v x2 x3 x8 x9 x10 x11 x12 : Value) (hp : advP now to mv0 ts) (htl : lvF to now = (top, last)) (hl : l ≤ top)
    (s : St w0 (A * advA p to mv0 ts (vD l 0) v) w)
    (hk : ∀ v' y8 y9 y10 y11 y12 w', St w0 (A * advA p to mv0 ts (endD top last (l + 1)) v') w' → Q .nrm [.pointer (some ⟨p, 0, none⟩), .int .i64 to, x2, x3, .int .i64 top, .int .i64 last, v', .int .i64 l, y8, y9, y10, y11, y12] w') :
    (HC.block 2 h14_24).wp U2 Q [.pointer (some ⟨p, 0, none⟩), .int .i64 to, x2, x3, .int .i64 top, .int .i64 last, v, .int .i64 l, x8, x9, x10, x11, x12] w := by
  have hbd := lvF_bd to now
  rw [htl] at hbd
  obtain ⟨ht4, hl64, h40⟩ := hbd
  simp only at ht4 hl64 h40
  simp
  refine loopI (fun env w' => ∃ (i : Nat) (v y8 y9 y10 y12 : Value), env = [.pointer (some ⟨p, 0, none⟩), .int .i64 to, x2, x3, .int .i64 top, .int .i64 last, v, .int .i64 l, y8, y9, y10, .int .i64 i, y12] ∧ i ≤ 64 ∧ (l = 4 → i ≤ 1) ∧ (l = top → i ≤ last + 1) ∧ St w0 (A * advA p to mv0 ts (vD l i) v) w') (fun env _ => 64 - slotN env 11)
    ⟨0, v, x8, x9, x10, x12, rfl, by omega, by omega, by omega, s⟩ ?_
  rintro LQ env w' ⟨i, v, y8, y9, y10, y12, rfl, hi, hi4, hit, s'⟩ hN hE hR
  simp
  refine cndI (fun h => ?_) (fun h => ?_)
  · simp at h
    simp
    refine ⟨fun g => ?_, ?_⟩
    · rw [if_pos g]
      by_cases e : (l : Int) = top <;> simp [e]
    have hb : isB (if ¬(l : Int) = 4 ∨ i = 0 then Value.bool (decide ((l : Int) = top)) else Value.tuple #[]) true = (decide (¬(l : Int) = 4 ∨ i = 0) && decide ((l : Int) = top)) := by
      split
      · rename_i g
        simp [g]
      · rename_i g
        simp [g]
        rfl
    rw [hb]
    refine cndI (fun h2 => ?_) (fun h2 => ?_)
    · simp at h2
      have h3 : l = top ∧ i = last + 1 := by
        by_cases e : l = 4
        · have g1 := h40 (by omega)
          have g2 := hi4 e
          omega
        · omega
      simp
      refine hE _ _ _ ?_
      simp
      refine hk _ _ _ _ _ _ _ ?_
      have : endD top last (l + 1) = vD l i := by
        unfold endD
        rw [if_neg (by omega), h3.1, h3.2]
      rw [this]; exact s'
    · simp at h2
      have hv : visF now to (l, i) := by
        unfold visF
        rw [htl]
        simp only
        by_cases e : l = 4
        · have g1 := h40 (by omega)
          omega
        · omega
      have h4 : l = 4 → i = 0 := by
        intro e
        omega
      show HC.wp U2 h14_17 _ _ _
      refine slot_part p now to mv0 ts w0 w' A l i v x2 x3 (.int .i64 top) (.int .i64 last) y9 y10 (.int .i64 i) y12 hp (by omega) (by omega) h4 hv s' fun v' z9 z10 z12 w3 s3 => ?_
      simp
      try simp (disch := omega) only [wrap64]
      refine hN _ _ ⟨i + 1, v', .int .i64 i, z9, z10, z12, by simp, by omega, fun e => by have := h4 e; omega, fun e => ?_, s3⟩ (by simp [slotN]; omega)
      unfold visF at hv
      rw [htl] at hv
      simp only at hv
      omega
  · simp at h
    have hi : i = 64 := by omega
    subst hi
    simp
    refine hE _ _ _ ?_
    simp
    refine hk _ _ _ _ _ _ _ ?_
    by_cases e : l = top
    · have : endD top last (l + 1) = vD l 64 := by
        unfold endD
        rw [if_neg (by omega), e, show last + 1 = 64 from Nat.le_antisymm hl64 (hit e)]
      rw [this]; exact s'
    · have : endD top last (l + 1) = vD (l + 1) 0 := by
        unfold endD
        rw [if_pos (by omega)]
      rw [this, ← adv_congr (next_level hp.pl l)]; exact s'
end Go.HL.Wh
