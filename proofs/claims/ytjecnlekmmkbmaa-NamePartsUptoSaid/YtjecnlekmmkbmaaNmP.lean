/-
  Same, Alike; slices.Equal over runes. Conditions: texts within the bound.
-/
import Derived.Test.YtjecnlekmmkbmaaNmN
namespace Go.HL.Nm
open Go.HL Go.Proofs
set_option maxRecDepth 4000
set_option linter.unusedSimpArgs false
set_option linter.unusedVariables false
/-- a slice of numbers, as it is seen while A holds -/
def View (w0 : World) (A : Asn) (k : IntKind) (v : Value) (xs : List Int) : Prop :=
  ∃ a cap, v = .slice a xs.length cap ∧ xs.length ≤ cap ∧ (0 < xs.length → ∃ g o, a = some ⟨g, o, none⟩ ∧ ∀ w, St w0 A w → ∀ j u, xs[j]? = some u → w.cell? ⟨g, o + j, none⟩ = some (.int k u))
theorem view_own {w0 w : World} {A : Asn} {e n : Nat} {k : IntKind} {v : Value} {xs : List Int} (s : St w0 (A * own e 1 v n (xs.map (Value.int k))) w) : View w0 (A * own e 1 v n (xs.map (Value.int k))) k v xs := by
  have hl : xs.length = n := by simpa using s.own.1
  obtain ⟨a, cap, hv, hc, hn⟩ := s.own_val
  refine ⟨a, cap, by rw [hl]; exact hv, by omega, fun h => ?_⟩
  obtain ⟨g, c', hv', _, _⟩ := s.own_at (by omega)
  rw [hv] at hv'
  cases hv'
  refine ⟨g, 0, rfl, fun w' s' j u hu => ?_⟩
  obtain ⟨g', c', hv', _, hcell⟩ := s'.own_at (by omega)
  rw [hv] at hv'
  cases hv'
  rw [Nat.zero_add]
  exact hcell j _ (by simp [hu])
theorem View.mono {w0 : World} {A B : Asn} {k : IntKind} {v : Value} {xs : List Int} (h : View w0 A k v xs) (hs : ∀ w, St w0 B w → St w0 A w) : View w0 B k v xs := by
  obtain ⟨a, cap, hv, hc, h⟩ := h
  refine ⟨a, cap, hv, hc, fun h0 => ?_⟩
  obtain ⟨g, o, ha, h⟩ := h h0
  exact ⟨g, o, ha, fun w s => h w (hs w s)⟩
-- bazaar/name.Same
def h20_0 : HC := (.seq (.reg (.eff (.call 16) (.cons (.inp 0) .nil) (.eff (.call 16) (.cons (.inp 1) .nil) (.chk none (.bin .eql) (.cons (.bv 0) (.cons (.bv 1) .nil)) (.done [(2, (.op (.bin .eql) (.cons (.bv 0) (.cons (.bv 1) .nil))))] none))))) .ret)
@[simp] theorem h20_0_wp {P : Program} {F : PF P} {Q : EX → List Value → World → Prop} {env : List Value} {w : World} : h20_0.wp F Q env w = HC.wp F (.seq (.reg (.eff (.call 16) (.cons (.inp 0) .nil) (.eff (.call 16) (.cons (.inp 1) .nil) (.chk none (.bin .eql) (.cons (.bv 0) (.cons (.bv 1) .nil)) (.done [(2, (.op (.bin .eql) (.cons (.bv 0) (.cons (.bv 1) .nil))))] none))))) .ret) Q env w := rfl
def l20 : Lifted := ⟨[0, 1, 4], 10, [.slot 2], (.seq (.reg (.done [(2, (.cst (.bool false)))] none)) h20_0)⟩
theorem l20_ok : liftFn F4 20 400 = some l20 := by kernel_rfl

-- bazaar/name.Alike
def h21_0 : HC := (.seq (.reg (.eff (.call 18) (.cons (.inp 0) .nil) (.eff (.call 18) (.cons (.inp 1) .nil) (.chk none (.bin .eql) (.cons (.bv 0) (.cons (.bv 1) .nil)) (.done [(2, (.op (.bin .eql) (.cons (.bv 0) (.cons (.bv 1) .nil))))] none))))) .ret)
@[simp] theorem h21_0_wp {P : Program} {F : PF P} {Q : EX → List Value → World → Prop} {env : List Value} {w : World} : h21_0.wp F Q env w = HC.wp F (.seq (.reg (.eff (.call 18) (.cons (.inp 0) .nil) (.eff (.call 18) (.cons (.inp 1) .nil) (.chk none (.bin .eql) (.cons (.bv 0) (.cons (.bv 1) .nil)) (.done [(2, (.op (.bin .eql) (.cons (.bv 0) (.cons (.bv 1) .nil))))] none))))) .ret) Q env w := rfl
def l21 : Lifted := ⟨[0, 1, 4], 10, [.slot 2], (.seq (.reg (.done [(2, (.cst (.bool false)))] none)) h21_0)⟩
theorem l21_ok : liftFn F4 21 400 = some l21 := by kernel_rfl

-- slices.Equal[[]rune,rune]
def h40_0 : HC := (.seq (.reg (.done [(2, (.cst (.bool true)))] none)) .ret)
@[simp] theorem h40_0_wp {P : Program} {F : PF P} {Q : EX → List Value → World → Prop} {env : List Value} {w : World} : h40_0.wp F Q env w = HC.wp F (.seq (.reg (.done [(2, (.cst (.bool true)))] none)) .ret) Q env w := rfl
def h40_1 : HC := (.reg (.chk none (.bin .add) (.cons (.inp 5) (.cons (.cst (.int .i64 1)) .nil)) (.done [(5, (.op (.bin .add) (.cons (.inp 5) (.cons (.cst (.int .i64 1)) .nil))))] none)))
@[simp] theorem h40_1_wp {P : Program} {F : PF P} {Q : EX → List Value → World → Prop} {env : List Value} {w : World} : h40_1.wp F Q env w = HC.wp F (.reg (.chk none (.bin .add) (.cons (.inp 5) (.cons (.cst (.int .i64 1)) .nil)) (.done [(5, (.op (.bin .add) (.cons (.inp 5) (.cons (.cst (.int .i64 1)) .nil))))] none))) Q env w := rfl
def h40_2 : HC := (.seq (.reg (.done [(2, (.cst (.bool false)))] none)) .ret)
@[simp] theorem h40_2_wp {P : Program} {F : PF P} {Q : EX → List Value → World → Prop} {env : List Value} {w : World} : h40_2.wp F Q env w = HC.wp F (.seq (.reg (.done [(2, (.cst (.bool false)))] none)) .ret) Q env w := rfl
def h40_3 : HC := (.brq (.chk none (.idxL 1) (.cons (.inp 0) (.cons (.inp 3) .nil)) (.eff (.ld false 1) (.cons (.op (.idxL 1) (.cons (.inp 0) (.cons (.inp 3) .nil))) .nil) (.chk none (.idxL 1) (.cons (.inp 1) (.cons (.inp 3) .nil)) (.eff (.ld false 1) (.cons (.op (.idxL 1) (.cons (.inp 1) (.cons (.inp 3) .nil))) .nil) (.chk none (.bin .neq) (.cons (.bv 0) (.cons (.bv 1) .nil)) (.done [] (some (.op (.bin .neq) (.cons (.bv 0) (.cons (.bv 1) .nil)))))))))) h40_2 .skip)
@[simp] theorem h40_3_wp {P : Program} {F : PF P} {Q : EX → List Value → World → Prop} {env : List Value} {w : World} : h40_3.wp F Q env w = HC.wp F (.brq (.chk none (.idxL 1) (.cons (.inp 0) (.cons (.inp 3) .nil)) (.eff (.ld false 1) (.cons (.op (.idxL 1) (.cons (.inp 0) (.cons (.inp 3) .nil))) .nil) (.chk none (.idxL 1) (.cons (.inp 1) (.cons (.inp 3) .nil)) (.eff (.ld false 1) (.cons (.op (.idxL 1) (.cons (.inp 1) (.cons (.inp 3) .nil))) .nil) (.chk none (.bin .neq) (.cons (.bv 0) (.cons (.bv 1) .nil)) (.done [] (some (.op (.bin .neq) (.cons (.bv 0) (.cons (.bv 1) .nil)))))))))) h40_2 .skip) Q env w := rfl
def h40_4 : HC := (.seq (.reg (.done [(3, (.inp 5))] none)) h40_3)
@[simp] theorem h40_4_wp {P : Program} {F : PF P} {Q : EX → List Value → World → Prop} {env : List Value} {w : World} : h40_4.wp F Q env w = HC.wp F (.seq (.reg (.done [(3, (.inp 5))] none)) h40_3) Q env w := rfl
def h40_5 : HC := (.seq (.block 1 h40_4) h40_1)
@[simp] theorem h40_5_wp {P : Program} {F : PF P} {Q : EX → List Value → World → Prop} {env : List Value} {w : World} : h40_5.wp F Q env w = HC.wp F (.seq (.block 1 h40_4) h40_1) Q env w := rfl
def h40_6 : HC := (.seq (.br (.chk none (.bin .lss) (.cons (.inp 5) (.cons (.inp 4) .nil)) (.done [] (some (.op (.bin .lss) (.cons (.inp 5) (.cons (.inp 4) .nil)))))) .skip (.exit 0)) h40_5)
@[simp] theorem h40_6_wp {P : Program} {F : PF P} {Q : EX → List Value → World → Prop} {env : List Value} {w : World} : h40_6.wp F Q env w = HC.wp F (.seq (.br (.chk none (.bin .lss) (.cons (.inp 5) (.cons (.inp 4) .nil)) (.done [] (some (.op (.bin .lss) (.cons (.inp 5) (.cons (.inp 4) .nil)))))) .skip (.exit 0)) h40_5) Q env w := rfl
def h40_7 : HC := (.loop h40_6)
@[simp] theorem h40_7_wp {P : Program} {F : PF P} {Q : EX → List Value → World → Prop} {env : List Value} {w : World} : h40_7.wp F Q env w = HC.wp F (.loop h40_6) Q env w := rfl
def h40_8 : HC := (.seq (.block 0 h40_7) h40_0)
@[simp] theorem h40_8_wp {P : Program} {F : PF P} {Q : EX → List Value → World → Prop} {env : List Value} {w : World} : h40_8.wp F Q env w = HC.wp F (.seq (.block 0 h40_7) h40_0) Q env w := rfl
def h40_9 : HC := (.seq (.reg (.chk none .lenL (.cons (.inp 0) .nil) (.done [(4, (.op .lenL (.cons (.inp 0) .nil))), (5, (.cst (.int .i64 0)))] none))) h40_8)
@[simp] theorem h40_9_wp {P : Program} {F : PF P} {Q : EX → List Value → World → Prop} {env : List Value} {w : World} : h40_9.wp F Q env w = HC.wp F (.seq (.reg (.chk none .lenL (.cons (.inp 0) .nil) (.done [(4, (.op .lenL (.cons (.inp 0) .nil))), (5, (.cst (.int .i64 0)))] none))) h40_8) Q env w := rfl
def h40_10 : HC := (.seq (.reg (.done [(2, (.cst (.bool false)))] none)) .ret)
@[simp] theorem h40_10_wp {P : Program} {F : PF P} {Q : EX → List Value → World → Prop} {env : List Value} {w : World} : h40_10.wp F Q env w = HC.wp F (.seq (.reg (.done [(2, (.cst (.bool false)))] none)) .ret) Q env w := rfl
def h40_11 : HC := (.seq (.br (.chk none .lenL (.cons (.inp 0) .nil) (.chk none .lenL (.cons (.inp 1) .nil) (.chk none (.bin .neq) (.cons (.op .lenL (.cons (.inp 0) .nil)) (.cons (.op .lenL (.cons (.inp 1) .nil)) .nil)) (.done [] (some (.op (.bin .neq) (.cons (.op .lenL (.cons (.inp 0) .nil)) (.cons (.op .lenL (.cons (.inp 1) .nil)) .nil)))))))) h40_10 .skip) h40_9)
@[simp] theorem h40_11_wp {P : Program} {F : PF P} {Q : EX → List Value → World → Prop} {env : List Value} {w : World} : h40_11.wp F Q env w = HC.wp F (.seq (.br (.chk none .lenL (.cons (.inp 0) .nil) (.chk none .lenL (.cons (.inp 1) .nil) (.chk none (.bin .neq) (.cons (.op .lenL (.cons (.inp 0) .nil)) (.cons (.op .lenL (.cons (.inp 1) .nil)) .nil)) (.done [] (some (.op (.bin .neq) (.cons (.op .lenL (.cons (.inp 0) .nil)) (.cons (.op .lenL (.cons (.inp 1) .nil)) .nil)))))))) h40_10 .skip) h40_9) Q env w := rfl
def l40 : Lifted := ⟨[0, 1, 4, 5, 12, 13], 26, [.slot 2], (.seq (.reg (.done [(2, (.cst (.bool false)))] none)) h40_11)⟩
theorem l40_ok : liftFn F4 40 400 = some l40 := by kernel_rfl


theorem mk_beq (a b : List UInt8) : ((mk a).data.toList == (mk b).data.toList) = (a == b) := by simp
theorem same_spec (a b : List UInt8) (w0 w : World) (A : Asn) (ha : a.length ≤ 1048576) (hb : b.length ≤ 1048576) (s : St w0 A w) :
    CallW Try.prog 20 [.string (mk a), .string (mk b)] (fun r w' => r = .bool (encAll (foldedF a) == encAll (foldedF b)) ∧ St w0 A w') w := by
  refine callW_of_lift l20_ok (by simp [l20]) ?_
  simp [l20]
  refine eff_call ((Fold_spec a w0 w A ha s).mono ?_)
  rintro r w1 ⟨rfl, s1⟩
  simp
  refine eff_call ((Fold_spec b w0 w1 A hb s1).mono ?_)
  rintro r w2 ⟨rfl, s2⟩
  simp
  exact s2
theorem alike_spec (a b : List UInt8) (w0 w : World) (A : Asn) (ha : a.length ≤ 1048576) (hb : b.length ≤ 1048576) (s : St w0 A w) :
    CallW Try.prog 21 [.string (mk a), .string (mk b)] (fun r w' => r = .bool (encAll (lookF a) == encAll (lookF b)) ∧ St w0 A w') w := by
  refine callW_of_lift l21_ok (by simp [l21]) ?_
  simp [l21]
  refine eff_call ((Look_spec a w0 w A ha s).mono ?_)
  rintro r w1 ⟨rfl, s1⟩
  simp
  refine eff_call ((Look_spec b w0 w1 A hb s1).mono ?_)
  rintro r w2 ⟨rfl, s2⟩
  simp
  exact s2
theorem equal_spec (xs ys : List Int) (v1 v2 : Value) (w0 w : World) (A : Asn) (hl : xs.length ≤ 4194304) (h1 : View w0 A .i32 v1 xs) (h2 : View w0 A .i32 v2 ys) (s : St w0 A w) :
    CallW Try.prog 40 [v1, v2] (fun r w' => r = .bool (xs == ys) ∧ St w0 A w') w := by
  obtain ⟨a1, c1, rfl, hc1, hv1⟩ := h1
  obtain ⟨a2, c2, rfl, hc2, hv2⟩ := h2
  refine callW_of_lift l40_ok (by simp [l40]) ?_
  simp [l40]
  refine cndI (fun h => ?_) (fun h => ?_)
  · simp at h
    simp
    refine ⟨?_, s⟩
    intro e; subst e; omega
  simp at h
  simp
  refine loopI (fun env w' => ∃ (i : Nat) (x : Value), env = [.slice a1 xs.length c1, .slice a2 ys.length c2, .bool false, x, .int .i64 xs.length, .int .i64 i] ∧ i ≤ xs.length ∧ xs.take i = ys.take i ∧ St w0 A w')
    (fun env _ => xs.length - slotN env 5) ⟨0, _, rfl, by omega, by simp, s⟩ ?_
  rintro LQ env w' ⟨i, x, rfl, hi, ht, s'⟩ hN hE hR
  simp
  refine cndI (fun h2 => ?_) (fun h2 => ?_)
  · simp at h2
    obtain ⟨g1, o1, rfl, hw1⟩ := hv1 (by omega)
    obtain ⟨g2, o2, rfl, hw2⟩ := hv2 (by omega)
    have hx : xs[i]? = some xs[i] := by simp [h2]
    have hy : ys[i]? = some ys[i] := by simp [show i < ys.length by omega]
    have htx : xs.take (i + 1) = xs.take i ++ [xs[i]] := by rw [List.take_succ_eq_append_getElem h2]
    have hty : ys.take (i + 1) = ys.take i ++ [ys[i]] := by rw [List.take_succ_eq_append_getElem (by omega)]
    generalize xs[i] = u1 at *
    generalize ys[i] = u2 at *
    simp
    refine brqI s' ?_
    simp
    refine ⟨h2, ?_⟩
    refine effq_ldc (fun w hw => hw1 w hw i _ hx) ?_
    simp
    refine ⟨by omega, ?_⟩
    refine effq_ldc (fun w hw => hw2 w hw i _ hy) ?_
    simp
    intro w3 s3
    refine cndI (fun h3 => ?_) (fun h3 => ?_)
    · simp at h3
      simp
      refine hR _ _ ?_
      simp
      refine ⟨?_, s3⟩
      intro e; subst e
      rw [hx] at hy
      cases hy
      exact h3 rfl
    · simp at h3
      simp
      try simp (disch := omega) only [wrap64]
      refine hN _ _ ⟨i + 1, _, by simp; rfl, h2, by rw [htx, hty, ht, h3], s3⟩ (by simp [slotN]; omega)
  · simp at h2
    simp
    refine hE _ _ _ ?_
    simp
    have : i = xs.length := by omega
    subst this
    rw [List.take_length, List.take_of_length_le (by omega)] at ht
    exact ⟨ht, s'⟩
end Go.HL.Nm
