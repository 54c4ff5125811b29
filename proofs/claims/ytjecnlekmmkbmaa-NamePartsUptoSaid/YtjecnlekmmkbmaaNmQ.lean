/-
  Has of name and of bazaarref04. Conditions: texts within the bound.
-/
import Derived.Test.YtjecnlekmmkbmaaNmP
namespace Go.HL.Nm
open Go.HL Go.Proofs
set_option maxRecDepth 4000
set_option linter.unusedSimpArgs false
set_option linter.unusedVariables false
/-- do these units stand here? -/
def hereF (us ps : List Int) (i : Nat) : Bool := (us.drop i).take ps.length == ps
def hasF (us ps : List Int) : Bool := (List.range (us.length + 1)).any fun i => decide (i + ps.length ≤ us.length) && hereF us ps i
theorem has_true {us ps : List Int} {i : Nat} (h1 : i + ps.length ≤ us.length) (h2 : hereF us ps i = true) : hasF us ps = true := by
  simp only [hasF, List.any_eq_true, List.mem_range]
  exact ⟨i, by omega, by simp [h1, h2]⟩
theorem has_false {us ps : List Int} {i : Nat} (h1 : ¬ i + ps.length ≤ us.length) (h2 : ∀ j, j < i → hereF us ps j = false) : hasF us ps = false := by
  simp only [hasF, List.any_eq_false, List.mem_range]
  intro j hj
  by_cases h : j < i
  · simp [h2 j h]
  · have : ¬ j + ps.length ≤ us.length := by omega
    simp [this]
theorem View.sub {w0 : World} {A : Asn} {k : IntKind} {a : Option Addr} {n cap i m : Nat} {xs : List Int} (h : View w0 A k (.slice a n cap) xs) (hi : i + m ≤ xs.length) :
    View w0 A k (.slice (if cap = i then a else a.map (fun x => x.add i)) m (cap - i)) ((xs.drop i).take m) := by
  obtain ⟨a', cap', hv, hc, h⟩ := h
  cases hv
  have hl : ((xs.drop i).take m).length = m := by simp; omega
  refine ⟨_, _, by rw [hl], by rw [hl]; omega, fun h0 => ?_⟩
  rw [hl] at h0
  obtain ⟨g, o, rfl, hw⟩ := h (by omega)
  refine ⟨g, o + i, ?_, fun w s j u hu => ?_⟩
  · rw [if_neg (by omega)]; simp
  · rw [List.getElem?_take] at hu
    split at hu
    · rw [List.getElem?_drop] at hu
      rw [Nat.add_assoc]
      exact hw w s _ _ hu
    · cases hu
-- bazaar/name.Has
def h22_0 : HC := (.seq (.reg (.done [(2, (.cst (.bool false)))] none)) .ret)
@[simp] theorem h22_0_wp {P : Program} {F : PF P} {Q : EX → List Value → World → Prop} {env : List Value} {w : World} : h22_0.wp F Q env w = HC.wp F (.seq (.reg (.done [(2, (.cst (.bool false)))] none)) .ret) Q env w := rfl
def h22_1 : HC := (.reg (.chk none (.bin .add) (.cons (.inp 5) (.cons (.cst (.int .i64 1)) .nil)) (.done [(5, (.op (.bin .add) (.cons (.inp 5) (.cons (.cst (.int .i64 1)) .nil))))] none)))
@[simp] theorem h22_1_wp {P : Program} {F : PF P} {Q : EX → List Value → World → Prop} {env : List Value} {w : World} : h22_1.wp F Q env w = HC.wp F (.reg (.chk none (.bin .add) (.cons (.inp 5) (.cons (.cst (.int .i64 1)) .nil)) (.done [(5, (.op (.bin .add) (.cons (.inp 5) (.cons (.cst (.int .i64 1)) .nil))))] none))) Q env w := rfl
def h22_2 : HC := (.seq (.reg (.done [(2, (.cst (.bool true)))] none)) .ret)
@[simp] theorem h22_2_wp {P : Program} {F : PF P} {Q : EX → List Value → World → Prop} {env : List Value} {w : World} : h22_2.wp F Q env w = HC.wp F (.seq (.reg (.done [(2, (.cst (.bool true)))] none)) .ret) Q env w := rfl
def h22_3 : HC := (.br (.chk none .lenL (.cons (.inp 4) .nil) (.chk none (.bin .add) (.cons (.inp 5) (.cons (.op .lenL (.cons (.inp 4) .nil)) .nil)) (.chk none (.slL 1 true true false) (.cons (.inp 3) (.cons (.inp 5) (.cons (.op (.bin .add) (.cons (.inp 5) (.cons (.op .lenL (.cons (.inp 4) .nil)) .nil))) .nil))) (.eff (.call 40) (.cons (.op (.slL 1 true true false) (.cons (.inp 3) (.cons (.inp 5) (.cons (.op (.bin .add) (.cons (.inp 5) (.cons (.op .lenL (.cons (.inp 4) .nil)) .nil))) .nil)))) (.cons (.inp 4) .nil)) (.done [] (some (.bv 0))))))) h22_2 .skip)
@[simp] theorem h22_3_wp {P : Program} {F : PF P} {Q : EX → List Value → World → Prop} {env : List Value} {w : World} : h22_3.wp F Q env w = HC.wp F (.br (.chk none .lenL (.cons (.inp 4) .nil) (.chk none (.bin .add) (.cons (.inp 5) (.cons (.op .lenL (.cons (.inp 4) .nil)) .nil)) (.chk none (.slL 1 true true false) (.cons (.inp 3) (.cons (.inp 5) (.cons (.op (.bin .add) (.cons (.inp 5) (.cons (.op .lenL (.cons (.inp 4) .nil)) .nil))) .nil))) (.eff (.call 40) (.cons (.op (.slL 1 true true false) (.cons (.inp 3) (.cons (.inp 5) (.cons (.op (.bin .add) (.cons (.inp 5) (.cons (.op .lenL (.cons (.inp 4) .nil)) .nil))) .nil)))) (.cons (.inp 4) .nil)) (.done [] (some (.bv 0))))))) h22_2 .skip) Q env w := rfl
def h22_4 : HC := (.seq (.block 1 h22_3) h22_1)
@[simp] theorem h22_4_wp {P : Program} {F : PF P} {Q : EX → List Value → World → Prop} {env : List Value} {w : World} : h22_4.wp F Q env w = HC.wp F (.seq (.block 1 h22_3) h22_1) Q env w := rfl
def h22_5 : HC := (.seq (.br (.chk none .lenL (.cons (.inp 4) .nil) (.chk none (.bin .add) (.cons (.inp 5) (.cons (.op .lenL (.cons (.inp 4) .nil)) .nil)) (.chk none .lenL (.cons (.inp 3) .nil) (.chk none (.bin .leq) (.cons (.op (.bin .add) (.cons (.inp 5) (.cons (.op .lenL (.cons (.inp 4) .nil)) .nil))) (.cons (.op .lenL (.cons (.inp 3) .nil)) .nil)) (.done [] (some (.op (.bin .leq) (.cons (.op (.bin .add) (.cons (.inp 5) (.cons (.op .lenL (.cons (.inp 4) .nil)) .nil))) (.cons (.op .lenL (.cons (.inp 3) .nil)) .nil))))))))) .skip (.exit 0)) h22_4)
@[simp] theorem h22_5_wp {P : Program} {F : PF P} {Q : EX → List Value → World → Prop} {env : List Value} {w : World} : h22_5.wp F Q env w = HC.wp F (.seq (.br (.chk none .lenL (.cons (.inp 4) .nil) (.chk none (.bin .add) (.cons (.inp 5) (.cons (.op .lenL (.cons (.inp 4) .nil)) .nil)) (.chk none .lenL (.cons (.inp 3) .nil) (.chk none (.bin .leq) (.cons (.op (.bin .add) (.cons (.inp 5) (.cons (.op .lenL (.cons (.inp 4) .nil)) .nil))) (.cons (.op .lenL (.cons (.inp 3) .nil)) .nil)) (.done [] (some (.op (.bin .leq) (.cons (.op (.bin .add) (.cons (.inp 5) (.cons (.op .lenL (.cons (.inp 4) .nil)) .nil))) (.cons (.op .lenL (.cons (.inp 3) .nil)) .nil))))))))) .skip (.exit 0)) h22_4) Q env w := rfl
def h22_6 : HC := (.loop h22_5)
@[simp] theorem h22_6_wp {P : Program} {F : PF P} {Q : EX → List Value → World → Prop} {env : List Value} {w : World} : h22_6.wp F Q env w = HC.wp F (.loop h22_5) Q env w := rfl
def h22_7 : HC := (.seq (.block 0 h22_6) h22_0)
@[simp] theorem h22_7_wp {P : Program} {F : PF P} {Q : EX → List Value → World → Prop} {env : List Value} {w : World} : h22_7.wp F Q env w = HC.wp F (.seq (.block 0 h22_6) h22_0) Q env w := rfl
def h22_8 : HC := (.seq (.reg (.done [(5, (.cst (.int .i64 0)))] none)) h22_7)
@[simp] theorem h22_8_wp {P : Program} {F : PF P} {Q : EX → List Value → World → Prop} {env : List Value} {w : World} : h22_8.wp F Q env w = HC.wp F (.seq (.reg (.done [(5, (.cst (.int .i64 0)))] none)) h22_7) Q env w := rfl
def h22_9 : HC := (.seq (.reg (.eff (.call 35) (.cons (.inp 0) .nil) (.eff (.call 35) (.cons (.inp 1) .nil) (.done [(3, (.bv 0)), (4, (.bv 1))] none)))) h22_8)
@[simp] theorem h22_9_wp {P : Program} {F : PF P} {Q : EX → List Value → World → Prop} {env : List Value} {w : World} : h22_9.wp F Q env w = HC.wp F (.seq (.reg (.eff (.call 35) (.cons (.inp 0) .nil) (.eff (.call 35) (.cons (.inp 1) .nil) (.done [(3, (.bv 0)), (4, (.bv 1))] none)))) h22_8) Q env w := rfl
def l22 : Lifted := ⟨[0, 1, 4, 5, 6, 7], 30, [.slot 2], (.seq (.reg (.done [(2, (.cst (.bool false)))] none)) h22_9)⟩
theorem l22_ok : liftFn F4 22 400 = some l22 := by kernel_rfl

-- bazaar/bazaarref04.Has
def h23_0 : HC := (.seq (.reg (.done [(2, (.cst (.bool false)))] none)) .ret)
@[simp] theorem h23_0_wp {P : Program} {F : PF P} {Q : EX → List Value → World → Prop} {env : List Value} {w : World} : h23_0.wp F Q env w = HC.wp F (.seq (.reg (.done [(2, (.cst (.bool false)))] none)) .ret) Q env w := rfl
def h23_1 : HC := (.reg (.chk none (.bin .add) (.cons (.inp 5) (.cons (.cst (.int .i64 1)) .nil)) (.done [(5, (.op (.bin .add) (.cons (.inp 5) (.cons (.cst (.int .i64 1)) .nil))))] none)))
@[simp] theorem h23_1_wp {P : Program} {F : PF P} {Q : EX → List Value → World → Prop} {env : List Value} {w : World} : h23_1.wp F Q env w = HC.wp F (.reg (.chk none (.bin .add) (.cons (.inp 5) (.cons (.cst (.int .i64 1)) .nil)) (.done [(5, (.op (.bin .add) (.cons (.inp 5) (.cons (.cst (.int .i64 1)) .nil))))] none))) Q env w := rfl
def h23_2 : HC := (.seq (.reg (.done [(2, (.cst (.bool true)))] none)) .ret)
@[simp] theorem h23_2_wp {P : Program} {F : PF P} {Q : EX → List Value → World → Prop} {env : List Value} {w : World} : h23_2.wp F Q env w = HC.wp F (.seq (.reg (.done [(2, (.cst (.bool true)))] none)) .ret) Q env w := rfl
def h23_3 : HC := (.br (.done [] (some (.inp 6))) h23_2 .skip)
@[simp] theorem h23_3_wp {P : Program} {F : PF P} {Q : EX → List Value → World → Prop} {env : List Value} {w : World} : h23_3.wp F Q env w = HC.wp F (.br (.done [] (some (.inp 6))) h23_2 .skip) Q env w := rfl
def h23_4 : HC := (.reg (.chk none (.bin .add) (.cons (.inp 7) (.cons (.cst (.int .i64 1)) .nil)) (.done [(7, (.op (.bin .add) (.cons (.inp 7) (.cons (.cst (.int .i64 1)) .nil))))] none)))
@[simp] theorem h23_4_wp {P : Program} {F : PF P} {Q : EX → List Value → World → Prop} {env : List Value} {w : World} : h23_4.wp F Q env w = HC.wp F (.reg (.chk none (.bin .add) (.cons (.inp 7) (.cons (.cst (.int .i64 1)) .nil)) (.done [(7, (.op (.bin .add) (.cons (.inp 7) (.cons (.cst (.int .i64 1)) .nil))))] none))) Q env w := rfl
def h23_5 : HC := (.regq (.chk (some ((.inp 6), true)) (.bin .add) (.cons (.inp 5) (.cons (.inp 7) .nil)) (.chk (some ((.inp 6), true)) (.idxL 1) (.cons (.inp 3) (.cons (.op (.bin .add) (.cons (.inp 5) (.cons (.inp 7) .nil))) .nil)) (.ite (.inp 6) true (.eff (.ld false 1) (.cons (.ite (.inp 6) true (.op (.idxL 1) (.cons (.inp 3) (.cons (.op (.bin .add) (.cons (.inp 5) (.cons (.inp 7) .nil))) .nil))) (.cst (.tuple #[]))) .nil) (.chk none (.idxL 1) (.cons (.inp 4) (.cons (.inp 7) .nil)) (.eff (.ld false 1) (.cons (.op (.idxL 1) (.cons (.inp 4) (.cons (.inp 7) .nil))) .nil) (.chk none (.bin .eql) (.cons (.bv 0) (.cons (.bv 1) .nil)) (.isb none (.inp 6) (.done [(6, (.op (.bin .eql) (.cons (.bv 0) (.cons (.bv 1) .nil))))] none)))))) (.isb none (.inp 6) (.done [(6, (.cst (.bool false)))] none))))))
@[simp] theorem h23_5_wp {P : Program} {F : PF P} {Q : EX → List Value → World → Prop} {env : List Value} {w : World} : h23_5.wp F Q env w = HC.wp F (.regq (.chk (some ((.inp 6), true)) (.bin .add) (.cons (.inp 5) (.cons (.inp 7) .nil)) (.chk (some ((.inp 6), true)) (.idxL 1) (.cons (.inp 3) (.cons (.op (.bin .add) (.cons (.inp 5) (.cons (.inp 7) .nil))) .nil)) (.ite (.inp 6) true (.eff (.ld false 1) (.cons (.ite (.inp 6) true (.op (.idxL 1) (.cons (.inp 3) (.cons (.op (.bin .add) (.cons (.inp 5) (.cons (.inp 7) .nil))) .nil))) (.cst (.tuple #[]))) .nil) (.chk none (.idxL 1) (.cons (.inp 4) (.cons (.inp 7) .nil)) (.eff (.ld false 1) (.cons (.op (.idxL 1) (.cons (.inp 4) (.cons (.inp 7) .nil))) .nil) (.chk none (.bin .eql) (.cons (.bv 0) (.cons (.bv 1) .nil)) (.isb none (.inp 6) (.done [(6, (.op (.bin .eql) (.cons (.bv 0) (.cons (.bv 1) .nil))))] none)))))) (.isb none (.inp 6) (.done [(6, (.cst (.bool false)))] none)))))) Q env w := rfl
def h23_6 : HC := (.seq (.block 3 h23_5) h23_4)
@[simp] theorem h23_6_wp {P : Program} {F : PF P} {Q : EX → List Value → World → Prop} {env : List Value} {w : World} : h23_6.wp F Q env w = HC.wp F (.seq (.block 3 h23_5) h23_4) Q env w := rfl
def h23_7 : HC := (.seq (.br (.chk none .lenL (.cons (.inp 4) .nil) (.chk none (.bin .lss) (.cons (.inp 7) (.cons (.op .lenL (.cons (.inp 4) .nil)) .nil)) (.done [] (some (.op (.bin .lss) (.cons (.inp 7) (.cons (.op .lenL (.cons (.inp 4) .nil)) .nil))))))) .skip (.exit 2)) h23_6)
@[simp] theorem h23_7_wp {P : Program} {F : PF P} {Q : EX → List Value → World → Prop} {env : List Value} {w : World} : h23_7.wp F Q env w = HC.wp F (.seq (.br (.chk none .lenL (.cons (.inp 4) .nil) (.chk none (.bin .lss) (.cons (.inp 7) (.cons (.op .lenL (.cons (.inp 4) .nil)) .nil)) (.done [] (some (.op (.bin .lss) (.cons (.inp 7) (.cons (.op .lenL (.cons (.inp 4) .nil)) .nil))))))) .skip (.exit 2)) h23_6) Q env w := rfl
def h23_8 : HC := (.loop h23_7)
@[simp] theorem h23_8_wp {P : Program} {F : PF P} {Q : EX → List Value → World → Prop} {env : List Value} {w : World} : h23_8.wp F Q env w = HC.wp F (.loop h23_7) Q env w := rfl
def h23_9 : HC := (.seq (.block 2 h23_8) h23_3)
@[simp] theorem h23_9_wp {P : Program} {F : PF P} {Q : EX → List Value → World → Prop} {env : List Value} {w : World} : h23_9.wp F Q env w = HC.wp F (.seq (.block 2 h23_8) h23_3) Q env w := rfl
def h23_10 : HC := (.seq (.reg (.done [(7, (.cst (.int .i64 0)))] none)) h23_9)
@[simp] theorem h23_10_wp {P : Program} {F : PF P} {Q : EX → List Value → World → Prop} {env : List Value} {w : World} : h23_10.wp F Q env w = HC.wp F (.seq (.reg (.done [(7, (.cst (.int .i64 0)))] none)) h23_9) Q env w := rfl
def h23_11 : HC := (.seq (.reg (.done [(6, (.cst (.bool true)))] none)) h23_10)
@[simp] theorem h23_11_wp {P : Program} {F : PF P} {Q : EX → List Value → World → Prop} {env : List Value} {w : World} : h23_11.wp F Q env w = HC.wp F (.seq (.reg (.done [(6, (.cst (.bool true)))] none)) h23_10) Q env w := rfl
def h23_12 : HC := (.seq (.block 1 h23_11) h23_1)
@[simp] theorem h23_12_wp {P : Program} {F : PF P} {Q : EX → List Value → World → Prop} {env : List Value} {w : World} : h23_12.wp F Q env w = HC.wp F (.seq (.block 1 h23_11) h23_1) Q env w := rfl
def h23_13 : HC := (.seq (.br (.chk none .lenL (.cons (.inp 4) .nil) (.chk none (.bin .add) (.cons (.inp 5) (.cons (.op .lenL (.cons (.inp 4) .nil)) .nil)) (.chk none .lenL (.cons (.inp 3) .nil) (.chk none (.bin .leq) (.cons (.op (.bin .add) (.cons (.inp 5) (.cons (.op .lenL (.cons (.inp 4) .nil)) .nil))) (.cons (.op .lenL (.cons (.inp 3) .nil)) .nil)) (.done [] (some (.op (.bin .leq) (.cons (.op (.bin .add) (.cons (.inp 5) (.cons (.op .lenL (.cons (.inp 4) .nil)) .nil))) (.cons (.op .lenL (.cons (.inp 3) .nil)) .nil))))))))) .skip (.exit 0)) h23_12)
@[simp] theorem h23_13_wp {P : Program} {F : PF P} {Q : EX → List Value → World → Prop} {env : List Value} {w : World} : h23_13.wp F Q env w = HC.wp F (.seq (.br (.chk none .lenL (.cons (.inp 4) .nil) (.chk none (.bin .add) (.cons (.inp 5) (.cons (.op .lenL (.cons (.inp 4) .nil)) .nil)) (.chk none .lenL (.cons (.inp 3) .nil) (.chk none (.bin .leq) (.cons (.op (.bin .add) (.cons (.inp 5) (.cons (.op .lenL (.cons (.inp 4) .nil)) .nil))) (.cons (.op .lenL (.cons (.inp 3) .nil)) .nil)) (.done [] (some (.op (.bin .leq) (.cons (.op (.bin .add) (.cons (.inp 5) (.cons (.op .lenL (.cons (.inp 4) .nil)) .nil))) (.cons (.op .lenL (.cons (.inp 3) .nil)) .nil))))))))) .skip (.exit 0)) h23_12) Q env w := rfl
def h23_14 : HC := (.loop h23_13)
@[simp] theorem h23_14_wp {P : Program} {F : PF P} {Q : EX → List Value → World → Prop} {env : List Value} {w : World} : h23_14.wp F Q env w = HC.wp F (.loop h23_13) Q env w := rfl
def h23_15 : HC := (.seq (.block 0 h23_14) h23_0)
@[simp] theorem h23_15_wp {P : Program} {F : PF P} {Q : EX → List Value → World → Prop} {env : List Value} {w : World} : h23_15.wp F Q env w = HC.wp F (.seq (.block 0 h23_14) h23_0) Q env w := rfl
def h23_16 : HC := (.seq (.reg (.done [(5, (.cst (.int .i64 0)))] none)) h23_15)
@[simp] theorem h23_16_wp {P : Program} {F : PF P} {Q : EX → List Value → World → Prop} {env : List Value} {w : World} : h23_16.wp F Q env w = HC.wp F (.seq (.reg (.done [(5, (.cst (.int .i64 0)))] none)) h23_15) Q env w := rfl
def h23_17 : HC := (.seq (.reg (.eff (.call 37) (.cons (.inp 1) .nil) (.done [(4, (.bv 0))] none))) h23_16)
@[simp] theorem h23_17_wp {P : Program} {F : PF P} {Q : EX → List Value → World → Prop} {env : List Value} {w : World} : h23_17.wp F Q env w = HC.wp F (.seq (.reg (.eff (.call 37) (.cons (.inp 1) .nil) (.done [(4, (.bv 0))] none))) h23_16) Q env w := rfl
def h23_18 : HC := (.seq (.reg (.eff (.call 37) (.cons (.inp 0) .nil) (.done [(3, (.bv 0))] none))) h23_17)
@[simp] theorem h23_18_wp {P : Program} {F : PF P} {Q : EX → List Value → World → Prop} {env : List Value} {w : World} : h23_18.wp F Q env w = HC.wp F (.seq (.reg (.eff (.call 37) (.cons (.inp 0) .nil) (.done [(3, (.bv 0))] none))) h23_17) Q env w := rfl
def l23 : Lifted := ⟨[0, 1, 4, 5, 6, 7, 8, 9], 44, [.slot 2], (.seq (.reg (.done [(2, (.cst (.bool false)))] none)) h23_18)⟩
theorem l23_ok : liftFn F4 23 400 = some l23 := by kernel_rfl


theorem Has_spec (x y : List UInt8) (w0 w : World) (A : Asn) (hx : x.length ≤ 1048576) (hy : y.length ≤ 1048576) (s : St w0 A w) :
    CallW Try.prog 22 [.string (mk x), .string (mk y)] (fun r w' => r = .bool (hasF (foldedF x) (foldedF y)) ∧ St w0 A w') w := by
  have hfx := folded_len x
  have hfy := folded_len y
  refine callW_of_lift l22_ok (by simp [l22]) ?_
  simp [l22]
  refine eff_call ((folded_spec x w0 w A hx s).mono ?_)
  intro v1 w1 s1
  simp
  refine eff_call ((folded_spec y w0 w1 _ hy s1).mono ?_)
  intro v2 w2 s2
  have view1 : View w0 _ .i32 v1 (foldedF x) := view_own s2.swap
  have view2 : View w0 (A * own 21 1 v1 (foldedF x).length (ints32 (foldedF x)) * own 21 1 v2 (foldedF y).length (ints32 (foldedF y))) .i32 v2 (foldedF y) := view_own s2
  replace view1 := view1.mono (fun w (s : St w0 (A * own 21 1 v1 (foldedF x).length (ints32 (foldedF x)) * own 21 1 v2 (foldedF y).length (ints32 (foldedF y))) w) => s.swap)
  obtain ⟨a1, c1, rfl, hc1, _⟩ := s2.swap.own_val
  obtain ⟨a2, c2, rfl, hc2, _⟩ := s2.own_val
  have dr : ∀ w, St w0 (A * own 21 1 (.slice a1 (foldedF x).length c1) (foldedF x).length (ints32 (foldedF x)) * own 21 1 (.slice a2 (foldedF y).length c2) (foldedF y).length (ints32 (foldedF y))) w → St w0 A w := fun w s => s.drop.drop
  generalize (A * own 21 1 (.slice a1 (foldedF x).length c1) (foldedF x).length (ints32 (foldedF x)) * own 21 1 (.slice a2 (foldedF y).length c2) (foldedF y).length (ints32 (foldedF y))) = B at *
  generalize foldedF x = us at *
  generalize foldedF y = ps at *
  simp
  refine loopI (fun env w' => ∃ (i : Nat), env = [.string (mk x), .string (mk y), .bool false, .slice a1 us.length c1, .slice a2 ps.length c2, .int .i64 i] ∧ i ≤ us.length + 1 ∧ (∀ j, j < i → hereF us ps j = false) ∧ St w0 B w')
    (fun env _ => us.length + 2 - slotN env 5) ⟨0, rfl, by omega, by simp, s2⟩ ?_
  rintro LQ env w' ⟨i, rfl, hi, hno, s'⟩ hN hE hR
  have hw : IntKind.i64.wrap ((i : Int) + (ps.length : Int)) = (i : Int) + ps.length := wrap64 (by omega) (by omega)
  simp [hw]
  refine cndI (fun h2 => ?_) (fun h2 => ?_)
  · simp at h2
    simp [hw]
    have hn : ((i : Int) + (ps.length : Int)).toNat - i = ps.length := by omega
    rw [hn]
    refine ⟨⟨⟨by omega, by omega⟩, by omega⟩, ?_⟩
    refine eff_call ((equal_spec ((us.drop i).take ps.length) ps _ _ w0 w' B (by simp; omega) (view1.sub (by omega)) view2 s').mono ?_)
    rintro r w3 ⟨rfl, s3⟩
    simp
    refine cndI (fun h3 => ?_) (fun h3 => ?_)
    · simp
      refine hR _ _ ?_
      simp
      exact ⟨has_true (i := i) (by omega) h3, dr _ s3⟩
    · simp
      try simp (disch := omega) only [wrap64]
      refine hN _ _ ⟨i + 1, by simp, by omega, ?_, s3⟩ (by simp [slotN]; omega)
      intro j hj
      by_cases e : j = i
      · subst e; exact h3
      · exact hno j (by omega)
  · simp at h2
    simp
    refine hE _ _ _ ?_
    simp
    exact ⟨has_false (i := i) (by omega) hno, dr _ s'⟩
theorem here_succ (l r : List Int) (k : Nat) (h1 : k < l.length) (h2 : k < r.length) : (l.take (k + 1) == r.take (k + 1)) = ((l.take k == r.take k) && decide (l[k] = r[k])) := by
  rw [List.take_succ_eq_append_getElem h1, List.take_succ_eq_append_getElem h2, Bool.eq_iff_iff]
  simp only [beq_iff_eq, Bool.and_eq_true, decide_eq_true_eq]
  constructor
  · intro e
    have := List.append_inj e (by simp; omega)
    exact ⟨this.1, by simpa using this.2⟩
  · rintro ⟨e1, e2⟩; rw [e1, e2]
theorem rHas_spec (x y : List UInt8) (w0 w : World) (A : Asn) (hx : x.length ≤ 1048576) (hy : y.length ≤ 1048576) (s : St w0 A w) :
    CallW Try.prog 23 [.string (mk x), .string (mk y)] (fun r w' => r = .bool (hasF (foldedF x) (foldedF y)) ∧ St w0 A w') w := by
  have hfx := folded_len x
  have hfy := folded_len y
  refine callW_of_lift l23_ok (by simp [l23]) ?_
  simp [l23]
  refine eff_call ((rfolded_spec x w0 w A hx s).mono ?_)
  intro v1 w1 s1
  simp
  refine eff_call ((rfolded_spec y w0 w1 _ hy s1).mono ?_)
  intro v2 w2 s2
  have view1 : View w0 _ .i64 v1 (foldedF x) := view_own s2.swap
  have view2 : View w0 (A * own 3 1 v1 (foldedF x).length (ints (foldedF x)) * own 3 1 v2 (foldedF y).length (ints (foldedF y))) .i64 v2 (foldedF y) := view_own s2
  replace view1 := view1.mono (fun w (s : St w0 (A * own 3 1 v1 (foldedF x).length (ints (foldedF x)) * own 3 1 v2 (foldedF y).length (ints (foldedF y))) w) => s.swap)
  obtain ⟨a1, c1, rfl, hc1, _⟩ := s2.swap.own_val
  obtain ⟨a2, c2, rfl, hc2, _⟩ := s2.own_val
  have dr : ∀ w, St w0 (A * own 3 1 (.slice a1 (foldedF x).length c1) (foldedF x).length (ints (foldedF x)) * own 3 1 (.slice a2 (foldedF y).length c2) (foldedF y).length (ints (foldedF y))) w → St w0 A w := fun w s => s.drop.drop
  generalize (A * own 3 1 (.slice a1 (foldedF x).length c1) (foldedF x).length (ints (foldedF x)) * own 3 1 (.slice a2 (foldedF y).length c2) (foldedF y).length (ints (foldedF y))) = B at *
  generalize foldedF x = us at *
  generalize foldedF y = ps at *
  simp
  refine loopI (fun env w' => ∃ (i : Nat) (o1 o2 : Value), env = [.string (mk x), .string (mk y), .bool false, .slice a1 us.length c1, .slice a2 ps.length c2, .int .i64 i, o1, o2] ∧ i ≤ us.length + 1 ∧ (∀ j, j < i → hereF us ps j = false) ∧ St w0 B w')
    (fun env _ => us.length + 2 - slotN env 5) ⟨0, _, _, rfl, by omega, by simp, s2⟩ ?_
  rintro LQ env w' ⟨i, o1, o2, rfl, hi, hno, s'⟩ hN hE hR
  have hw : IntKind.i64.wrap ((i : Int) + (ps.length : Int)) = (i : Int) + ps.length := wrap64 (by omega) (by omega)
  simp [hw]
  refine cndI (fun h2 => ?_) (fun h2 => ?_)
  · simp at h2
    simp [hw]
    refine loopI (fun env w' => ∃ (k : Nat), env = [.string (mk x), .string (mk y), .bool false, .slice a1 us.length c1, .slice a2 ps.length c2, .int .i64 i, .bool ((us.drop i).take k == ps.take k), .int .i64 k] ∧ k ≤ ps.length ∧ St w0 B w')
      (fun env _ => ps.length - slotN env 7) ⟨0, by simp, by omega, s'⟩ ?_
    rintro LQ2 env2 w3 ⟨k, rfl, hk, s3⟩ hN2 hE2 hR2
    simp
    refine cndI (fun h3 => ?_) (fun h3 => ?_)
    · simp at h3
      obtain ⟨c1', cp1, e1, _, hv1⟩ := view1
      obtain ⟨c2', cp2, e2, _, hv2⟩ := view2
      cases e1
      cases e2
      obtain ⟨g1, q1, rfl, hw1⟩ := hv1 (by omega)
      obtain ⟨g2, q2, rfl, hw2⟩ := hv2 (by omega)
      have hik : i + k < us.length := by omega
      have hx1 : us[i + k]? = some us[i + k] := by simp [hik]
      have hy1 : ps[k]? = some ps[k] := by simp [h3]
      have hs := here_succ (us.drop i) ps k (by simp; omega) h3
      rw [List.getElem_drop] at hs
      have hwk : IntKind.i64.wrap ((i : Int) + (k : Int)) = (i : Int) + k := wrap64 (by omega) (by omega)
      have htn : ((i : Int) + (k : Int)).toNat = i + k := by omega
      generalize us[i + k] = u1 at *
      generalize ps[k] = u2 at *
      have nxt : ∀ w4, St w0 B w4 → LQ2 .nrm [.string (mk x), .string (mk y), .bool false, .slice (some ⟨g1, q1, none⟩) us.length c1, .slice (some ⟨g2, q2, none⟩) ps.length c2, .int .i64 i, .bool ((us.drop i).take (k + 1) == ps.take (k + 1)), .int .i64 (k + 1)] w4 := by
        intro w4 s4
        exact hN2 _ _ ⟨k + 1, by simp, h3, s4⟩ (by simp [slotN]; omega)
      simp
      refine regqI s3 ?_
      cases hb : ((us.drop i).take k == ps.take k) with
      | false =>
        rw [hb] at hs
        simp
        intro w4 s4
        try simp (disch := omega) only [wrap64]
        rw [hs] at nxt
        exact nxt w4 s4
      | true =>
        rw [hb] at hs
        simp [hwk, htn]
        refine ⟨⟨by omega, by omega⟩, ?_⟩
        refine effq_ldc (fun w hw => hw1 w hw _ _ hx1) ?_
        simp
        refine ⟨h3, ?_⟩
        refine effq_ldc (fun w hw => hw2 w hw _ _ hy1) ?_
        simp
        intro w4 s4
        try simp (disch := omega) only [wrap64]
        rw [hs] at nxt
        simpa using nxt w4 s4
    · simp at h3
      simp
      refine hE2 _ _ _ ?_
      have : k = ps.length := by omega
      subst this
      rw [List.take_length]
      simp
      refine cndI (fun h4 => ?_) (fun h4 => ?_)
      · simp
        refine hR _ _ ?_
        simp
        exact ⟨has_true (i := i) (by omega) h4, dr _ s3⟩
      · simp
        try simp (disch := omega) only [wrap64]
        refine hN _ _ ⟨i + 1, _, _, by simp; exact ⟨rfl, rfl⟩, by omega, ?_, s3⟩ (by simp [slotN]; omega)
        intro j hj
        by_cases e : j = i
        · subst e; exact h4
        · exact hno j (by omega)
  · simp at h2
    simp
    refine hE _ _ _ ?_
    simp
    exact ⟨has_false (i := i) (by omega) hno, dr _ s'⟩
end Go.HL.Nm
