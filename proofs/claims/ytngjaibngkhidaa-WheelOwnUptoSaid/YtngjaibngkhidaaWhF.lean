/-
  Wheel: the order of timers. No condition.
-/
import Derived.Test.YtngjaibngkhidaaWhE
namespace Go.HL.Wh
open Go.HL Go.Proofs
set_option maxRecDepth 4000
set_option linter.unusedSimpArgs false
set_option linter.unusedVariables false
-- cmp.isNaN[int]
def h65_0 : HC := (.seq (.reg (.chk none (.bin .neq) (.cons (.inp 0) (.cons (.inp 0) .nil)) (.done [(1, (.op (.bin .neq) (.cons (.inp 0) (.cons (.inp 0) .nil))))] none))) .ret)
@[simp] theorem h65_0_wp {P : Program} {F : PF P} {Q : EX → List Value → World → Prop} {env : List Value} {w : World} : h65_0.wp F Q env w = HC.wp F (.seq (.reg (.chk none (.bin .neq) (.cons (.inp 0) (.cons (.inp 0) .nil)) (.done [(1, (.op (.bin .neq) (.cons (.inp 0) (.cons (.inp 0) .nil))))] none))) .ret) Q env w := rfl
def l65 : Lifted := ⟨[0, 2], 6, [.slot 1], (.seq (.reg (.done [(1, (.cst (.bool false)))] none)) h65_0)⟩
theorem l65_ok : liftFn U2 65 400 = some l65 := by kernel_rfl

-- cmp.Or[int]
def h48_0 : HC := (.seq (.reg (.done [(1, (.inp 2))] none)) .ret)
@[simp] theorem h48_0_wp {P : Program} {F : PF P} {Q : EX → List Value → World → Prop} {env : List Value} {w : World} : h48_0.wp F Q env w = HC.wp F (.seq (.reg (.done [(1, (.inp 2))] none)) .ret) Q env w := rfl
def h48_1 : HC := (.reg (.chk none (.bin .add) (.cons (.inp 6) (.cons (.cst (.int .i64 1)) .nil)) (.done [(6, (.op (.bin .add) (.cons (.inp 6) (.cons (.cst (.int .i64 1)) .nil))))] none)))
@[simp] theorem h48_1_wp {P : Program} {F : PF P} {Q : EX → List Value → World → Prop} {env : List Value} {w : World} : h48_1.wp F Q env w = HC.wp F (.reg (.chk none (.bin .add) (.cons (.inp 6) (.cons (.cst (.int .i64 1)) .nil)) (.done [(6, (.op (.bin .add) (.cons (.inp 6) (.cons (.cst (.int .i64 1)) .nil))))] none))) Q env w := rfl
def h48_2 : HC := (.seq (.reg (.done [(1, (.inp 3))] none)) .ret)
@[simp] theorem h48_2_wp {P : Program} {F : PF P} {Q : EX → List Value → World → Prop} {env : List Value} {w : World} : h48_2.wp F Q env w = HC.wp F (.seq (.reg (.done [(1, (.inp 3))] none)) .ret) Q env w := rfl
def h48_3 : HC := (.br (.chk none (.bin .neq) (.cons (.inp 3) (.cons (.inp 2) .nil)) (.done [] (some (.op (.bin .neq) (.cons (.inp 3) (.cons (.inp 2) .nil)))))) h48_2 .skip)
@[simp] theorem h48_3_wp {P : Program} {F : PF P} {Q : EX → List Value → World → Prop} {env : List Value} {w : World} : h48_3.wp F Q env w = HC.wp F (.br (.chk none (.bin .neq) (.cons (.inp 3) (.cons (.inp 2) .nil)) (.done [] (some (.op (.bin .neq) (.cons (.inp 3) (.cons (.inp 2) .nil)))))) h48_2 .skip) Q env w := rfl
def h48_4 : HC := (.seq (.reg (.chk none (.idxL 1) (.cons (.inp 4) (.cons (.inp 6) .nil)) (.eff (.ld false 1) (.cons (.op (.idxL 1) (.cons (.inp 4) (.cons (.inp 6) .nil))) .nil) (.done [(3, (.bv 0))] none)))) h48_3)
@[simp] theorem h48_4_wp {P : Program} {F : PF P} {Q : EX → List Value → World → Prop} {env : List Value} {w : World} : h48_4.wp F Q env w = HC.wp F (.seq (.reg (.chk none (.idxL 1) (.cons (.inp 4) (.cons (.inp 6) .nil)) (.eff (.ld false 1) (.cons (.op (.idxL 1) (.cons (.inp 4) (.cons (.inp 6) .nil))) .nil) (.done [(3, (.bv 0))] none)))) h48_3) Q env w := rfl
def h48_5 : HC := (.seq (.block 1 h48_4) h48_1)
@[simp] theorem h48_5_wp {P : Program} {F : PF P} {Q : EX → List Value → World → Prop} {env : List Value} {w : World} : h48_5.wp F Q env w = HC.wp F (.seq (.block 1 h48_4) h48_1) Q env w := rfl
def h48_6 : HC := (.seq (.br (.chk none (.bin .lss) (.cons (.inp 6) (.cons (.inp 5) .nil)) (.done [] (some (.op (.bin .lss) (.cons (.inp 6) (.cons (.inp 5) .nil)))))) .skip (.exit 0)) h48_5)
@[simp] theorem h48_6_wp {P : Program} {F : PF P} {Q : EX → List Value → World → Prop} {env : List Value} {w : World} : h48_6.wp F Q env w = HC.wp F (.seq (.br (.chk none (.bin .lss) (.cons (.inp 6) (.cons (.inp 5) .nil)) (.done [] (some (.op (.bin .lss) (.cons (.inp 6) (.cons (.inp 5) .nil)))))) .skip (.exit 0)) h48_5) Q env w := rfl
def h48_7 : HC := (.loop h48_6)
@[simp] theorem h48_7_wp {P : Program} {F : PF P} {Q : EX → List Value → World → Prop} {env : List Value} {w : World} : h48_7.wp F Q env w = HC.wp F (.loop h48_6) Q env w := rfl
def h48_8 : HC := (.seq (.block 0 h48_7) h48_0)
@[simp] theorem h48_8_wp {P : Program} {F : PF P} {Q : EX → List Value → World → Prop} {env : List Value} {w : World} : h48_8.wp F Q env w = HC.wp F (.seq (.block 0 h48_7) h48_0) Q env w := rfl
def h48_9 : HC := (.seq (.reg (.chk none .lenL (.cons (.inp 0) .nil) (.done [(4, (.inp 0)), (5, (.op .lenL (.cons (.inp 0) .nil))), (6, (.cst (.int .i64 0)))] none))) h48_8)
@[simp] theorem h48_9_wp {P : Program} {F : PF P} {Q : EX → List Value → World → Prop} {env : List Value} {w : World} : h48_9.wp F Q env w = HC.wp F (.seq (.reg (.chk none .lenL (.cons (.inp 0) .nil) (.done [(4, (.inp 0)), (5, (.op .lenL (.cons (.inp 0) .nil))), (6, (.cst (.int .i64 0)))] none))) h48_8) Q env w := rfl
def h48_10 : HC := (.seq (.reg (.done [(2, (.cst (.int .i64 0)))] none)) h48_9)
@[simp] theorem h48_10_wp {P : Program} {F : PF P} {Q : EX → List Value → World → Prop} {env : List Value} {w : World} : h48_10.wp F Q env w = HC.wp F (.seq (.reg (.done [(2, (.cst (.int .i64 0)))] none)) h48_9) Q env w := rfl
def l48 : Lifted := ⟨[0, 2, 3, 5, 6, 7, 8], 18, [.slot 1], (.seq (.reg (.done [(1, (.cst (.int .i64 0)))] none)) h48_10)⟩
theorem l48_ok : liftFn U2 48 400 = some l48 := by kernel_rfl


theorem isNaN_spec (u : Int) (w : World) : CallW Try.prog 65 [.int .i64 u] (fun r w' => r = .bool false ∧ w' = w) w := by
  refine callW_of_lift l65_ok (by simp [l65]) ?_
  simp [l65]
def cmpF (a b : Int) : Int := if a < b then -1 else if b < a then 1 else 0
-- cmp.Compare[int]
def h49_0 : HC := (.seq (.reg (.done [(2, (.cst (.int .i64 0)))] none)) .ret)
@[simp] theorem h49_0_wp {P : Program} {F : PF P} {Q : EX → List Value → World → Prop} {env : List Value} {w : World} : h49_0.wp F Q env w = HC.wp F (.seq (.reg (.done [(2, (.cst (.int .i64 0)))] none)) .ret) Q env w := rfl
def h49_1 : HC := (.seq (.reg (.done [(2, (.cst (.int .i64 1)))] none)) .ret)
@[simp] theorem h49_1_wp {P : Program} {F : PF P} {Q : EX → List Value → World → Prop} {env : List Value} {w : World} : h49_1.wp F Q env w = HC.wp F (.seq (.reg (.done [(2, (.cst (.int .i64 1)))] none)) .ret) Q env w := rfl
def h49_2 : HC := (.seq (.br (.chk none (.bin .gtr) (.cons (.inp 0) (.cons (.inp 1) .nil)) (.done [] (some (.op (.bin .gtr) (.cons (.inp 0) (.cons (.inp 1) .nil)))))) h49_1 .skip) h49_0)
@[simp] theorem h49_2_wp {P : Program} {F : PF P} {Q : EX → List Value → World → Prop} {env : List Value} {w : World} : h49_2.wp F Q env w = HC.wp F (.seq (.br (.chk none (.bin .gtr) (.cons (.inp 0) (.cons (.inp 1) .nil)) (.done [] (some (.op (.bin .gtr) (.cons (.inp 0) (.cons (.inp 1) .nil)))))) h49_1 .skip) h49_0) Q env w := rfl
def h49_3 : HC := (.seq (.reg (.done [(2, (.cst (.int .i64 (-1))))] none)) .ret)
@[simp] theorem h49_3_wp {P : Program} {F : PF P} {Q : EX → List Value → World → Prop} {env : List Value} {w : World} : h49_3.wp F Q env w = HC.wp F (.seq (.reg (.done [(2, (.cst (.int .i64 (-1))))] none)) .ret) Q env w := rfl
def h49_4 : HC := (.seq (.br (.chk none (.bin .lss) (.cons (.inp 0) (.cons (.inp 1) .nil)) (.done [] (some (.op (.bin .lss) (.cons (.inp 0) (.cons (.inp 1) .nil)))))) h49_3 .skip) h49_2)
@[simp] theorem h49_4_wp {P : Program} {F : PF P} {Q : EX → List Value → World → Prop} {env : List Value} {w : World} : h49_4.wp F Q env w = HC.wp F (.seq (.br (.chk none (.bin .lss) (.cons (.inp 0) (.cons (.inp 1) .nil)) (.done [] (some (.op (.bin .lss) (.cons (.inp 0) (.cons (.inp 1) .nil)))))) h49_3 .skip) h49_2) Q env w := rfl
def h49_5 : HC := (.seq (.reg (.done [(2, (.cst (.int .i64 1)))] none)) .ret)
@[simp] theorem h49_5_wp {P : Program} {F : PF P} {Q : EX → List Value → World → Prop} {env : List Value} {w : World} : h49_5.wp F Q env w = HC.wp F (.seq (.reg (.done [(2, (.cst (.int .i64 1)))] none)) .ret) Q env w := rfl
def h49_6 : HC := (.seq (.br (.done [] (some (.inp 4))) h49_5 .skip) h49_4)
@[simp] theorem h49_6_wp {P : Program} {F : PF P} {Q : EX → List Value → World → Prop} {env : List Value} {w : World} : h49_6.wp F Q env w = HC.wp F (.seq (.br (.done [] (some (.inp 4))) h49_5 .skip) h49_4) Q env w := rfl
def h49_7 : HC := (.seq (.reg (.done [(2, (.cst (.int .i64 (-1))))] none)) .ret)
@[simp] theorem h49_7_wp {P : Program} {F : PF P} {Q : EX → List Value → World → Prop} {env : List Value} {w : World} : h49_7.wp F Q env w = HC.wp F (.seq (.reg (.done [(2, (.cst (.int .i64 (-1))))] none)) .ret) Q env w := rfl
def h49_8 : HC := (.seq (.reg (.done [(2, (.cst (.int .i64 0)))] none)) .ret)
@[simp] theorem h49_8_wp {P : Program} {F : PF P} {Q : EX → List Value → World → Prop} {env : List Value} {w : World} : h49_8.wp F Q env w = HC.wp F (.seq (.reg (.done [(2, (.cst (.int .i64 0)))] none)) .ret) Q env w := rfl
def h49_9 : HC := (.seq (.br (.done [] (some (.inp 4))) h49_8 .skip) h49_7)
@[simp] theorem h49_9_wp {P : Program} {F : PF P} {Q : EX → List Value → World → Prop} {env : List Value} {w : World} : h49_9.wp F Q env w = HC.wp F (.seq (.br (.done [] (some (.inp 4))) h49_8 .skip) h49_7) Q env w := rfl
def h49_10 : HC := (.seq (.br (.done [] (some (.inp 3))) h49_9 .skip) h49_6)
@[simp] theorem h49_10_wp {P : Program} {F : PF P} {Q : EX → List Value → World → Prop} {env : List Value} {w : World} : h49_10.wp F Q env w = HC.wp F (.seq (.br (.done [] (some (.inp 3))) h49_9 .skip) h49_6) Q env w := rfl
def h49_11 : HC := (.seq (.reg (.eff (.call 65) (.cons (.inp 1) .nil) (.done [(4, (.bv 0))] none))) h49_10)
@[simp] theorem h49_11_wp {P : Program} {F : PF P} {Q : EX → List Value → World → Prop} {env : List Value} {w : World} : h49_11.wp F Q env w = HC.wp F (.seq (.reg (.eff (.call 65) (.cons (.inp 1) .nil) (.done [(4, (.bv 0))] none))) h49_10) Q env w := rfl
def h49_12 : HC := (.seq (.reg (.eff (.call 65) (.cons (.inp 0) .nil) (.done [(3, (.bv 0))] none))) h49_11)
@[simp] theorem h49_12_wp {P : Program} {F : PF P} {Q : EX → List Value → World → Prop} {env : List Value} {w : World} : h49_12.wp F Q env w = HC.wp F (.seq (.reg (.eff (.call 65) (.cons (.inp 0) .nil) (.done [(3, (.bv 0))] none))) h49_11) Q env w := rfl
def l49 : Lifted := ⟨[0, 1, 4, 5, 6], 20, [.slot 2], (.seq (.reg (.done [(2, (.cst (.int .i64 0)))] none)) h49_12)⟩
theorem l49_ok : liftFn U2 49 400 = some l49 := by kernel_rfl


theorem ccmp_spec (a b : Int) (w : World) : CallW Try.prog 49 [.int .i64 a, .int .i64 b] (fun r w' => r = .int .i64 (cmpF a b) ∧ w' = w) w := by
  refine callW_of_lift l49_ok (by simp [l49]) ?_
  simp [l49]
  refine eff_call ((isNaN_spec a w).mono ?_)
  rintro r w1 ⟨rfl, rfl⟩
  simp
  refine eff_call ((isNaN_spec b w1).mono ?_)
  rintro r w2 ⟨rfl, rfl⟩
  simp
  unfold cmpF
  refine cndI (fun h => ?_) (fun h => ?_)
  · simp at h
    simp [h]
  simp at h
  simp
  refine cndI (fun h2 => ?_) (fun h2 => ?_)
  · simp at h2
    simp [h2, show ¬ a < b by omega]
  · simp at h2
    simp [show ¬ a < b by omega, show ¬ b < a by omega]
noncomputable def cmpS : PS Try.prog where
  f := 49
  val args := match args with
    | [.int _ a, .int _ b] => .int .i64 (cmpF a b)
    | _ => undef
  ok args := match args with
    | [.int k a, .int k' b] => k = .i64 ∧ k' = .i64
    | _ => False
  sound args w h := by
    split at h
    · obtain ⟨rfl, rfl⟩ := h; exact ccmp_spec _ _ w
    · exact h.elim
noncomputable abbrev U3 : PF Try.prog := PF.of [cmpS]
@[simp] theorem U3_c_val (args : List Value) : U3.val 49 args = cmpS.val args := rfl
@[simp] theorem U3_c_ok (args : List Value) : U3.ok 49 args = cmpS.ok args := rfl
@[simp] theorem cmpS_val (a b : Int) : cmpS.val [.int .i64 a, .int .i64 b] = .int .i64 (cmpF a b) := rfl
@[simp] theorem cmpS_ok (a b : Int) : cmpS.ok [.int .i64 a, .int .i64 b] = (IntKind.i64 = .i64 ∧ IntKind.i64 = .i64) := rfl
theorem or_spec (a b : Int) (bk : Nat) (w0 w : World) (A : Asn) (s : St w0 (A * pt bk (.cells #[.int .i64 a, .int .i64 b] 3 (0, 0))) w) :
    CallW Try.prog 48 [.slice (some ⟨bk, 0, none⟩) 2 2] (fun r w' => r = .int .i64 (if a = 0 then b else a) ∧ St w0 A w') w := by
  have h0 : w.cell? ⟨bk, 0, none⟩ = some (.int .i64 a) := by rw [cell_of s.look]; rfl
  have h1 : w.cell? ⟨bk, 1, none⟩ = some (.int .i64 b) := by rw [cell_of s.look]; rfl
  refine callW_of_lift l48_ok (by simp [l48]) ?_
  simp [l48]
  refine loopI (fun env w' => ∃ (i : Nat) (o : Value), env = [.slice (some ⟨bk, 0, none⟩) 2 2, .int .i64 0, .int .i64 0, o, .slice (some ⟨bk, 0, none⟩) 2 2, .int .i64 2, .int .i64 i] ∧ i ≤ 2 ∧ (0 < i → a = 0) ∧ (1 < i → b = 0) ∧ w' = w)
    (fun env _ => 2 - slotN env 6) ⟨0, _, rfl, by omega, by omega, by omega, rfl⟩ ?_
  rintro LQ env w' ⟨i, o, rfl, hi, ha, hb, rfl⟩ hN hE hR
  simp
  refine cndI (fun h2 => ?_) (fun h2 => ?_)
  · simp at h2
    have hi2 : i = 0 ∨ i = 1 := by omega
    rcases hi2 with rfl | rfl
    · simp
      refine eff_ldc h0 ?_
      simp
      by_cases e : a = 0
      · simp [e]
        try simp (disch := omega) only [wrap64]
        exact hN _ _ ⟨1, _, by simp; rfl, by omega, fun _ => e, by omega, rfl⟩ (by simp [slotN])
      · simp [e]
        refine hR _ _ ?_
        simp [e]
        exact s.drop
    · simp
      refine eff_ldc h1 ?_
      simp
      by_cases e : b = 0
      · simp [e]
        try simp (disch := omega) only [wrap64]
        exact hN _ _ ⟨2, _, by simp; rfl, by omega, fun _ => ha (by omega), fun _ => e, rfl⟩ (by simp [slotN])
      · simp [e]
        refine hR _ _ ?_
        simp [ha (by omega)]
        exact s.drop
  · simp at h2
    simp
    refine hE _ _ _ ?_
    simp [ha (by omega), hb (by omega)]
    exact s.drop
-- bazaar/wheel.order
def h34_0 : HC := (.seq (.regq (some 1) (.chk none (.fld 1) (.cons (.inp 2) .nil) (.eff (.ld false 1) (.cons (.op (.fld 1) (.cons (.inp 2) .nil)) .nil) (.chk none (.fld 1) (.cons (.inp 3) .nil) (.eff (.ld false 1) (.cons (.op (.fld 1) (.cons (.inp 3) .nil)) .nil) (.chk none (.cal 49) (.cons (.bv 0) (.cons (.bv 1) .nil)) (.chk none (.fld 0) (.cons (.inp 2) .nil) (.eff (.ld false 1) (.cons (.op (.fld 0) (.cons (.inp 2) .nil)) .nil) (.chk none (.fld 0) (.cons (.inp 3) .nil) (.eff (.ld false 1) (.cons (.op (.fld 0) (.cons (.inp 3) .nil)) .nil) (.chk none (.cal 49) (.cons (.bv 2) (.cons (.bv 3) .nil)) (.eff (.bsl 3 2 1 #[(.int .i64 0)] [0, 1]) (.cons (.op (.cal 49) (.cons (.bv 0) (.cons (.bv 1) .nil))) (.cons (.op (.cal 49) (.cons (.bv 2) (.cons (.bv 3) .nil))) .nil)) (.eff (.call 48) (.cons (.bv 4) .nil) (.done [(4, (.bv 5))] none)))))))))))))) .ret)
@[simp] theorem h34_0_wp {P : Program} {F : PF P} {Q : EX → List Value → World → Prop} {env : List Value} {w : World} : h34_0.wp F Q env w = HC.wp F (.seq (.regq (some 1) (.chk none (.fld 1) (.cons (.inp 2) .nil) (.eff (.ld false 1) (.cons (.op (.fld 1) (.cons (.inp 2) .nil)) .nil) (.chk none (.fld 1) (.cons (.inp 3) .nil) (.eff (.ld false 1) (.cons (.op (.fld 1) (.cons (.inp 3) .nil)) .nil) (.chk none (.cal 49) (.cons (.bv 0) (.cons (.bv 1) .nil)) (.chk none (.fld 0) (.cons (.inp 2) .nil) (.eff (.ld false 1) (.cons (.op (.fld 0) (.cons (.inp 2) .nil)) .nil) (.chk none (.fld 0) (.cons (.inp 3) .nil) (.eff (.ld false 1) (.cons (.op (.fld 0) (.cons (.inp 3) .nil)) .nil) (.chk none (.cal 49) (.cons (.bv 2) (.cons (.bv 3) .nil)) (.eff (.bsl 3 2 1 #[(.int .i64 0)] [0, 1]) (.cons (.op (.cal 49) (.cons (.bv 0) (.cons (.bv 1) .nil))) (.cons (.op (.cal 49) (.cons (.bv 2) (.cons (.bv 3) .nil))) .nil)) (.eff (.call 48) (.cons (.bv 4) .nil) (.done [(4, (.bv 5))] none)))))))))))))) .ret) Q env w := rfl
def l34 : Lifted := ⟨[0, 1, 2, 3, 4], 17, [.slot 4], (.seq (.reg (.eff (.box 32) (.cons (.inp 0) .nil) (.eff (.box 32) (.cons (.inp 1) .nil) (.done [(2, (.bv 0)), (3, (.bv 1)), (4, (.cst (.int .i64 0)))] none)))) h34_0)⟩
theorem l34_ok : liftFn U3 34 400 = some l34 := by kernel_rfl


def ordF (x y : Int × Int) : Int := if cmpF x.2 y.2 = 0 then cmpF x.1 y.1 else cmpF x.2 y.2
abbrev encT (x : Int × Int) : List Value := [.int .i64 x.1, .int .i64 x.2]
def odC (w0 : World) (A B : Asn) (c1 c2 o : Int) : List Value → World → Prop
  | [], w => St w0 B w
  | [v], w => ∃ bk, v = .slice (some ⟨bk, 0, none⟩) 2 2 ∧ St w0 (B * pt bk (.cells #[.int .i64 c1, .int .i64 c2] 3 (0, 0))) w
  | _ :: r :: _, w => r = .int .i64 o ∧ St w0 A w
theorem order_spec (x y : Int × Int) (w0 w : World) (A : Asn) (s : St w0 A w) :
    CallW Try.prog 34 [.agg (encT x).toArray, .agg (encT y).toArray] (fun r w' => r = .int .i64 (ordF x y) ∧ St w0 A w') w := by
  refine callW_of_lift l34_ok (by simp [l34]) ?_
  simp [l34]
  refine eff_box s ?_
  intro b1 w1 s1
  simp
  refine eff_box s1 ?_
  intro b2 w2 s2
  simp
  obtain ⟨B, hB⟩ : ∃ B, A * pt b1 (.cells (encT x).toArray 32 (0, 0)) * pt b2 (.cells (encT y).toArray 32 (0, 0)) = B := ⟨_, rfl⟩
  have s2 : St w0 (A * pt b1 (.cells (encT x).toArray 32 (0, 0)) * pt b2 (.cells (encT y).toArray 32 (0, 0))) w2 := s2
  have hx : ∀ w, St w0 B w → ∀ (j : Nat) u, (encT x)[j]? = some u → w.cell? ⟨b1, j, none⟩ = some u := fun w h j u hu => by
    rw [← hB] at h
    have := h.drop.row_cells j u hu
    rwa [Nat.zero_add] at this
  have hy : ∀ w, St w0 B w → ∀ (j : Nat) u, (encT y)[j]? = some u → w.cell? ⟨b2, j, none⟩ = some u := fun w h j u hu => by
    rw [← hB] at h
    have := h.row_cells j u hu
    rwa [Nat.zero_add] at this
  have hA : ∀ w, St w0 B w → St w0 A w := fun w h => by rw [← hB] at h; exact h.drop.drop
  rw [hB] at s2
  refine regmI (odC w0 A B (cmpF x.2 y.2) (cmpF x.1 y.1) (ordF x y)) s2.drew ?_
  have ld : ∀ (b j : Nat) (u : Value), (∀ w, St w0 B w → w.cell? ⟨b, j, none⟩ = some u) → ∀ (vs' : List Value) (w : World), era 1 vs' = era 1 [] → odC w0 A B (cmpF x.2 y.2) (cmpF x.1 y.1) (ordF x y) vs' w → w.cell? ⟨b, j, none⟩ = some u := by
    intro b j u h vs' w he hw
    match vs', hw with
    | [], hw => exact h w hw
    | _ :: _, hw => simp [era] at he
  simp
  refine effm_ldc (v := .int .i64 x.2) (fun vs' w he hw => ld b1 1 _ (fun w h => hx w h 1 _ rfl) vs' w he hw) ?_
  simp
  refine effm_ldc (v := .int .i64 y.2) (fun vs' w he hw => ld b2 1 _ (fun w h => hy w h 1 _ rfl) vs' w he hw) ?_
  simp
  refine effm_ldc (v := .int .i64 x.1) (fun vs' w he hw => ld b1 0 _ (fun w h => hx w h 0 _ rfl) vs' w he hw) ?_
  simp
  refine effm_ldc (v := .int .i64 y.1) (fun vs' w he hw => ld b2 0 _ (fun w h => hy w h 0 _ rfl) vs' w he hw) ?_
  simp
  refine effm_mv rfl (fun w hw => eff_bsl2 (show St w0 B w from hw) rfl rfl fun bk w' h => ?_) (fun v hv => ?_)
  · exact ⟨bk, rfl, h⟩
  obtain ⟨w3, bk, rfl, _⟩ := hv
  simp
  refine effm_mv rfl (fun w hw => ?_) (fun v hv => ?_)
  · obtain ⟨bk', e, hw⟩ := hw
    cases e
    refine eff_call ((or_spec _ _ bk w0 w B hw).mono ?_)
    rintro r w' ⟨rfl, s'⟩
    exact ⟨rfl, hA _ s'⟩
  obtain ⟨w4, rfl, _⟩ := hv
  simp
  intro w5 h5
  exact h5.2
end Go.HL.Wh
