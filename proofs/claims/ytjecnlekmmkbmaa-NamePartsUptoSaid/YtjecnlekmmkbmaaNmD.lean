/-
  Units of bazaarref04, Runes and both Cuts answer by the plain laws. Conditions: texts within the bound.
-/
import Derived.Test.YtjecnlekmmkbmaaNmC
namespace Go.HL.Nm
open Go.HL Go.Proofs
set_option maxRecDepth 4000
set_option linter.unusedSimpArgs false
set_option linter.unusedVariables false
noncomputable def oneS : PS Try.prog where
  f := 29
  val args := match args with
    | [.string s, .int _ i] => .tuple #[.int .i64 (oneF (s.data.toList.drop i.toNat)).1, .int .i64 (oneF (s.data.toList.drop i.toNat)).2]
    | _ => undef
  ok args := match args with
    | [.string s, .int .i64 i] => s.data.toList.length ≤ 1048576 ∧ 0 ≤ i ∧ i < s.data.toList.length
    | _ => False
  sound args w h := by
    split at h
    · rename_i s i
      obtain ⟨h1, h2, h3⟩ := h
      obtain ⟨n, rfl⟩ := Int.eq_ofNat_of_zero_le h2
      have := one_spec s.data.toList n w (by omega) h1
      rw [← mk_eta] at this
      simpa using this
    · exact h.elim
noncomputable abbrev F1 : PF Try.prog := PF.of [oneS]
@[simp] theorem F1_one_val (args : List Value) : F1.val 29 args = oneS.val args := rfl
@[simp] theorem F1_one_ok (args : List Value) : F1.ok 29 args = oneS.ok args := rfl
-- bazaar/bazaarref04.Units
def h10_0 : HC := (.seq (.reg (.done [(1, (.inp 3)), (2, (.inp 4))] none)) .ret)
@[simp] theorem h10_0_wp {P : Program} {F : PF P} {Q : EX → List Value → World → Prop} {env : List Value} {w : World} : h10_0.wp F Q env w = HC.wp F (.seq (.reg (.done [(1, (.inp 3)), (2, (.inp 4))] none)) .ret) Q env w := rfl
def h10_1 : HC := (.reg (.chk none (.bin .add) (.cons (.inp 5) (.cons (.inp 7) .nil)) (.done [(5, (.op (.bin .add) (.cons (.inp 5) (.cons (.inp 7) .nil))))] none)))
@[simp] theorem h10_1_wp {P : Program} {F : PF P} {Q : EX → List Value → World → Prop} {env : List Value} {w : World} : h10_1.wp F Q env w = HC.wp F (.reg (.chk none (.bin .add) (.cons (.inp 5) (.cons (.inp 7) .nil)) (.done [(5, (.op (.bin .add) (.cons (.inp 5) (.cons (.inp 7) .nil))))] none))) Q env w := rfl
def h10_2 : HC := (.seq (.reg (.eff (.bsl 3 1 1 #[(.int .i64 0)] [0]) (.cons (.inp 5) .nil) (.eff (.app 22 22 3 1 8 (.int .i64 0)) (.cons (.inp 4) (.cons (.bv 0) .nil)) (.done [(4, (.bv 1))] none)))) h10_1)
@[simp] theorem h10_2_wp {P : Program} {F : PF P} {Q : EX → List Value → World → Prop} {env : List Value} {w : World} : h10_2.wp F Q env w = HC.wp F (.seq (.reg (.eff (.bsl 3 1 1 #[(.int .i64 0)] [0]) (.cons (.inp 5) .nil) (.eff (.app 22 22 3 1 8 (.int .i64 0)) (.cons (.inp 4) (.cons (.bv 0) .nil)) (.done [(4, (.bv 1))] none)))) h10_1) Q env w := rfl
def h10_3 : HC := (.seq (.reg (.eff (.bsl 3 1 1 #[(.int .i64 0)] [0]) (.cons (.inp 6) .nil) (.eff (.app 22 22 3 1 8 (.int .i64 0)) (.cons (.inp 3) (.cons (.bv 0) .nil)) (.done [(3, (.bv 1))] none)))) h10_2)
@[simp] theorem h10_3_wp {P : Program} {F : PF P} {Q : EX → List Value → World → Prop} {env : List Value} {w : World} : h10_3.wp F Q env w = HC.wp F (.seq (.reg (.eff (.bsl 3 1 1 #[(.int .i64 0)] [0]) (.cons (.inp 6) .nil) (.eff (.app 22 22 3 1 8 (.int .i64 0)) (.cons (.inp 3) (.cons (.bv 0) .nil)) (.done [(3, (.bv 1))] none)))) h10_2) Q env w := rfl
def h10_4 : HC := (.seq (.reg (.chk none (.cal 29) (.cons (.inp 0) (.cons (.inp 5) .nil)) (.chk none (.ext 0) (.cons (.op (.cal 29) (.cons (.inp 0) (.cons (.inp 5) .nil))) .nil) (.chk none (.ext 1) (.cons (.op (.cal 29) (.cons (.inp 0) (.cons (.inp 5) .nil))) .nil) (.done [(6, (.op (.ext 0) (.cons (.op (.cal 29) (.cons (.inp 0) (.cons (.inp 5) .nil))) .nil))), (7, (.op (.ext 1) (.cons (.op (.cal 29) (.cons (.inp 0) (.cons (.inp 5) .nil))) .nil)))] none))))) h10_3)
@[simp] theorem h10_4_wp {P : Program} {F : PF P} {Q : EX → List Value → World → Prop} {env : List Value} {w : World} : h10_4.wp F Q env w = HC.wp F (.seq (.reg (.chk none (.cal 29) (.cons (.inp 0) (.cons (.inp 5) .nil)) (.chk none (.ext 0) (.cons (.op (.cal 29) (.cons (.inp 0) (.cons (.inp 5) .nil))) .nil) (.chk none (.ext 1) (.cons (.op (.cal 29) (.cons (.inp 0) (.cons (.inp 5) .nil))) .nil) (.done [(6, (.op (.ext 0) (.cons (.op (.cal 29) (.cons (.inp 0) (.cons (.inp 5) .nil))) .nil))), (7, (.op (.ext 1) (.cons (.op (.cal 29) (.cons (.inp 0) (.cons (.inp 5) .nil))) .nil)))] none))))) h10_3) Q env w := rfl
def h10_5 : HC := (.block 1 h10_4)
@[simp] theorem h10_5_wp {P : Program} {F : PF P} {Q : EX → List Value → World → Prop} {env : List Value} {w : World} : h10_5.wp F Q env w = HC.wp F (.block 1 h10_4) Q env w := rfl
def h10_6 : HC := (.seq (.br (.chk none .lenS (.cons (.inp 0) .nil) (.chk none (.bin .lss) (.cons (.inp 5) (.cons (.op .lenS (.cons (.inp 0) .nil)) .nil)) (.done [] (some (.op (.bin .lss) (.cons (.inp 5) (.cons (.op .lenS (.cons (.inp 0) .nil)) .nil))))))) .skip (.exit 0)) h10_5)
@[simp] theorem h10_6_wp {P : Program} {F : PF P} {Q : EX → List Value → World → Prop} {env : List Value} {w : World} : h10_6.wp F Q env w = HC.wp F (.seq (.br (.chk none .lenS (.cons (.inp 0) .nil) (.chk none (.bin .lss) (.cons (.inp 5) (.cons (.op .lenS (.cons (.inp 0) .nil)) .nil)) (.done [] (some (.op (.bin .lss) (.cons (.inp 5) (.cons (.op .lenS (.cons (.inp 0) .nil)) .nil))))))) .skip (.exit 0)) h10_5) Q env w := rfl
def h10_7 : HC := (.loop h10_6)
@[simp] theorem h10_7_wp {P : Program} {F : PF P} {Q : EX → List Value → World → Prop} {env : List Value} {w : World} : h10_7.wp F Q env w = HC.wp F (.loop h10_6) Q env w := rfl
def h10_8 : HC := (.seq (.block 0 h10_7) h10_0)
@[simp] theorem h10_8_wp {P : Program} {F : PF P} {Q : EX → List Value → World → Prop} {env : List Value} {w : World} : h10_8.wp F Q env w = HC.wp F (.seq (.block 0 h10_7) h10_0) Q env w := rfl
def h10_9 : HC := (.seq (.reg (.done [(5, (.cst (.int .i64 0)))] none)) h10_8)
@[simp] theorem h10_9_wp {P : Program} {F : PF P} {Q : EX → List Value → World → Prop} {env : List Value} {w : World} : h10_9.wp F Q env w = HC.wp F (.seq (.reg (.done [(5, (.cst (.int .i64 0)))] none)) h10_8) Q env w := rfl
def h10_10 : HC := (.seq (.reg (.done [(3, (.cst (.slice none 0 0))), (4, (.cst (.slice none 0 0)))] none)) h10_9)
@[simp] theorem h10_10_wp {P : Program} {F : PF P} {Q : EX → List Value → World → Prop} {env : List Value} {w : World} : h10_10.wp F Q env w = HC.wp F (.seq (.reg (.done [(3, (.cst (.slice none 0 0))), (4, (.cst (.slice none 0 0)))] none)) h10_9) Q env w := rfl
def l10 : Lifted := ⟨[0, 2, 3, 4, 5, 6, 7, 8], 32, [.slot 1, .slot 2], (.seq (.reg (.done [(1, (.cst (.slice none 0 0))), (2, (.cst (.slice none 0 0)))] none)) h10_10)⟩
theorem l10_ok : liftFn F1 10 400 = some l10 := by kernel_rfl

-- unicode/utf8.RuneCountInString
def h30_0 : HC := (.seq (.reg (.done [] none)) .ret)
@[simp] theorem h30_0_wp {P : Program} {F : PF P} {Q : EX → List Value → World → Prop} {env : List Value} {w : World} : h30_0.wp F Q env w = HC.wp F (.seq (.reg (.done [] none)) .ret) Q env w := rfl
def h30_1 : HC := (.reg (.chk none (.bin .add) (.cons (.inp 1) (.cons (.cst (.int .i64 1)) .nil)) (.done [(1, (.op (.bin .add) (.cons (.inp 1) (.cons (.cst (.int .i64 1)) .nil))))] none)))
@[simp] theorem h30_1_wp {P : Program} {F : PF P} {Q : EX → List Value → World → Prop} {env : List Value} {w : World} : h30_1.wp F Q env w = HC.wp F (.reg (.chk none (.bin .add) (.cons (.inp 1) (.cons (.cst (.int .i64 1)) .nil)) (.done [(1, (.op (.bin .add) (.cons (.inp 1) (.cons (.cst (.int .i64 1)) .nil))))] none))) Q env w := rfl
def h30_2 : HC := (.block 1 h30_1)
@[simp] theorem h30_2_wp {P : Program} {F : PF P} {Q : EX → List Value → World → Prop} {env : List Value} {w : World} : h30_2.wp F Q env w = HC.wp F (.block 1 h30_1) Q env w := rfl
def h30_3 : HC := (.seq (.br (.eff (.nxt true 0) (.cons (.inp 2) .nil) (.chk none (.ext 0) (.cons (.bv 0) .nil) (.done [] (some (.op (.ext 0) (.cons (.bv 0) .nil)))))) .skip (.exit 0)) h30_2)
@[simp] theorem h30_3_wp {P : Program} {F : PF P} {Q : EX → List Value → World → Prop} {env : List Value} {w : World} : h30_3.wp F Q env w = HC.wp F (.seq (.br (.eff (.nxt true 0) (.cons (.inp 2) .nil) (.chk none (.ext 0) (.cons (.bv 0) .nil) (.done [] (some (.op (.ext 0) (.cons (.bv 0) .nil)))))) .skip (.exit 0)) h30_2) Q env w := rfl
def h30_4 : HC := (.loop h30_3)
@[simp] theorem h30_4_wp {P : Program} {F : PF P} {Q : EX → List Value → World → Prop} {env : List Value} {w : World} : h30_4.wp F Q env w = HC.wp F (.loop h30_3) Q env w := rfl
def h30_5 : HC := (.seq (.block 0 h30_4) h30_0)
@[simp] theorem h30_5_wp {P : Program} {F : PF P} {Q : EX → List Value → World → Prop} {env : List Value} {w : World} : h30_5.wp F Q env w = HC.wp F (.seq (.block 0 h30_4) h30_0) Q env w := rfl
def h30_6 : HC := (.seq (.reg (.eff (.rngS 9) (.cons (.inp 0) .nil) (.done [(2, (.bv 0))] none))) h30_5)
@[simp] theorem h30_6_wp {P : Program} {F : PF P} {Q : EX → List Value → World → Prop} {env : List Value} {w : World} : h30_6.wp F Q env w = HC.wp F (.seq (.reg (.eff (.rngS 9) (.cons (.inp 0) .nil) (.done [(2, (.bv 0))] none))) h30_5) Q env w := rfl
def l30 : Lifted := ⟨[0, 2, 4], 10, [.slot 1], (.seq (.reg (.done [(1, (.cst (.int .i64 0)))] none)) h30_6)⟩
theorem l30_ok : liftFn F1 30 400 = some l30 := by kernel_rfl

-- bazaar/name.Runes
def h11_0 : HC := (.seq (.reg (.eff (.call 30) (.cons (.inp 0) .nil) (.done [(1, (.bv 0))] none))) .ret)
@[simp] theorem h11_0_wp {P : Program} {F : PF P} {Q : EX → List Value → World → Prop} {env : List Value} {w : World} : h11_0.wp F Q env w = HC.wp F (.seq (.reg (.eff (.call 30) (.cons (.inp 0) .nil) (.done [(1, (.bv 0))] none))) .ret) Q env w := rfl
def l11 : Lifted := ⟨[0, 2], 5, [.slot 1], (.seq (.reg (.done [(1, (.cst (.int .i64 0)))] none)) h11_0)⟩
theorem l11_ok : liftFn F1 11 400 = some l11 := by kernel_rfl

-- bazaar/name.Cut
def h12_0 : HC := (.seq (.reg (.done [(2, (.inp 0))] none)) .ret)
@[simp] theorem h12_0_wp {P : Program} {F : PF P} {Q : EX → List Value → World → Prop} {env : List Value} {w : World} : h12_0.wp F Q env w = HC.wp F (.seq (.reg (.done [(2, (.inp 0))] none)) .ret) Q env w := rfl
def h12_1 : HC := (.reg (.chk none (.bin .sub) (.cons (.inp 1) (.cons (.cst (.int .i64 1)) .nil)) (.done [(1, (.op (.bin .sub) (.cons (.inp 1) (.cons (.cst (.int .i64 1)) .nil))))] none)))
@[simp] theorem h12_1_wp {P : Program} {F : PF P} {Q : EX → List Value → World → Prop} {env : List Value} {w : World} : h12_1.wp F Q env w = HC.wp F (.reg (.chk none (.bin .sub) (.cons (.inp 1) (.cons (.cst (.int .i64 1)) .nil)) (.done [(1, (.op (.bin .sub) (.cons (.inp 1) (.cons (.cst (.int .i64 1)) .nil))))] none))) Q env w := rfl
def h12_2 : HC := (.seq (.reg (.chk none (.slS false true) (.cons (.inp 0) (.cons (.inp 3) .nil)) (.done [(2, (.op (.slS false true) (.cons (.inp 0) (.cons (.inp 3) .nil))))] none))) .ret)
@[simp] theorem h12_2_wp {P : Program} {F : PF P} {Q : EX → List Value → World → Prop} {env : List Value} {w : World} : h12_2.wp F Q env w = HC.wp F (.seq (.reg (.chk none (.slS false true) (.cons (.inp 0) (.cons (.inp 3) .nil)) (.done [(2, (.op (.slS false true) (.cons (.inp 0) (.cons (.inp 3) .nil))))] none))) .ret) Q env w := rfl
def h12_3 : HC := (.seq (.br (.chk none (.bin .leq) (.cons (.inp 1) (.cons (.cst (.int .i64 0)) .nil)) (.done [] (some (.op (.bin .leq) (.cons (.inp 1) (.cons (.cst (.int .i64 0)) .nil)))))) h12_2 .skip) h12_1)
@[simp] theorem h12_3_wp {P : Program} {F : PF P} {Q : EX → List Value → World → Prop} {env : List Value} {w : World} : h12_3.wp F Q env w = HC.wp F (.seq (.br (.chk none (.bin .leq) (.cons (.inp 1) (.cons (.cst (.int .i64 0)) .nil)) (.done [] (some (.op (.bin .leq) (.cons (.inp 1) (.cons (.cst (.int .i64 0)) .nil)))))) h12_2 .skip) h12_1) Q env w := rfl
def h12_4 : HC := (.seq (.reg (.chk none (.ext 1) (.cons (.inp 5) .nil) (.done [(3, (.op (.ext 1) (.cons (.inp 5) .nil)))] none))) h12_3)
@[simp] theorem h12_4_wp {P : Program} {F : PF P} {Q : EX → List Value → World → Prop} {env : List Value} {w : World} : h12_4.wp F Q env w = HC.wp F (.seq (.reg (.chk none (.ext 1) (.cons (.inp 5) .nil) (.done [(3, (.op (.ext 1) (.cons (.inp 5) .nil)))] none))) h12_3) Q env w := rfl
def h12_5 : HC := (.block 1 h12_4)
@[simp] theorem h12_5_wp {P : Program} {F : PF P} {Q : EX → List Value → World → Prop} {env : List Value} {w : World} : h12_5.wp F Q env w = HC.wp F (.block 1 h12_4) Q env w := rfl
def h12_6 : HC := (.seq (.br (.eff (.nxt true 0) (.cons (.inp 4) .nil) (.chk none (.ext 0) (.cons (.bv 0) .nil) (.done [(5, (.bv 0))] (some (.op (.ext 0) (.cons (.bv 0) .nil)))))) .skip (.exit 0)) h12_5)
@[simp] theorem h12_6_wp {P : Program} {F : PF P} {Q : EX → List Value → World → Prop} {env : List Value} {w : World} : h12_6.wp F Q env w = HC.wp F (.seq (.br (.eff (.nxt true 0) (.cons (.inp 4) .nil) (.chk none (.ext 0) (.cons (.bv 0) .nil) (.done [(5, (.bv 0))] (some (.op (.ext 0) (.cons (.bv 0) .nil)))))) .skip (.exit 0)) h12_5) Q env w := rfl
def h12_7 : HC := (.loop h12_6)
@[simp] theorem h12_7_wp {P : Program} {F : PF P} {Q : EX → List Value → World → Prop} {env : List Value} {w : World} : h12_7.wp F Q env w = HC.wp F (.loop h12_6) Q env w := rfl
def h12_8 : HC := (.seq (.block 0 h12_7) h12_0)
@[simp] theorem h12_8_wp {P : Program} {F : PF P} {Q : EX → List Value → World → Prop} {env : List Value} {w : World} : h12_8.wp F Q env w = HC.wp F (.seq (.block 0 h12_7) h12_0) Q env w := rfl
def h12_9 : HC := (.seq (.reg (.eff (.rngS 9) (.cons (.inp 0) .nil) (.done [(4, (.bv 0))] none))) h12_8)
@[simp] theorem h12_9_wp {P : Program} {F : PF P} {Q : EX → List Value → World → Prop} {env : List Value} {w : World} : h12_9.wp F Q env w = HC.wp F (.seq (.reg (.eff (.rngS 9) (.cons (.inp 0) .nil) (.done [(4, (.bv 0))] none))) h12_8) Q env w := rfl
def l12 : Lifted := ⟨[0, 1, 4, 5, 7, 8], 19, [.slot 2], (.seq (.reg (.done [(2, (.cst (.string ⟨#[]⟩)))] none)) h12_9)⟩
theorem l12_ok : liftFn F1 12 400 = some l12 := by kernel_rfl

-- bazaar/bazaarref04.Cut
def h13_0 : HC := (.seq (.reg (.chk none (.idxL 1) (.cons (.inp 4) (.cons (.inp 1) .nil)) (.eff (.ld false 1) (.cons (.op (.idxL 1) (.cons (.inp 4) (.cons (.inp 1) .nil))) .nil) (.chk none (.slS false true) (.cons (.inp 0) (.cons (.bv 0) .nil)) (.done [(2, (.op (.slS false true) (.cons (.inp 0) (.cons (.bv 0) .nil))))] none))))) .ret)
@[simp] theorem h13_0_wp {P : Program} {F : PF P} {Q : EX → List Value → World → Prop} {env : List Value} {w : World} : h13_0.wp F Q env w = HC.wp F (.seq (.reg (.chk none (.idxL 1) (.cons (.inp 4) (.cons (.inp 1) .nil)) (.eff (.ld false 1) (.cons (.op (.idxL 1) (.cons (.inp 4) (.cons (.inp 1) .nil))) .nil) (.chk none (.slS false true) (.cons (.inp 0) (.cons (.bv 0) .nil)) (.done [(2, (.op (.slS false true) (.cons (.inp 0) (.cons (.bv 0) .nil))))] none))))) .ret) Q env w := rfl
def h13_1 : HC := (.seq (.reg (.done [(2, (.inp 0))] none)) .ret)
@[simp] theorem h13_1_wp {P : Program} {F : PF P} {Q : EX → List Value → World → Prop} {env : List Value} {w : World} : h13_1.wp F Q env w = HC.wp F (.seq (.reg (.done [(2, (.inp 0))] none)) .ret) Q env w := rfl
def h13_2 : HC := (.seq (.br (.chk none .lenL (.cons (.inp 3) .nil) (.chk none (.bin .geq) (.cons (.inp 1) (.cons (.op .lenL (.cons (.inp 3) .nil)) .nil)) (.done [] (some (.op (.bin .geq) (.cons (.inp 1) (.cons (.op .lenL (.cons (.inp 3) .nil)) .nil))))))) h13_1 .skip) h13_0)
@[simp] theorem h13_2_wp {P : Program} {F : PF P} {Q : EX → List Value → World → Prop} {env : List Value} {w : World} : h13_2.wp F Q env w = HC.wp F (.seq (.br (.chk none .lenL (.cons (.inp 3) .nil) (.chk none (.bin .geq) (.cons (.inp 1) (.cons (.op .lenL (.cons (.inp 3) .nil)) .nil)) (.done [] (some (.op (.bin .geq) (.cons (.inp 1) (.cons (.op .lenL (.cons (.inp 3) .nil)) .nil))))))) h13_1 .skip) h13_0) Q env w := rfl
def h13_3 : HC := (.seq (.reg (.done [(2, (.cst (.string ⟨#[]⟩)))] none)) .ret)
@[simp] theorem h13_3_wp {P : Program} {F : PF P} {Q : EX → List Value → World → Prop} {env : List Value} {w : World} : h13_3.wp F Q env w = HC.wp F (.seq (.reg (.done [(2, (.cst (.string ⟨#[]⟩)))] none)) .ret) Q env w := rfl
def h13_4 : HC := (.seq (.br (.chk none (.bin .lss) (.cons (.inp 1) (.cons (.cst (.int .i64 1)) .nil)) (.done [] (some (.op (.bin .lss) (.cons (.inp 1) (.cons (.cst (.int .i64 1)) .nil)))))) h13_3 .skip) h13_2)
@[simp] theorem h13_4_wp {P : Program} {F : PF P} {Q : EX → List Value → World → Prop} {env : List Value} {w : World} : h13_4.wp F Q env w = HC.wp F (.seq (.br (.chk none (.bin .lss) (.cons (.inp 1) (.cons (.cst (.int .i64 1)) .nil)) (.done [] (some (.op (.bin .lss) (.cons (.inp 1) (.cons (.cst (.int .i64 1)) .nil)))))) h13_3 .skip) h13_2) Q env w := rfl
def h13_5 : HC := (.seq (.reg (.eff (.call 10) (.cons (.inp 0) .nil) (.chk none (.ext 0) (.cons (.bv 0) .nil) (.chk none (.ext 1) (.cons (.bv 0) .nil) (.done [(3, (.op (.ext 0) (.cons (.bv 0) .nil))), (4, (.op (.ext 1) (.cons (.bv 0) .nil)))] none))))) h13_4)
@[simp] theorem h13_5_wp {P : Program} {F : PF P} {Q : EX → List Value → World → Prop} {env : List Value} {w : World} : h13_5.wp F Q env w = HC.wp F (.seq (.reg (.eff (.call 10) (.cons (.inp 0) .nil) (.chk none (.ext 0) (.cons (.bv 0) .nil) (.chk none (.ext 1) (.cons (.bv 0) .nil) (.done [(3, (.op (.ext 0) (.cons (.bv 0) .nil))), (4, (.op (.ext 1) (.cons (.bv 0) .nil)))] none))))) h13_4) Q env w := rfl
def l13 : Lifted := ⟨[0, 1, 4, 5, 6], 25, [.slot 2], (.seq (.reg (.done [(2, (.cst (.string ⟨#[]⟩)))] none)) h13_5)⟩
theorem l13_ok : liftFn F1 13 400 = some l13 := by kernel_rfl


def ints (l : List Int) : List Value := l.map (Value.int .i64)
theorem units_spec (l : List UInt8) (w0 w : World) (A : Asn) (hl : l.length ≤ 1048576) (s : St w0 A w) :
    CallW Try.prog 10 [.string (mk l)] (fun r w' => ∃ v1 v2, r = .tuple #[v1, v2] ∧
      St w0 (A * own 3 1 v1 (units l).length (ints ((units l).map (·.1))) * own 3 1 v2 (units l).length (ints ((starts 0 (units l)).map (Nat.cast)))) w') w := by
  refine callW_of_lift l10_ok (by simp [l10]) ?_
  simp [l10]
  refine loopI (fun env w' => ∃ (i : Nat) (v1 v2 u n : Value) (done : List (Int × Nat)), env = [.string (mk l), .slice none 0 0, .slice none 0 0, v1, v2, .int .i64 i, u, n] ∧ i ≤ l.length ∧
      units l = done ++ units (l.drop i) ∧ i = sumW done ∧
      St w0 (A * own 3 1 v1 done.length (ints (done.map (·.1))) * own 3 1 v2 done.length (ints ((starts 0 done).map (Nat.cast)))) w')
    (fun env _ => l.length - slotN env 5) ⟨0, _, _, _, _, [], rfl, by omega, by simp, rfl, (s.own_nil _ _).own_nil _ _⟩ ?_
  rintro LQ env w' ⟨i, v1, v2, u, n, done, rfl, hi, hu, hsum, s'⟩ hN hE hR
  simp
  refine cndI (fun h => ?_) (fun h => ?_)
  · simp at h
    simp [oneS]
    refine ⟨⟨hl, h⟩, ?_⟩
    have hle := oneF_le (l := l) (i := i) h
    have hdl : done.length ≤ l.length := by have := units_len l; rw [hu, List.length_append] at this; omega
    refine eff_bsl1 s' rfl ?_
    intro b w1 s1
    simp
    refine eff_app (n := done.length) (m := 1) (news := [.int .i64 (oneF (l.drop i)).1]) s1.p3 rfl s1.cells_look (by simp [Value.oneCell']) (by decide) rfl (by unfold maxLen; omega) (by omega) ?_
    intro v1' w2 s2
    simp
    refine eff_bsl1 s2.p3.p3.drop rfl ?_
    intro b' w3 s3
    simp
    refine eff_app (n := done.length) (m := 1) (news := [.int .i64 i]) s3.swap rfl s3.cells_look (by simp [Value.oneCell']) (by decide) rfl (by unfold maxLen; omega) (by omega) ?_
    intro v2' w4 s4
    simp
    try simp (disch := omega) only [wrap64]
    refine hN _ _ ⟨i + (oneF (l.drop i)).2, v1', v2', _, _, done ++ [oneF (l.drop i)], by simp; exact ⟨rfl, rfl⟩, hle.1, units_step hu h, by simp [sumW_append, sumW, hsum], ?_⟩ (by simp [slotN]; omega)
    have := s4.swap.drop
    simpa [ints, starts_append, starts, hsum] using this
  · simp at h
    simp
    refine hE _ _ _ ?_
    simp
    have : i = l.length := by omega
    subst this
    rw [List.drop_length, units_nil, List.append_nil] at hu
    rw [hu]
    exact ⟨_, _, ⟨rfl, rfl⟩, s'⟩

/-- Runes: so many units -/
theorem count_spec (l : List UInt8) (w0 w : World) (A : Asn) (hl : l.length ≤ 1048576) (s : St w0 A w) :
    CallW Try.prog 30 [.string (mk l)] (fun r w' => r = .int .i64 (units l).length ∧ St w0 A w') w := by
  refine callW_of_lift l30_ok (by simp [l30]) ?_
  simp [l30]
  refine eff_rngS s ?_
  intro b w1 s1
  simp
  refine loopI (fun env w' => ∃ (i : Nat) (done : List (Int × Nat)), env = [.string (mk l), .int .i64 done.length, .pointer (some ⟨b, 0, none⟩)] ∧ i ≤ l.length ∧
      units l = done ++ units (l.drop i) ∧ St w0 (A * pt b (.stringIter (mk l) i)) w')
    (fun env _ => (units l).length + 1 - slotN env 1) ⟨0, [], rfl, by omega, by simp, s1⟩ ?_
  rintro LQ env w' ⟨i, done, rfl, hi, hu, s'⟩ hN hE hR
  simp
  have hdl : done.length ≤ l.length := by have := units_len l; rw [hu, List.length_append] at this; omega
  refine eff_nxtS s' (fun h w2 s2 => ?_) (fun h => ?_)
  · simp at h
    have hle := oneF_le (l := l) (i := i) h
    rw [decode_decL, decL_oneF _ (by simp; omega)] at s2
    simp
    try simp (disch := omega) only [wrap64]
    have hstep := units_step hu h
    refine hN _ _ ⟨i + (oneF (l.drop i)).2, done ++ [oneF (l.drop i)], by simp, hle.1, hstep, s2⟩ ?_
    have : done.length < (units l).length := by rw [hstep]; simp
    simp [slotN]; omega
  · simp at h
    simp
    refine hE _ _ _ ?_
    simp
    have : i = l.length := by omega
    subst this
    rw [List.drop_length, units_nil, List.append_nil] at hu
    rw [hu]
    exact ⟨rfl, s'.drop⟩
theorem runes_spec (l : List UInt8) (w0 w : World) (A : Asn) (hl : l.length ≤ 1048576) (s : St w0 A w) :
    CallW Try.prog 11 [.string (mk l)] (fun r w' => r = .int .i64 (units l).length ∧ St w0 A w') w := by
  refine callW_of_lift l11_ok (by simp [l11]) ?_
  simp [l11]
  refine eff_call ((count_spec l w0 w A hl s).mono ?_)
  rintro r w' ⟨rfl, s'⟩
  simp
  exact s'
/-- the first n units' bytes -/
def cutF (l : List UInt8) (n : Int) : List UInt8 := l.take (sumW ((units l).take n.toNat))
theorem cut_spec (l : List UInt8) (n : Int) (w0 w : World) (A : Asn) (hl : l.length ≤ 1048576) (hn : -9223372036854775808 ≤ n ∧ n ≤ 9223372036854775807) (s : St w0 A w) :
    CallW Try.prog 12 [.string (mk l), .int .i64 n] (fun r w' => r = .string (mk (cutF l n)) ∧ St w0 A w') w := by
  refine callW_of_lift l12_ok (by simp [l12]) ?_
  simp [l12]
  refine eff_rngS s ?_
  intro b w1 s1
  simp
  refine loopI (fun env w' => ∃ (i : Nat) (done : List (Int × Nat)) (x y : Value), env = [.string (mk l), .int .i64 (n - done.length), .string (mk []), x, .pointer (some ⟨b, 0, none⟩), y] ∧ i ≤ l.length ∧
      units l = done ++ units (l.drop i) ∧ i = sumW done ∧ done.length ≤ n.toNat ∧ St w0 (A * pt b (.stringIter (mk l) i)) w')
    (fun env _ => slotN env 1) ⟨0, [], _, _, by simp; exact ⟨rfl, rfl⟩, by omega, by simp, rfl, by simp, s1⟩ ?_
  rintro LQ env w' ⟨i, done, x, y, rfl, hi, hu, hsum, hdn, s'⟩ hN hE hR
  simp
  have hdl : done.length ≤ l.length := by have := units_len l; rw [hu, List.length_append] at this; omega
  refine eff_nxtS s' (fun h w2 s2 => ?_) (fun h => ?_)
  · simp at h
    have hle := oneF_le (l := l) (i := i) h
    rw [decode_decL, decL_oneF _ (by simp; omega)] at s2
    simp
    have hstep := units_step hu h
    refine cndI (fun h2 => ?_) (fun h2 => ?_)
    · simp at h2
      simp
      refine ⟨hi, hR _ _ ?_⟩
      simp
      refine ⟨?_, s2.drop⟩
      have : n.toNat = done.length := by omega
      rw [cutF, hu, this, List.take_left, ← hsum]
    · simp at h2
      simp
      try simp (disch := omega) only [wrap64]
      refine hN _ _ ⟨i + (oneF (l.drop i)).2, done ++ [oneF (l.drop i)], _, _, by simp; exact ⟨by omega, rfl, rfl⟩, hle.1, hstep, by simp [sumW_append, sumW, hsum], by simp; omega, s2⟩ ?_
      simp [slotN]; omega
  · simp at h
    simp
    refine hE _ _ _ ?_
    simp
    have : i = l.length := by omega
    subst this
    rw [List.drop_length, units_nil, List.append_nil] at hu
    refine ⟨?_, s'.drop⟩
    rw [cutF, hu, List.take_of_length_le hdn, ← hsum, List.take_length]
theorem rcut_spec (l : List UInt8) (n : Int) (w0 w : World) (A : Asn) (hl : l.length ≤ 1048576) (s : St w0 A w) :
    CallW Try.prog 13 [.string (mk l), .int .i64 n] (fun r w' => r = .string (mk (cutF l n)) ∧ St w0 A w') w := by
  refine callW_of_lift l13_ok (by simp [l13]) ?_
  simp [l13]
  refine eff_call ((units_spec l w0 w A hl s).mono ?_)
  rintro r w' ⟨v1, v2, rfl, s1⟩
  obtain ⟨a1, c1, rfl, _⟩ := s1.swap.own_val
  simp
  refine cndI (fun h => ?_) (fun h => ?_)
  · simp at h
    simp
    exact ⟨by rw [cutF, show n.toNat = 0 by omega]; simp [sumW], s1.drop.drop⟩
  simp at h
  simp
  refine cndI (fun h2 => ?_) (fun h2 => ?_)
  · simp at h2
    simp
    refine ⟨?_, s1.drop.drop⟩
    have e : (units l).take n.toNat = units l := List.take_of_length_le (by omega)
    rw [cutF, e, sumW_units, List.take_length]
  simp at h2
  obtain ⟨m, rfl⟩ := Int.eq_ofNat_of_zero_le (show 0 ≤ n by omega)
  have hlen : (ints ((starts 0 (units l)).map (Nat.cast))).length = (units l).length := by simp [ints, starts_length]
  have hm : m < (units l).length := by omega
  rcases s1.own_cell with ⟨hx, _⟩ | ⟨g, cap, rfl, hc, hcell⟩
  · rw [hx] at hlen; simp at hlen; omega
  have hst : (starts 0 (units l))[m]? = some (sumW ((units l).take m)) := by simpa using starts_get 0 (units l) m hm
  have hmc : sumW ((units l).take m) ≤ l.length := by
    have := sumW_units l
    rw [← List.take_append_drop m (units l), sumW_append] at this; omega
  simp
  refine ⟨by omega, eff_ldc (v := .int .i64 (sumW ((units l).take m))) (hcell m _ (by simp [ints, hst])) ?_⟩
  simp
  exact ⟨hmc, rfl, s1.drop.drop⟩
end Go.HL.Nm
