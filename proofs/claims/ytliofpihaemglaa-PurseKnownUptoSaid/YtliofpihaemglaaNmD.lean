/-
  Units of bazaarref04, Runes and both Cuts answer by the plain laws. Conditions: texts within the bound.
-/
import Derived.Test.YtliofpihaemglaaNmC
namespace Go.HL.Nm
open Go.HL Go.Proofs
set_option maxRecDepth 4000
set_option linter.unusedSimpArgs false
set_option linter.unusedVariables false
noncomputable def oneS : PS Try.prog where
  f := 89
  val args := match args with
    | [.string s, .int _ i] => .tuple #[.int .i64 (oneF (s.data.toList.drop i.toNat)).1, .int .i64 (oneF (s.data.toList.drop i.toNat)).2]
    | _ => undef
  ok args := match args with
    | [.string s, .int .i64 i] => s.data.toList.length ≤ 1048576 ∧ 0 ≤ i ∧ i < s.data.toList.length
    | _ => False
  sound args w h := by
    split at h
    · rename_i s i
      obtain ⟨h1, h2, h3⟩ := h
      obtain ⟨n, rfl⟩ := Int.eq_ofNat_of_zero_le h2
      have := one_spec s.data.toList n w (by omega) h1
      rw [← mk_eta] at this
      simpa using this
    · exact h.elim
noncomputable abbrev F1 : PF Try.prog := PF.of [oneS]
@[simp] theorem F1_one_val (args : List Value) : F1.val 89 args = oneS.val args := rfl
@[simp] theorem F1_one_ok (args : List Value) : F1.ok 89 args = oneS.ok args := rfl
-- bazaar/bazaarref04.Units
def h80_0 : HC := (.seq (.reg (.done [(1, (.inp 3)), (2, (.inp 4))] none)) .ret)
@[simp] theorem h80_0_wp {P : Program} {F : PF P} {Q : EX → List Value → World → Prop} {env : List Value} {w : World} : h80_0.wp F Q env w = HC.wp F (.seq (.reg (.done [(1, (.inp 3)), (2, (.inp 4))] none)) .ret) Q env w := rfl
def h80_1 : HC := (.reg (.chk none (.bin .add) (.cons (.inp 5) (.cons (.inp 7) .nil)) (.done [(5, (.op (.bin .add) (.cons (.inp 5) (.cons (.inp 7) .nil))))] none)))
@[simp] theorem h80_1_wp {P : Program} {F : PF P} {Q : EX → List Value → World → Prop} {env : List Value} {w : World} : h80_1.wp F Q env w = HC.wp F (.reg (.chk none (.bin .add) (.cons (.inp 5) (.cons (.inp 7) .nil)) (.done [(5, (.op (.bin .add) (.cons (.inp 5) (.cons (.inp 7) .nil))))] none))) Q env w := rfl
def h80_2 : HC := (.seq (.reg (.eff (.bsl 3 1 1 #[(.int .i64 0)] [0]) (.cons (.inp 5) .nil) (.eff (.app 35 35 3 1 8 (.int .i64 0)) (.cons (.inp 4) (.cons (.bv 0) .nil)) (.done [(4, (.bv 1))] none)))) h80_1)
@[simp] theorem h80_2_wp {P : Program} {F : PF P} {Q : EX → List Value → World → Prop} {env : List Value} {w : World} : h80_2.wp F Q env w = HC.wp F (.seq (.reg (.eff (.bsl 3 1 1 #[(.int .i64 0)] [0]) (.cons (.inp 5) .nil) (.eff (.app 35 35 3 1 8 (.int .i64 0)) (.cons (.inp 4) (.cons (.bv 0) .nil)) (.done [(4, (.bv 1))] none)))) h80_1) Q env w := rfl
def h80_3 : HC := (.seq (.reg (.eff (.bsl 3 1 1 #[(.int .i64 0)] [0]) (.cons (.inp 6) .nil) (.eff (.app 35 35 3 1 8 (.int .i64 0)) (.cons (.inp 3) (.cons (.bv 0) .nil)) (.done [(3, (.bv 1))] none)))) h80_2)
@[simp] theorem h80_3_wp {P : Program} {F : PF P} {Q : EX → List Value → World → Prop} {env : List Value} {w : World} : h80_3.wp F Q env w = HC.wp F (.seq (.reg (.eff (.bsl 3 1 1 #[(.int .i64 0)] [0]) (.cons (.inp 6) .nil) (.eff (.app 35 35 3 1 8 (.int .i64 0)) (.cons (.inp 3) (.cons (.bv 0) .nil)) (.done [(3, (.bv 1))] none)))) h80_2) Q env w := rfl
def h80_4 : HC := (.seq (.reg (.chk none (.cal 89) (.cons (.inp 0) (.cons (.inp 5) .nil)) (.chk none (.ext 0) (.cons (.op (.cal 89) (.cons (.inp 0) (.cons (.inp 5) .nil))) .nil) (.chk none (.ext 1) (.cons (.op (.cal 89) (.cons (.inp 0) (.cons (.inp 5) .nil))) .nil) (.done [(6, (.op (.ext 0) (.cons (.op (.cal 89) (.cons (.inp 0) (.cons (.inp 5) .nil))) .nil))), (7, (.op (.ext 1) (.cons (.op (.cal 89) (.cons (.inp 0) (.cons (.inp 5) .nil))) .nil)))] none))))) h80_3)
@[simp] theorem h80_4_wp {P : Program} {F : PF P} {Q : EX → List Value → World → Prop} {env : List Value} {w : World} : h80_4.wp F Q env w = HC.wp F (.seq (.reg (.chk none (.cal 89) (.cons (.inp 0) (.cons (.inp 5) .nil)) (.chk none (.ext 0) (.cons (.op (.cal 89) (.cons (.inp 0) (.cons (.inp 5) .nil))) .nil) (.chk none (.ext 1) (.cons (.op (.cal 89) (.cons (.inp 0) (.cons (.inp 5) .nil))) .nil) (.done [(6, (.op (.ext 0) (.cons (.op (.cal 89) (.cons (.inp 0) (.cons (.inp 5) .nil))) .nil))), (7, (.op (.ext 1) (.cons (.op (.cal 89) (.cons (.inp 0) (.cons (.inp 5) .nil))) .nil)))] none))))) h80_3) Q env w := rfl
def h80_5 : HC := (.block 1 h80_4)
@[simp] theorem h80_5_wp {P : Program} {F : PF P} {Q : EX → List Value → World → Prop} {env : List Value} {w : World} : h80_5.wp F Q env w = HC.wp F (.block 1 h80_4) Q env w := rfl
def h80_6 : HC := (.seq (.br (.chk none .lenS (.cons (.inp 0) .nil) (.chk none (.bin .lss) (.cons (.inp 5) (.cons (.op .lenS (.cons (.inp 0) .nil)) .nil)) (.done [] (some (.op (.bin .lss) (.cons (.inp 5) (.cons (.op .lenS (.cons (.inp 0) .nil)) .nil))))))) .skip (.exit 0)) h80_5)
@[simp] theorem h80_6_wp {P : Program} {F : PF P} {Q : EX → List Value → World → Prop} {env : List Value} {w : World} : h80_6.wp F Q env w = HC.wp F (.seq (.br (.chk none .lenS (.cons (.inp 0) .nil) (.chk none (.bin .lss) (.cons (.inp 5) (.cons (.op .lenS (.cons (.inp 0) .nil)) .nil)) (.done [] (some (.op (.bin .lss) (.cons (.inp 5) (.cons (.op .lenS (.cons (.inp 0) .nil)) .nil))))))) .skip (.exit 0)) h80_5) Q env w := rfl
def h80_7 : HC := (.loop h80_6)
@[simp] theorem h80_7_wp {P : Program} {F : PF P} {Q : EX → List Value → World → Prop} {env : List Value} {w : World} : h80_7.wp F Q env w = HC.wp F (.loop h80_6) Q env w := rfl
def h80_8 : HC := (.seq (.block 0 h80_7) h80_0)
@[simp] theorem h80_8_wp {P : Program} {F : PF P} {Q : EX → List Value → World → Prop} {env : List Value} {w : World} : h80_8.wp F Q env w = HC.wp F (.seq (.block 0 h80_7) h80_0) Q env w := rfl
def h80_9 : HC := (.seq (.reg (.done [(5, (.cst (.int .i64 0)))] none)) h80_8)
@[simp] theorem h80_9_wp {P : Program} {F : PF P} {Q : EX → List Value → World → Prop} {env : List Value} {w : World} : h80_9.wp F Q env w = HC.wp F (.seq (.reg (.done [(5, (.cst (.int .i64 0)))] none)) h80_8) Q env w := rfl
def h80_10 : HC := (.seq (.reg (.done [(3, (.cst (.slice none 0 0))), (4, (.cst (.slice none 0 0)))] none)) h80_9)
@[simp] theorem h80_10_wp {P : Program} {F : PF P} {Q : EX → List Value → World → Prop} {env : List Value} {w : World} : h80_10.wp F Q env w = HC.wp F (.seq (.reg (.done [(3, (.cst (.slice none 0 0))), (4, (.cst (.slice none 0 0)))] none)) h80_9) Q env w := rfl
def l80 : Lifted := ⟨[0, 2, 3, 4, 5, 6, 7, 8], 32, [.slot 1, .slot 2], (.seq (.reg (.done [(1, (.cst (.slice none 0 0))), (2, (.cst (.slice none 0 0)))] none)) h80_10)⟩
theorem l80_ok : liftFn F1 80 400 = some l80 := by kernel_rfl


def ints (l : List Int) : List Value := l.map (Value.int .i64)
theorem units_spec (l : List UInt8) (w0 w : World) (A : Asn) (hl : l.length ≤ 1048576) (s : St w0 A w) :
    CallW Try.prog 80 [.string (mk l)] (fun r w' => ∃ v1 v2, r = .tuple #[v1, v2] ∧
      St w0 (A * own 3 1 v1 (units l).length (ints ((units l).map (·.1))) * own 3 1 v2 (units l).length (ints ((starts 0 (units l)).map (Nat.cast)))) w') w := by
  refine callW_of_lift l80_ok (by simp [l80]) ?_
  simp [l80]
  refine loopI (fun env w' => ∃ (i : Nat) (v1 v2 u n : Value) (done : List (Int × Nat)), env = [.string (mk l), .slice none 0 0, .slice none 0 0, v1, v2, .int .i64 i, u, n] ∧ i ≤ l.length ∧
      units l = done ++ units (l.drop i) ∧ i = sumW done ∧
      St w0 (A * own 3 1 v1 done.length (ints (done.map (·.1))) * own 3 1 v2 done.length (ints ((starts 0 done).map (Nat.cast)))) w')
    (fun env _ => l.length - slotN env 5) ⟨0, _, _, _, _, [], rfl, by omega, by simp, rfl, (s.own_nil _ _).own_nil _ _⟩ ?_
  rintro LQ env w' ⟨i, v1, v2, u, n, done, rfl, hi, hu, hsum, s'⟩ hN hE hR
  simp
  refine cndI (fun h => ?_) (fun h => ?_)
  · simp at h
    simp [oneS]
    refine ⟨⟨hl, h⟩, ?_⟩
    have hle := oneF_le (l := l) (i := i) h
    have hdl : done.length ≤ l.length := by have := units_len l; rw [hu, List.length_append] at this; omega
    refine eff_bsl1 s' rfl ?_
    intro b w1 s1
    simp
    refine eff_app (n := done.length) (m := 1) (news := [.int .i64 (oneF (l.drop i)).1]) s1.p3 rfl s1.cells_look (by simp [Value.oneCell']) (by decide) rfl (by unfold maxLen; omega) (by omega) ?_
    intro v1' w2 s2
    simp
    refine eff_bsl1 s2.p3.p3.drop rfl ?_
    intro b' w3 s3
    simp
    refine eff_app (n := done.length) (m := 1) (news := [.int .i64 i]) s3.swap rfl s3.cells_look (by simp [Value.oneCell']) (by decide) rfl (by unfold maxLen; omega) (by omega) ?_
    intro v2' w4 s4
    simp
    try simp (disch := omega) only [wrap64]
    refine hN _ _ ⟨i + (oneF (l.drop i)).2, v1', v2', _, _, done ++ [oneF (l.drop i)], by simp; exact ⟨rfl, rfl⟩, hle.1, units_step hu h, by simp [sumW_append, sumW, hsum], ?_⟩ (by simp [slotN]; omega)
    have := s4.swap.drop
    simpa [ints, starts_append, starts, hsum] using this
  · simp at h
    simp
    refine hE _ _ _ ?_
    simp
    have : i = l.length := by omega
    subst this
    rw [List.drop_length, units_nil, List.append_nil] at hu
    rw [hu]
    exact ⟨_, _, ⟨rfl, rfl⟩, s'⟩

/-- the first n units' bytes -/
def cutF (l : List UInt8) (n : Int) : List UInt8 := l.take (sumW ((units l).take n.toNat))
end Go.HL.Nm
