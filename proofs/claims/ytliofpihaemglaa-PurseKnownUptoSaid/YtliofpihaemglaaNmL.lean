/-
  How units look: seen of name. No condition on the unit.
-/
import Derived.Test.YtliofpihaemglaaNmK
namespace Go.HL.Nm
open Go.HL Go.Proofs
set_option maxRecDepth 4000
set_option linter.unusedSimpArgs false
set_option linter.unusedVariables false
def likeL : List UInt8 := [48, 206, 191, 208, 190, 49, 206, 177, 208, 176, 209, 129, 208, 181, 209, 145, 206, 185, 206, 186, 208, 186, 207, 129, 209, 128, 207, 132, 209, 130, 207, 133, 206, 189, 207, 135, 209, 133, 206, 179, 209, 131, 32, 95]
def lookL : List UInt8 := [111, 111, 111, 108, 97, 97, 99, 101, 101, 105, 107, 107, 112, 112, 116, 116, 117, 118, 120, 120, 121, 121, 45, 45]
def tabL : List UInt8 := [97, 97, 97, 97, 97, 97, 230, 99, 101, 101, 101, 101, 105, 105, 105, 105, 240, 110, 111, 111, 111, 111, 111, 247, 111, 117, 117, 117, 117, 121, 254, 121]
def likeU : List (Int × Nat) := [(48, 1), (959, 2), (1086, 2), (49, 1), (945, 2), (1072, 2), (1089, 2), (1077, 2), (1105, 2), (953, 2), (954, 2), (1082, 2), (961, 2), (1088, 2), (964, 2), (1090, 2), (965, 2), (957, 2), (967, 2), (1093, 2), (947, 2), (1091, 2), (32, 1), (95, 1)]
theorem like_units : units likeL = likeU := by decide +kernel
theorem like_look : ∀ k : Fin 24, looksF (likeU.getD k.val (0, 0)).1 = ((lookL[k.val]?.getD 0).toNat : Int) ∧ runeOf (likeU.getD k.val (0, 0)).1 = (likeU.getD k.val (0, 0)).1 := by decide +kernel
theorem tab_look : ∀ k : Fin 32, looksF (224 + (k.val : Int)) = ((tabL[k.val]?.getD 0).toNat : Int) := by decide +kernel
theorem look_else (u : Int) (h : ∀ x ∈ likeU, x.1 ≠ u) (h2 : ¬ (224 ≤ u ∧ u ≤ 255)) : looksF u = u := by
  simp [likeU] at h
  unfold looksF
  repeat rw [if_neg (by omega)]
-- bazaar/name.seen
def h79_0 : HC := (.seq (.reg (.done [(1, (.inp 0))] none)) .ret)
@[simp] theorem h79_0_wp {P : Program} {F : PF P} {Q : EX → List Value → World → Prop} {env : List Value} {w : World} : h79_0.wp F Q env w = HC.wp F (.seq (.reg (.done [(1, (.inp 0))] none)) .ret) Q env w := rfl
def h79_1 : HC := (.seq (.reg (.chk none (.bin .sub) (.cons (.inp 0) (.cons (.cst (.int .i32 224)) .nil)) (.chk none .chS (.cons (.cst (.string ⟨#[97, 97, 97, 97, 97, 97, 230, 99, 101, 101, 101, 101, 105, 105, 105, 105, 240, 110, 111, 111, 111, 111, 111, 247, 111, 117, 117, 117, 117, 121, 254, 121]⟩)) (.cons (.op (.bin .sub) (.cons (.inp 0) (.cons (.cst (.int .i32 224)) .nil))) .nil)) (.chk none (.convI .i32) (.cons (.op .chS (.cons (.cst (.string ⟨#[97, 97, 97, 97, 97, 97, 230, 99, 101, 101, 101, 101, 105, 105, 105, 105, 240, 110, 111, 111, 111, 111, 111, 247, 111, 117, 117, 117, 117, 121, 254, 121]⟩)) (.cons (.op (.bin .sub) (.cons (.inp 0) (.cons (.cst (.int .i32 224)) .nil))) .nil))) .nil) (.done [(1, (.op (.convI .i32) (.cons (.op .chS (.cons (.cst (.string ⟨#[97, 97, 97, 97, 97, 97, 230, 99, 101, 101, 101, 101, 105, 105, 105, 105, 240, 110, 111, 111, 111, 111, 111, 247, 111, 117, 117, 117, 117, 121, 254, 121]⟩)) (.cons (.op (.bin .sub) (.cons (.inp 0) (.cons (.cst (.int .i32 224)) .nil))) .nil))) .nil)))] none))))) .ret)
@[simp] theorem h79_1_wp {P : Program} {F : PF P} {Q : EX → List Value → World → Prop} {env : List Value} {w : World} : h79_1.wp F Q env w = HC.wp F (.seq (.reg (.chk none (.bin .sub) (.cons (.inp 0) (.cons (.cst (.int .i32 224)) .nil)) (.chk none .chS (.cons (.cst (.string ⟨#[97, 97, 97, 97, 97, 97, 230, 99, 101, 101, 101, 101, 105, 105, 105, 105, 240, 110, 111, 111, 111, 111, 111, 247, 111, 117, 117, 117, 117, 121, 254, 121]⟩)) (.cons (.op (.bin .sub) (.cons (.inp 0) (.cons (.cst (.int .i32 224)) .nil))) .nil)) (.chk none (.convI .i32) (.cons (.op .chS (.cons (.cst (.string ⟨#[97, 97, 97, 97, 97, 97, 230, 99, 101, 101, 101, 101, 105, 105, 105, 105, 240, 110, 111, 111, 111, 111, 111, 247, 111, 117, 117, 117, 117, 121, 254, 121]⟩)) (.cons (.op (.bin .sub) (.cons (.inp 0) (.cons (.cst (.int .i32 224)) .nil))) .nil))) .nil) (.done [(1, (.op (.convI .i32) (.cons (.op .chS (.cons (.cst (.string ⟨#[97, 97, 97, 97, 97, 97, 230, 99, 101, 101, 101, 101, 105, 105, 105, 105, 240, 110, 111, 111, 111, 111, 111, 247, 111, 117, 117, 117, 117, 121, 254, 121]⟩)) (.cons (.op (.bin .sub) (.cons (.inp 0) (.cons (.cst (.int .i32 224)) .nil))) .nil))) .nil)))] none))))) .ret) Q env w := rfl
def h79_2 : HC := (.seq (.br (.chk none (.bin .geq) (.cons (.inp 0) (.cons (.cst (.int .i32 224)) .nil)) (.bnd (.op (.bin .geq) (.cons (.inp 0) (.cons (.cst (.int .i32 224)) .nil))) (.chk (some ((.bv 0), true)) (.bin .leq) (.cons (.inp 0) (.cons (.cst (.int .i32 255)) .nil)) (.isb none (.bv 0) (.done [] (some (.ite (.bv 0) true (.op (.bin .leq) (.cons (.inp 0) (.cons (.cst (.int .i32 255)) .nil))) (.cst (.bool false))))))))) h79_1 .skip) h79_0)
@[simp] theorem h79_2_wp {P : Program} {F : PF P} {Q : EX → List Value → World → Prop} {env : List Value} {w : World} : h79_2.wp F Q env w = HC.wp F (.seq (.br (.chk none (.bin .geq) (.cons (.inp 0) (.cons (.cst (.int .i32 224)) .nil)) (.bnd (.op (.bin .geq) (.cons (.inp 0) (.cons (.cst (.int .i32 224)) .nil))) (.chk (some ((.bv 0), true)) (.bin .leq) (.cons (.inp 0) (.cons (.cst (.int .i32 255)) .nil)) (.isb none (.bv 0) (.done [] (some (.ite (.bv 0) true (.op (.bin .leq) (.cons (.inp 0) (.cons (.cst (.int .i32 255)) .nil))) (.cst (.bool false))))))))) h79_1 .skip) h79_0) Q env w := rfl
def h79_3 : HC := (.reg (.chk none (.bin .add) (.cons (.inp 2) (.cons (.cst (.int .i64 1)) .nil)) (.done [(2, (.op (.bin .add) (.cons (.inp 2) (.cons (.cst (.int .i64 1)) .nil))))] none)))
@[simp] theorem h79_3_wp {P : Program} {F : PF P} {Q : EX → List Value → World → Prop} {env : List Value} {w : World} : h79_3.wp F Q env w = HC.wp F (.reg (.chk none (.bin .add) (.cons (.inp 2) (.cons (.cst (.int .i64 1)) .nil)) (.done [(2, (.op (.bin .add) (.cons (.inp 2) (.cons (.cst (.int .i64 1)) .nil))))] none))) Q env w := rfl
def h79_4 : HC := (.seq (.reg (.chk none .chS (.cons (.cst (.string ⟨#[111, 111, 111, 108, 97, 97, 99, 101, 101, 105, 107, 107, 112, 112, 116, 116, 117, 118, 120, 120, 121, 121, 45, 45]⟩)) (.cons (.inp 2) .nil)) (.chk none (.convI .i32) (.cons (.op .chS (.cons (.cst (.string ⟨#[111, 111, 111, 108, 97, 97, 99, 101, 101, 105, 107, 107, 112, 112, 116, 116, 117, 118, 120, 120, 121, 121, 45, 45]⟩)) (.cons (.inp 2) .nil))) .nil) (.done [(1, (.op (.convI .i32) (.cons (.op .chS (.cons (.cst (.string ⟨#[111, 111, 111, 108, 97, 97, 99, 101, 101, 105, 107, 107, 112, 112, 116, 116, 117, 118, 120, 120, 121, 121, 45, 45]⟩)) (.cons (.inp 2) .nil))) .nil)))] none)))) .ret)
@[simp] theorem h79_4_wp {P : Program} {F : PF P} {Q : EX → List Value → World → Prop} {env : List Value} {w : World} : h79_4.wp F Q env w = HC.wp F (.seq (.reg (.chk none .chS (.cons (.cst (.string ⟨#[111, 111, 111, 108, 97, 97, 99, 101, 101, 105, 107, 107, 112, 112, 116, 116, 117, 118, 120, 120, 121, 121, 45, 45]⟩)) (.cons (.inp 2) .nil)) (.chk none (.convI .i32) (.cons (.op .chS (.cons (.cst (.string ⟨#[111, 111, 111, 108, 97, 97, 99, 101, 101, 105, 107, 107, 112, 112, 116, 116, 117, 118, 120, 120, 121, 121, 45, 45]⟩)) (.cons (.inp 2) .nil))) .nil) (.done [(1, (.op (.convI .i32) (.cons (.op .chS (.cons (.cst (.string ⟨#[111, 111, 111, 108, 97, 97, 99, 101, 101, 105, 107, 107, 112, 112, 116, 116, 117, 118, 120, 120, 121, 121, 45, 45]⟩)) (.cons (.inp 2) .nil))) .nil)))] none)))) .ret) Q env w := rfl
def h79_5 : HC := (.seq (.br (.chk none (.bin .eql) (.cons (.inp 3) (.cons (.inp 0) .nil)) (.done [] (some (.op (.bin .eql) (.cons (.inp 3) (.cons (.inp 0) .nil)))))) h79_4 .skip) h79_3)
@[simp] theorem h79_5_wp {P : Program} {F : PF P} {Q : EX → List Value → World → Prop} {env : List Value} {w : World} : h79_5.wp F Q env w = HC.wp F (.seq (.br (.chk none (.bin .eql) (.cons (.inp 3) (.cons (.inp 0) .nil)) (.done [] (some (.op (.bin .eql) (.cons (.inp 3) (.cons (.inp 0) .nil)))))) h79_4 .skip) h79_3) Q env w := rfl
def h79_6 : HC := (.seq (.reg (.chk none (.ext 2) (.cons (.inp 5) .nil) (.done [(3, (.op (.ext 2) (.cons (.inp 5) .nil)))] none))) h79_5)
@[simp] theorem h79_6_wp {P : Program} {F : PF P} {Q : EX → List Value → World → Prop} {env : List Value} {w : World} : h79_6.wp F Q env w = HC.wp F (.seq (.reg (.chk none (.ext 2) (.cons (.inp 5) .nil) (.done [(3, (.op (.ext 2) (.cons (.inp 5) .nil)))] none))) h79_5) Q env w := rfl
def h79_7 : HC := (.block 1 h79_6)
@[simp] theorem h79_7_wp {P : Program} {F : PF P} {Q : EX → List Value → World → Prop} {env : List Value} {w : World} : h79_7.wp F Q env w = HC.wp F (.block 1 h79_6) Q env w := rfl
def h79_8 : HC := (.seq (.br (.eff (.nxt true 0) (.cons (.inp 4) .nil) (.chk none (.ext 0) (.cons (.bv 0) .nil) (.done [(5, (.bv 0))] (some (.op (.ext 0) (.cons (.bv 0) .nil)))))) .skip (.exit 0)) h79_7)
@[simp] theorem h79_8_wp {P : Program} {F : PF P} {Q : EX → List Value → World → Prop} {env : List Value} {w : World} : h79_8.wp F Q env w = HC.wp F (.seq (.br (.eff (.nxt true 0) (.cons (.inp 4) .nil) (.chk none (.ext 0) (.cons (.bv 0) .nil) (.done [(5, (.bv 0))] (some (.op (.ext 0) (.cons (.bv 0) .nil)))))) .skip (.exit 0)) h79_7) Q env w := rfl
def h79_9 : HC := (.loop h79_8)
@[simp] theorem h79_9_wp {P : Program} {F : PF P} {Q : EX → List Value → World → Prop} {env : List Value} {w : World} : h79_9.wp F Q env w = HC.wp F (.loop h79_8) Q env w := rfl
def h79_10 : HC := (.seq (.block 0 h79_9) h79_2)
@[simp] theorem h79_10_wp {P : Program} {F : PF P} {Q : EX → List Value → World → Prop} {env : List Value} {w : World} : h79_10.wp F Q env w = HC.wp F (.seq (.block 0 h79_9) h79_2) Q env w := rfl
def h79_11 : HC := (.seq (.reg (.eff (.rngS 9) (.cons (.cst (.string ⟨#[48, 206, 191, 208, 190, 49, 206, 177, 208, 176, 209, 129, 208, 181, 209, 145, 206, 185, 206, 186, 208, 186, 207, 129, 209, 128, 207, 132, 209, 130, 207, 133, 206, 189, 207, 135, 209, 133, 206, 179, 209, 131, 32, 95]⟩)) .nil) (.done [(4, (.bv 0))] none))) h79_10)
@[simp] theorem h79_11_wp {P : Program} {F : PF P} {Q : EX → List Value → World → Prop} {env : List Value} {w : World} : h79_11.wp F Q env w = HC.wp F (.seq (.reg (.eff (.rngS 9) (.cons (.cst (.string ⟨#[48, 206, 191, 208, 190, 49, 206, 177, 208, 176, 209, 129, 208, 181, 209, 145, 206, 185, 206, 186, 208, 186, 207, 129, 209, 128, 207, 132, 209, 130, 207, 133, 206, 189, 207, 135, 209, 133, 206, 179, 209, 131, 32, 95]⟩)) .nil) (.done [(4, (.bv 0))] none))) h79_10) Q env w := rfl
def h79_12 : HC := (.seq (.reg (.done [(2, (.cst (.int .i64 0)))] none)) h79_11)
@[simp] theorem h79_12_wp {P : Program} {F : PF P} {Q : EX → List Value → World → Prop} {env : List Value} {w : World} : h79_12.wp F Q env w = HC.wp F (.seq (.reg (.done [(2, (.cst (.int .i64 0)))] none)) h79_11) Q env w := rfl
def l79 : Lifted := ⟨[0, 2, 3, 5, 6, 7], 29, [.slot 1], (.seq (.reg (.done [(1, (.cst (.int .i32 0)))] none)) h79_12)⟩
theorem l79_ok : liftFn F4 79 400 = some l79 := by kernel_rfl


theorem seen_spec (u : Int) (w0 w : World) (A : Asn) (s : St w0 A w) :
    CallW Try.prog 79 [.int .i32 u] (fun r w' => r = .int .i32 (looksF u) ∧ St w0 A w') w := by
  refine callW_of_lift l79_ok (by simp [l79]) ?_
  simp [l79]
  refine eff_rngS s ?_
  intro b w1 s1
  simp
  have hk1 : ∀ (done : List (Int × Nat)) (x : Int × Nat) (r : List (Int × Nat)), likeU = done ++ x :: r → done.length < 24 ∧ looksF x.1 = ((lookL[done.length]?.getD 0).toNat : Int) ∧ runeOf x.1 = x.1 := by
    intro done x r h
    have h24 : done.length < 24 := by
      have := congrArg List.length h
      simp [likeU] at this
      omega
    have hx : likeU.getD done.length (0, 0) = x := by rw [h]; simp
    have := like_look ⟨done.length, h24⟩
    simp only [hx] at this
    exact ⟨h24, this⟩
  refine loopI (fun env w' => ∃ (i : Nat) (done : List (Int × Nat)) (x t : Value), env = [.int .i32 u, .int .i32 0, .int .i64 done.length, x, .pointer (some ⟨b, 0, none⟩), t] ∧
      i ≤ likeL.length ∧ units likeL = done ++ units (likeL.drop i) ∧ (∀ x ∈ done, x.1 ≠ u) ∧ St w0 (A * pt b (.stringIter (mk likeL) i)) w')
    (fun env _ => 44 - slotN env 2) ⟨0, [], _, _, rfl, by omega, by simp, by simp, s1⟩ ?_
  rintro LQ env w' ⟨i, done, x, t, rfl, hi, hu, hne, s'⟩ hN hE hR
  simp
  refine eff_nxtS s' (fun h w2 s2 => ?_) (fun h => ?_)
  · have h : i < likeL.length := by simpa using h
    have hle := oneF_le (l := likeL) (i := i) h
    have hob := oneF_bd (l := likeL.drop i) (by simp; omega)
    rw [decode_decL, decL_oneF _ (by simp; omega)] at s2
    have hstep := units_step hu h
    rw [decode_decL, decL_oneF _ (by simp; omega)]
    have hf := hk1 done (oneF (likeL.drop i)) (units (likeL.drop (i + (oneF (likeL.drop i)).2))) (by rw [← like_units, hstep]; simp)
    simp only [hf.2.2]
    simp
    refine cndI (fun h1 => ?_) (fun h1 => ?_)
    · simp at h1
      simp
      have hlt : (lookL[done.length]?.getD 0).toNat < 256 := UInt8.toNat_lt _
      have hw : IntKind.i32.wrap (((lookL[done.length]?.getD 0).toNat : Nat) : Int) = ((lookL[done.length]?.getD 0).toNat : Int) := wrap32 (by omega) (by omega)
      have e : looksF u = ((lookL[done.length]?.getD 0).toNat : Int) := by rw [← h1]; exact hf.2.1
      refine ⟨by omega, hR _ _ ?_⟩
      simp
      exact ⟨hw.trans e.symm, s2.drop⟩
    · simp at h1
      simp
      try simp (disch := omega) only [wrap64]
      refine hN _ _ ⟨i + (oneF (likeL.drop i)).2, done ++ [oneF (likeL.drop i)], _, _, by simp; exact ⟨rfl, rfl⟩, hle.1, hstep, ?_, s2⟩ (by simp [slotN]; omega)
      intro x hx
      rcases List.mem_append.1 hx with hx | hx
      · exact hne x hx
      · simp at hx; subst hx; exact h1
  · have h : ¬ i < likeL.length := by simpa using h
    simp
    refine hE _ _ _ ?_
    simp
    have : i = likeL.length := by omega
    subst this
    rw [List.drop_length, units_nil, List.append_nil, like_units] at hu
    rw [← hu] at hne
    refine cndI (fun h1 => ?_) (fun h1 => ?_)
    · simp at h1
      simp
      obtain ⟨k, hk⟩ := Int.eq_ofNat_of_zero_le (show 0 ≤ u - 224 by omega)
      have hwk : IntKind.i32.wrap (u - 224) = (k : Int) := by rw [hk]; exact wrap32 (by omega) (by omega)
      have hlt : (tabL[k]?.getD 0).toNat < 256 := UInt8.toNat_lt _
      have hw : IntKind.i32.wrap (((tabL[k]?.getD 0).toNat : Nat) : Int) = ((tabL[k]?.getD 0).toNat : Int) := wrap32 (by omega) (by omega)
      have e := tab_look ⟨k, by omega⟩
      rw [hwk, show u = 224 + (k : Int) by omega]
      exact ⟨⟨by omega, by omega⟩, hw.trans e.symm, s'.drop⟩
    · simp at h1
      simp
      exact ⟨(look_else u hne (by omega)).symm, s'.drop⟩
end Go.HL.Nm
