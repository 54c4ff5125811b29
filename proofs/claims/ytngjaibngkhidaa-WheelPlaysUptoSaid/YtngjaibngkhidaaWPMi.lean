/-
  What the claim leans on, part 9 of 12. Conditions: as each theorem says.
-/
import Derived.Test.YtngjaibngkhidaaWPMh
import Derived.Test.YtngjaibngkhidaaProg
namespace Go.HL.Wh
open Go.HL Go.Proofs
set_option maxRecDepth 4000
set_option linter.unusedSimpArgs false
set_option linter.unusedVariables false
noncomputable abbrev U0 : PF Try.prog := PF.none _
-- bazaar/wheel.digit
def h45_0 : HC := (.seq (.reg (.chk none (.bin .mul) (.cons (.cst (.int .i64 6)) (.cons (.inp 1) .nil)) (.chk none (.bin .shr) (.cons (.inp 0) (.cons (.op (.bin .mul) (.cons (.cst (.int .i64 6)) (.cons (.inp 1) .nil))) .nil)) (.chk none (.bin .rem) (.cons (.op (.bin .shr) (.cons (.inp 0) (.cons (.op (.bin .mul) (.cons (.cst (.int .i64 6)) (.cons (.inp 1) .nil))) .nil))) (.cons (.cst (.int .i64 64)) .nil)) (.done [(2, (.op (.bin .rem) (.cons (.op (.bin .shr) (.cons (.inp 0) (.cons (.op (.bin .mul) (.cons (.cst (.int .i64 6)) (.cons (.inp 1) .nil))) .nil))) (.cons (.cst (.int .i64 64)) .nil))))] none))))) .ret)
@[simp] theorem h45_0_wp {P : Program} {F : PF P} {Q : EX → List Value → World → Prop} {env : List Value} {w : World} : h45_0.wp F Q env w = HC.wp F (.seq (.reg (.chk none (.bin .mul) (.cons (.cst (.int .i64 6)) (.cons (.inp 1) .nil)) (.chk none (.bin .shr) (.cons (.inp 0) (.cons (.op (.bin .mul) (.cons (.cst (.int .i64 6)) (.cons (.inp 1) .nil))) .nil)) (.chk none (.bin .rem) (.cons (.op (.bin .shr) (.cons (.inp 0) (.cons (.op (.bin .mul) (.cons (.cst (.int .i64 6)) (.cons (.inp 1) .nil))) .nil))) (.cons (.cst (.int .i64 64)) .nil)) (.done [(2, (.op (.bin .rem) (.cons (.op (.bin .shr) (.cons (.inp 0) (.cons (.op (.bin .mul) (.cons (.cst (.int .i64 6)) (.cons (.inp 1) .nil))) .nil))) (.cons (.cst (.int .i64 64)) .nil))))] none))))) .ret) Q env w := rfl
def l45 : Lifted := ⟨[0, 1, 4], 10, [.slot 2], (.seq (.reg (.done [(2, (.cst (.int .i64 0)))] none)) h45_0)⟩
theorem l45_ok : liftFn U0 45 400 = some l45 := by kernel_rfl

-- (*bazaar/wheel.Wheel).at
def h32_0 : HC := (.seq (.reg (.chk none .chkp (.cons (.inp 0) .nil) (.chk none (.fld 3) (.cons (.op .chkp (.cons (.inp 0) .nil)) .nil) (.chk none (.idxP 4 64) (.cons (.op (.fld 3) (.cons (.op .chkp (.cons (.inp 0) .nil)) .nil)) (.cons (.inp 1) .nil)) (.chk none (.idxP 64 1) (.cons (.op (.idxP 4 64) (.cons (.op (.fld 3) (.cons (.op .chkp (.cons (.inp 0) .nil)) .nil)) (.cons (.inp 1) .nil))) (.cons (.inp 2) .nil)) (.done [(3, (.op (.idxP 64 1) (.cons (.op (.idxP 4 64) (.cons (.op (.fld 3) (.cons (.op .chkp (.cons (.inp 0) .nil)) .nil)) (.cons (.inp 1) .nil))) (.cons (.inp 2) .nil))))] none)))))) .ret)
@[simp] theorem h32_0_wp {P : Program} {F : PF P} {Q : EX → List Value → World → Prop} {env : List Value} {w : World} : h32_0.wp F Q env w = HC.wp F (.seq (.reg (.chk none .chkp (.cons (.inp 0) .nil) (.chk none (.fld 3) (.cons (.op .chkp (.cons (.inp 0) .nil)) .nil) (.chk none (.idxP 4 64) (.cons (.op (.fld 3) (.cons (.op .chkp (.cons (.inp 0) .nil)) .nil)) (.cons (.inp 1) .nil)) (.chk none (.idxP 64 1) (.cons (.op (.idxP 4 64) (.cons (.op (.fld 3) (.cons (.op .chkp (.cons (.inp 0) .nil)) .nil)) (.cons (.inp 1) .nil))) (.cons (.inp 2) .nil)) (.done [(3, (.op (.idxP 64 1) (.cons (.op (.idxP 4 64) (.cons (.op (.fld 3) (.cons (.op .chkp (.cons (.inp 0) .nil)) .nil)) (.cons (.inp 1) .nil))) (.cons (.inp 2) .nil))))] none)))))) .ret) Q env w := rfl
def h32_1 : HC := (.seq (.reg (.chk none .chkp (.cons (.inp 0) .nil) (.chk none (.fld 259) (.cons (.op .chkp (.cons (.inp 0) .nil)) .nil) (.done [(3, (.op (.fld 259) (.cons (.op .chkp (.cons (.inp 0) .nil)) .nil)))] none)))) .ret)
@[simp] theorem h32_1_wp {P : Program} {F : PF P} {Q : EX → List Value → World → Prop} {env : List Value} {w : World} : h32_1.wp F Q env w = HC.wp F (.seq (.reg (.chk none .chkp (.cons (.inp 0) .nil) (.chk none (.fld 259) (.cons (.op .chkp (.cons (.inp 0) .nil)) .nil) (.done [(3, (.op (.fld 259) (.cons (.op .chkp (.cons (.inp 0) .nil)) .nil)))] none)))) .ret) Q env w := rfl
def h32_2 : HC := (.seq (.br (.chk none (.bin .eql) (.cons (.inp 1) (.cons (.cst (.int .i64 4)) .nil)) (.done [] (some (.op (.bin .eql) (.cons (.inp 1) (.cons (.cst (.int .i64 4)) .nil)))))) h32_1 .skip) h32_0)
@[simp] theorem h32_2_wp {P : Program} {F : PF P} {Q : EX → List Value → World → Prop} {env : List Value} {w : World} : h32_2.wp F Q env w = HC.wp F (.seq (.br (.chk none (.bin .eql) (.cons (.inp 1) (.cons (.cst (.int .i64 4)) .nil)) (.done [] (some (.op (.bin .eql) (.cons (.inp 1) (.cons (.cst (.int .i64 4)) .nil)))))) h32_1 .skip) h32_0) Q env w := rfl
def l32 : Lifted := ⟨[0, 1, 2, 6], 19, [.slot 3], (.seq (.reg (.done [(3, (.cst (.pointer none)))] none)) h32_2)⟩
theorem l32_ok : liftFn U0 32 400 = some l32 := by kernel_rfl

-- bazaar/bazaarlaw09.num
def h10_0 : HC := (.seq (.reg (.done [(1, (.inp 0))] none)) .ret)
@[simp] theorem h10_0_wp {P : Program} {F : PF P} {Q : EX → List Value → World → Prop} {env : List Value} {w : World} : h10_0.wp F Q env w = HC.wp F (.seq (.reg (.done [(1, (.inp 0))] none)) .ret) Q env w := rfl
def l10 : Lifted := ⟨[0, 2], 4, [.slot 1], (.seq (.reg (.done [(1, (.cst (.int .i64 0)))] none)) h10_0)⟩
theorem l10_ok : liftFn U0 10 400 = some l10 := by kernel_rfl

-- bazaar/bazaarlaw09.place
def h8_0 : HC := (.seq (.reg (.done [(2, (.inp 3))] none)) .ret)
@[simp] theorem h8_0_wp {P : Program} {F : PF P} {Q : EX → List Value → World → Prop} {env : List Value} {w : World} : h8_0.wp F Q env w = HC.wp F (.seq (.reg (.done [(2, (.inp 3))] none)) .ret) Q env w := rfl
def h8_1 : HC := (.reg (.chk none (.bin .add) (.cons (.inp 3) (.cons (.inp 1) .nil)) (.done [(3, (.op (.bin .add) (.cons (.inp 3) (.cons (.inp 1) .nil))))] none)))
@[simp] theorem h8_1_wp {P : Program} {F : PF P} {Q : EX → List Value → World → Prop} {env : List Value} {w : World} : h8_1.wp F Q env w = HC.wp F (.reg (.chk none (.bin .add) (.cons (.inp 3) (.cons (.inp 1) .nil)) (.done [(3, (.op (.bin .add) (.cons (.inp 3) (.cons (.inp 1) .nil))))] none))) Q env w := rfl
def h8_2 : HC := (.seq (.br (.chk none (.bin .lss) (.cons (.inp 3) (.cons (.cst (.int .i64 0)) .nil)) (.done [] (some (.op (.bin .lss) (.cons (.inp 3) (.cons (.cst (.int .i64 0)) .nil)))))) h8_1 .skip) h8_0)
@[simp] theorem h8_2_wp {P : Program} {F : PF P} {Q : EX → List Value → World → Prop} {env : List Value} {w : World} : h8_2.wp F Q env w = HC.wp F (.seq (.br (.chk none (.bin .lss) (.cons (.inp 3) (.cons (.cst (.int .i64 0)) .nil)) (.done [] (some (.op (.bin .lss) (.cons (.inp 3) (.cons (.cst (.int .i64 0)) .nil)))))) h8_1 .skip) h8_0) Q env w := rfl
def h8_3 : HC := (.seq (.reg (.chk none (.bin .rem) (.cons (.inp 0) (.cons (.inp 1) .nil)) (.done [(3, (.op (.bin .rem) (.cons (.inp 0) (.cons (.inp 1) .nil))))] none))) h8_2)
@[simp] theorem h8_3_wp {P : Program} {F : PF P} {Q : EX → List Value → World → Prop} {env : List Value} {w : World} : h8_3.wp F Q env w = HC.wp F (.seq (.reg (.chk none (.bin .rem) (.cons (.inp 0) (.cons (.inp 1) .nil)) (.done [(3, (.op (.bin .rem) (.cons (.inp 0) (.cons (.inp 1) .nil))))] none))) h8_2) Q env w := rfl
def l8 : Lifted := ⟨[0, 1, 4, 5], 15, [.slot 2], (.seq (.reg (.done [(2, (.cst (.int .i64 0)))] none)) h8_3)⟩
theorem l8_ok : liftFn U0 8 400 = some l8 := by kernel_rfl


def digF (t l : Nat) : Nat := t / 64 ^ l % 64
def lvF (a n : Nat) : Nat × Nat :=
  if a / 16777216 ≠ n / 16777216 then (4, 0) else if digF a 3 ≠ digF n 3 then (3, digF a 3) else if digF a 2 ≠ digF n 2 then (2, digF a 2) else
  if digF a 1 ≠ digF n 1 then (1, digF a 1) else (0, digF a 0)
theorem digit_spec (t l : Nat) (w : World) (ht : t ≤ 4611686018427387904) (hl : l ≤ 3) :
    CallW Try.prog 45 [.int .i64 t, .int .i64 l] (fun r w' => r = .int .i64 (digF t l) ∧ w' = w) w := by
  refine callW_of_lift l45_ok (by simp [l45]) ?_
  have h : l = 0 ∨ l = 1 ∨ l = 2 ∨ l = 3 := by omega
  have key : ∀ c : Nat, 0 < c → (Int.fdiv (t : Int) (c : Int)).tmod 64 = ((t / c % 64 : Nat) : Int) := by
    intro c hc
    rw [Int.fdiv_eq_ediv_of_nonneg _ (by omega), Int.tmod_eq_emod_of_nonneg (Int.ediv_nonneg (by omega) (by omega))]
    rfl
  have b : IntKind.i64.bits = 64 := rfl
  rcases h with rfl | rfl | rfl | rfl
  · have := key 1 (by decide)
    have hw : IntKind.i64.wrap 0 = 0 := by decide
    simp [l45, digF, hw, b] at this ⊢
    first | exact this | simpa using this
  · have := key 64 (by decide)
    have hw : IntKind.i64.wrap 6 = 6 := by decide
    simp [l45, digF, hw, b] at this ⊢
    exact this
  · have := key 4096 (by decide)
    have hw : IntKind.i64.wrap 12 = 12 := by decide
    simp [l45, digF, hw, b] at this ⊢
    exact this
  · have := key 262144 (by decide)
    have hw : IntKind.i64.wrap 18 = 18 := by decide
    simp [l45, digF, hw, b] at this ⊢
    exact this
theorem at_spec (p : Nat) (l s : Nat) (w : World) (hl : l ≤ 4) (hs : s < 64) (h4 : l = 4 → s = 0) :
    CallW Try.prog 32 [.pointer (some ⟨p, 0, none⟩), .int .i64 l, .int .i64 s] (fun r w' => r = .pointer (some ⟨p, 3 + (l * 64 + s), none⟩) ∧ w' = w) w := by
  refine callW_of_lift l32_ok (by simp [l32]) ?_
  simp [l32]
  refine cndI (fun h => ?_) (fun h => ?_)
  · simp at h
    have : l = 4 := by omega
    subst this
    have := h4 rfl
    subst this
    simp
  · simp at h
    have : l < 4 := by omega
    simp
    omega
theorem num_spec (x : Int) (w : World) : CallW Try.prog 10 [.int .i64 x] (fun r w' => r = .int .i64 x ∧ w' = w) w := by
  refine callW_of_lift l10_ok (by simp [l10]) ?_
  simp [l10]
/-- a place among so many, out of any number -/
theorem lplace_spec (x : Int) (n : Nat) (w : World) (hn : 0 < n ∧ n ≤ 4611686018427387904) :
    CallW Try.prog 8 [.int .i64 x, .int .i64 n] (fun r w' => r = .int .i64 ((x.emod n).toNat) ∧ w' = w) w := by
  refine callW_of_lift l8_ok (by simp [l8]) ?_
  simp [l8]
  have hn0 : (n : Int) ≠ 0 := by omega
  have h0 := Int.emod_nonneg x hn0
  have h1 := Int.emod_lt_of_pos x (show (0 : Int) < n by omega)
  refine ⟨by omega, ?_⟩
  have ht := @Int.tmod_eq_emod x n
  have hm : max (x.emod n) 0 = x % n := Int.max_eq_left h0
  rw [hm]
  have h0 : 0 ≤ x % n := h0
  have h1 : x % n < n := h1
  refine cndI (fun h => ?_) (fun h => ?_)
  · simp at h
    have hc : ¬ (0 ≤ x ∨ (n : Int) ∣ x) := fun hc => by rw [if_pos hc] at ht; omega
    rw [if_neg hc] at ht
    have e : x.tmod n + n = x % n := by simp at ht; omega
    have hw : IntKind.i64.wrap (x % (n : Int)) = x % n := wrap64 (by omega) (by omega)
    simp [e, hw]
  · simp at h
    have e : x.tmod n = x % n := by
      by_cases hc : 0 ≤ x ∨ (n : Int) ∣ x
      · rw [if_pos hc] at ht; omega
      · rw [if_neg hc] at ht; simp at ht; omega
    simp [e]
noncomputable def digitS : PS Try.prog where
  f := 45
  val args := match args with
    | [.int _ t, .int _ l] => .int .i64 (digF t.toNat l.toNat)
    | _ => undef
  ok args := match args with
    | [.int k t, .int k' l] => k = .i64 ∧ k' = .i64 ∧ 0 ≤ t ∧ t ≤ 4611686018427387904 ∧ 0 ≤ l ∧ l ≤ 3
    | _ => False
  sound args w h := by
    split at h
    · rename_i k t k' l
      obtain ⟨rfl, rfl, h1, h2, h3, h4⟩ := h
      obtain ⟨t, rfl⟩ := Int.eq_ofNat_of_zero_le h1
      obtain ⟨l, rfl⟩ := Int.eq_ofNat_of_zero_le h3
      exact digit_spec t l w (by omega) (by omega)
    · exact h.elim
noncomputable def atS : PS Try.prog where
  f := 32
  val args := match args with
    | [.pointer (some a), .int _ l, .int _ s] => .pointer (some ⟨a.block, 3 + (l.toNat * 64 + s.toNat), none⟩)
    | _ => undef
  ok args := match args with
    | [.pointer (some a), .int k l, .int k' s] => a = ⟨a.block, 0, none⟩ ∧ k = .i64 ∧ k' = .i64 ∧ 0 ≤ l ∧ l ≤ 4 ∧ 0 ≤ s ∧ s < 64 ∧ (l = 4 → s = 0)
    | _ => False
  sound args w h := by
    split at h
    · rename_i a k l k' s
      obtain ⟨ha, rfl, rfl, h1, h2, h3, h4, h5⟩ := h
      obtain ⟨l, rfl⟩ := Int.eq_ofNat_of_zero_le h1
      obtain ⟨s, rfl⟩ := Int.eq_ofNat_of_zero_le h3
      rw [ha]
      exact at_spec a.block l s w (by omega) (by omega) (by omega)
    · exact h.elim
noncomputable def numS : PS Try.prog where
  f := 10
  val args := match args with
    | [.int _ x] => .int .i64 x
    | _ => undef
  ok args := match args with
    | [.int k _] => k = .i64
    | _ => False
  sound args w h := by
    split at h
    · subst h; exact num_spec _ w
    · exact h.elim
noncomputable def lplaceS : PS Try.prog where
  f := 8
  val args := match args with
    | [.int _ x, .int _ n] => .int .i64 ((x.emod n).toNat)
    | _ => undef
  ok args := match args with
    | [.int k x, .int k' n] => k = .i64 ∧ k' = .i64 ∧ 0 < n ∧ n ≤ 4611686018427387904
    | _ => False
  sound args w h := by
    split at h
    · rename_i k x k' n
      obtain ⟨rfl, rfl, h1, h2⟩ := h
      obtain ⟨n, rfl⟩ := Int.eq_ofNat_of_zero_le (Int.le_of_lt h1)
      exact lplace_spec x n w ⟨by omega, by omega⟩
    · exact h.elim
noncomputable abbrev U1 : PF Try.prog := PF.of [digitS, lplaceS]
@[simp] theorem U1_d_val (args : List Value) : U1.val 45 args = digitS.val args := rfl
@[simp] theorem U1_d_ok (args : List Value) : U1.ok 45 args = digitS.ok args := rfl
@[simp] theorem U1_l_val (args : List Value) : U1.val 8 args = lplaceS.val args := rfl
@[simp] theorem U1_l_ok (args : List Value) : U1.ok 8 args = lplaceS.ok args := rfl
@[simp] theorem digitS_val (t l : Int) : digitS.val [.int .i64 t, .int .i64 l] = .int .i64 (digF t.toNat l.toNat) := rfl
@[simp] theorem digitS_ok (t l : Int) : digitS.ok [.int .i64 t, .int .i64 l] = (IntKind.i64 = .i64 ∧ IntKind.i64 = .i64 ∧ 0 ≤ t ∧ t ≤ 4611686018427387904 ∧ 0 ≤ l ∧ l ≤ 3) := rfl
@[simp] theorem lplaceS_val (x n : Int) : lplaceS.val [.int .i64 x, .int .i64 n] = .int .i64 ((x.emod n).toNat) := rfl
@[simp] theorem lplaceS_ok (x n : Int) : lplaceS.ok [.int .i64 x, .int .i64 n] = (IntKind.i64 = .i64 ∧ IntKind.i64 = .i64 ∧ 0 < n ∧ n ≤ 4611686018427387904) := rfl
-- bazaar/wheel.place
def h31_0 : HC := (.seq (.reg (.chk none (.cal 45) (.cons (.inp 0) (.cons (.inp 4) .nil)) (.done [(2, (.inp 4)), (3, (.op (.cal 45) (.cons (.inp 0) (.cons (.inp 4) .nil))))] none))) .ret)
@[simp] theorem h31_0_wp {P : Program} {F : PF P} {Q : EX → List Value → World → Prop} {env : List Value} {w : World} : h31_0.wp F Q env w = HC.wp F (.seq (.reg (.chk none (.cal 45) (.cons (.inp 0) (.cons (.inp 4) .nil)) (.done [(2, (.inp 4)), (3, (.op (.cal 45) (.cons (.inp 0) (.cons (.inp 4) .nil))))] none))) .ret) Q env w := rfl
def h31_1 : HC := (.reg (.chk none (.bin .sub) (.cons (.inp 4) (.cons (.cst (.int .i64 1)) .nil)) (.done [(4, (.op (.bin .sub) (.cons (.inp 4) (.cons (.cst (.int .i64 1)) .nil))))] none)))
@[simp] theorem h31_1_wp {P : Program} {F : PF P} {Q : EX → List Value → World → Prop} {env : List Value} {w : World} : h31_1.wp F Q env w = HC.wp F (.reg (.chk none (.bin .sub) (.cons (.inp 4) (.cons (.cst (.int .i64 1)) .nil)) (.done [(4, (.op (.bin .sub) (.cons (.inp 4) (.cons (.cst (.int .i64 1)) .nil))))] none))) Q env w := rfl
def h31_2 : HC := (.block 1 h31_1)
@[simp] theorem h31_2_wp {P : Program} {F : PF P} {Q : EX → List Value → World → Prop} {env : List Value} {w : World} : h31_2.wp F Q env w = HC.wp F (.block 1 h31_1) Q env w := rfl
def h31_3 : HC := (.seq (.br (.chk none (.bin .gtr) (.cons (.inp 4) (.cons (.cst (.int .i64 0)) .nil)) (.bnd (.op (.bin .gtr) (.cons (.inp 4) (.cons (.cst (.int .i64 0)) .nil))) (.chk (some ((.bv 0), true)) (.cal 45) (.cons (.inp 0) (.cons (.inp 4) .nil)) (.chk (some ((.bv 0), true)) (.cal 45) (.cons (.inp 1) (.cons (.inp 4) .nil)) (.chk (some ((.bv 0), true)) (.bin .eql) (.cons (.op (.cal 45) (.cons (.inp 0) (.cons (.inp 4) .nil))) (.cons (.op (.cal 45) (.cons (.inp 1) (.cons (.inp 4) .nil))) .nil)) (.isb none (.bv 0) (.done [] (some (.ite (.bv 0) true (.op (.bin .eql) (.cons (.op (.cal 45) (.cons (.inp 0) (.cons (.inp 4) .nil))) (.cons (.op (.cal 45) (.cons (.inp 1) (.cons (.inp 4) .nil))) .nil))) (.cst (.bool false))))))))))) .skip (.exit 0)) h31_2)
@[simp] theorem h31_3_wp {P : Program} {F : PF P} {Q : EX → List Value → World → Prop} {env : List Value} {w : World} : h31_3.wp F Q env w = HC.wp F (.seq (.br (.chk none (.bin .gtr) (.cons (.inp 4) (.cons (.cst (.int .i64 0)) .nil)) (.bnd (.op (.bin .gtr) (.cons (.inp 4) (.cons (.cst (.int .i64 0)) .nil))) (.chk (some ((.bv 0), true)) (.cal 45) (.cons (.inp 0) (.cons (.inp 4) .nil)) (.chk (some ((.bv 0), true)) (.cal 45) (.cons (.inp 1) (.cons (.inp 4) .nil)) (.chk (some ((.bv 0), true)) (.bin .eql) (.cons (.op (.cal 45) (.cons (.inp 0) (.cons (.inp 4) .nil))) (.cons (.op (.cal 45) (.cons (.inp 1) (.cons (.inp 4) .nil))) .nil)) (.isb none (.bv 0) (.done [] (some (.ite (.bv 0) true (.op (.bin .eql) (.cons (.op (.cal 45) (.cons (.inp 0) (.cons (.inp 4) .nil))) (.cons (.op (.cal 45) (.cons (.inp 1) (.cons (.inp 4) .nil))) .nil))) (.cst (.bool false))))))))))) .skip (.exit 0)) h31_2) Q env w := rfl
def h31_4 : HC := (.loop h31_3)
@[simp] theorem h31_4_wp {P : Program} {F : PF P} {Q : EX → List Value → World → Prop} {env : List Value} {w : World} : h31_4.wp F Q env w = HC.wp F (.loop h31_3) Q env w := rfl
def h31_5 : HC := (.seq (.block 0 h31_4) h31_0)
@[simp] theorem h31_5_wp {P : Program} {F : PF P} {Q : EX → List Value → World → Prop} {env : List Value} {w : World} : h31_5.wp F Q env w = HC.wp F (.seq (.block 0 h31_4) h31_0) Q env w := rfl
def h31_6 : HC := (.seq (.reg (.done [(4, (.cst (.int .i64 3)))] none)) h31_5)
@[simp] theorem h31_6_wp {P : Program} {F : PF P} {Q : EX → List Value → World → Prop} {env : List Value} {w : World} : h31_6.wp F Q env w = HC.wp F (.seq (.reg (.done [(4, (.cst (.int .i64 3)))] none)) h31_5) Q env w := rfl
def h31_7 : HC := (.seq (.reg (.done [(2, (.cst (.int .i64 4))), (3, (.cst (.int .i64 0)))] none)) .ret)
@[simp] theorem h31_7_wp {P : Program} {F : PF P} {Q : EX → List Value → World → Prop} {env : List Value} {w : World} : h31_7.wp F Q env w = HC.wp F (.seq (.reg (.done [(2, (.cst (.int .i64 4))), (3, (.cst (.int .i64 0)))] none)) .ret) Q env w := rfl
def h31_8 : HC := (.seq (.br (.chk none (.bin .shr) (.cons (.inp 0) (.cons (.cst (.int .u64 24)) .nil)) (.chk none (.bin .shr) (.cons (.inp 1) (.cons (.cst (.int .u64 24)) .nil)) (.chk none (.bin .neq) (.cons (.op (.bin .shr) (.cons (.inp 0) (.cons (.cst (.int .u64 24)) .nil))) (.cons (.op (.bin .shr) (.cons (.inp 1) (.cons (.cst (.int .u64 24)) .nil))) .nil)) (.done [] (some (.op (.bin .neq) (.cons (.op (.bin .shr) (.cons (.inp 0) (.cons (.cst (.int .u64 24)) .nil))) (.cons (.op (.bin .shr) (.cons (.inp 1) (.cons (.cst (.int .u64 24)) .nil))) .nil)))))))) h31_7 .skip) h31_6)
@[simp] theorem h31_8_wp {P : Program} {F : PF P} {Q : EX → List Value → World → Prop} {env : List Value} {w : World} : h31_8.wp F Q env w = HC.wp F (.seq (.br (.chk none (.bin .shr) (.cons (.inp 0) (.cons (.cst (.int .u64 24)) .nil)) (.chk none (.bin .shr) (.cons (.inp 1) (.cons (.cst (.int .u64 24)) .nil)) (.chk none (.bin .neq) (.cons (.op (.bin .shr) (.cons (.inp 0) (.cons (.cst (.int .u64 24)) .nil))) (.cons (.op (.bin .shr) (.cons (.inp 1) (.cons (.cst (.int .u64 24)) .nil))) .nil)) (.done [] (some (.op (.bin .neq) (.cons (.op (.bin .shr) (.cons (.inp 0) (.cons (.cst (.int .u64 24)) .nil))) (.cons (.op (.bin .shr) (.cons (.inp 1) (.cons (.cst (.int .u64 24)) .nil))) .nil)))))))) h31_7 .skip) h31_6) Q env w := rfl
def l31 : Lifted := ⟨[0, 1, 4, 5, 6], 29, [.slot 2, .slot 3], (.seq (.reg (.done [(2, (.cst (.int .i64 0))), (3, (.cst (.int .i64 0)))] none)) h31_8)⟩
theorem l31_ok : liftFn U1 31 400 = some l31 := by kernel_rfl

-- bazaar/bazaarlaw09.ahead
def h11_0 : HC := (.seq (.reg (.chk none (.cal 8) (.cons (.inp 0) (.cons (.cst (.int .i64 1073741824)) .nil)) (.chk none (.bin .add) (.cons (.cst (.int .i64 1)) (.cons (.op (.cal 8) (.cons (.inp 0) (.cons (.cst (.int .i64 1073741824)) .nil))) .nil)) (.done [(1, (.op (.bin .add) (.cons (.cst (.int .i64 1)) (.cons (.op (.cal 8) (.cons (.inp 0) (.cons (.cst (.int .i64 1073741824)) .nil))) .nil))))] none)))) .ret)
@[simp] theorem h11_0_wp {P : Program} {F : PF P} {Q : EX → List Value → World → Prop} {env : List Value} {w : World} : h11_0.wp F Q env w = HC.wp F (.seq (.reg (.chk none (.cal 8) (.cons (.inp 0) (.cons (.cst (.int .i64 1073741824)) .nil)) (.chk none (.bin .add) (.cons (.cst (.int .i64 1)) (.cons (.op (.cal 8) (.cons (.inp 0) (.cons (.cst (.int .i64 1073741824)) .nil))) .nil)) (.done [(1, (.op (.bin .add) (.cons (.cst (.int .i64 1)) (.cons (.op (.cal 8) (.cons (.inp 0) (.cons (.cst (.int .i64 1073741824)) .nil))) .nil))))] none)))) .ret) Q env w := rfl
def l11 : Lifted := ⟨[0, 2], 6, [.slot 1], (.seq (.reg (.done [(1, (.cst (.int .i64 0)))] none)) h11_0)⟩
theorem l11_ok : liftFn U1 11 400 = some l11 := by kernel_rfl


theorem place_spec (a n : Nat) (w : World) (ha : a ≤ 4611686018427387904) (hn : n ≤ 4611686018427387904) :
    CallW Try.prog 31 [.int .i64 a, .int .i64 n] (fun r w' => r = .tuple #[.int .i64 (lvF a n).1, .int .i64 (lvF a n).2] ∧ w' = w) w := by
  refine callW_of_lift l31_ok (by simp [l31]) ?_
  simp [l31]
  have e24 : ∀ t : Nat, (t : Int).fdiv (2 ^ min 24 IntKind.i64.bits) = ((t / 16777216 : Nat) : Int) := fun t => by
    rw [show (2 : Int) ^ min 24 IntKind.i64.bits = 16777216 from rfl, Int.fdiv_eq_ediv_of_nonneg _ (by decide)]
    rfl
  rw [e24, e24]
  refine cndI (fun h => ?_) (fun h => ?_)
  · have : lvF a n = (4, 0) := by
      unfold lvF
      rw [if_pos]
      intro e
      rw [e] at h
      simp at h
    simp [this]
  have hq : a / 16777216 = n / 16777216 := by
    have : ((a / 16777216 : Nat) : Int) = ((n / 16777216 : Nat) : Int) := by simpa using h
    omega
  simp
  refine loopI (fun env w' => ∃ (k : Nat), env = [.int .i64 a, .int .i64 n, .int .i64 0, .int .i64 0, .int .i64 k] ∧ k ≤ 3 ∧ (∀ j, k < j → j ≤ 3 → digF a j = digF n j) ∧ w' = w)
    (fun env _ => slotN env 4) ⟨3, rfl, by omega, by intro j; omega, rfl⟩ ?_
  rintro LQ env w' ⟨k, rfl, hk, hj, rfl⟩ hN hE hR
  simp
  refine ⟨fun h0 => by omega, fun h0 => by omega, ?_⟩
  refine cndI (fun h => ?_) (fun h => ?_)
  · simp at h
    obtain ⟨h0, hd⟩ := h
    have hd : digF a k = digF n k := by omega
    simp
    have hw : IntKind.i64.wrap ((k : Int) - 1) = ((k - 1 : Nat) : Int) := by rw [wrap64 (by omega) (by omega)]; omega
    simp only [hw]
    refine hN _ _ ⟨k - 1, by simp, by omega, fun j h1 h2 => ?_, rfl⟩ (by simp [slotN]; omega)
    by_cases e : j = k
    · subst e; exact hd
    · exact hj j (by omega) h2
  simp only [Bool.and_eq_false_iff, decide_eq_false_iff_not] at h
  simp
  refine hE _ _ _ ?_
  simp
  have hlv : lvF a n = (k, digF a k) := by
    have h : k = 0 ∨ digF a k ≠ digF n k := by rcases h with h | h <;> omega
    unfold lvF
    rw [if_neg (fun e => e hq)]
    have h3 : k = 3 ∨ k = 2 ∨ k = 1 ∨ k = 0 := by omega
    rcases h3 with rfl | rfl | rfl | rfl
    · rw [if_pos (h.resolve_left (by decide))]
    · rw [if_neg (fun g => g (hj 3 (by decide) (by decide))), if_pos (h.resolve_left (by decide))]
    · rw [if_neg (fun g => g (hj 3 (by decide) (by decide))), if_neg (fun g => g (hj 2 (by decide) (by decide))), if_pos (h.resolve_left (by decide))]
    · rw [if_neg (fun g => g (hj 3 (by decide) (by decide))), if_neg (fun g => g (hj 2 (by decide) (by decide))), if_neg (fun g => g (hj 1 (by decide) (by decide)))]
  simp [hlv]
  omega
theorem ahead_spec (x : Int) (w : World) :
    CallW Try.prog 11 [.int .i64 x] (fun r w' => r = .int .i64 (1 + (x.emod 1073741824).toNat) ∧ w' = w) w := by
  refine callW_of_lift l11_ok (by simp [l11]) ?_
  simp [l11]
  have h0 : 0 ≤ x.emod 1073741824 := Int.emod_nonneg x (by decide)
  have h1 : x.emod 1073741824 < 1073741824 := Int.emod_lt_of_pos x (by decide)
  rw [Int.max_eq_left h0]
  exact wrap64 (by omega) (by omega)
end Go.HL.Wh

namespace Go.HL.Wh
open Go.HL Go.Proofs
set_option maxRecDepth 4000
set_option linter.unusedSimpArgs false
set_option linter.unusedVariables false
noncomputable def placeS : PS Try.prog where
  f := 31
  val args := match args with
    | [.int _ a, .int _ n] => .tuple #[.int .i64 (lvF a.toNat n.toNat).1, .int .i64 (lvF a.toNat n.toNat).2]
    | _ => undef
  ok args := match args with
    | [.int k a, .int k' n] => k = .i64 ∧ k' = .i64 ∧ 0 ≤ a ∧ a ≤ 4611686018427387904 ∧ 0 ≤ n ∧ n ≤ 4611686018427387904
    | _ => False
  sound args w h := by
    split at h
    · rename_i k a k' n
      obtain ⟨rfl, rfl, h1, h2, h3, h4⟩ := h
      obtain ⟨a, rfl⟩ := Int.eq_ofNat_of_zero_le h1
      obtain ⟨n, rfl⟩ := Int.eq_ofNat_of_zero_le h3
      exact place_spec a n w (by omega) (by omega)
    · exact h.elim
noncomputable def aheadS : PS Try.prog where
  f := 11
  val args := match args with
    | [.int _ x] => .int .i64 (1 + (x.emod 1073741824).toNat)
    | _ => undef
  ok args := match args with
    | [.int k x] => k = .i64
    | _ => False
  sound args w h := by
    split at h
    · subst h; exact ahead_spec _ w
    · exact h.elim
noncomputable abbrev U2 : PF Try.prog := PF.of [placeS, atS, numS, lplaceS, aheadS]
@[simp] theorem U2_p_val (args : List Value) : U2.val 31 args = placeS.val args := rfl
@[simp] theorem U2_p_ok (args : List Value) : U2.ok 31 args = placeS.ok args := rfl
@[simp] theorem U2_a_val (args : List Value) : U2.val 32 args = atS.val args := rfl
@[simp] theorem U2_a_ok (args : List Value) : U2.ok 32 args = atS.ok args := rfl
@[simp] theorem U2_n_val (args : List Value) : U2.val 10 args = numS.val args := rfl
@[simp] theorem U2_n_ok (args : List Value) : U2.ok 10 args = numS.ok args := rfl
@[simp] theorem U2_l_val (args : List Value) : U2.val 8 args = lplaceS.val args := rfl
@[simp] theorem U2_l_ok (args : List Value) : U2.ok 8 args = lplaceS.ok args := rfl
@[simp] theorem U2_h_val (args : List Value) : U2.val 11 args = aheadS.val args := rfl
@[simp] theorem U2_h_ok (args : List Value) : U2.ok 11 args = aheadS.ok args := rfl
@[simp] theorem placeS_val (a n : Int) : placeS.val [.int .i64 a, .int .i64 n] = .tuple #[.int .i64 (lvF a.toNat n.toNat).1, .int .i64 (lvF a.toNat n.toNat).2] := rfl
@[simp] theorem placeS_ok (a n : Int) : placeS.ok [.int .i64 a, .int .i64 n] = (IntKind.i64 = .i64 ∧ IntKind.i64 = .i64 ∧ 0 ≤ a ∧ a ≤ 4611686018427387904 ∧ 0 ≤ n ∧ n ≤ 4611686018427387904) := rfl
@[simp] theorem atS_val (a : Addr) (l s : Int) : atS.val [.pointer (some a), .int .i64 l, .int .i64 s] = .pointer (some ⟨a.block, 3 + (l.toNat * 64 + s.toNat), none⟩) := rfl
@[simp] theorem atS_ok (a : Addr) (l s : Int) : atS.ok [.pointer (some a), .int .i64 l, .int .i64 s] = (a = ⟨a.block, 0, none⟩ ∧ IntKind.i64 = .i64 ∧ IntKind.i64 = .i64 ∧ 0 ≤ l ∧ l ≤ 4 ∧ 0 ≤ s ∧ s < 64 ∧ (l = 4 → s = 0)) := rfl
@[simp] theorem numS_val (x : Int) : numS.val [.int .i64 x] = .int .i64 x := rfl
@[simp] theorem numS_ok (x : Int) : numS.ok [.int .i64 x] = (IntKind.i64 = .i64) := rfl
/-- how far ahead -/
def ahN (x : Int) : Nat := 1 + (x.emod 1073741824).toNat
@[simp] theorem aheadS_val (x : Int) : aheadS.val [.int .i64 x] = .int .i64 (ahN x) := rfl
@[simp] theorem aheadS_ok (x : Int) : aheadS.ok [.int .i64 x] = (IntKind.i64 = .i64) := rfl
structure Tm where
  n : Int
  a : Nat
  l : Nat
  s : Nat
  b : Nat
abbrev Tm.cs (t : Tm) : List Value := [.int .i64 t.n, .int .i64 t.a, .int .i64 t.l, .int .i64 t.s]
abbrev tmA (t : Tm) : Asn := pt t.b (.cells t.cs.toArray 79 (0, 0))
abbrev tp (t : Tm) : Value := .pointer (some ⟨t.b, 0, none⟩)
/-- a slot: its map, if it has one -/
abbrev Sl := Option (Nat × List En × Nat)
def slv : Sl → Value
  | none => .map none
  | some x => .map (some x.1)
def slA : Nat → Sl → Asn
  | _, none => emp
  | _, some x => imap x.1 x.2.1 x.2.2
def slE : Sl → List En
  | none => []
  | some x => x.2.1
def slC : Sl → Nat
  | none => 0
  | some x => x.2.2
abbrev Dk := Nat → Sl
def wcs (now mv : Nat) (am : Nat) (Y : Dk) : List Value := .int .i64 now :: .int .i64 mv :: .map (some am) :: (List.range 257).map fun q => slv (Y q)
abbrev wc (p now mv am : Nat) (Y : Dk) : Asn := pt p (.cells (wcs now mv am Y).toArray 76 (0, 0))
theorem wcs_len (now mv am : Nat) (Y : Dk) : (wcs now mv am Y).length = 260 := by simp [wcs]
theorem wcs_at (now mv am : Nat) (Y : Dk) {q : Nat} (h : q < 257) : (wcs now mv am Y)[3 + q]? = some (slv (Y q)) := by
  rw [show 3 + q = q + 1 + 1 + 1 by omega]
  simp [wcs, h]
theorem wcs_set (now mv am : Nat) (Y : Dk) {q : Nat} (h : q < 257) (x : Sl) : (wcs now mv am Y).set (3 + q) (slv x) = wcs now mv am (upF Y q x) := by
  apply List.ext_getElem?
  intro i
  by_cases hi : i < 260
  · match i, hi with
    | 0, _ => rw [List.getElem?_set_ne (by omega)]; rfl
    | 1, _ => rw [List.getElem?_set_ne (by omega)]; rfl
    | 2, _ => rw [List.getElem?_set_ne (by omega)]; rfl
    | j + 3, hi =>
      have hj : j < 257 := by omega
      rw [show j + 3 = 3 + j by omega, wcs_at _ _ _ _ hj]
      by_cases e : j = q
      · subst e
        rw [List.getElem?_set_self (by rw [wcs_len]; omega), upF_at]
      · rw [List.getElem?_set_ne (by omega), wcs_at _ _ _ _ hj, upF_ne _ _ e]
  · rw [List.getElem?_eq_none (by rw [List.length_set, wcs_len]; omega), List.getElem?_eq_none (by rw [wcs_len]; omega)]
theorem lvF_bd (a n : Nat) : (lvF a n).1 ≤ 4 ∧ (lvF a n).2 < 64 ∧ ((lvF a n).1 = 4 → (lvF a n).2 = 0) := by
  have : ∀ l, digF a l < 64 := fun l => Nat.mod_lt _ (by decide)
  unfold lvF
  repeat' split
  all_goals simp_all
theorem hungI : MapI Try.prog 72 3 77 (.pointer none) := ⟨by kernel_rfl, by kernel_rfl, by kernel_rfl⟩
-- (*bazaar/wheel.Wheel).hang
def h29_0 : HC := (.regq (some 1) (.chk none .chkp (.cons (.inp 2) .nil) (.eff (.ld false 1) (.cons (.op .chkp (.cons (.inp 2) .nil)) .nil) (.chk none .chkp (.cons (.inp 1) .nil) (.chk none (.fld 0) (.cons (.op .chkp (.cons (.inp 1) .nil)) .nil) (.chk none (.fld 0) (.cons (.op (.fld 0) (.cons (.op .chkp (.cons (.inp 1) .nil)) .nil)) .nil) (.eff (.ld false 1) (.cons (.op (.fld 0) (.cons (.op (.fld 0) (.cons (.op .chkp (.cons (.inp 1) .nil)) .nil)) .nil)) .nil) (.eff (.upd 72) (.cons (.bv 0) (.cons (.bv 1) (.cons (.inp 1) .nil))) (.done [] none)))))))))
@[simp] theorem h29_0_wp {P : Program} {F : PF P} {Q : EX → List Value → World → Prop} {env : List Value} {w : World} : h29_0.wp F Q env w = HC.wp F (.regq (some 1) (.chk none .chkp (.cons (.inp 2) .nil) (.eff (.ld false 1) (.cons (.op .chkp (.cons (.inp 2) .nil)) .nil) (.chk none .chkp (.cons (.inp 1) .nil) (.chk none (.fld 0) (.cons (.op .chkp (.cons (.inp 1) .nil)) .nil) (.chk none (.fld 0) (.cons (.op (.fld 0) (.cons (.op .chkp (.cons (.inp 1) .nil)) .nil)) .nil) (.eff (.ld false 1) (.cons (.op (.fld 0) (.cons (.op (.fld 0) (.cons (.op .chkp (.cons (.inp 1) .nil)) .nil)) .nil)) .nil) (.eff (.upd 72) (.cons (.bv 0) (.cons (.bv 1) (.cons (.inp 1) .nil))) (.done [] none))))))))) Q env w := rfl
def h29_1 : HC := (.reg (.eff (.mkm 72 false) .nil (.chk none .chkp (.cons (.inp 2) .nil) (.eff (.st 1) (.cons (.op .chkp (.cons (.inp 2) .nil)) (.cons (.bv 0) .nil)) (.done [] none)))))
@[simp] theorem h29_1_wp {P : Program} {F : PF P} {Q : EX → List Value → World → Prop} {env : List Value} {w : World} : h29_1.wp F Q env w = HC.wp F (.reg (.eff (.mkm 72 false) .nil (.chk none .chkp (.cons (.inp 2) .nil) (.eff (.st 1) (.cons (.op .chkp (.cons (.inp 2) .nil)) (.cons (.bv 0) .nil)) (.done [] none))))) Q env w := rfl
def h29_2 : HC := (.seq (.br (.chk none .chkp (.cons (.inp 2) .nil) (.eff (.ld false 1) (.cons (.op .chkp (.cons (.inp 2) .nil)) .nil) (.chk none (.eqNil false (.map 3 77) (.map none)) (.cons (.bv 0) .nil) (.done [] (some (.op (.eqNil false (.map 3 77) (.map none)) (.cons (.bv 0) .nil))))))) h29_1 .skip) h29_0)
@[simp] theorem h29_2_wp {P : Program} {F : PF P} {Q : EX → List Value → World → Prop} {env : List Value} {w : World} : h29_2.wp F Q env w = HC.wp F (.seq (.br (.chk none .chkp (.cons (.inp 2) .nil) (.eff (.ld false 1) (.cons (.op .chkp (.cons (.inp 2) .nil)) .nil) (.chk none (.eqNil false (.map 3 77) (.map none)) (.cons (.bv 0) .nil) (.done [] (some (.op (.eqNil false (.map 3 77) (.map none)) (.cons (.bv 0) .nil))))))) h29_1 .skip) h29_0) Q env w := rfl
def h29_3 : HC := (.seq (.regq (some 0) (.chk none .chkp (.cons (.inp 1) .nil) (.chk none (.fld 2) (.cons (.op .chkp (.cons (.inp 1) .nil)) .nil) (.eff (.ld false 1) (.cons (.op (.fld 2) (.cons (.op .chkp (.cons (.inp 1) .nil)) .nil)) .nil) (.chk none .chkp (.cons (.inp 1) .nil) (.chk none (.fld 3) (.cons (.op .chkp (.cons (.inp 1) .nil)) .nil) (.eff (.ld false 1) (.cons (.op (.fld 3) (.cons (.op .chkp (.cons (.inp 1) .nil)) .nil)) .nil) (.chk none (.cal 32) (.cons (.inp 0) (.cons (.bv 0) (.cons (.bv 1) .nil))) (.done [(2, (.op (.cal 32) (.cons (.inp 0) (.cons (.bv 0) (.cons (.bv 1) .nil)))))] none))))))))) h29_2)
@[simp] theorem h29_3_wp {P : Program} {F : PF P} {Q : EX → List Value → World → Prop} {env : List Value} {w : World} : h29_3.wp F Q env w = HC.wp F (.seq (.regq (some 0) (.chk none .chkp (.cons (.inp 1) .nil) (.chk none (.fld 2) (.cons (.op .chkp (.cons (.inp 1) .nil)) .nil) (.eff (.ld false 1) (.cons (.op (.fld 2) (.cons (.op .chkp (.cons (.inp 1) .nil)) .nil)) .nil) (.chk none .chkp (.cons (.inp 1) .nil) (.chk none (.fld 3) (.cons (.op .chkp (.cons (.inp 1) .nil)) .nil) (.eff (.ld false 1) (.cons (.op (.fld 3) (.cons (.op .chkp (.cons (.inp 1) .nil)) .nil)) .nil) (.chk none (.cal 32) (.cons (.inp 0) (.cons (.bv 0) (.cons (.bv 1) .nil))) (.done [(2, (.op (.cal 32) (.cons (.inp 0) (.cons (.bv 0) (.cons (.bv 1) .nil)))))] none))))))))) h29_2) Q env w := rfl
def l29 : Lifted := ⟨[0, 1, 4], 50, [], (.seq (.regq (some 1) (.chk none .chkp (.cons (.inp 1) .nil) (.chk none (.fld 0) (.cons (.op .chkp (.cons (.inp 1) .nil)) .nil) (.chk none (.fld 1) (.cons (.op (.fld 0) (.cons (.op .chkp (.cons (.inp 1) .nil)) .nil)) .nil) (.eff (.ld false 1) (.cons (.op (.fld 1) (.cons (.op (.fld 0) (.cons (.op .chkp (.cons (.inp 1) .nil)) .nil)) .nil)) .nil) (.chk none .chkp (.cons (.inp 0) .nil) (.chk none (.fld 0) (.cons (.op .chkp (.cons (.inp 0) .nil)) .nil) (.eff (.ld false 1) (.cons (.op (.fld 0) (.cons (.op .chkp (.cons (.inp 0) .nil)) .nil)) .nil) (.chk none (.cal 31) (.cons (.bv 0) (.cons (.bv 1) .nil)) (.chk none (.ext 0) (.cons (.op (.cal 31) (.cons (.bv 0) (.cons (.bv 1) .nil))) .nil) (.chk none (.ext 1) (.cons (.op (.cal 31) (.cons (.bv 0) (.cons (.bv 1) .nil))) .nil) (.chk none .chkp (.cons (.inp 1) .nil) (.chk none (.fld 2) (.cons (.op .chkp (.cons (.inp 1) .nil)) .nil) (.eff (.st 1) (.cons (.op (.fld 2) (.cons (.op .chkp (.cons (.inp 1) .nil)) .nil)) (.cons (.op (.ext 0) (.cons (.op (.cal 31) (.cons (.bv 0) (.cons (.bv 1) .nil))) .nil)) .nil)) (.chk none .chkp (.cons (.inp 1) .nil) (.chk none (.fld 3) (.cons (.op .chkp (.cons (.inp 1) .nil)) .nil) (.eff (.st 1) (.cons (.op (.fld 3) (.cons (.op .chkp (.cons (.inp 1) .nil)) .nil)) (.cons (.op (.ext 1) (.cons (.op (.cal 31) (.cons (.bv 0) (.cons (.bv 1) .nil))) .nil)) .nil)) (.done [] none)))))))))))))))))) h29_3)⟩
theorem l29_ok : liftFn U2 29 400 = some l29 := by kernel_rfl

-- (*bazaar/wheel.Wheel).drop
def h30_0 : HC := (.regq (some 1) (.chk none .chkp (.cons (.inp 1) .nil) (.chk none (.fld 2) (.cons (.op .chkp (.cons (.inp 1) .nil)) .nil) (.eff (.ld false 1) (.cons (.op (.fld 2) (.cons (.op .chkp (.cons (.inp 1) .nil)) .nil)) .nil) (.chk none .chkp (.cons (.inp 1) .nil) (.chk none (.fld 3) (.cons (.op .chkp (.cons (.inp 1) .nil)) .nil) (.eff (.ld false 1) (.cons (.op (.fld 3) (.cons (.op .chkp (.cons (.inp 1) .nil)) .nil)) .nil) (.chk none (.cal 32) (.cons (.inp 0) (.cons (.bv 0) (.cons (.bv 1) .nil))) (.chk none .chkp (.cons (.op (.cal 32) (.cons (.inp 0) (.cons (.bv 0) (.cons (.bv 1) .nil)))) .nil) (.eff (.ld false 1) (.cons (.op .chkp (.cons (.op (.cal 32) (.cons (.inp 0) (.cons (.bv 0) (.cons (.bv 1) .nil)))) .nil)) .nil) (.chk none .chkp (.cons (.inp 1) .nil) (.chk none (.fld 0) (.cons (.op .chkp (.cons (.inp 1) .nil)) .nil) (.chk none (.fld 0) (.cons (.op (.fld 0) (.cons (.op .chkp (.cons (.inp 1) .nil)) .nil)) .nil) (.eff (.ld false 1) (.cons (.op (.fld 0) (.cons (.op (.fld 0) (.cons (.op .chkp (.cons (.inp 1) .nil)) .nil)) .nil)) .nil) (.eff (.bi .delete #[72, 3] 0 #[false, false]) (.cons (.bv 2) (.cons (.bv 3) .nil)) (.done [] none))))))))))))))))
@[simp] theorem h30_0_wp {P : Program} {F : PF P} {Q : EX → List Value → World → Prop} {env : List Value} {w : World} : h30_0.wp F Q env w = HC.wp F (.regq (some 1) (.chk none .chkp (.cons (.inp 1) .nil) (.chk none (.fld 2) (.cons (.op .chkp (.cons (.inp 1) .nil)) .nil) (.eff (.ld false 1) (.cons (.op (.fld 2) (.cons (.op .chkp (.cons (.inp 1) .nil)) .nil)) .nil) (.chk none .chkp (.cons (.inp 1) .nil) (.chk none (.fld 3) (.cons (.op .chkp (.cons (.inp 1) .nil)) .nil) (.eff (.ld false 1) (.cons (.op (.fld 3) (.cons (.op .chkp (.cons (.inp 1) .nil)) .nil)) .nil) (.chk none (.cal 32) (.cons (.inp 0) (.cons (.bv 0) (.cons (.bv 1) .nil))) (.chk none .chkp (.cons (.op (.cal 32) (.cons (.inp 0) (.cons (.bv 0) (.cons (.bv 1) .nil)))) .nil) (.eff (.ld false 1) (.cons (.op .chkp (.cons (.op (.cal 32) (.cons (.inp 0) (.cons (.bv 0) (.cons (.bv 1) .nil)))) .nil)) .nil) (.chk none .chkp (.cons (.inp 1) .nil) (.chk none (.fld 0) (.cons (.op .chkp (.cons (.inp 1) .nil)) .nil) (.chk none (.fld 0) (.cons (.op (.fld 0) (.cons (.op .chkp (.cons (.inp 1) .nil)) .nil)) .nil) (.eff (.ld false 1) (.cons (.op (.fld 0) (.cons (.op (.fld 0) (.cons (.op .chkp (.cons (.inp 1) .nil)) .nil)) .nil)) .nil) (.eff (.bi .delete #[72, 3] 0 #[false, false]) (.cons (.bv 2) (.cons (.bv 3) .nil)) (.done [] none)))))))))))))))) Q env w := rfl
def l30 : Lifted := ⟨[0, 1], 30, [], (.seq (.regq (some 1) (.chk none .chkp (.cons (.inp 0) .nil) (.chk none (.fld 2) (.cons (.op .chkp (.cons (.inp 0) .nil)) .nil) (.eff (.ld false 1) (.cons (.op (.fld 2) (.cons (.op .chkp (.cons (.inp 0) .nil)) .nil)) .nil) (.chk none .chkp (.cons (.inp 1) .nil) (.chk none (.fld 0) (.cons (.op .chkp (.cons (.inp 1) .nil)) .nil) (.chk none (.fld 0) (.cons (.op (.fld 0) (.cons (.op .chkp (.cons (.inp 1) .nil)) .nil)) .nil) (.eff (.ld false 1) (.cons (.op (.fld 0) (.cons (.op (.fld 0) (.cons (.op .chkp (.cons (.inp 1) .nil)) .nil)) .nil)) .nil) (.eff (.bi .delete #[72, 3] 0 #[false, false]) (.cons (.bv 0) (.cons (.bv 1) .nil)) (.done [] none)))))))))) h30_0)⟩
theorem l30_ok : liftFn U2 30 400 = some l30 := by kernel_rfl


def hgC (w0 : World) (X : Asn) (t : Tm) (l s : Nat) : List Value → World → Prop
  | [], w => St w0 (X * tmA t) w
  | [_], w => St w0 (X * tmA { t with l := l }) w
  | _ :: _ :: _, w => St w0 (X * tmA { t with l := l, s := s }) w
def plC2 (S S' : World → Prop) : List Value → World → Prop
  | [], w => S w
  | _ :: _, w => S' w
theorem set_same {α : Type} (l : List α) (i : Nat) (v : α) (h : l[i]? = some v) : l.set i v = l := by
  apply List.ext_getElem?
  intro j
  by_cases e : j = i
  · subst e
    rw [List.getElem?_set_self (List.getElem?_eq_some_iff.1 h).1, h]
  · rw [List.getElem?_set_ne (Ne.symm e)]
theorem wc_cell {w0 w : World} {B : Asn} {p now mv am : Nat} {Y : Dk} (s : St w0 (B * wc p now mv am Y) w) {q : Nat} (h : q < 257) : w.cell? ⟨p, 3 + q, none⟩ = some (slv (Y q)) := by
  have := s.row_cells (3 + q) _ (wcs_at now mv am Y h)
  rwa [Nat.zero_add] at this
theorem wc_same (p now mv am : Nat) (Y : Dk) {q : Nat} (h : q < 257) {x x' : Sl} (hx : slv x = slv x') : wc p now mv am (upF Y q x) = wc p now mv am (upF Y q x') := by
  show pt p (.cells (wcs now mv am (upF Y q x)).toArray _ _) = pt p (.cells (wcs now mv am (upF Y q x')).toArray _ _)
  rw [← wcs_set _ _ _ _ h, ← wcs_set _ _ _ _ h, hx]
theorem wc_id (p now mv am : Nat) (Y : Dk) {q : Nat} (h : q < 257) {x : Sl} (hx : slv x = slv (Y q)) : wc p now mv am (upF Y q x) = wc p now mv am Y := by
  show pt p (.cells (wcs now mv am (upF Y q x)).toArray _ _) = pt p (.cells (wcs now mv am Y).toArray _ _)
  rw [← wcs_set _ _ _ _ h, hx, set_same _ _ _ (wcs_at _ _ _ _ h)]
def hgQ (t : Tm) (now : Nat) : Nat := (lvF t.a now).1 * 64 + (lvF t.a now).2
def hgT (t : Tm) (now : Nat) : Tm := { t with l := (lvF t.a now).1, s := (lvF t.a now).2 }
def hgX (m : Nat) (x : Sl) (t : Tm) : Sl := some (m, slE x ++ [⟨t.n, tp t, slC x⟩], slC x + 1)
theorem hang_spec (p am now mv : Nat) (Y : Dk) (t : Tm) (w0 w : World) (A : Asn) {K : Value → World → Prop} (ha : t.a ≤ 4611686018427387904) (hn : now ≤ 4611686018427387904) (hY : getI (slE (Y (hgQ t now))) t.n = none)
    (s : St w0 (A * bigA slA Y 257 * wc p now mv am Y * tmA t) w)
    (hk : ∀ r m w', (∀ x, Y (hgQ t now) = some x → m = x.1) → St w0 (A * bigA slA (upF Y (hgQ t now) (hgX m (Y (hgQ t now)) t)) 257 * wc p now mv am (upF Y (hgQ t now) (hgX m (Y (hgQ t now)) t)) * tmA (hgT t now)) w' → K r w') :
    CallW Try.prog 29 [.pointer (some ⟨p, 0, none⟩), tp t] K w := by
  obtain ⟨h1, h2, h3⟩ := lvF_bd t.a now
  obtain ⟨l, hl⟩ : ∃ l, (lvF t.a now).1 = l := ⟨_, rfl⟩
  obtain ⟨s', hs⟩ : ∃ s', (lvF t.a now).2 = s' := ⟨_, rfl⟩
  have hq : hgQ t now = l * 64 + s' := by rw [← hl, ← hs]; rfl
  have ht' : hgT t now = { t with l := l, s := s' } := by rw [← hl, ← hs]; rfl
  rw [hl] at h1 h3
  rw [hs] at h2 h3
  rw [hq] at hY hk
  rw [ht'] at hk
  obtain ⟨q, hqe⟩ : ∃ q, l * 64 + s' = q := ⟨_, rfl⟩
  have hq257 : q < 257 := by omega
  rw [hqe] at hY hk
  refine callW_of_lift l29_ok (by simp [l29]) ?_
  simp [l29]
  refine regmI (hgC w0 (A * bigA slA Y 257 * wc p now mv am Y) t l s') s.drew ?_
  simp
  refine effm_ldc (v := .int .i64 t.a) (fun vs' w he hw => ?_) ?_
  · match vs', hw with
    | [], hw => exact (show St w0 _ w from hw).row_cells 1 _ rfl
    | _ :: _, hw => simp [era] at he
  simp
  refine effm_ldc (v := .int .i64 now) (fun vs' w he hw => ?_) ?_
  · match vs', hw with
    | [], hw => exact (show St w0 _ w from hw).drop.row_cells 0 _ rfl
    | _ :: _, hw => simp [era] at he
  simp
  refine ⟨⟨by omega, by omega⟩, ?_⟩
  rw [hl]
  refine effm_mv rfl (fun w hw => eff_st1 (show St w0 (_ * tmA t) w from hw) rfl (by simp) fun w' h => ?_) (fun v _ => ?_)
  · show St w0 (_ * tmA { t with l := l }) w'
    simpa using h
  simp [hs]
  refine effm_mv rfl (fun w hw => eff_st1 (show St w0 (_ * tmA { t with l := l }) w from hw) rfl (by simp) fun w' h => ?_) (fun v _ => ?_)
  · show St w0 (_ * tmA { t with l := l, s := s' }) w'
    simpa using h
  simp
  intro w1 s1
  have s1 : St w0 (A * bigA slA Y 257 * wc p now mv am Y * tmA { t with l := l, s := s' }) w1 := s1
  refine regqI s1 ?_
  simp
  refine effq_ldc (v := .int .i64 l) (fun w h => h.row_cells 2 _ rfl) ?_
  simp
  refine effq_ldc (v := .int .i64 s') (fun w h => h.row_cells 3 _ rfl) ?_
  simp
  refine ⟨⟨by omega, by omega, by omega⟩, ?_⟩
  rw [hqe]
  intro w2 s2
  have fin : ∀ (m : Nat) (w3 : World), (∀ x, Y q = some x → m = x.1) → St w0 (A * bigH slA Y q 257 * imap m (slE (Y q)) (slC (Y q)) * wc p now mv am (upF Y q (some (m, slE (Y q), slC (Y q)))) * tmA { t with l := l, s := s' }) w3 →
      h29_0.wp U2 (endQ Try.prog [] K) [.pointer (some ⟨p, 0, none⟩), tp t, .pointer (some ⟨p, 3 + q, none⟩)] w3 := by
    intro m w3 hm s3
    simp
    refine regmI (plC2 (St w0 (A * bigH slA Y q 257 * imap m (slE (Y q)) (slC (Y q)) * wc p now mv am (upF Y q (some (m, slE (Y q), slC (Y q)))) * tmA { t with l := l, s := s' })) (St w0 (A * bigH slA Y q 257 * imap m (slE (Y q) ++ [⟨t.n, tp t, slC (Y q)⟩]) (slC (Y q) + 1) * wc p now mv am (upF Y q (some (m, slE (Y q), slC (Y q)))) * tmA { t with l := l, s := s' }))) s3.drew ?_
    simp
    refine effm_ldc (v := .map (some m)) (fun vs' w he hw => ?_) ?_
    · match vs', hw with
      | [], hw =>
        have := wc_cell (show St w0 _ w from hw).drop hq257
        rw [upF_at] at this
        exact this
      | _ :: _, hw => simp [era] at he
    simp
    refine effm_ldc (v := .int .i64 t.n) (fun vs' w he hw => ?_) ?_
    · match vs', hw with
      | [], hw => exact (show St w0 _ w from hw).row_cells 0 _ rfl
      | _ :: _, hw => simp [era] at he
    simp
    refine effm_mv rfl (fun w hw => eff_updI hungI (St.to (show St w0 _ w from hw) (B := A * bigH slA Y q 257 * wc p now mv am (upF Y q (some (m, slE (Y q), slC (Y q)))) * tmA { t with l := l, s := s' } * imap m (slE (Y q)) (slC (Y q))) (by ac_rfl)) hY fun w' h => ?_) (fun v _ => ?_)
    · show St w0 _ w'
      exact h.to (by ac_rfl)
    simp
    intro w4 s4
    have s4 : St w0 (A * bigH slA Y q 257 * imap m (slE (Y q) ++ [⟨t.n, tp t, slC (Y q)⟩]) (slC (Y q) + 1) * wc p now mv am (upF Y q (some (m, slE (Y q), slC (Y q)))) * tmA { t with l := l, s := s' }) w4 := s4
    refine hk _ m w4 hm ?_
    rw [big_set hq257]
    rw [← wc_same p now mv am Y hq257 (x := some (m, slE (Y q), slC (Y q))) (x' := hgX m (Y q) t) rfl, show slA q (hgX m (Y q) t) = imap m (slE (Y q) ++ [⟨t.n, tp t, slC (Y q)⟩]) (slC (Y q) + 1) from rfl]
    exact s4.to (by ac_rfl)
  refine eff_ldc (v := slv (Y q)) (wc_cell s2.drop hq257) ?_
  rw [big_at hq257] at s2
  cases hYq : Y q with
  | none =>
    rw [hYq] at s2
    have s2 : St w0 (A * (bigH slA Y q 257 * emp) * wc p now mv am Y * tmA { t with l := l, s := s' }) w2 := s2
    rw [sep_emp] at s2
    simp [slv]
    refine eff_mkmI s2 ?_
    intro m w3 s3
    simp
    have hlen := wcs_len now mv am Y
    refine eff_st1 (s3.to (B := A * bigH slA Y q 257 * tmA { t with l := l, s := s' } * imap m [] 0 * wc p now mv am Y) (by ac_rfl)) rfl (by simp [hlen]; omega) ?_
    intro w4 s4
    simp
    have e : (wcs now mv am Y).toArray.setIfInBounds (3 + q) (.map (some m)) = (wcs now mv am (upF Y q (some (m, slE (Y q), slC (Y q))))).toArray := by
      rw [← wcs_set _ _ _ _ hq257]
      apply Array.ext'
      simp [slv]
    rw [e] at s4
    have s4 : St w0 (A * bigH slA Y q 257 * tmA { t with l := l, s := s' } * imap m [] 0 * wc p now mv am (upF Y q (some (m, slE (Y q), slC (Y q))))) w4 := s4
    refine fin m w4 (fun x hx => by rw [hYq] at hx; cases hx) ?_
    rw [hYq] at s4 ⊢
    exact s4.to (by rw [show slE none = [] from rfl, show slC none = 0 from rfl]; ac_rfl)
  | some x =>
    rw [hYq] at s2
    have s2 : St w0 (A * (bigH slA Y q 257 * imap x.1 x.2.1 x.2.2) * wc p now mv am Y * tmA { t with l := l, s := s' }) w2 := s2
    simp [slv]
    refine fin x.1 w2 (fun y hy => by rw [hYq] at hy; cases hy; rfl) ?_
    rw [wc_id p now mv am Y hq257 (x := some (x.1, slE (Y q), slC (Y q))) (by rw [hYq]; rfl), hYq, show slE (some x) = x.2.1 from rfl, show slC (some x) = x.2.2 from rfl]
    exact s2.to (by ac_rfl)
def tmQ (t : Tm) : Nat := t.l * 64 + t.s
structure tmOK (t : Tm) : Prop where
  l : t.l ≤ 4
  s : t.s < 64
  r : t.l = 4 → t.s = 0
theorem tmQ_lt {t : Tm} (h : tmOK t) : tmQ t < 257 := by
  have := h.l; have := h.s; have := h.r
  unfold tmQ; omega
def dlX (x : Sl) (n : Int) : Sl := x.map fun x => (x.1, delI x.2.1 n, x.2.2)
theorem drop_spec (p am now mv : Nat) (Y : Dk) (t : Tm) (aes : List En) (ac : Nat) (x : Nat × List En × Nat) (w0 w : World) (A : Asn) {K : Value → World → Prop} (ht : tmOK t) (hY : Y (tmQ t) = some x)
    (s : St w0 (A * imap am aes ac * bigA slA Y 257 * wc p now mv am Y * tmA t) w)
    (hk : ∀ r w', St w0 (A * imap am (delI aes t.n) ac * bigA slA (upF Y (tmQ t) (dlX (some x) t.n)) 257 * wc p now mv am (upF Y (tmQ t) (dlX (some x) t.n)) * tmA t) w' → K r w') :
    CallW Try.prog 30 [.pointer (some ⟨p, 0, none⟩), tp t] K w := by
  have hq257 := tmQ_lt ht
  obtain ⟨h1, h2, h3⟩ := ht
  obtain ⟨q, hqe⟩ : ∃ q, tmQ t = q := ⟨_, rfl⟩
  have hqe' : t.l * 64 + t.s = q := hqe
  rw [hqe] at hY hk hq257
  refine callW_of_lift l30_ok (by simp [l30]) ?_
  simp [l30]
  refine regmI (plC2 (St w0 (A * imap am aes ac * bigA slA Y 257 * wc p now mv am Y * tmA t)) (St w0 (A * imap am (delI aes t.n) ac * bigA slA Y 257 * wc p now mv am Y * tmA t))) s.drew ?_
  simp
  refine effm_ldc (v := .map (some am)) (fun vs' w he hw => ?_) ?_
  · match vs', hw with
    | [], hw => exact (show St w0 _ w from hw).drop.row_cells 2 _ rfl
    | _ :: _, hw => simp [era] at he
  simp
  refine effm_ldc (v := .int .i64 t.n) (fun vs' w he hw => ?_) ?_
  · match vs', hw with
    | [], hw => exact (show St w0 _ w from hw).row_cells 0 _ rfl
    | _ :: _, hw => simp [era] at he
  simp
  refine effm_mv rfl (fun w hw => eff_delI hungI (St.to (show St w0 _ w from hw) (B := A * bigA slA Y 257 * wc p now mv am Y * tmA t * imap am aes ac) (by ac_rfl)) fun w' h => ?_) (fun v _ => ?_)
  · show St w0 _ w'
    exact h.to (by ac_rfl)
  simp
  intro w1 s1
  have s1 : St w0 (A * imap am (delI aes t.n) ac * bigA slA Y 257 * wc p now mv am Y * tmA t) w1 := s1
  obtain ⟨B, hB⟩ : ∃ B, A * imap am (delI aes t.n) ac = B := ⟨_, rfl⟩
  rw [hB] at s1 hk
  rw [big_at hq257, hY] at s1
  have s1 : St w0 (B * (bigH slA Y q 257 * imap x.1 x.2.1 x.2.2) * wc p now mv am Y * tmA t) w1 := s1
  refine regmI (plC2 (St w0 (B * (bigH slA Y q 257 * imap x.1 x.2.1 x.2.2) * wc p now mv am Y * tmA t)) (St w0 (B * (bigH slA Y q 257 * imap x.1 (delI x.2.1 t.n) x.2.2) * wc p now mv am Y * tmA t))) s1.drew ?_
  simp
  refine effm_ldc (v := .int .i64 t.l) (fun vs' w he hw => ?_) ?_
  · match vs', hw with
    | [], hw => exact (show St w0 _ w from hw).row_cells 2 _ rfl
    | _ :: _, hw => simp [era] at he
  simp
  refine effm_ldc (v := .int .i64 t.s) (fun vs' w he hw => ?_) ?_
  · match vs', hw with
    | [], hw => exact (show St w0 _ w from hw).row_cells 3 _ rfl
    | _ :: _, hw => simp [era] at he
  simp
  refine ⟨⟨by omega, by omega, by omega⟩, ?_⟩
  rw [hqe']
  refine effm_ldc (v := .map (some x.1)) (fun vs' w he hw => ?_) ?_
  · match vs', hw with
    | [], hw =>
      have := wc_cell (show St w0 _ w from hw).drop hq257
      rw [hY] at this
      exact this
    | _ :: _, hw => simp [era] at he
  simp
  refine effm_ldc (v := .int .i64 t.n) (fun vs' w he hw => ?_) ?_
  · match vs', hw with
    | [], hw => exact (show St w0 _ w from hw).row_cells 0 _ rfl
    | _ :: _, hw => simp [era] at he
  simp
  refine effm_mv rfl (fun w hw => eff_delI hungI (St.to (show St w0 _ w from hw) (B := B * bigH slA Y q 257 * wc p now mv am Y * tmA t * imap x.1 x.2.1 x.2.2) (by ac_rfl)) fun w' h => ?_) (fun v _ => ?_)
  · show St w0 _ w'
    exact h.to (by ac_rfl)
  simp
  intro w2 s2
  have s2 : St w0 (B * (bigH slA Y q 257 * imap x.1 (delI x.2.1 t.n) x.2.2) * wc p now mv am Y * tmA t) w2 := s2
  refine hk _ w2 ?_
  rw [big_set hq257, wc_id p now mv am Y hq257 (x := dlX (some x) t.n) (by rw [hY]; rfl), show slA q (dlX (some x) t.n) = imap x.1 (delI x.2.1 t.n) x.2.2 from rfl]
  exact s2
end Go.HL.Wh

namespace Go.HL.Wh
open Go.HL Go.Proofs
set_option maxRecDepth 4000
set_option linter.unusedSimpArgs false
set_option linter.unusedVariables false
def hungA : List Tm → Asn
  | [] => emp
  | t :: r => tmA t * hungA r
theorem hungA_app : ∀ a b : List Tm, hungA (a ++ b) = hungA a * hungA b
  | [], b => by rw [List.nil_append, hungA, emp_sep]
  | t :: r, b => by rw [List.cons_append, hungA, hungA, hungA_app r b, sep_assoc]
/-- all the others -/
def offT (ts : List Tm) (n : Int) : List Tm := ts.filter fun u => decide (u.n ≠ n)
def onT (ts : List Tm) (t' : Tm) : List Tm := ts.map fun u => if u.n = t'.n then t' else u
theorem num_inj {ts : List Tm} (h : (ts.map (·.n)).Nodup) {t u : Tm} (ht : t ∈ ts) (hu : u ∈ ts) (e : t.n = u.n) : t = u := by
  induction ts with
  | nil => cases ht
  | cons x r ih =>
    rw [List.map_cons, List.nodup_cons] at h
    rcases List.mem_cons.1 ht with ht | ht <;> rcases List.mem_cons.1 hu with hu | hu
    · rw [ht, hu]
    · exact absurd (List.mem_map.2 ⟨u, hu, by rw [← e, ht]⟩) h.1
    · exact absurd (List.mem_map.2 ⟨t, ht, by rw [e, hu]⟩) h.1
    · exact ih h.2 ht hu
theorem offT_none {ts : List Tm} {n : Int} (h : ∀ u ∈ ts, u.n ≠ n) : offT ts n = ts := List.filter_eq_self.2 fun u hu => decide_eq_true (h u hu)
theorem onT_none {ts : List Tm} {t : Tm} (h : ∀ u ∈ ts, u.n ≠ t.n) : onT ts t = ts := by
  exact (List.map_congr_left (g := id) fun u hu => if_neg (h u hu)).trans (List.map_id _)
theorem hungA_off {ts : List Tm} (h : (ts.map (·.n)).Nodup) {t : Tm} (ht : t ∈ ts) : hungA ts = hungA (offT ts t.n) * tmA t := by
  induction ts with
  | nil => cases ht
  | cons x r ih =>
    rw [List.map_cons, List.nodup_cons] at h
    rcases List.mem_cons.1 ht with rfl | ht
    · have : offT (t :: r) t.n = r := by
        unfold offT
        rw [List.filter_cons_of_neg (by simp)]
        exact offT_none fun u hu e => h.1 (List.mem_map.2 ⟨u, hu, e⟩)
      rw [this, hungA, sep_comm]
    · have hne : x.n ≠ t.n := fun e => h.1 (List.mem_map.2 ⟨t, ht, e.symm⟩)
      have : offT (x :: r) t.n = x :: offT r t.n := List.filter_cons_of_pos (by simpa using hne)
      rw [this, hungA, hungA, ih h.2 ht, sep_assoc]
theorem hungA_on {ts : List Tm} (h : (ts.map (·.n)).Nodup) {t t' : Tm} (ht : t ∈ ts) (e : t'.n = t.n) : hungA (onT ts t') = hungA (offT ts t.n) * tmA t' := by
  induction ts with
  | nil => cases ht
  | cons x r ih =>
    rw [List.map_cons, List.nodup_cons] at h
    rcases List.mem_cons.1 ht with rfl | ht
    · have h1 : ∀ u ∈ r, u.n ≠ t.n := fun u hu e => h.1 (List.mem_map.2 ⟨u, hu, e⟩)
      have : offT (t :: r) t.n = r := by
        unfold offT
        rw [List.filter_cons_of_neg (by simp)]
        exact offT_none h1
      have h2 : onT (t :: r) t' = t' :: r := by
        show (if t.n = t'.n then t' else t) :: onT r t' = _
        rw [if_pos e.symm, onT_none (fun u hu => by rw [e]; exact h1 u hu)]
      rw [this, h2, hungA, sep_comm]
    · have hne : x.n ≠ t.n := fun e => h.1 (List.mem_map.2 ⟨t, ht, e.symm⟩)
      have : offT (x :: r) t.n = x :: offT r t.n := List.filter_cons_of_pos (by simpa using hne)
      have h2 : onT (x :: r) t' = x :: onT r t' := by
        show (if x.n = t'.n then t' else x) :: onT r t' = _
        rw [if_neg (by rw [e]; exact hne)]
      rw [this, h2, hungA, hungA, ih h.2 ht, sep_assoc]
/-- a slot holds just the timers that lie there -/
structure SlOK (ts : List Tm) (q : Nat) (x : Sl) : Prop where
  ok : okE (slE x) (slC x)
  mem : ∀ n v, getI (slE x) n = some v ↔ ∃ t ∈ ts, t.n = n ∧ tmQ t = q ∧ v = tp t
structure wOK (ts : List Tm) (aes : List En) (ac : Nat) (Y : Dk) : Prop where
  num : (ts.map (·.n)).Nodup
  tm : ∀ t ∈ ts, tmOK t
  alls : aes.map (fun e => (e.k, e.v)) = ts.map fun t => (t.n, tp t)
  aok : okE aes ac
  sl : ∀ q, q < 257 → SlOK ts q (Y q)
theorem getI_alls : ∀ {aes : List En} {ts : List Tm}, aes.map (fun e => (e.k, e.v)) = ts.map (fun t => (t.n, tp t)) → ∀ n, getI aes n = (ts.find? fun t => decide (t.n = n)).map tp
  | [], [], _, _ => rfl
  | [], _ :: _, h, _ => by cases h
  | _ :: _, [], h, _ => by cases h
  | e :: r, t :: ts, h, n => by
    simp only [List.map_cons, List.cons.injEq, Prod.mk.injEq] at h
    obtain ⟨⟨h1, h2⟩, h3⟩ := h
    simp only [getI, h1, h2]
    by_cases hn : n = t.n
    · subst hn; simp
    · rw [if_neg hn, List.find?_cons_of_neg (by simpa using fun g : t.n = n => hn g.symm)]
      exact getI_alls h3 n
theorem find_num {ts : List Tm} (h : (ts.map (·.n)).Nodup) {t : Tm} (ht : t ∈ ts) : (ts.find? fun u => decide (u.n = t.n)) = some t := by
  cases hf : ts.find? fun u => decide (u.n = t.n) with
  | none =>
    have := List.find?_eq_none.1 hf t ht
    simp at this
  | some u =>
    have h1 := List.find?_some hf
    have h2 := List.mem_of_find?_eq_some hf
    rw [num_inj h h2 ht (of_decide_eq_true h1)]
theorem wOK.get {ts : List Tm} {aes : List En} {ac : Nat} {Y : Dk} (h : wOK ts aes ac Y) {t : Tm} (ht : t ∈ ts) : getI aes t.n = some (tp t) := by
  rw [getI_alls h.alls, find_num h.num ht]; rfl
theorem wOK.got {ts : List Tm} {aes : List En} {ac : Nat} {Y : Dk} (h : wOK ts aes ac Y) {n : Int} (hn : ∀ t ∈ ts, t.n ≠ n) : getI aes n = none := by
  rw [getI_alls h.alls, List.find?_eq_none.2 (fun t ht => by simpa using hn t ht)]; rfl
theorem wOK.at {ts : List Tm} {aes : List En} {ac : Nat} {Y : Dk} (h : wOK ts aes ac Y) {t : Tm} (ht : t ∈ ts) : ∃ x, Y (tmQ t) = some x := by
  have := ((h.sl _ (tmQ_lt (h.tm t ht))).mem t.n (tp t)).2 ⟨t, ht, rfl, rfl, rfl⟩
  cases hY : Y (tmQ t) with
  | none => rw [hY] at this; cases this
  | some x => exact ⟨x, rfl⟩
theorem off_nodup {ts : List Tm} (h : (ts.map (·.n)).Nodup) (n : Int) : ((offT ts n).map (·.n)).Nodup := h.sublist (List.filter_sublist.map _)
theorem map_off : ∀ {aes : List En} {ts : List Tm} (n : Int), aes.map (fun e => (e.k, e.v)) = ts.map (fun t => (t.n, tp t)) → (aes.filter fun e => decide (e.k ≠ n)).map (fun e => (e.k, e.v)) = (offT ts n).map fun t => (t.n, tp t)
  | [], [], _, _ => rfl
  | [], _ :: _, _, h => by cases h
  | _ :: _, [], _, h => by cases h
  | e :: r, t :: ts, n, h => by
    simp only [List.map_cons, List.cons.injEq, Prod.mk.injEq] at h
    obtain ⟨⟨h1, h2⟩, h3⟩ := h
    have ih := map_off n h3
    unfold offT at ih ⊢
    by_cases hn : t.n = n
    · rw [List.filter_cons_of_neg (by simp [h1, hn]), List.filter_cons_of_neg (by simp [hn])]
      exact ih
    · rw [List.filter_cons_of_pos (by simp [h1, hn]), List.filter_cons_of_pos (by simp [hn]), List.map_cons, List.map_cons, ih, h1, h2]
theorem slE_dl (x : Sl) (n : Int) : slE (dlX x n) = delI (slE x) n := by cases x <;> rfl
theorem slC_dl (x : Sl) (n : Int) : slC (dlX x n) = slC x := by cases x <;> rfl
theorem SlOK.del {ts : List Tm} {q : Nat} {x : Sl} (h : SlOK ts q x) (n : Int) : SlOK (offT ts n) q (dlX x n) := by
  refine ⟨by rw [slE_dl, slC_dl]; exact okE_del h.ok n, fun k v => ?_⟩
  rw [slE_dl, getI_del h.ok.kn]
  by_cases hk : k = n
  · subst hk
    rw [if_pos rfl]
    constructor
    · intro h; cases h
    · rintro ⟨t, ht, h1, _⟩
      have := (List.mem_filter.1 ht).2
      simp [h1] at this
  · rw [if_neg hk, h.mem]
    constructor
    · rintro ⟨t, ht, h1, h2⟩
      exact ⟨t, List.mem_filter.2 ⟨ht, by simp [h1, hk]⟩, h1, h2⟩
    · rintro ⟨t, ht, h1⟩
      exact ⟨t, (List.mem_filter.1 ht).1, h1⟩
/-- where it does not lie, there is nothing to take out -/
theorem SlOK.off {ts : List Tm} (hn : (ts.map (·.n)).Nodup) {q : Nat} {x : Sl} (h : SlOK ts q x) {t : Tm} (ht : t ∈ ts) (hq : tmQ t ≠ q) : SlOK (offT ts t.n) q x := by
  refine ⟨h.ok, fun k v => ?_⟩
  rw [h.mem]
  constructor
  · rintro ⟨u, hu, h1, h2, h3⟩
    exact ⟨u, List.mem_filter.2 ⟨hu, decide_eq_true fun e => hq (by rw [← num_inj hn hu ht e]; exact h2)⟩, h1, h2, h3⟩
  · rintro ⟨u, hu, h1⟩
    exact ⟨u, (List.mem_filter.1 hu).1, h1⟩
theorem wOK.drop {ts : List Tm} {aes : List En} {ac : Nat} {Y : Dk} (h : wOK ts aes ac Y) {t : Tm} (ht : t ∈ ts) : wOK (offT ts t.n) (delI aes t.n) ac (upF Y (tmQ t) (dlX (Y (tmQ t)) t.n)) := by
  refine ⟨off_nodup h.num _, fun u hu => h.tm u (List.mem_filter.1 hu).1, ?_, okE_del h.aok _, fun q hq => ?_⟩
  · rw [delI_eq h.aok.kn]; exact map_off t.n h.alls
  · by_cases e : q = tmQ t
    · subst e; rw [upF_at]; exact (h.sl _ hq).del t.n
    · rw [upF_ne _ _ e]; exact (h.sl q hq).off h.num ht (Ne.symm e)
theorem slE_hg (m : Nat) (x : Sl) (t : Tm) : slE (hgX m x t) = slE x ++ [⟨t.n, tp t, slC x⟩] := rfl
theorem slC_hg (m : Nat) (x : Sl) (t : Tm) : slC (hgX m x t) = slC x + 1 := rfl
/-- one more there -/
theorem SlOK.hang {ts : List Tm} {q : Nat} {x : Sl} (h : SlOK ts q x) {t t' : Tm} (e : t'.n = t.n) (eb : t'.b = t.b) (hf : ∀ u ∈ ts, u.n ≠ t.n) (hq : tmQ t' = q) (m : Nat) {ts' : List Tm} (hts : ∀ u, u ∈ ts' ↔ u ∈ ts ∨ u = t') : SlOK ts' q (hgX m x t) := by
  have hno : getI (slE x) t.n = none := by
    cases hg : getI (slE x) t.n with
    | none => rfl
    | some v =>
      obtain ⟨u, hu, h1, _⟩ := (h.mem _ _).1 hg
      exact absurd h1 (hf u hu)
  refine ⟨by rw [slE_hg, slC_hg]; exact okE_push h.ok hno _, fun k v => ?_⟩
  rw [slE_hg, getI_push _ _ _ _ hno]
  by_cases hk : k = t.n
  · subst hk
    rw [if_pos rfl]
    constructor
    · intro g; cases g
      exact ⟨t', (hts _).2 (.inr rfl), e, hq, by rw [tp, tp, eb]⟩
    · rintro ⟨u, hu, h1, _, h3⟩
      rcases (hts u).1 hu with hu | rfl
      · exact absurd h1 (hf u hu)
      · rw [h3, tp, tp, eb]
  · rw [if_neg hk, h.mem]
    constructor
    · rintro ⟨u, hu, h1⟩; exact ⟨u, (hts u).2 (.inl hu), h1⟩
    · rintro ⟨u, hu, h1, h2⟩
      rcases (hts u).1 hu with hu | rfl
      · exact ⟨u, hu, h1, h2⟩
      · exact absurd (h1.symm.trans e) hk
theorem SlOK.hung {ts : List Tm} {q : Nat} {x : Sl} (h : SlOK ts q x) {t' : Tm} (hq : tmQ t' ≠ q) {ts' : List Tm} (hts : ∀ u, u ∈ ts' ↔ u ∈ ts ∨ u = t') : SlOK ts' q x := by
  refine ⟨h.ok, fun k v => ?_⟩
  rw [h.mem]
  constructor
  · rintro ⟨u, hu, h1⟩; exact ⟨u, (hts u).2 (.inl hu), h1⟩
  · rintro ⟨u, hu, h1, h2, h3⟩
    rcases (hts u).1 hu with hu | rfl
    · exact ⟨u, hu, h1, h2, h3⟩
    · exact absurd h2 hq
theorem mem_on {ts : List Tm} {t t' : Tm} (ht : t ∈ ts) (e : t'.n = t.n) (u : Tm) : u ∈ onT ts t' ↔ u ∈ offT ts t.n ∨ u = t' := by
  unfold onT offT
  constructor
  · intro hu
    obtain ⟨x, hx, rfl⟩ := List.mem_map.1 hu
    by_cases h : x.n = t'.n
    · rw [if_pos h]; exact .inr rfl
    · rw [if_neg h]; exact .inl (List.mem_filter.2 ⟨hx, decide_eq_true fun g => h (g.trans e.symm)⟩)
  · rintro (hu | rfl)
    · obtain ⟨h1, h2⟩ := List.mem_filter.1 hu
      have h2 := of_decide_eq_true h2
      exact List.mem_map.2 ⟨u, h1, if_neg fun g => h2 (g.trans e)⟩
    · exact List.mem_map.2 ⟨t, ht, if_pos e.symm⟩
theorem on_num {ts : List Tm} (t' : Tm) : (onT ts t').map (·.n) = ts.map (·.n) := by
  unfold onT
  rw [List.map_map]
  refine List.map_congr_left fun u _ => ?_
  show (if u.n = t'.n then t' else u).n = u.n
  split
  · rename_i h; exact h.symm
  · rfl
theorem off_free {ts : List Tm} (n : Int) : ∀ u ∈ offT ts n, u.n ≠ n := fun u hu => of_decide_eq_true (List.mem_filter.1 hu).2
/-- it goes to another place -/
theorem wOK.move {ts : List Tm} {aes : List En} {ac : Nat} {Y : Dk} (h : wOK ts aes ac Y) {t t' : Tm} (ht : t ∈ ts) (e : t'.n = t.n) (eb : t'.b = t.b) (hok : tmOK t') (hne : tmQ t' ≠ tmQ t) (m : Nat) :
    wOK (onT ts t') aes ac (upF (upF Y (tmQ t) (dlX (Y (tmQ t)) t.n)) (tmQ t') (hgX m (Y (tmQ t')) t)) := by
  have hmem := mem_on ht e
  refine ⟨by rw [on_num]; exact h.num, fun u hu => ?_, ?_, h.aok, fun q hq => ?_⟩
  · rcases (hmem u).1 hu with hu | rfl
    · exact h.tm u (List.mem_filter.1 hu).1
    · exact hok
  · rw [h.alls]
    unfold onT
    rw [List.map_map]
    refine List.map_congr_left fun u hu => ?_
    show _ = ((if u.n = t'.n then t' else u).n, tp (if u.n = t'.n then t' else u))
    split
    · rename_i g
      have := num_inj h.num hu ht (g.trans e)
      subst this
      rw [e, tp, tp, eb]
    · rfl
  · by_cases e1 : q = tmQ t'
    · subst e1
      rw [upF_at]
      exact ((h.sl _ hq).off h.num ht (Ne.symm hne)).hang e eb (off_free t.n) rfl m hmem
    · rw [upF_ne _ _ e1]
      by_cases e2 : q = tmQ t
      · subst e2
        rw [upF_at]
        exact ((h.sl _ hq).del t.n).hung (Ne.symm e1) hmem
      · rw [upF_ne _ _ e2]
        exact ((h.sl q hq).off h.num ht (Ne.symm e2)).hung (Ne.symm e1) hmem
/-- a new one -/
theorem wOK.add {ts : List Tm} {aes : List En} {ac : Nat} {Y : Dk} (h : wOK ts aes ac Y) {t t' : Tm} (e : t'.n = t.n) (eb : t'.b = t.b) (hf : ∀ u ∈ ts, u.n ≠ t.n) (hok : tmOK t') (m : Nat) :
    wOK (ts ++ [t']) (aes ++ [⟨t.n, tp t, ac⟩]) (ac + 1) (upF Y (tmQ t') (hgX m (Y (tmQ t')) t)) := by
  have hmem : ∀ u, u ∈ ts ++ [t'] ↔ u ∈ ts ∨ u = t' := fun u => by simp
  refine ⟨?_, fun u hu => ?_, ?_, okE_push h.aok (h.got hf) _, fun q hq => ?_⟩
  · rw [List.map_append, List.nodup_append]
    refine ⟨h.num, by simp, fun x hx y hy => ?_⟩
    obtain ⟨u, hu, rfl⟩ := List.mem_map.1 hx
    have : y = t.n := by simpa [e] using hy
    rw [this]; exact hf u hu
  · rcases (hmem u).1 hu with hu | rfl
    · exact h.tm u hu
    · exact hok
  · rw [List.map_append, List.map_append, h.alls]
    simp [e, eb, tp]
  · by_cases e1 : q = tmQ t'
    · subst e1
      rw [upF_at]
      exact (h.sl _ hq).hang e eb hf rfl m hmem
    · rw [upF_ne _ _ e1]
      exact (h.sl q hq).hung (Ne.symm e1) hmem
/-- a wheel, with its timers where they lie -/
def whl (p now mv : Nat) (ts : List Tm) : Asn := fun h => ∃ am aes ac Y, wOK ts aes ac Y ∧ (imap am aes ac * bigA slA Y 257 * wc p now mv am Y * hungA ts) h
theorem wopen {w0 w : World} {A : Asn} {p now mv : Nat} {ts : List Tm} (s : St w0 (A * whl p now mv ts) w) : ∃ am aes ac Y, wOK ts aes ac Y ∧ St w0 (A * hungA ts * bigA slA Y 257 * imap am aes ac * wc p now mv am Y) w := by
  obtain ⟨g, h1, h2, h3, d, e, a, am, aes, ac, Y, hok, b⟩ := s.holds
  have s' : St w0 (A * (imap am aes ac * bigA slA Y 257 * wc p now mv am Y * hungA ts)) w := s.of ⟨g, h1, h2, h3, d, e, a, b⟩
  exact ⟨am, aes, ac, Y, hok, s'.to (by ac_rfl)⟩
theorem wclose {w0 w : World} {A : Asn} {p now mv am : Nat} {aes : List En} {ac : Nat} {Y : Dk} {ts : List Tm} (h : wOK ts aes ac Y) (s : St w0 (A * hungA ts * bigA slA Y 257 * imap am aes ac * wc p now mv am Y) w) : St w0 (A * whl p now mv ts) w := by
  have s' : St w0 (A * (imap am aes ac * bigA slA Y 257 * wc p now mv am Y * hungA ts)) w := s.to (by ac_rfl)
  exact s'.mono (sep_mono (fun _ h => h) fun g hg => ⟨am, aes, ac, Y, h, hg⟩)
theorem wOK.free {ts : List Tm} {aes : List En} {ac : Nat} {Y : Dk} (h : wOK ts aes ac Y) {n : Int} (hn : ∀ t ∈ ts, t.n ≠ n) {q : Nat} (hq : q < 257) : getI (slE (Y q)) n = none := by
  cases hg : getI (slE (Y q)) n with
  | none => rfl
  | some v =>
    obtain ⟨t, ht, h1, _⟩ := ((h.sl q hq).mem n v).1 hg
    exact absurd h1 (hn t ht)
theorem hgT_ok (t : Tm) (now : Nat) : tmOK (hgT t now) := ⟨(lvF_bd t.a now).1, (lvF_bd t.a now).2.1, (lvF_bd t.a now).2.2⟩
theorem hgQ_eq (t : Tm) (now : Nat) : hgQ t now = tmQ (hgT t now) := rfl
end Go.HL.Wh

namespace Go.HL.Wh
open Go.HL Go.Proofs
set_option maxRecDepth 4000
set_option linter.unusedSimpArgs false
set_option linter.unusedVariables false
-- bazaar/wheel.New
def h9_0 : HC := (.seq (.reg (.eff (.mkm 72 false) .nil (.eff (.mkm 72 false) .nil (.chk none (.build (rl [(2, (.int .i64 0)), (258, (.map none))]) [(0, 1), (1, 1), (2, 1), (3, 256), (259, 1)] [0, 2, 4]) (.cons (.inp 0) (.cons (.bv 0) (.cons (.bv 1) .nil))) (.eff (.box 76) (.cons (.op (.build (rl [(2, (.int .i64 0)), (258, (.map none))]) [(0, 1), (1, 1), (2, 1), (3, 256), (259, 1)] [0, 2, 4]) (.cons (.inp 0) (.cons (.bv 0) (.cons (.bv 1) .nil)))) .nil) (.done [(1, (.bv 2)), (2, (.cst (.int .i64 0)))] none)))))) .ret)
@[simp] theorem h9_0_wp {P : Program} {F : PF P} {Q : EX → List Value → World → Prop} {env : List Value} {w : World} : h9_0.wp F Q env w = HC.wp F (.seq (.reg (.eff (.mkm 72 false) .nil (.eff (.mkm 72 false) .nil (.chk none (.build (rl [(2, (.int .i64 0)), (258, (.map none))]) [(0, 1), (1, 1), (2, 1), (3, 256), (259, 1)] [0, 2, 4]) (.cons (.inp 0) (.cons (.bv 0) (.cons (.bv 1) .nil))) (.eff (.box 76) (.cons (.op (.build (rl [(2, (.int .i64 0)), (258, (.map none))]) [(0, 1), (1, 1), (2, 1), (3, 256), (259, 1)] [0, 2, 4]) (.cons (.inp 0) (.cons (.bv 0) (.cons (.bv 1) .nil)))) .nil) (.done [(1, (.bv 2)), (2, (.cst (.int .i64 0)))] none)))))) .ret) Q env w := rfl
def h9_1 : HC := (.seq (.reg (.done [(1, (.cst (.pointer none))), (2, (.cst (.int .i64 90)))] none)) .ret)
@[simp] theorem h9_1_wp {P : Program} {F : PF P} {Q : EX → List Value → World → Prop} {env : List Value} {w : World} : h9_1.wp F Q env w = HC.wp F (.seq (.reg (.done [(1, (.cst (.pointer none))), (2, (.cst (.int .i64 90)))] none)) .ret) Q env w := rfl
def h9_2 : HC := (.seq (.br (.chk none (.bin .lss) (.cons (.inp 0) (.cons (.cst (.int .i64 0)) .nil)) (.bnd (.op (.bin .lss) (.cons (.inp 0) (.cons (.cst (.int .i64 0)) .nil))) (.chk (some ((.bv 0), false)) (.bin .gtr) (.cons (.inp 0) (.cons (.cst (.int .i64 1099511627776)) .nil)) (.isb none (.bv 0) (.done [] (some (.ite (.bv 0) true (.cst (.bool true)) (.op (.bin .gtr) (.cons (.inp 0) (.cons (.cst (.int .i64 1099511627776)) .nil)))))))))) h9_1 .skip) h9_0)
@[simp] theorem h9_2_wp {P : Program} {F : PF P} {Q : EX → List Value → World → Prop} {env : List Value} {w : World} : h9_2.wp F Q env w = HC.wp F (.seq (.br (.chk none (.bin .lss) (.cons (.inp 0) (.cons (.cst (.int .i64 0)) .nil)) (.bnd (.op (.bin .lss) (.cons (.inp 0) (.cons (.cst (.int .i64 0)) .nil))) (.chk (some ((.bv 0), false)) (.bin .gtr) (.cons (.inp 0) (.cons (.cst (.int .i64 1099511627776)) .nil)) (.isb none (.bv 0) (.done [] (some (.ite (.bv 0) true (.cst (.bool true)) (.op (.bin .gtr) (.cons (.inp 0) (.cons (.cst (.int .i64 1099511627776)) .nil)))))))))) h9_1 .skip) h9_0) Q env w := rfl
def l9 : Lifted := ⟨[0, 2, 3], 15, [.slot 1, .slot 2], (.seq (.reg (.done [(1, (.cst (.pointer none))), (2, (.cst (.int .i64 0)))] none)) h9_2)⟩
theorem l9_ok : liftFn U2 9 400 = some l9 := by kernel_rfl

-- (*bazaar/wheel.Wheel).Schedule
def h12_0 : HC := (.seq (.reg (.done [(3, (.cst (.int .i64 0)))] none)) .ret)
@[simp] theorem h12_0_wp {P : Program} {F : PF P} {Q : EX → List Value → World → Prop} {env : List Value} {w : World} : h12_0.wp F Q env w = HC.wp F (.seq (.reg (.done [(3, (.cst (.int .i64 0)))] none)) .ret) Q env w := rfl
def h12_1 : HC := (.seq (.reg (.eff (.call 29) (.cons (.inp 0) (.cons (.inp 4) .nil)) (.done [] none))) h12_0)
@[simp] theorem h12_1_wp {P : Program} {F : PF P} {Q : EX → List Value → World → Prop} {env : List Value} {w : World} : h12_1.wp F Q env w = HC.wp F (.seq (.reg (.eff (.call 29) (.cons (.inp 0) (.cons (.inp 4) .nil)) (.done [] none))) h12_0) Q env w := rfl
def h12_2 : HC := (.seq (.reg (.chk none .chkp (.cons (.inp 0) .nil) (.chk none (.fld 2) (.cons (.op .chkp (.cons (.inp 0) .nil)) .nil) (.eff (.ld false 1) (.cons (.op (.fld 2) (.cons (.op .chkp (.cons (.inp 0) .nil)) .nil)) .nil) (.eff (.upd 72) (.cons (.bv 0) (.cons (.inp 1) (.cons (.inp 4) .nil))) (.done [] none)))))) h12_1)
@[simp] theorem h12_2_wp {P : Program} {F : PF P} {Q : EX → List Value → World → Prop} {env : List Value} {w : World} : h12_2.wp F Q env w = HC.wp F (.seq (.reg (.chk none .chkp (.cons (.inp 0) .nil) (.chk none (.fld 2) (.cons (.op .chkp (.cons (.inp 0) .nil)) .nil) (.eff (.ld false 1) (.cons (.op (.fld 2) (.cons (.op .chkp (.cons (.inp 0) .nil)) .nil)) .nil) (.eff (.upd 72) (.cons (.bv 0) (.cons (.inp 1) (.cons (.inp 4) .nil))) (.done [] none)))))) h12_1) Q env w := rfl
def h12_3 : HC := (.seq (.reg (.chk none (.build #[(.int .i64 0), (.int .i64 0)] [(0, 1), (1, 1)] [0, 1]) (.cons (.inp 1) (.cons (.inp 2) .nil)) (.chk none (.build #[(.int .i64 0), (.int .i64 0), (.int .i64 0), (.int .i64 0)] [(0, 2), (2, 1), (3, 1)] [0]) (.cons (.op (.build #[(.int .i64 0), (.int .i64 0)] [(0, 1), (1, 1)] [0, 1]) (.cons (.inp 1) (.cons (.inp 2) .nil))) .nil) (.eff (.box 79) (.cons (.op (.build #[(.int .i64 0), (.int .i64 0), (.int .i64 0), (.int .i64 0)] [(0, 2), (2, 1), (3, 1)] [0]) (.cons (.op (.build #[(.int .i64 0), (.int .i64 0)] [(0, 1), (1, 1)] [0, 1]) (.cons (.inp 1) (.cons (.inp 2) .nil))) .nil)) .nil) (.done [(4, (.bv 0))] none))))) h12_2)
@[simp] theorem h12_3_wp {P : Program} {F : PF P} {Q : EX → List Value → World → Prop} {env : List Value} {w : World} : h12_3.wp F Q env w = HC.wp F (.seq (.reg (.chk none (.build #[(.int .i64 0), (.int .i64 0)] [(0, 1), (1, 1)] [0, 1]) (.cons (.inp 1) (.cons (.inp 2) .nil)) (.chk none (.build #[(.int .i64 0), (.int .i64 0), (.int .i64 0), (.int .i64 0)] [(0, 2), (2, 1), (3, 1)] [0]) (.cons (.op (.build #[(.int .i64 0), (.int .i64 0)] [(0, 1), (1, 1)] [0, 1]) (.cons (.inp 1) (.cons (.inp 2) .nil))) .nil) (.eff (.box 79) (.cons (.op (.build #[(.int .i64 0), (.int .i64 0), (.int .i64 0), (.int .i64 0)] [(0, 2), (2, 1), (3, 1)] [0]) (.cons (.op (.build #[(.int .i64 0), (.int .i64 0)] [(0, 1), (1, 1)] [0, 1]) (.cons (.inp 1) (.cons (.inp 2) .nil))) .nil)) .nil) (.done [(4, (.bv 0))] none))))) h12_2) Q env w := rfl
def h12_4 : HC := (.seq (.reg (.done [(3, (.cst (.int .i64 1)))] none)) .ret)
@[simp] theorem h12_4_wp {P : Program} {F : PF P} {Q : EX → List Value → World → Prop} {env : List Value} {w : World} : h12_4.wp F Q env w = HC.wp F (.seq (.reg (.done [(3, (.cst (.int .i64 1)))] none)) .ret) Q env w := rfl
def h12_5 : HC := (.seq (.reg (.done [(3, (.cst (.int .i64 2)))] none)) .ret)
@[simp] theorem h12_5_wp {P : Program} {F : PF P} {Q : EX → List Value → World → Prop} {env : List Value} {w : World} : h12_5.wp F Q env w = HC.wp F (.seq (.reg (.done [(3, (.cst (.int .i64 2)))] none)) .ret) Q env w := rfl
def h12_6 : HC := (.seq (.reg (.done [(3, (.cst (.int .i64 90)))] none)) .ret)
@[simp] theorem h12_6_wp {P : Program} {F : PF P} {Q : EX → List Value → World → Prop} {env : List Value} {w : World} : h12_6.wp F Q env w = HC.wp F (.seq (.reg (.done [(3, (.cst (.int .i64 90)))] none)) .ret) Q env w := rfl
def h12_7 : HC := (.seq (.reg (.done [(3, (.cst (.int .i64 92)))] none)) .ret)
@[simp] theorem h12_7_wp {P : Program} {F : PF P} {Q : EX → List Value → World → Prop} {env : List Value} {w : World} : h12_7.wp F Q env w = HC.wp F (.seq (.reg (.done [(3, (.cst (.int .i64 92)))] none)) .ret) Q env w := rfl
def h12_8 : HC := (.seq (.reg (.done [(3, (.cst (.int .i64 91)))] none)) .ret)
@[simp] theorem h12_8_wp {P : Program} {F : PF P} {Q : EX → List Value → World → Prop} {env : List Value} {w : World} : h12_8.wp F Q env w = HC.wp F (.seq (.reg (.done [(3, (.cst (.int .i64 91)))] none)) .ret) Q env w := rfl
def h12_9 : HC := (.br (.chk none .chkp (.cons (.inp 0) .nil) (.chk none (.fld 2) (.cons (.op .chkp (.cons (.inp 0) .nil)) .nil) (.eff (.ld false 1) (.cons (.op (.fld 2) (.cons (.op .chkp (.cons (.inp 0) .nil)) .nil)) .nil) (.eff (.bi .len #[72] 3 #[false]) (.cons (.bv 0) .nil) (.chk none (.bin .geq) (.cons (.bv 1) (.cons (.cst (.int .i64 65536)) .nil)) (.done [] (some (.op (.bin .geq) (.cons (.bv 1) (.cons (.cst (.int .i64 65536)) .nil)))))))))) h12_8 .skip)
@[simp] theorem h12_9_wp {P : Program} {F : PF P} {Q : EX → List Value → World → Prop} {env : List Value} {w : World} : h12_9.wp F Q env w = HC.wp F (.br (.chk none .chkp (.cons (.inp 0) .nil) (.chk none (.fld 2) (.cons (.op .chkp (.cons (.inp 0) .nil)) .nil) (.eff (.ld false 1) (.cons (.op (.fld 2) (.cons (.op .chkp (.cons (.inp 0) .nil)) .nil)) .nil) (.eff (.bi .len #[72] 3 #[false]) (.cons (.bv 0) .nil) (.chk none (.bin .geq) (.cons (.bv 1) (.cons (.cst (.int .i64 65536)) .nil)) (.done [] (some (.op (.bin .geq) (.cons (.bv 1) (.cons (.cst (.int .i64 65536)) .nil)))))))))) h12_8 .skip) Q env w := rfl
def h12_10 : HC := (.br (.chk none .chkp (.cons (.inp 0) .nil) (.chk none (.fld 2) (.cons (.op .chkp (.cons (.inp 0) .nil)) .nil) (.eff (.ld false 1) (.cons (.op (.fld 2) (.cons (.op .chkp (.cons (.inp 0) .nil)) .nil)) .nil) (.eff (.look 72 false) (.cons (.bv 0) (.cons (.inp 1) .nil)) (.chk none (.eqNil true (.pointer 79) (.pointer none)) (.cons (.bv 1) .nil) (.done [] (some (.op (.eqNil true (.pointer 79) (.pointer none)) (.cons (.bv 1) .nil))))))))) h12_7 h12_9)
@[simp] theorem h12_10_wp {P : Program} {F : PF P} {Q : EX → List Value → World → Prop} {env : List Value} {w : World} : h12_10.wp F Q env w = HC.wp F (.br (.chk none .chkp (.cons (.inp 0) .nil) (.chk none (.fld 2) (.cons (.op .chkp (.cons (.inp 0) .nil)) .nil) (.eff (.ld false 1) (.cons (.op (.fld 2) (.cons (.op .chkp (.cons (.inp 0) .nil)) .nil)) .nil) (.eff (.look 72 false) (.cons (.bv 0) (.cons (.inp 1) .nil)) (.chk none (.eqNil true (.pointer 79) (.pointer none)) (.cons (.bv 1) .nil) (.done [] (some (.op (.eqNil true (.pointer 79) (.pointer none)) (.cons (.bv 1) .nil))))))))) h12_7 h12_9) Q env w := rfl
def h12_11 : HC := (.br (.chk none .chkp (.cons (.inp 0) .nil) (.chk none (.fld 0) (.cons (.op .chkp (.cons (.inp 0) .nil)) .nil) (.eff (.ld false 1) (.cons (.op (.fld 0) (.cons (.op .chkp (.cons (.inp 0) .nil)) .nil)) .nil) (.chk none (.bin .leq) (.cons (.inp 2) (.cons (.bv 0) .nil)) (.bnd (.op (.bin .leq) (.cons (.inp 2) (.cons (.bv 0) .nil))) (.chk (some ((.bv 1), false)) (.bin .gtr) (.cons (.inp 2) (.cons (.cst (.int .i64 1099511627776)) .nil)) (.isb none (.bv 1) (.done [] (some (.ite (.bv 1) true (.cst (.bool true)) (.op (.bin .gtr) (.cons (.inp 2) (.cons (.cst (.int .i64 1099511627776)) .nil))))))))))))) h12_6 h12_10)
@[simp] theorem h12_11_wp {P : Program} {F : PF P} {Q : EX → List Value → World → Prop} {env : List Value} {w : World} : h12_11.wp F Q env w = HC.wp F (.br (.chk none .chkp (.cons (.inp 0) .nil) (.chk none (.fld 0) (.cons (.op .chkp (.cons (.inp 0) .nil)) .nil) (.eff (.ld false 1) (.cons (.op (.fld 0) (.cons (.op .chkp (.cons (.inp 0) .nil)) .nil)) .nil) (.chk none (.bin .leq) (.cons (.inp 2) (.cons (.bv 0) .nil)) (.bnd (.op (.bin .leq) (.cons (.inp 2) (.cons (.bv 0) .nil))) (.chk (some ((.bv 1), false)) (.bin .gtr) (.cons (.inp 2) (.cons (.cst (.int .i64 1099511627776)) .nil)) (.isb none (.bv 1) (.done [] (some (.ite (.bv 1) true (.cst (.bool true)) (.op (.bin .gtr) (.cons (.inp 2) (.cons (.cst (.int .i64 1099511627776)) .nil))))))))))))) h12_6 h12_10) Q env w := rfl
def h12_12 : HC := (.br (.chk none (.bin .lss) (.cons (.inp 1) (.cons (.cst (.int .i64 1)) .nil)) (.done [] (some (.op (.bin .lss) (.cons (.inp 1) (.cons (.cst (.int .i64 1)) .nil)))))) h12_5 h12_11)
@[simp] theorem h12_12_wp {P : Program} {F : PF P} {Q : EX → List Value → World → Prop} {env : List Value} {w : World} : h12_12.wp F Q env w = HC.wp F (.br (.chk none (.bin .lss) (.cons (.inp 1) (.cons (.cst (.int .i64 1)) .nil)) (.done [] (some (.op (.bin .lss) (.cons (.inp 1) (.cons (.cst (.int .i64 1)) .nil)))))) h12_5 h12_11) Q env w := rfl
def h12_13 : HC := (.br (.chk none (.eqNil false (.pointer 76) (.pointer none)) (.cons (.inp 0) .nil) (.done [] (some (.op (.eqNil false (.pointer 76) (.pointer none)) (.cons (.inp 0) .nil))))) h12_4 h12_12)
@[simp] theorem h12_13_wp {P : Program} {F : PF P} {Q : EX → List Value → World → Prop} {env : List Value} {w : World} : h12_13.wp F Q env w = HC.wp F (.br (.chk none (.eqNil false (.pointer 76) (.pointer none)) (.cons (.inp 0) .nil) (.done [] (some (.op (.eqNil false (.pointer 76) (.pointer none)) (.cons (.inp 0) .nil))))) h12_4 h12_12) Q env w := rfl
def h12_14 : HC := (.seq (.block 0 h12_13) h12_3)
@[simp] theorem h12_14_wp {P : Program} {F : PF P} {Q : EX → List Value → World → Prop} {env : List Value} {w : World} : h12_14.wp F Q env w = HC.wp F (.seq (.block 0 h12_13) h12_3) Q env w := rfl
def l12 : Lifted := ⟨[0, 1, 2, 6, 7], 54, [.slot 3], (.seq (.reg (.done [(3, (.cst (.int .i64 0)))] none)) h12_14)⟩
theorem l12_ok : liftFn U2 12 400 = some l12 := by kernel_rfl

-- (*bazaar/wheel.Wheel).Cancel
def h13_0 : HC := (.seq (.reg (.done [(2, (.cst (.int .i64 0)))] none)) .ret)
@[simp] theorem h13_0_wp {P : Program} {F : PF P} {Q : EX → List Value → World → Prop} {env : List Value} {w : World} : h13_0.wp F Q env w = HC.wp F (.seq (.reg (.done [(2, (.cst (.int .i64 0)))] none)) .ret) Q env w := rfl
def h13_1 : HC := (.seq (.reg (.eff (.call 30) (.cons (.inp 0) (.cons (.inp 3) .nil)) (.done [] none))) h13_0)
@[simp] theorem h13_1_wp {P : Program} {F : PF P} {Q : EX → List Value → World → Prop} {env : List Value} {w : World} : h13_1.wp F Q env w = HC.wp F (.seq (.reg (.eff (.call 30) (.cons (.inp 0) (.cons (.inp 3) .nil)) (.done [] none))) h13_0) Q env w := rfl
def h13_2 : HC := (.seq (.reg (.done [(2, (.cst (.int .i64 93)))] none)) .ret)
@[simp] theorem h13_2_wp {P : Program} {F : PF P} {Q : EX → List Value → World → Prop} {env : List Value} {w : World} : h13_2.wp F Q env w = HC.wp F (.seq (.reg (.done [(2, (.cst (.int .i64 93)))] none)) .ret) Q env w := rfl
def h13_3 : HC := (.seq (.br (.chk none (.eqNil false (.pointer 79) (.pointer none)) (.cons (.inp 3) .nil) (.done [] (some (.op (.eqNil false (.pointer 79) (.pointer none)) (.cons (.inp 3) .nil))))) h13_2 .skip) h13_1)
@[simp] theorem h13_3_wp {P : Program} {F : PF P} {Q : EX → List Value → World → Prop} {env : List Value} {w : World} : h13_3.wp F Q env w = HC.wp F (.seq (.br (.chk none (.eqNil false (.pointer 79) (.pointer none)) (.cons (.inp 3) .nil) (.done [] (some (.op (.eqNil false (.pointer 79) (.pointer none)) (.cons (.inp 3) .nil))))) h13_2 .skip) h13_1) Q env w := rfl
def h13_4 : HC := (.seq (.reg (.chk none .chkp (.cons (.inp 0) .nil) (.chk none (.fld 2) (.cons (.op .chkp (.cons (.inp 0) .nil)) .nil) (.eff (.ld false 1) (.cons (.op (.fld 2) (.cons (.op .chkp (.cons (.inp 0) .nil)) .nil)) .nil) (.eff (.look 72 false) (.cons (.bv 0) (.cons (.inp 1) .nil)) (.done [(3, (.bv 1))] none)))))) h13_3)
@[simp] theorem h13_4_wp {P : Program} {F : PF P} {Q : EX → List Value → World → Prop} {env : List Value} {w : World} : h13_4.wp F Q env w = HC.wp F (.seq (.reg (.chk none .chkp (.cons (.inp 0) .nil) (.chk none (.fld 2) (.cons (.op .chkp (.cons (.inp 0) .nil)) .nil) (.eff (.ld false 1) (.cons (.op (.fld 2) (.cons (.op .chkp (.cons (.inp 0) .nil)) .nil)) .nil) (.eff (.look 72 false) (.cons (.bv 0) (.cons (.inp 1) .nil)) (.done [(3, (.bv 1))] none)))))) h13_3) Q env w := rfl
def h13_5 : HC := (.seq (.reg (.done [(2, (.cst (.int .i64 1)))] none)) .ret)
@[simp] theorem h13_5_wp {P : Program} {F : PF P} {Q : EX → List Value → World → Prop} {env : List Value} {w : World} : h13_5.wp F Q env w = HC.wp F (.seq (.reg (.done [(2, (.cst (.int .i64 1)))] none)) .ret) Q env w := rfl
def h13_6 : HC := (.seq (.br (.chk none (.eqNil false (.pointer 76) (.pointer none)) (.cons (.inp 0) .nil) (.done [] (some (.op (.eqNil false (.pointer 76) (.pointer none)) (.cons (.inp 0) .nil))))) h13_5 .skip) h13_4)
@[simp] theorem h13_6_wp {P : Program} {F : PF P} {Q : EX → List Value → World → Prop} {env : List Value} {w : World} : h13_6.wp F Q env w = HC.wp F (.seq (.br (.chk none (.eqNil false (.pointer 76) (.pointer none)) (.cons (.inp 0) .nil) (.done [] (some (.op (.eqNil false (.pointer 76) (.pointer none)) (.cons (.inp 0) .nil))))) h13_5 .skip) h13_4) Q env w := rfl
def l13 : Lifted := ⟨[0, 1, 4, 5], 19, [.slot 2], (.seq (.reg (.done [(2, (.cst (.int .i64 0)))] none)) h13_6)⟩
theorem l13_ok : liftFn U2 13 400 = some l13 := by kernel_rfl

-- (*bazaar/wheel.Wheel).Len
def h15_0 : HC := (.seq (.reg (.chk none .chkp (.cons (.inp 0) .nil) (.chk none (.fld 2) (.cons (.op .chkp (.cons (.inp 0) .nil)) .nil) (.eff (.ld false 1) (.cons (.op (.fld 2) (.cons (.op .chkp (.cons (.inp 0) .nil)) .nil)) .nil) (.eff (.bi .len #[72] 3 #[false]) (.cons (.bv 0) .nil) (.done [(1, (.bv 1))] none)))))) .ret)
@[simp] theorem h15_0_wp {P : Program} {F : PF P} {Q : EX → List Value → World → Prop} {env : List Value} {w : World} : h15_0.wp F Q env w = HC.wp F (.seq (.reg (.chk none .chkp (.cons (.inp 0) .nil) (.chk none (.fld 2) (.cons (.op .chkp (.cons (.inp 0) .nil)) .nil) (.eff (.ld false 1) (.cons (.op (.fld 2) (.cons (.op .chkp (.cons (.inp 0) .nil)) .nil)) .nil) (.eff (.bi .len #[72] 3 #[false]) (.cons (.bv 0) .nil) (.done [(1, (.bv 1))] none)))))) .ret) Q env w := rfl
def h15_1 : HC := (.seq (.reg (.done [(1, (.cst (.int .i64 0)))] none)) .ret)
@[simp] theorem h15_1_wp {P : Program} {F : PF P} {Q : EX → List Value → World → Prop} {env : List Value} {w : World} : h15_1.wp F Q env w = HC.wp F (.seq (.reg (.done [(1, (.cst (.int .i64 0)))] none)) .ret) Q env w := rfl
def h15_2 : HC := (.seq (.br (.chk none (.eqNil false (.pointer 76) (.pointer none)) (.cons (.inp 0) .nil) (.done [] (some (.op (.eqNil false (.pointer 76) (.pointer none)) (.cons (.inp 0) .nil))))) h15_1 .skip) h15_0)
@[simp] theorem h15_2_wp {P : Program} {F : PF P} {Q : EX → List Value → World → Prop} {env : List Value} {w : World} : h15_2.wp F Q env w = HC.wp F (.seq (.br (.chk none (.eqNil false (.pointer 76) (.pointer none)) (.cons (.inp 0) .nil) (.done [] (some (.op (.eqNil false (.pointer 76) (.pointer none)) (.cons (.inp 0) .nil))))) h15_1 .skip) h15_0) Q env w := rfl
def l15 : Lifted := ⟨[0, 2], 10, [.slot 1], (.seq (.reg (.done [(1, (.cst (.int .i64 0)))] none)) h15_2)⟩
theorem l15_ok : liftFn U2 15 400 = some l15 := by kernel_rfl

-- (*bazaar/wheel.Wheel).Now
def h16_0 : HC := (.seq (.reg (.chk none .chkp (.cons (.inp 0) .nil) (.chk none (.fld 0) (.cons (.op .chkp (.cons (.inp 0) .nil)) .nil) (.eff (.ld false 1) (.cons (.op (.fld 0) (.cons (.op .chkp (.cons (.inp 0) .nil)) .nil)) .nil) (.done [(1, (.bv 0))] none))))) .ret)
@[simp] theorem h16_0_wp {P : Program} {F : PF P} {Q : EX → List Value → World → Prop} {env : List Value} {w : World} : h16_0.wp F Q env w = HC.wp F (.seq (.reg (.chk none .chkp (.cons (.inp 0) .nil) (.chk none (.fld 0) (.cons (.op .chkp (.cons (.inp 0) .nil)) .nil) (.eff (.ld false 1) (.cons (.op (.fld 0) (.cons (.op .chkp (.cons (.inp 0) .nil)) .nil)) .nil) (.done [(1, (.bv 0))] none))))) .ret) Q env w := rfl
def h16_1 : HC := (.seq (.reg (.done [(1, (.cst (.int .i64 0)))] none)) .ret)
@[simp] theorem h16_1_wp {P : Program} {F : PF P} {Q : EX → List Value → World → Prop} {env : List Value} {w : World} : h16_1.wp F Q env w = HC.wp F (.seq (.reg (.done [(1, (.cst (.int .i64 0)))] none)) .ret) Q env w := rfl
def h16_2 : HC := (.seq (.br (.chk none (.eqNil false (.pointer 76) (.pointer none)) (.cons (.inp 0) .nil) (.done [] (some (.op (.eqNil false (.pointer 76) (.pointer none)) (.cons (.inp 0) .nil))))) h16_1 .skip) h16_0)
@[simp] theorem h16_2_wp {P : Program} {F : PF P} {Q : EX → List Value → World → Prop} {env : List Value} {w : World} : h16_2.wp F Q env w = HC.wp F (.seq (.br (.chk none (.eqNil false (.pointer 76) (.pointer none)) (.cons (.inp 0) .nil) (.done [] (some (.op (.eqNil false (.pointer 76) (.pointer none)) (.cons (.inp 0) .nil))))) h16_1 .skip) h16_0) Q env w := rfl
def l16 : Lifted := ⟨[0, 2], 9, [.slot 1], (.seq (.reg (.done [(1, (.cst (.int .i64 0)))] none)) h16_2)⟩
theorem l16_ok : liftFn U2 16 400 = some l16 := by kernel_rfl

-- (*bazaar/wheel.Wheel).Moves
def h17_0 : HC := (.seq (.reg (.chk none .chkp (.cons (.inp 0) .nil) (.chk none (.fld 1) (.cons (.op .chkp (.cons (.inp 0) .nil)) .nil) (.eff (.ld false 1) (.cons (.op (.fld 1) (.cons (.op .chkp (.cons (.inp 0) .nil)) .nil)) .nil) (.done [(1, (.bv 0))] none))))) .ret)
@[simp] theorem h17_0_wp {P : Program} {F : PF P} {Q : EX → List Value → World → Prop} {env : List Value} {w : World} : h17_0.wp F Q env w = HC.wp F (.seq (.reg (.chk none .chkp (.cons (.inp 0) .nil) (.chk none (.fld 1) (.cons (.op .chkp (.cons (.inp 0) .nil)) .nil) (.eff (.ld false 1) (.cons (.op (.fld 1) (.cons (.op .chkp (.cons (.inp 0) .nil)) .nil)) .nil) (.done [(1, (.bv 0))] none))))) .ret) Q env w := rfl
def h17_1 : HC := (.seq (.reg (.done [(1, (.cst (.int .i64 0)))] none)) .ret)
@[simp] theorem h17_1_wp {P : Program} {F : PF P} {Q : EX → List Value → World → Prop} {env : List Value} {w : World} : h17_1.wp F Q env w = HC.wp F (.seq (.reg (.done [(1, (.cst (.int .i64 0)))] none)) .ret) Q env w := rfl
def h17_2 : HC := (.seq (.br (.chk none (.eqNil false (.pointer 76) (.pointer none)) (.cons (.inp 0) .nil) (.done [] (some (.op (.eqNil false (.pointer 76) (.pointer none)) (.cons (.inp 0) .nil))))) h17_1 .skip) h17_0)
@[simp] theorem h17_2_wp {P : Program} {F : PF P} {Q : EX → List Value → World → Prop} {env : List Value} {w : World} : h17_2.wp F Q env w = HC.wp F (.seq (.br (.chk none (.eqNil false (.pointer 76) (.pointer none)) (.cons (.inp 0) .nil) (.done [] (some (.op (.eqNil false (.pointer 76) (.pointer none)) (.cons (.inp 0) .nil))))) h17_1 .skip) h17_0) Q env w := rfl
def l17 : Lifted := ⟨[0, 2], 9, [.slot 1], (.seq (.reg (.done [(1, (.cst (.int .i64 0)))] none)) h17_2)⟩
theorem l17_ok : liftFn U2 17 400 = some l17 := by kernel_rfl


theorem bigA_emp {α : Type} {F : Nat → α → Asn} {Y : Nat → α} : ∀ n, (∀ k, k < n → F k (Y k) = emp) → bigA F Y n = emp
  | 0, _ => rfl
  | n + 1, h => by
    show bigA F Y n * F n (Y n) = emp
    rw [bigA_emp n (fun k hk => h k (by omega)), h n (by omega), sep_emp]
theorem new_fill (now : Int) (am bm : Nat) : Instr.fill (fun x => [(0, 1), (1, 1), (2, 1), (3, 256), (259, 1)][x]?) (rl [(2, .int .i64 0), (258, .map none)]) [(0, .int .i64 now), (2, .map (some am)), (4, .map (some bm))] = some (rl [(1, .int .i64 now), (1, .int .i64 0), (1, .map (some am)), (256, .map none), (1, .map (some bm))]) := by kernel_rfl
theorem New_spec (now : Int) (w0 w : World) (A : Asn) {K : Value → World → Prop} (s : St w0 A w)
    (hk : ∀ r w', (if 0 ≤ now ∧ now ≤ 1099511627776 then ∃ p, r = .tuple #[.pointer (some ⟨p, 0, none⟩), .int .i64 0] ∧ St w0 (A * whl p now.toNat 0 []) w' else r = .tuple #[.pointer none, .int .i64 90] ∧ St w0 A w') → K r w') :
    CallW Try.prog 9 [.int .i64 now] K w := by
  refine callW_of_lift l9_ok (by simp [l9]) ?_
  simp [l9]
  refine cndI (fun h => ?_) (fun h => ?_)
  · simp at h
    simp
    refine hk _ _ ?_
    rw [if_neg (by omega)]
    exact ⟨rfl, s⟩
  simp at h
  simp
  refine eff_mkmI s ?_
  intro am w1 s1
  simp
  refine eff_mkmI s1 ?_
  intro bm w2 s2
  simp
  rw [new_fill]
  simp
  refine eff_box s2 ?_
  intro p w3 s3
  simp
  refine hk _ _ ?_
  rw [if_pos h]
  refine ⟨p, rfl, ?_⟩
  obtain ⟨now, rfl⟩ := Int.eq_ofNat_of_zero_le h.1
  have eA : rl [(1, .int .i64 now), (1, .int .i64 0), (1, .map (some am)), (256, .map none), (1, .map (some bm))] = (wcs now 0 am (upF (fun _ => none) 256 (some (bm, [], 0)))).toArray := by kernel_rfl
  have s3 : St w0 (A * imap am [] 0 * imap bm [] 0 * wc p now 0 am (upF (fun _ => none) 256 (some (bm, [], 0)))) w3 := by
    show St w0 (_ * pt p (.cells (wcs now 0 am (upF (fun _ => none) 256 (some (bm, [], 0)))).toArray _ _)) w3
    rw [← eA]
    exact s3
  have eb : bigA slA (upF (fun _ => none) 256 (some (bm, [], 0))) 257 = imap bm [] 0 := by
    show bigA slA (upF (fun _ => none) 256 (some (bm, [], 0))) 256 * slA 256 (upF (fun _ => none) 256 (some (bm, [], 0)) 256) = _
    rw [bigA_emp 256 (fun k hk => by rw [upF_ne _ _ (by omega)]; rfl), emp_sep, upF_at]
    rfl
  have hok : wOK [] [] 0 (upF (fun _ => none) 256 (some (bm, [], 0))) := ⟨by simp, by simp, rfl, okE_nil 0, fun q _ => by
    by_cases e : q = 256
    · subst e; rw [upF_at]; exact ⟨okE_nil 0, fun n v => by simp [slE, getI]⟩
    · rw [upF_ne _ _ e]; exact ⟨okE_nil 0, fun n v => by simp [slE, getI]⟩⟩
  refine wclose (am := am) hok ?_
  rw [eb, show hungA [] = emp from rfl, sep_emp]
  exact s3.to (by ac_rfl)
theorem Len_spec (p now mv : Nat) (ts : List Tm) (w0 w : World) (A : Asn) (s : St w0 (A * whl p now mv ts) w) :
    CallW Try.prog 15 [.pointer (some ⟨p, 0, none⟩)] (fun r w' => r = .int .i64 ts.length ∧ St w0 (A * whl p now mv ts) w') w := by
  refine callW_of_lift l15_ok (by simp [l15]) ?_
  simp [l15]
  obtain ⟨am, aes, ac, Y, hok, t1⟩ := wopen s
  refine eff_ldc (v := .map (some am)) (t1.row_cells 2 _ rfl) ?_
  simp
  refine eff_lenI hungI.ty t1.drop.look ?_
  have hl : aes.length = ts.length := by have := congrArg List.length hok.alls; simpa using this
  simp [hl]
  exact s
theorem Now_spec (p now mv : Nat) (ts : List Tm) (w0 w : World) (A : Asn) (s : St w0 (A * whl p now mv ts) w) :
    CallW Try.prog 16 [.pointer (some ⟨p, 0, none⟩)] (fun r w' => r = .int .i64 now ∧ St w0 (A * whl p now mv ts) w') w := by
  refine callW_of_lift l16_ok (by simp [l16]) ?_
  simp [l16]
  obtain ⟨am, aes, ac, Y, hok, t1⟩ := wopen s
  refine eff_ldc (v := .int .i64 now) (t1.row_cells 0 _ rfl) ?_
  simp
  exact s
theorem Moves_spec (p now mv : Nat) (ts : List Tm) (w0 w : World) (A : Asn) (s : St w0 (A * whl p now mv ts) w) :
    CallW Try.prog 17 [.pointer (some ⟨p, 0, none⟩)] (fun r w' => r = .int .i64 mv ∧ St w0 (A * whl p now mv ts) w') w := by
  refine callW_of_lift l17_ok (by simp [l17]) ?_
  simp [l17]
  obtain ⟨am, aes, ac, Y, hok, t1⟩ := wopen s
  refine eff_ldc (v := .int .i64 mv) (t1.row_cells 1 _ rfl) ?_
  simp
  exact s
theorem Cancel_spec (p now mv : Nat) (ts : List Tm) (n : Int) (w0 w : World) (A : Asn) {K : Value → World → Prop} (s : St w0 (A * whl p now mv ts) w)
    (hk : ∀ r w', r = .int .i64 (if (∀ u ∈ ts, u.n ≠ n) then 93 else 0) → St w0 (A * whl p now mv (offT ts n)) w' → K r w') :
    CallW Try.prog 13 [.pointer (some ⟨p, 0, none⟩), .int .i64 n] K w := by
  refine callW_of_lift l13_ok (by simp [l13]) ?_
  simp [l13]
  obtain ⟨am, aes, ac, Y, hok, t1⟩ := wopen s
  refine eff_ldc (v := .map (some am)) (t1.row_cells 2 _ rfl) ?_
  simp
  refine eff_lookI hungI t1.drop.look ?_
  simp
  by_cases hn : ∀ u ∈ ts, u.n ≠ n
  · rw [hok.got hn]
    simp
    refine hk _ _ (by rw [if_pos hn]) ?_
    rw [offT_none hn]; exact s
  · obtain ⟨t, ht⟩ : ∃ t, t ∈ ts ∧ t.n = n := by
      refine Classical.byContradiction fun h => hn fun u hu e => h ⟨u, hu, e⟩
    obtain ⟨ht, rfl⟩ := ht
    rw [hok.get ht]
    simp
    obtain ⟨x, hx⟩ := hok.at ht
    have t2 : St w0 (A * hungA (offT ts t.n) * imap am aes ac * bigA slA Y 257 * wc p now mv am Y * tmA t) w := by
      rw [hungA_off hok.num ht] at t1
      exact t1.to (by ac_rfl)
    refine eff_call (drop_spec p am now mv Y t aes ac x w0 w _ (hok.tm t ht) hx t2 fun r w' s3 => ?_)
    simp
    refine hk _ _ (by rw [if_neg hn]) ?_
    have h2 := hok.drop ht
    rw [hx] at h2
    exact wclose h2 (St.cut (tmA t) s3 (by ac_rfl))
/-- what Schedule answers -/
def schF (now : Nat) (ts : List Tm) (n a : Int) : Int := if n < 1 then 2 else if a ≤ now ∨ 1099511627776 < a then 90 else if ¬ ∀ u ∈ ts, u.n ≠ n then 92 else if 65536 ≤ ts.length then 91 else 0
theorem schF_zero {now : Nat} {ts : List Tm} {n a : Int} : schF now ts n a = 0 ↔ 1 ≤ n ∧ now < a ∧ a ≤ 1099511627776 ∧ (∀ u ∈ ts, u.n ≠ n) ∧ ts.length < 65536 := by
  unfold schF
  constructor
  · intro h
    by_cases h1 : n < 1
    · simp [h1] at h
    by_cases h2 : a ≤ now ∨ 1099511627776 < a
    · simp [h1, h2] at h
    by_cases h3 : ∀ u ∈ ts, u.n ≠ n
    · by_cases h4 : 65536 ≤ ts.length
      · rw [if_neg h1, if_neg h2, if_neg (not_not_intro h3), if_pos h4] at h
        simp at h
      · exact ⟨by omega, by omega, by omega, h3, by omega⟩
    · rw [if_neg h1, if_neg h2, if_pos h3] at h
      simp at h
  · rintro ⟨h1, h2, h3, h4, h5⟩
    rw [if_neg (by omega), if_neg (by omega), if_neg (not_not_intro h4), if_neg (by omega)]
theorem Sched_spec (p now mv : Nat) (ts : List Tm) (n at_ : Int) (w0 w : World) (A : Asn) {K : Value → World → Prop} (hnow : now ≤ 1099511627776) (s : St w0 (A * whl p now mv ts) w)
    (hk : ∀ w', (if schF now ts n at_ = 0 then ∃ b, St w0 (A * whl p now mv (ts ++ [hgT ⟨n, at_.toNat, 0, 0, b⟩ now])) w' else St w0 (A * whl p now mv ts) w') → K (.int .i64 (schF now ts n at_)) w') :
    CallW Try.prog 12 [.pointer (some ⟨p, 0, none⟩), .int .i64 n, .int .i64 at_] K w := by
  refine callW_of_lift l12_ok (by simp [l12]) ?_
  simp [l12]
  have no : ∀ (e : Int) (w' : World), schF now ts n at_ = e → e ≠ 0 → St w0 (A * whl p now mv ts) w' → K (.int .i64 e) w' := fun e w' he h0 s' => by
    subst he; exact hk _ (by rw [if_neg h0]; exact s')
  refine cndI (fun c1 => ?_) (fun c1 => ?_)
  · simp at c1
    simp
    exact no 2 w (by unfold schF; rw [if_pos (by omega)]) (by decide) s
  simp at c1
  simp
  obtain ⟨am, aes, ac, Y, hok, t1⟩ := wopen s
  refine eff_ldc (v := .int .i64 now) (t1.row_cells 0 _ rfl) ?_
  simp
  refine cndI (fun c2 => ?_) (fun c2 => ?_)
  · simp at c2
    simp
    exact no 90 w (by unfold schF; rw [if_neg (by omega), if_pos (by omega)]) (by decide) s
  simp at c2
  obtain ⟨a, rfl⟩ : ∃ a : Nat, at_ = a := ⟨at_.toNat, by omega⟩
  simp
  refine eff_ldc (v := .map (some am)) (t1.row_cells 2 _ rfl) ?_
  simp
  refine eff_lookI hungI t1.drop.look ?_
  simp
  by_cases hn : ∀ u ∈ ts, u.n ≠ n
  · rw [hok.got hn]
    simp
    refine eff_ldc (v := .map (some am)) (t1.row_cells 2 _ rfl) ?_
    simp
    refine eff_lenI hungI.ty t1.drop.look ?_
    have hl : aes.length = ts.length := by have := congrArg List.length hok.alls; simpa using this
    rw [hl]
    simp
    refine cndI (fun c3 => ?_) (fun c3 => ?_)
    · simp at c3
      simp
      exact no 91 w (by unfold schF; rw [if_neg (by omega), if_neg (by omega), if_neg (not_not_intro hn), if_pos (by omega)]) (by decide) s
    simp at c3
    simp [Instr.fill, Value.cells]
    refine eff_box t1 ?_
    intro b w2 s2
    obtain ⟨T, hT⟩ : ∃ T : Tm, T = ⟨n, a, 0, 0, b⟩ := ⟨_, rfl⟩
    have hTn : T.n = n := by rw [hT]
    have s2 : St w0 (A * hungA ts * bigA slA Y 257 * imap am aes ac * wc p now mv am Y * tmA T) w2 := by rw [hT]; exact s2
    simp
    have htp : Value.pointer (some ⟨b, 0, none⟩) = tp T := by rw [hT]
    rw [htp]
    refine eff_ldc (v := .map (some am)) (s2.drop.row_cells 2 _ rfl) ?_
    simp
    refine eff_updI hungI (s2.to (B := A * hungA ts * bigA slA Y 257 * wc p now mv am Y * tmA T * imap am aes ac) (by ac_rfl)) (hok.got hn) ?_
    intro w3 s3
    simp
    have hq := hgQ_eq T now
    have hqlt := tmQ_lt (hgT_ok T now)
    refine eff_call (hang_spec p am now mv Y T w0 w3 (A * hungA ts * imap am (aes ++ [⟨n, tp T, ac⟩]) (ac + 1)) (by rw [hT]; show a ≤ _; omega) (by omega) (by rw [hq, hTn]; exact hok.free hn hqlt) (s3.to (by ac_rfl)) fun r m w4 hm s4 => ?_)
    simp
    have hz : schF now ts n a = 0 := schF_zero.2 ⟨c1, c2.1, c2.2, hn, by omega⟩
    have hk := hk w4
    rw [hz] at hk
    refine hk ?_
    rw [if_pos rfl]
    refine ⟨b, ?_⟩
    have hnew := hok.add (t := T) (t' := hgT T now) rfl rfl (by rw [hTn]; exact hn) (hgT_ok T now) m
    have e : hgT ⟨n, (a : Int).toNat, 0, 0, b⟩ now = hgT T now := by rw [hT]; rfl
    rw [e]
    refine wclose (am := am) hnew ?_
    rw [hungA_app, show hungA [hgT T now] = tmA (hgT T now) * emp from rfl, sep_emp, hTn]
    exact s4.to (by rw [hq]; ac_rfl)
  · obtain ⟨t, ht⟩ : ∃ t, t ∈ ts ∧ t.n = n := by
      refine Classical.byContradiction fun h => hn fun u hu e => h ⟨u, hu, e⟩
    obtain ⟨ht, rfl⟩ := ht
    rw [hok.get ht]
    simp
    exact no 92 w (by unfold schF; rw [if_neg (by omega), if_neg (by omega), if_pos hn]) (by decide) s
end Go.HL.Wh

namespace Go.HL.Wh
open Go.HL
set_option linter.unusedSimpArgs false
set_option linter.unusedVariables false
structure Dg (a d4 d3 d2 d1 d0 : Nat) : Prop where
  eq : a = d4 * 16777216 + d3 * 262144 + d2 * 4096 + d1 * 64 + d0
  b3 : d3 < 64
  b2 : d2 < 64
  b1 : d1 < 64
  b0 : d0 < 64
theorem dg_ex (a : Nat) : ∃ d4 d3 d2 d1 d0, Dg a d4 d3 d2 d1 d0 :=
  ⟨a / 16777216, a / 262144 % 64, a / 4096 % 64, a / 64 % 64, a % 64, by omega, by omega, by omega, by omega, by omega⟩
theorem Dg.d4 {a d4 d3 d2 d1 d0 : Nat} (h : Dg a d4 d3 d2 d1 d0) : a / 16777216 = d4 := by
  obtain ⟨h, _, _, _, _⟩ := h; omega
theorem Dg.d3 {a d4 d3 d2 d1 d0 : Nat} (h : Dg a d4 d3 d2 d1 d0) : digF a 3 = d3 := by
  obtain ⟨h, _, _, _, _⟩ := h
  show a / 262144 % 64 = d3
  omega
theorem Dg.d2 {a d4 d3 d2 d1 d0 : Nat} (h : Dg a d4 d3 d2 d1 d0) : digF a 2 = d2 := by
  obtain ⟨h, _, _, _, _⟩ := h
  show a / 4096 % 64 = d2
  omega
theorem Dg.d1 {a d4 d3 d2 d1 d0 : Nat} (h : Dg a d4 d3 d2 d1 d0) : digF a 1 = d1 := by
  obtain ⟨h, _, _, _, _⟩ := h
  show a / 64 % 64 = d1
  omega
theorem Dg.d0 {a d4 d3 d2 d1 d0 : Nat} (h : Dg a d4 d3 d2 d1 d0) : digF a 0 = d0 := by
  obtain ⟨h, _, _, _, _⟩ := h
  show a / 1 % 64 = d0
  omega
theorem lvF_of {a a4 a3 a2 a1 a0 n n4 n3 n2 n1 n0 : Nat} (ha : Dg a a4 a3 a2 a1 a0) (hn : Dg n n4 n3 n2 n1 n0) :
    (a4 ≠ n4 ∧ lvF a n = (4, 0)) ∨ (a4 = n4 ∧ a3 ≠ n3 ∧ lvF a n = (3, a3)) ∨ (a4 = n4 ∧ a3 = n3 ∧ a2 ≠ n2 ∧ lvF a n = (2, a2)) ∨
    (a4 = n4 ∧ a3 = n3 ∧ a2 = n2 ∧ a1 ≠ n1 ∧ lvF a n = (1, a1)) ∨ (a4 = n4 ∧ a3 = n3 ∧ a2 = n2 ∧ a1 = n1 ∧ lvF a n = (0, a0)) := by
  unfold lvF
  rw [ha.d4, ha.d3, ha.d2, ha.d1, ha.d0, hn.d4, hn.d3, hn.d2, hn.d1]
  by_cases h4 : a4 = n4
  · by_cases h3 : a3 = n3
    · by_cases h2 : a2 = n2
      · by_cases h1 : a1 = n1
        · simp [h4, h3, h2, h1]
        · simp [h4, h3, h2, h1]
      · simp [h4, h3, h2]
    · simp [h4, h3]
  · simp [h4]
/-- has time been there? -/
def visF (now to : Nat) (p : Nat × Nat) : Prop := p.1 < (lvF to now).1 ∨ p.1 = (lvF to now).1 ∧ p.2 ≤ (lvF to now).2
set_option maxHeartbeats 4000000 in
theorem lv_law (a now to : Nat) (h1 : now < a) (h2 : now < to) :
    (visF now to (lvF a now) → to < a → lvF a now = lvF to now ∧ ((lvF a to).1 < (lvF to now).1 ∨ lvF a to = lvF a now)) ∧
    (¬ visF now to (lvF a now) → to < a ∧ lvF a to = lvF a now) := by
  obtain ⟨a4, a3, a2, a1, a0, ha⟩ := dg_ex a
  obtain ⟨n4, n3, n2, n1, n0, hn⟩ := dg_ex now
  obtain ⟨t4, t3, t2, t1, t0, ht⟩ := dg_ex to
  have L1 := lvF_of ha hn
  have L2 := lvF_of ha ht
  have L3 := lvF_of ht hn
  obtain ⟨ea, ba3, ba2, ba1, ba0⟩ := ha
  obtain ⟨en, bn3, bn2, bn1, bn0⟩ := hn
  obtain ⟨et, bt3, bt2, bt1, bt0⟩ := ht
  unfold visF
  generalize lvF a now = x at *
  generalize lvF a to = y at *
  generalize lvF to now = z at *
  obtain ⟨x1, x2⟩ := x
  obtain ⟨y1, y2⟩ := y
  obtain ⟨z1, z2⟩ := z
  simp only [Prod.mk.injEq] at *
  rcases L3 with L3 | L3 | L3 | L3 | L3 <;> rcases L1 with L1 | L1 | L1 | L1 | L1 <;> omega
end Go.HL.Wh

namespace Go.HL.Wh
open Go.HL
set_option linter.unusedSimpArgs false
set_option linter.unusedVariables false
/-- so far: those of D were met -/
def curT (to : Nat) (D : Tm → Bool) (ts : List Tm) : List Tm := (ts.filter fun t => !(D t && decide (t.a ≤ to))).map fun t => if D t = true then hgT t to else t
def outT (to : Nat) (D : Tm → Bool) (ts : List Tm) : List Tm := ts.filter fun t => D t && decide (t.a ≤ to)
def movB (to : Nat) (t : Tm) : Bool := decide (to < t.a) && decide ((lvF t.a to).1 ≠ t.l)
def movT (to : Nat) (D : Tm → Bool) (ts : List Tm) : List Tm := ts.filter fun t => D t && movB to t
def addD (D : Tm → Bool) (t : Tm) : Tm → Bool := fun u => D u || decide (u.n = t.n)
section
variable {ts : List Tm} {to : Nat} {D D' : Tm → Bool} {t : Tm}
theorem cur_congr (h : ∀ t ∈ ts, D t = D' t) : curT to D ts = curT to D' ts := by
  unfold curT
  have e : (ts.filter fun t => !(D t && decide (t.a ≤ to))) = ts.filter fun t => !(D' t && decide (t.a ≤ to)) := List.filter_congr fun t ht => by rw [h t ht]
  rw [e]
  exact List.map_congr_left fun t ht => by rw [h t (List.mem_filter.1 ht).1]
theorem out_congr (h : ∀ t ∈ ts, D t = D' t) : outT to D ts = outT to D' ts := List.filter_congr fun t ht => by rw [h t ht]
theorem mov_congr (h : ∀ t ∈ ts, D t = D' t) : movT to D ts = movT to D' ts := List.filter_congr fun t ht => by rw [h t ht]
theorem filt_add (p : Tm → Bool) : ∀ {ts : List Tm}, (ts.map (·.n)).Nodup → t ∈ ts → D t = false → p t = true →
    (ts.filter fun u => addD D t u && p u).Perm (t :: ts.filter fun u => D u && p u)
  | [], _, h, _, _ => by cases h
  | x :: r, hn, ht, hD, hp => by
    rw [List.map_cons, List.nodup_cons] at hn
    rcases List.mem_cons.1 ht with rfl | ht
    · have e : (r.filter fun u => addD D t u && p u) = r.filter fun u => D u && p u := List.filter_congr fun u hu => by
        have : u.n ≠ t.n := fun g => hn.1 (List.mem_map.2 ⟨u, hu, g⟩)
        simp [addD, this]
      rw [List.filter_cons_of_pos (by simp [addD, hp]), List.filter_cons_of_neg (by simp [hD]), e]
    · have hne : x.n ≠ t.n := fun g => hn.1 (List.mem_map.2 ⟨t, ht, g.symm⟩)
      have ih := filt_add p hn.2 ht hD hp
      by_cases hx : (D x && p x) = true
      · rw [List.filter_cons_of_pos (by simpa [addD, hne] using hx), show (x :: r).filter (fun u => D u && p u) = x :: r.filter (fun u => D u && p u) from List.filter_cons_of_pos hx]
        exact (ih.cons x).trans (List.Perm.swap t x _)
      · rw [List.filter_cons_of_neg (by simpa [addD, hne] using hx), show (x :: r).filter (fun u => D u && p u) = r.filter (fun u => D u && p u) from List.filter_cons_of_neg hx]
        exact ih
theorem filt_not (p : Tm → Bool) (hn : (ts.map (·.n)).Nodup) (ht : t ∈ ts) (hp : p t = false) : (ts.filter fun u => addD D t u && p u) = ts.filter fun u => D u && p u := by
  refine List.filter_congr fun u hu => ?_
  by_cases e : u.n = t.n
  · have := num_inj hn hu ht e
    subst this
    simp [hp]
  · simp [addD, e]
theorem cur_due (hn : (ts.map (·.n)).Nodup) (ht : t ∈ ts) (hd : t.a ≤ to) : curT to (addD D t) ts = offT (curT to D ts) t.n := by
  unfold curT offT
  rw [List.filter_map, List.filter_filter]
  have e : (ts.filter fun u => !(addD D t u && decide (u.a ≤ to))) = ts.filter fun u => ((fun u : Tm => decide (u.n ≠ t.n)) ∘ fun t => if D t = true then hgT t to else t) u && !(D u && decide (u.a ≤ to)) := by
    refine List.filter_congr fun u hu => ?_
    have hfn : (if D u = true then hgT u to else u).n = u.n := by split <;> rfl
    simp only [Function.comp_apply, hfn]
    by_cases e : u.n = t.n
    · have := num_inj hn hu ht e
      subst this
      simp [addD, hd]
    · simp [addD, e]
  rw [e]
  refine List.map_congr_left fun u hu => ?_
  have h := (List.mem_filter.1 hu).2
  have hfn : (if D u = true then hgT u to else u).n = u.n := by split <;> rfl
  simp only [Function.comp_apply, hfn, Bool.and_eq_true, decide_eq_true_eq] at h
  simp [addD, h.1]
theorem cur_mov (hn : (ts.map (·.n)).Nodup) (ht : t ∈ ts) (hd : to < t.a) : curT to (addD D t) ts = onT (curT to D ts) (hgT t to) := by
  unfold curT onT
  rw [List.map_map]
  have e : (ts.filter fun u => !(addD D t u && decide (u.a ≤ to))) = ts.filter fun u => !(D u && decide (u.a ≤ to)) := by
    refine List.filter_congr fun u hu => ?_
    by_cases e : u.n = t.n
    · have := num_inj hn hu ht e
      subst this
      have : ¬ u.a ≤ to := by omega
      simp [this]
    · simp [addD, e]
  rw [e]
  refine List.map_congr_left fun u hu => ?_
  have hu := (List.mem_filter.1 hu).1
  have hfn : (if D u = true then hgT u to else u).n = u.n := by split <;> rfl
  simp only [Function.comp_apply, hfn]
  show _ = if u.n = t.n then hgT t to else _
  by_cases e : u.n = t.n
  · have := num_inj hn hu ht e
    subst this
    simp [addD]
  · simp [addD, e]
theorem cur_same (hn : (ts.map (·.n)).Nodup) (ht : t ∈ ts) (hd : to < t.a) (hg : hgT t to = t) : curT to (addD D t) ts = curT to D ts := by
  unfold curT
  have e : (ts.filter fun u => !(addD D t u && decide (u.a ≤ to))) = ts.filter fun u => !(D u && decide (u.a ≤ to)) := by
    refine List.filter_congr fun u hu => ?_
    by_cases e : u.n = t.n
    · have := num_inj hn hu ht e
      subst this
      have : ¬ u.a ≤ to := by omega
      simp [this]
    · simp [addD, e]
  rw [e]
  refine List.map_congr_left fun u hu => ?_
  have hu := (List.mem_filter.1 hu).1
  by_cases e : u.n = t.n
  · have := num_inj hn hu ht e
    subst this
    simp [addD, hg]
  · simp [addD, e]
theorem mem_cur {u : Tm} (h : u ∈ curT to D ts) : ∃ t ∈ ts, u = (if D t = true then hgT t to else t) ∧ (D t = true → to < t.a) := by
  obtain ⟨t, ht, rfl⟩ := List.mem_map.1 h
  obtain ⟨h1, h2⟩ := List.mem_filter.1 ht
  refine ⟨t, h1, rfl, fun hD => ?_⟩
  simp [hD] at h2
  exact h2
theorem cur_mem {t : Tm} (ht : t ∈ ts) (hD : D t = false) : t ∈ curT to D ts := List.mem_map.2 ⟨t, List.mem_filter.2 ⟨ht, by simp [hD]⟩, by simp [hD]⟩
end
/-- all lie where they should at that time -/
structure plOK (now : Nat) (ts : List Tm) : Prop where
  num : (ts.map (·.n)).Nodup
  pl : ∀ t ∈ ts, t.l = (lvF t.a now).1 ∧ t.s = (lvF t.a now).2
  ah : ∀ t ∈ ts, now < t.a
  bd : ∀ t ∈ ts, t.a ≤ 1099511627776 ∧ 1 ≤ t.n
def restT (to : Nat) (ts : List Tm) : List Tm := (ts.filter fun t => decide (to < t.a)).map fun t => hgT t to
def dueT (to : Nat) (ts : List Tm) : List Tm := ts.filter fun t => decide (t.a ≤ to)
def movedT (to : Nat) (ts : List Tm) : List Tm := ts.filter (movB to)
theorem plOK.rest {now to : Nat} {ts : List Tm} (h : plOK now ts) : plOK to (restT to ts) := by
  have hm : ∀ u ∈ restT to ts, ∃ t ∈ ts, to < t.a ∧ u = hgT t to := fun u hu => by
    obtain ⟨t, ht, rfl⟩ := List.mem_map.1 hu
    obtain ⟨h1, h2⟩ := List.mem_filter.1 ht
    exact ⟨t, h1, of_decide_eq_true h2, rfl⟩
  refine ⟨?_, fun u hu => ?_, fun u hu => ?_, fun u hu => ?_⟩
  · unfold restT
    rw [List.map_map]
    exact h.num.sublist (List.filter_sublist.map _)
  · obtain ⟨t, ht, h1, rfl⟩ := hm u hu; exact ⟨rfl, rfl⟩
  · obtain ⟨t, ht, h1, rfl⟩ := hm u hu; exact h1
  · obtain ⟨t, ht, h1, rfl⟩ := hm u hu; exact h.bd t ht
theorem hgT_same {t : Tm} {to : Nat} (h1 : (lvF t.a to).1 = t.l) (h2 : (lvF t.a to).2 = t.s) : hgT t to = t := by
  unfold hgT; rw [h1, h2]
/-- met before the place l, n -/
def vD (l n : Nat) : Tm → Bool := fun t => decide (t.l < l) || (decide (t.l = l) && decide (t.s < n))
section
variable {ts : List Tm} {now to : Nat} {D : Tm → Bool}
/-- at the end all is as_ it should be -/
theorem end_cur (h : plOK now ts) (hto : now < to) (hD : ∀ t ∈ ts, D t = true ↔ visF now to (t.l, t.s)) : curT to D ts = restT to ts ∧ outT to D ts = dueT to ts ∧ movT to D ts = movedT to ts := by
  have key : ∀ t ∈ ts, D t = false → to < t.a ∧ hgT t to = t := fun t ht hd => by
    obtain ⟨p1, p2⟩ := h.pl t ht
    have hv : ¬ visF now to (lvF t.a now) := by
      rw [show lvF t.a now = (t.l, t.s) by rw [p1, p2]]
      intro g
      rw [(hD t ht).2 g] at hd; cases hd
    obtain ⟨q1, q2⟩ := (lv_law t.a now to (h.ah t ht) hto).2 hv
    exact ⟨q1, hgT_same (by rw [q2, p1]) (by rw [q2, p2])⟩
  refine ⟨?_, ?_, ?_⟩
  · unfold curT restT
    have e : (ts.filter fun t => !(D t && decide (t.a ≤ to))) = ts.filter fun t => decide (to < t.a) := List.filter_congr fun t ht => by
      cases hd : D t with
      | true => by_cases g : t.a ≤ to <;> simp [g] <;> omega
      | false => simp [(key t ht hd).1]
    rw [e]
    refine List.map_congr_left fun t ht => ?_
    cases hd : D t with
    | true => simp
    | false => simp [(key t (List.mem_filter.1 ht).1 hd).2]
  · refine List.filter_congr fun t ht => ?_
    cases hd : D t with
    | true => simp
    | false => have := (key t ht hd).1; simp; omega
  · refine List.filter_congr fun t ht => ?_
    cases hd : D t with
    | true => simp
    | false =>
      have := (key t ht hd).2
      have : (lvF t.a to).1 = t.l := congrArg Tm.l this
      simp [movB, this]
/-- what stands in a place that time comes to -/
theorem at_place (h : plOK now ts) (hto : now < to) {l n : Nat} (hl : l ≤ 4) (hn : n < 64) (h4 : l = 4 → n = 0) (hv : visF now to (l, n)) {sn : List Int} (hD : ∀ t ∈ ts, D t = (vD l n t || (decide (tmQ t = l * 64 + n) && decide (t.n ∈ sn)))) {u : Tm} (hu : u ∈ curT to D ts) (hq : tmQ u = l * 64 + n) (hs : u.n ∉ sn) :
    u ∈ ts ∧ D u = false ∧ u.l = l ∧ u.s = n := by
  obtain ⟨t, ht, he, hd⟩ := mem_cur hu
  have htn : u.n = t.n := by rw [he]; split <;> rfl
  have ok : ∀ t : Tm, t.l = (lvF t.a now).1 → t.s = (lvF t.a now).2 → t.s < 64 ∧ t.l ≤ 4 := fun t h1 h2 => by
    have := lvF_bd t.a now
    rw [h1, h2]; exact ⟨this.2.1, this.1⟩
  have hDf : D t = false := by
    cases hDt : D t with
    | false => rfl
    | true =>
      exfalso
      have hta := hd hDt
      rw [hDt, if_pos rfl] at he
      rw [hD t ht] at hDt
      obtain ⟨p1, p2⟩ := h.pl t ht
      have hlt : t.l < l ∨ t.l = l ∧ t.s < n := by
        rcases Bool.or_eq_true _ _ ▸ hDt with g | g
        · simp only [vD, Bool.or_eq_true, Bool.and_eq_true, decide_eq_true_eq] at g; exact g
        · simp only [Bool.and_eq_true, decide_eq_true_eq] at g
          exact absurd (htn ▸ g.2) hs
      have hv2 : visF now to (lvF t.a now) := by
        rw [show lvF t.a now = (t.l, t.s) by rw [p1, p2]]
        unfold visF at hv ⊢
        simp only at hv ⊢
        omega
      have := ((lv_law t.a now to (h.ah t ht) hto).1 hv2 hta).1
      rw [show lvF t.a now = (t.l, t.s) by rw [p1, p2]] at this
      unfold visF at hv
      rw [← this] at hv
      simp only at hv
      omega
  rw [hDf] at he
  simp at he
  subst he
  obtain ⟨p1, p2⟩ := h.pl u ht
  obtain ⟨b1, b2⟩ := ok u p1 p2
  unfold tmQ at hq
  exact ⟨ht, hDf, by omega, by omega⟩
/-- and what becomes of it -/
theorem at_go (h : plOK now ts) (hto : now < to) {l n : Nat} (hv : visF now to (l, n)) {u : Tm} (hu : u ∈ ts) (hl : u.l = l) (hs : u.s = n) (hd : to < u.a) : (lvF u.a to).1 = l → hgT u to = u := by
  obtain ⟨p1, p2⟩ := h.pl u hu
  have e : lvF u.a now = (l, n) := by rw [← hl, ← hs, p1, p2]
  obtain ⟨q1, q2⟩ := (lv_law u.a now to (h.ah u hu) hto).1 (e ▸ hv) hd
  intro g
  rcases q2 with q2 | q2
  · rw [← q1, e] at q2; simp only at q2; omega
  · exact hgT_same (by rw [q2, ← p1]) (by rw [q2, ← p2])
/-- the place is done with -/
theorem next_place (h : plOK now ts) {l n : Nat} (hn : n < 64) {sn : List Int} (hD : ∀ t ∈ ts, D t = (vD l n t || (decide (tmQ t = l * 64 + n) && decide (t.n ∈ sn)))) (hall : ∀ t ∈ ts, tmQ t = l * 64 + n → D t = true) : ∀ t ∈ ts, D t = vD l (n + 1) t := by
  intro t ht
  obtain ⟨p1, p2⟩ := h.pl t ht
  have hs : t.s < 64 := by rw [p2]; exact (lvF_bd t.a now).2.1
  by_cases hq : tmQ t = l * 64 + n
  · rw [hall t ht hq]
    unfold tmQ at hq
    have e1 : t.l = l := by omega
    have e2 : t.s = n := by omega
    simp [vD, e1, e2]
  · rw [hD t ht]
    unfold tmQ at hq
    have hq2 : ¬ (t.l = l ∧ t.s = n) := fun g => hq (by rw [g.1, g.2])
    unfold vD
    rw [Bool.eq_iff_iff]
    simp only [Bool.or_eq_true, Bool.and_eq_true, decide_eq_true_eq, tmQ, hq, false_and, or_false]
    omega
theorem next_level (h : plOK now ts) (l : Nat) : ∀ t ∈ ts, vD l 64 t = vD (l + 1) 0 t := by
  intro t ht
  obtain ⟨p1, p2⟩ := h.pl t ht
  have hs : t.s < 64 := by rw [p2]; exact (lvF_bd t.a now).2.1
  unfold vD
  rw [Bool.eq_iff_iff]
  simp only [Bool.or_eq_true, Bool.and_eq_true, decide_eq_true_eq]
  omega
end
end Go.HL.Wh

namespace Go.HL.Wh
open Go.HL Go.Proofs
set_option maxRecDepth 4000
set_option linter.unusedSimpArgs false
set_option linter.unusedVariables false
-- cmp.isNaN[int]
def h65_0 : HC := (.seq (.reg (.chk none (.bin .neq) (.cons (.inp 0) (.cons (.inp 0) .nil)) (.done [(1, (.op (.bin .neq) (.cons (.inp 0) (.cons (.inp 0) .nil))))] none))) .ret)
@[simp] theorem h65_0_wp {P : Program} {F : PF P} {Q : EX → List Value → World → Prop} {env : List Value} {w : World} : h65_0.wp F Q env w = HC.wp F (.seq (.reg (.chk none (.bin .neq) (.cons (.inp 0) (.cons (.inp 0) .nil)) (.done [(1, (.op (.bin .neq) (.cons (.inp 0) (.cons (.inp 0) .nil))))] none))) .ret) Q env w := rfl
def l65 : Lifted := ⟨[0, 2], 6, [.slot 1], (.seq (.reg (.done [(1, (.cst (.bool false)))] none)) h65_0)⟩
theorem l65_ok : liftFn U2 65 400 = some l65 := by kernel_rfl

-- cmp.Or[int]
def h48_0 : HC := (.seq (.reg (.done [(1, (.inp 2))] none)) .ret)
@[simp] theorem h48_0_wp {P : Program} {F : PF P} {Q : EX → List Value → World → Prop} {env : List Value} {w : World} : h48_0.wp F Q env w = HC.wp F (.seq (.reg (.done [(1, (.inp 2))] none)) .ret) Q env w := rfl
def h48_1 : HC := (.reg (.chk none (.bin .add) (.cons (.inp 6) (.cons (.cst (.int .i64 1)) .nil)) (.done [(6, (.op (.bin .add) (.cons (.inp 6) (.cons (.cst (.int .i64 1)) .nil))))] none)))
@[simp] theorem h48_1_wp {P : Program} {F : PF P} {Q : EX → List Value → World → Prop} {env : List Value} {w : World} : h48_1.wp F Q env w = HC.wp F (.reg (.chk none (.bin .add) (.cons (.inp 6) (.cons (.cst (.int .i64 1)) .nil)) (.done [(6, (.op (.bin .add) (.cons (.inp 6) (.cons (.cst (.int .i64 1)) .nil))))] none))) Q env w := rfl
def h48_2 : HC := (.seq (.reg (.done [(1, (.inp 3))] none)) .ret)
@[simp] theorem h48_2_wp {P : Program} {F : PF P} {Q : EX → List Value → World → Prop} {env : List Value} {w : World} : h48_2.wp F Q env w = HC.wp F (.seq (.reg (.done [(1, (.inp 3))] none)) .ret) Q env w := rfl
def h48_3 : HC := (.br (.chk none (.bin .neq) (.cons (.inp 3) (.cons (.inp 2) .nil)) (.done [] (some (.op (.bin .neq) (.cons (.inp 3) (.cons (.inp 2) .nil)))))) h48_2 .skip)
@[simp] theorem h48_3_wp {P : Program} {F : PF P} {Q : EX → List Value → World → Prop} {env : List Value} {w : World} : h48_3.wp F Q env w = HC.wp F (.br (.chk none (.bin .neq) (.cons (.inp 3) (.cons (.inp 2) .nil)) (.done [] (some (.op (.bin .neq) (.cons (.inp 3) (.cons (.inp 2) .nil)))))) h48_2 .skip) Q env w := rfl
def h48_4 : HC := (.seq (.reg (.chk none (.idxL 1) (.cons (.inp 4) (.cons (.inp 6) .nil)) (.eff (.ld false 1) (.cons (.op (.idxL 1) (.cons (.inp 4) (.cons (.inp 6) .nil))) .nil) (.done [(3, (.bv 0))] none)))) h48_3)
@[simp] theorem h48_4_wp {P : Program} {F : PF P} {Q : EX → List Value → World → Prop} {env : List Value} {w : World} : h48_4.wp F Q env w = HC.wp F (.seq (.reg (.chk none (.idxL 1) (.cons (.inp 4) (.cons (.inp 6) .nil)) (.eff (.ld false 1) (.cons (.op (.idxL 1) (.cons (.inp 4) (.cons (.inp 6) .nil))) .nil) (.done [(3, (.bv 0))] none)))) h48_3) Q env w := rfl
def h48_5 : HC := (.seq (.block 1 h48_4) h48_1)
@[simp] theorem h48_5_wp {P : Program} {F : PF P} {Q : EX → List Value → World → Prop} {env : List Value} {w : World} : h48_5.wp F Q env w = HC.wp F (.seq (.block 1 h48_4) h48_1) Q env w := rfl
def h48_6 : HC := (.seq (.br (.chk none (.bin .lss) (.cons (.inp 6) (.cons (.inp 5) .nil)) (.done [] (some (.op (.bin .lss) (.cons (.inp 6) (.cons (.inp 5) .nil)))))) .skip (.exit 0)) h48_5)
@[simp] theorem h48_6_wp {P : Program} {F : PF P} {Q : EX → List Value → World → Prop} {env : List Value} {w : World} : h48_6.wp F Q env w = HC.wp F (.seq (.br (.chk none (.bin .lss) (.cons (.inp 6) (.cons (.inp 5) .nil)) (.done [] (some (.op (.bin .lss) (.cons (.inp 6) (.cons (.inp 5) .nil)))))) .skip (.exit 0)) h48_5) Q env w := rfl
def h48_7 : HC := (.loop h48_6)
@[simp] theorem h48_7_wp {P : Program} {F : PF P} {Q : EX → List Value → World → Prop} {env : List Value} {w : World} : h48_7.wp F Q env w = HC.wp F (.loop h48_6) Q env w := rfl
def h48_8 : HC := (.seq (.block 0 h48_7) h48_0)
@[simp] theorem h48_8_wp {P : Program} {F : PF P} {Q : EX → List Value → World → Prop} {env : List Value} {w : World} : h48_8.wp F Q env w = HC.wp F (.seq (.block 0 h48_7) h48_0) Q env w := rfl
def h48_9 : HC := (.seq (.reg (.chk none .lenL (.cons (.inp 0) .nil) (.done [(4, (.inp 0)), (5, (.op .lenL (.cons (.inp 0) .nil))), (6, (.cst (.int .i64 0)))] none))) h48_8)
@[simp] theorem h48_9_wp {P : Program} {F : PF P} {Q : EX → List Value → World → Prop} {env : List Value} {w : World} : h48_9.wp F Q env w = HC.wp F (.seq (.reg (.chk none .lenL (.cons (.inp 0) .nil) (.done [(4, (.inp 0)), (5, (.op .lenL (.cons (.inp 0) .nil))), (6, (.cst (.int .i64 0)))] none))) h48_8) Q env w := rfl
def h48_10 : HC := (.seq (.reg (.done [(2, (.cst (.int .i64 0)))] none)) h48_9)
@[simp] theorem h48_10_wp {P : Program} {F : PF P} {Q : EX → List Value → World → Prop} {env : List Value} {w : World} : h48_10.wp F Q env w = HC.wp F (.seq (.reg (.done [(2, (.cst (.int .i64 0)))] none)) h48_9) Q env w := rfl
def l48 : Lifted := ⟨[0, 2, 3, 5, 6, 7, 8], 18, [.slot 1], (.seq (.reg (.done [(1, (.cst (.int .i64 0)))] none)) h48_10)⟩
theorem l48_ok : liftFn U2 48 400 = some l48 := by kernel_rfl


theorem isNaN_spec (u : Int) (w : World) : CallW Try.prog 65 [.int .i64 u] (fun r w' => r = .bool false ∧ w' = w) w := by
  refine callW_of_lift l65_ok (by simp [l65]) ?_
  simp [l65]
def cmpF (a b : Int) : Int := if a < b then -1 else if b < a then 1 else 0
-- cmp.Compare[int]
def h49_0 : HC := (.seq (.reg (.done [(2, (.cst (.int .i64 0)))] none)) .ret)
@[simp] theorem h49_0_wp {P : Program} {F : PF P} {Q : EX → List Value → World → Prop} {env : List Value} {w : World} : h49_0.wp F Q env w = HC.wp F (.seq (.reg (.done [(2, (.cst (.int .i64 0)))] none)) .ret) Q env w := rfl
def h49_1 : HC := (.seq (.reg (.done [(2, (.cst (.int .i64 1)))] none)) .ret)
@[simp] theorem h49_1_wp {P : Program} {F : PF P} {Q : EX → List Value → World → Prop} {env : List Value} {w : World} : h49_1.wp F Q env w = HC.wp F (.seq (.reg (.done [(2, (.cst (.int .i64 1)))] none)) .ret) Q env w := rfl
def h49_2 : HC := (.seq (.br (.chk none (.bin .gtr) (.cons (.inp 0) (.cons (.inp 1) .nil)) (.done [] (some (.op (.bin .gtr) (.cons (.inp 0) (.cons (.inp 1) .nil)))))) h49_1 .skip) h49_0)
@[simp] theorem h49_2_wp {P : Program} {F : PF P} {Q : EX → List Value → World → Prop} {env : List Value} {w : World} : h49_2.wp F Q env w = HC.wp F (.seq (.br (.chk none (.bin .gtr) (.cons (.inp 0) (.cons (.inp 1) .nil)) (.done [] (some (.op (.bin .gtr) (.cons (.inp 0) (.cons (.inp 1) .nil)))))) h49_1 .skip) h49_0) Q env w := rfl
def h49_3 : HC := (.seq (.reg (.done [(2, (.cst (.int .i64 (-1))))] none)) .ret)
@[simp] theorem h49_3_wp {P : Program} {F : PF P} {Q : EX → List Value → World → Prop} {env : List Value} {w : World} : h49_3.wp F Q env w = HC.wp F (.seq (.reg (.done [(2, (.cst (.int .i64 (-1))))] none)) .ret) Q env w := rfl
def h49_4 : HC := (.seq (.br (.chk none (.bin .lss) (.cons (.inp 0) (.cons (.inp 1) .nil)) (.done [] (some (.op (.bin .lss) (.cons (.inp 0) (.cons (.inp 1) .nil)))))) h49_3 .skip) h49_2)
@[simp] theorem h49_4_wp {P : Program} {F : PF P} {Q : EX → List Value → World → Prop} {env : List Value} {w : World} : h49_4.wp F Q env w = HC.wp F (.seq (.br (.chk none (.bin .lss) (.cons (.inp 0) (.cons (.inp 1) .nil)) (.done [] (some (.op (.bin .lss) (.cons (.inp 0) (.cons (.inp 1) .nil)))))) h49_3 .skip) h49_2) Q env w := rfl
def h49_5 : HC := (.seq (.reg (.done [(2, (.cst (.int .i64 1)))] none)) .ret)
@[simp] theorem h49_5_wp {P : Program} {F : PF P} {Q : EX → List Value → World → Prop} {env : List Value} {w : World} : h49_5.wp F Q env w = HC.wp F (.seq (.reg (.done [(2, (.cst (.int .i64 1)))] none)) .ret) Q env w := rfl
def h49_6 : HC := (.seq (.br (.done [] (some (.inp 4))) h49_5 .skip) h49_4)
@[simp] theorem h49_6_wp {P : Program} {F : PF P} {Q : EX → List Value → World → Prop} {env : List Value} {w : World} : h49_6.wp F Q env w = HC.wp F (.seq (.br (.done [] (some (.inp 4))) h49_5 .skip) h49_4) Q env w := rfl
def h49_7 : HC := (.seq (.reg (.done [(2, (.cst (.int .i64 (-1))))] none)) .ret)
@[simp] theorem h49_7_wp {P : Program} {F : PF P} {Q : EX → List Value → World → Prop} {env : List Value} {w : World} : h49_7.wp F Q env w = HC.wp F (.seq (.reg (.done [(2, (.cst (.int .i64 (-1))))] none)) .ret) Q env w := rfl
def h49_8 : HC := (.seq (.reg (.done [(2, (.cst (.int .i64 0)))] none)) .ret)
@[simp] theorem h49_8_wp {P : Program} {F : PF P} {Q : EX → List Value → World → Prop} {env : List Value} {w : World} : h49_8.wp F Q env w = HC.wp F (.seq (.reg (.done [(2, (.cst (.int .i64 0)))] none)) .ret) Q env w := rfl
def h49_9 : HC := (.seq (.br (.done [] (some (.inp 4))) h49_8 .skip) h49_7)
@[simp] theorem h49_9_wp {P : Program} {F : PF P} {Q : EX → List Value → World → Prop} {env : List Value} {w : World} : h49_9.wp F Q env w = HC.wp F (.seq (.br (.done [] (some (.inp 4))) h49_8 .skip) h49_7) Q env w := rfl
def h49_10 : HC := (.seq (.br (.done [] (some (.inp 3))) h49_9 .skip) h49_6)
@[simp] theorem h49_10_wp {P : Program} {F : PF P} {Q : EX → List Value → World → Prop} {env : List Value} {w : World} : h49_10.wp F Q env w = HC.wp F (.seq (.br (.done [] (some (.inp 3))) h49_9 .skip) h49_6) Q env w := rfl
def h49_11 : HC := (.seq (.reg (.eff (.call 65) (.cons (.inp 1) .nil) (.done [(4, (.bv 0))] none))) h49_10)
@[simp] theorem h49_11_wp {P : Program} {F : PF P} {Q : EX → List Value → World → Prop} {env : List Value} {w : World} : h49_11.wp F Q env w = HC.wp F (.seq (.reg (.eff (.call 65) (.cons (.inp 1) .nil) (.done [(4, (.bv 0))] none))) h49_10) Q env w := rfl
def h49_12 : HC := (.seq (.reg (.eff (.call 65) (.cons (.inp 0) .nil) (.done [(3, (.bv 0))] none))) h49_11)
@[simp] theorem h49_12_wp {P : Program} {F : PF P} {Q : EX → List Value → World → Prop} {env : List Value} {w : World} : h49_12.wp F Q env w = HC.wp F (.seq (.reg (.eff (.call 65) (.cons (.inp 0) .nil) (.done [(3, (.bv 0))] none))) h49_11) Q env w := rfl
def l49 : Lifted := ⟨[0, 1, 4, 5, 6], 20, [.slot 2], (.seq (.reg (.done [(2, (.cst (.int .i64 0)))] none)) h49_12)⟩
theorem l49_ok : liftFn U2 49 400 = some l49 := by kernel_rfl


theorem ccmp_spec (a b : Int) (w : World) : CallW Try.prog 49 [.int .i64 a, .int .i64 b] (fun r w' => r = .int .i64 (cmpF a b) ∧ w' = w) w := by
  refine callW_of_lift l49_ok (by simp [l49]) ?_
  simp [l49]
  refine eff_call ((isNaN_spec a w).mono ?_)
  rintro r w1 ⟨rfl, rfl⟩
  simp
  refine eff_call ((isNaN_spec b w1).mono ?_)
  rintro r w2 ⟨rfl, rfl⟩
  simp
  unfold cmpF
  refine cndI (fun h => ?_) (fun h => ?_)
  · simp at h
    simp [h]
  simp at h
  simp
  refine cndI (fun h2 => ?_) (fun h2 => ?_)
  · simp at h2
    simp [h2, show ¬ a < b by omega]
  · simp at h2
    simp [show ¬ a < b by omega, show ¬ b < a by omega]
noncomputable def cmpS : PS Try.prog where
  f := 49
  val args := match args with
    | [.int _ a, .int _ b] => .int .i64 (cmpF a b)
    | _ => undef
  ok args := match args with
    | [.int k a, .int k' b] => k = .i64 ∧ k' = .i64
    | _ => False
  sound args w h := by
    split at h
    · obtain ⟨rfl, rfl⟩ := h; exact ccmp_spec _ _ w
    · exact h.elim
noncomputable abbrev U3 : PF Try.prog := PF.of [cmpS]
@[simp] theorem U3_c_val (args : List Value) : U3.val 49 args = cmpS.val args := rfl
@[simp] theorem U3_c_ok (args : List Value) : U3.ok 49 args = cmpS.ok args := rfl
@[simp] theorem cmpS_val (a b : Int) : cmpS.val [.int .i64 a, .int .i64 b] = .int .i64 (cmpF a b) := rfl
@[simp] theorem cmpS_ok (a b : Int) : cmpS.ok [.int .i64 a, .int .i64 b] = (IntKind.i64 = .i64 ∧ IntKind.i64 = .i64) := rfl
theorem or_spec (a b : Int) (bk : Nat) (w0 w : World) (A : Asn) (s : St w0 (A * pt bk (.cells #[.int .i64 a, .int .i64 b] 3 (0, 0))) w) :
    CallW Try.prog 48 [.slice (some ⟨bk, 0, none⟩) 2 2] (fun r w' => r = .int .i64 (if a = 0 then b else a) ∧ St w0 A w') w := by
  have h0 : w.cell? ⟨bk, 0, none⟩ = some (.int .i64 a) := by rw [cell_of s.look]; rfl
  have h1 : w.cell? ⟨bk, 1, none⟩ = some (.int .i64 b) := by rw [cell_of s.look]; rfl
  refine callW_of_lift l48_ok (by simp [l48]) ?_
  simp [l48]
  refine loopI (fun env w' => ∃ (i : Nat) (o : Value), env = [.slice (some ⟨bk, 0, none⟩) 2 2, .int .i64 0, .int .i64 0, o, .slice (some ⟨bk, 0, none⟩) 2 2, .int .i64 2, .int .i64 i] ∧ i ≤ 2 ∧ (0 < i → a = 0) ∧ (1 < i → b = 0) ∧ w' = w)
    (fun env _ => 2 - slotN env 6) ⟨0, _, rfl, by omega, by omega, by omega, rfl⟩ ?_
  rintro LQ env w' ⟨i, o, rfl, hi, ha, hb, rfl⟩ hN hE hR
  simp
  refine cndI (fun h2 => ?_) (fun h2 => ?_)
  · simp at h2
    have hi2 : i = 0 ∨ i = 1 := by omega
    rcases hi2 with rfl | rfl
    · simp
      refine eff_ldc h0 ?_
      simp
      by_cases e : a = 0
      · simp [e]
        try simp (disch := omega) only [wrap64]
        exact hN _ _ ⟨1, _, by simp; rfl, by omega, fun _ => e, by omega, rfl⟩ (by simp [slotN])
      · simp [e]
        refine hR _ _ ?_
        simp [e]
        exact s.drop
    · simp
      refine eff_ldc h1 ?_
      simp
      by_cases e : b = 0
      · simp [e]
        try simp (disch := omega) only [wrap64]
        exact hN _ _ ⟨2, _, by simp; rfl, by omega, fun _ => ha (by omega), fun _ => e, rfl⟩ (by simp [slotN])
      · simp [e]
        refine hR _ _ ?_
        simp [ha (by omega)]
        exact s.drop
  · simp at h2
    simp
    refine hE _ _ _ ?_
    simp [ha (by omega), hb (by omega)]
    exact s.drop
-- bazaar/wheel.order
def h34_0 : HC := (.seq (.regq (some 1) (.chk none (.fld 1) (.cons (.inp 2) .nil) (.eff (.ld false 1) (.cons (.op (.fld 1) (.cons (.inp 2) .nil)) .nil) (.chk none (.fld 1) (.cons (.inp 3) .nil) (.eff (.ld false 1) (.cons (.op (.fld 1) (.cons (.inp 3) .nil)) .nil) (.chk none (.cal 49) (.cons (.bv 0) (.cons (.bv 1) .nil)) (.chk none (.fld 0) (.cons (.inp 2) .nil) (.eff (.ld false 1) (.cons (.op (.fld 0) (.cons (.inp 2) .nil)) .nil) (.chk none (.fld 0) (.cons (.inp 3) .nil) (.eff (.ld false 1) (.cons (.op (.fld 0) (.cons (.inp 3) .nil)) .nil) (.chk none (.cal 49) (.cons (.bv 2) (.cons (.bv 3) .nil)) (.eff (.bsl 3 2 1 #[(.int .i64 0)] [0, 1]) (.cons (.op (.cal 49) (.cons (.bv 0) (.cons (.bv 1) .nil))) (.cons (.op (.cal 49) (.cons (.bv 2) (.cons (.bv 3) .nil))) .nil)) (.eff (.call 48) (.cons (.bv 4) .nil) (.done [(4, (.bv 5))] none)))))))))))))) .ret)
@[simp] theorem h34_0_wp {P : Program} {F : PF P} {Q : EX → List Value → World → Prop} {env : List Value} {w : World} : h34_0.wp F Q env w = HC.wp F (.seq (.regq (some 1) (.chk none (.fld 1) (.cons (.inp 2) .nil) (.eff (.ld false 1) (.cons (.op (.fld 1) (.cons (.inp 2) .nil)) .nil) (.chk none (.fld 1) (.cons (.inp 3) .nil) (.eff (.ld false 1) (.cons (.op (.fld 1) (.cons (.inp 3) .nil)) .nil) (.chk none (.cal 49) (.cons (.bv 0) (.cons (.bv 1) .nil)) (.chk none (.fld 0) (.cons (.inp 2) .nil) (.eff (.ld false 1) (.cons (.op (.fld 0) (.cons (.inp 2) .nil)) .nil) (.chk none (.fld 0) (.cons (.inp 3) .nil) (.eff (.ld false 1) (.cons (.op (.fld 0) (.cons (.inp 3) .nil)) .nil) (.chk none (.cal 49) (.cons (.bv 2) (.cons (.bv 3) .nil)) (.eff (.bsl 3 2 1 #[(.int .i64 0)] [0, 1]) (.cons (.op (.cal 49) (.cons (.bv 0) (.cons (.bv 1) .nil))) (.cons (.op (.cal 49) (.cons (.bv 2) (.cons (.bv 3) .nil))) .nil)) (.eff (.call 48) (.cons (.bv 4) .nil) (.done [(4, (.bv 5))] none)))))))))))))) .ret) Q env w := rfl
def l34 : Lifted := ⟨[0, 1, 2, 3, 4], 17, [.slot 4], (.seq (.reg (.eff (.box 32) (.cons (.inp 0) .nil) (.eff (.box 32) (.cons (.inp 1) .nil) (.done [(2, (.bv 0)), (3, (.bv 1)), (4, (.cst (.int .i64 0)))] none)))) h34_0)⟩
theorem l34_ok : liftFn U3 34 400 = some l34 := by kernel_rfl


def ordF (x y : Int × Int) : Int := if cmpF x.2 y.2 = 0 then cmpF x.1 y.1 else cmpF x.2 y.2
abbrev encT (x : Int × Int) : List Value := [.int .i64 x.1, .int .i64 x.2]
def odC (w0 : World) (A B : Asn) (c1 c2 o : Int) : List Value → World → Prop
  | [], w => St w0 B w
  | [v], w => ∃ bk, v = .slice (some ⟨bk, 0, none⟩) 2 2 ∧ St w0 (B * pt bk (.cells #[.int .i64 c1, .int .i64 c2] 3 (0, 0))) w
  | _ :: r :: _, w => r = .int .i64 o ∧ St w0 A w
theorem order_spec (x y : Int × Int) (w0 w : World) (A : Asn) (s : St w0 A w) :
    CallW Try.prog 34 [.agg (encT x).toArray, .agg (encT y).toArray] (fun r w' => r = .int .i64 (ordF x y) ∧ St w0 A w') w := by
  refine callW_of_lift l34_ok (by simp [l34]) ?_
  simp [l34]
  refine eff_box s ?_
  intro b1 w1 s1
  simp
  refine eff_box s1 ?_
  intro b2 w2 s2
  simp
  obtain ⟨B, hB⟩ : ∃ B, A * pt b1 (.cells (encT x).toArray 32 (0, 0)) * pt b2 (.cells (encT y).toArray 32 (0, 0)) = B := ⟨_, rfl⟩
  have s2 : St w0 (A * pt b1 (.cells (encT x).toArray 32 (0, 0)) * pt b2 (.cells (encT y).toArray 32 (0, 0))) w2 := s2
  have hx : ∀ w, St w0 B w → ∀ (j : Nat) u, (encT x)[j]? = some u → w.cell? ⟨b1, j, none⟩ = some u := fun w h j u hu => by
    rw [← hB] at h
    have := h.drop.row_cells j u hu
    rwa [Nat.zero_add] at this
  have hy : ∀ w, St w0 B w → ∀ (j : Nat) u, (encT y)[j]? = some u → w.cell? ⟨b2, j, none⟩ = some u := fun w h j u hu => by
    rw [← hB] at h
    have := h.row_cells j u hu
    rwa [Nat.zero_add] at this
  have hA : ∀ w, St w0 B w → St w0 A w := fun w h => by rw [← hB] at h; exact h.drop.drop
  rw [hB] at s2
  refine regmI (odC w0 A B (cmpF x.2 y.2) (cmpF x.1 y.1) (ordF x y)) s2.drew ?_
  have ld : ∀ (b j : Nat) (u : Value), (∀ w, St w0 B w → w.cell? ⟨b, j, none⟩ = some u) → ∀ (vs' : List Value) (w : World), era 1 vs' = era 1 [] → odC w0 A B (cmpF x.2 y.2) (cmpF x.1 y.1) (ordF x y) vs' w → w.cell? ⟨b, j, none⟩ = some u := by
    intro b j u h vs' w he hw
    match vs', hw with
    | [], hw => exact h w hw
    | _ :: _, hw => simp [era] at he
  simp
  refine effm_ldc (v := .int .i64 x.2) (fun vs' w he hw => ld b1 1 _ (fun w h => hx w h 1 _ rfl) vs' w he hw) ?_
  simp
  refine effm_ldc (v := .int .i64 y.2) (fun vs' w he hw => ld b2 1 _ (fun w h => hy w h 1 _ rfl) vs' w he hw) ?_
  simp
  refine effm_ldc (v := .int .i64 x.1) (fun vs' w he hw => ld b1 0 _ (fun w h => hx w h 0 _ rfl) vs' w he hw) ?_
  simp
  refine effm_ldc (v := .int .i64 y.1) (fun vs' w he hw => ld b2 0 _ (fun w h => hy w h 0 _ rfl) vs' w he hw) ?_
  simp
  refine effm_mv rfl (fun w hw => eff_bsl2 (show St w0 B w from hw) rfl rfl fun bk w' h => ?_) (fun v hv => ?_)
  · exact ⟨bk, rfl, h⟩
  obtain ⟨w3, bk, rfl, _⟩ := hv
  simp
  refine effm_mv rfl (fun w hw => ?_) (fun v hv => ?_)
  · obtain ⟨bk', e, hw⟩ := hw
    cases e
    refine eff_call ((or_spec _ _ bk w0 w B hw).mono ?_)
    rintro r w' ⟨rfl, s'⟩
    exact ⟨rfl, hA _ s'⟩
  obtain ⟨w4, rfl, _⟩ := hv
  simp
  intro w5 h5
  exact h5.2
end Go.HL.Wh

namespace Go.HL.Wh
open Go.HL Go.Proofs
set_option maxRecDepth 4000
set_option linter.unusedSimpArgs false
set_option linter.unusedVariables false
-- (*bazaar/wheel.Wheel).Advance
def h14_0 : HC := (.seq (.reg (.done [(2, (.inp 6)), (3, (.cst (.int .i64 0)))] none)) .ret)
@[simp] theorem h14_0_wp {P : Program} {F : PF P} {Q : EX → List Value → World → Prop} {env : List Value} {w : World} : h14_0.wp F Q env w = HC.wp F (.seq (.reg (.done [(2, (.inp 6)), (3, (.cst (.int .i64 0)))] none)) .ret) Q env w := rfl
def h14_1 : HC := (.seq (.reg (.eff (.call 33) (.cons (.inp 6) (.cons (.cst (.func (.func 34) #[] #[])) .nil)) (.done [] none))) h14_0)
@[simp] theorem h14_1_wp {P : Program} {F : PF P} {Q : EX → List Value → World → Prop} {env : List Value} {w : World} : h14_1.wp F Q env w = HC.wp F (.seq (.reg (.eff (.call 33) (.cons (.inp 6) (.cons (.cst (.func (.func 34) #[] #[])) .nil)) (.done [] none))) h14_0) Q env w := rfl
def h14_2 : HC := (.reg (.chk none (.bin .add) (.cons (.inp 7) (.cons (.cst (.int .i64 1)) .nil)) (.done [(7, (.op (.bin .add) (.cons (.inp 7) (.cons (.cst (.int .i64 1)) .nil))))] none)))
@[simp] theorem h14_2_wp {P : Program} {F : PF P} {Q : EX → List Value → World → Prop} {env : List Value} {w : World} : h14_2.wp F Q env w = HC.wp F (.reg (.chk none (.bin .add) (.cons (.inp 7) (.cons (.cst (.int .i64 1)) .nil)) (.done [(7, (.op (.bin .add) (.cons (.inp 7) (.cons (.cst (.int .i64 1)) .nil))))] none))) Q env w := rfl
def h14_3 : HC := (.reg (.chk none (.bin .add) (.cons (.inp 11) (.cons (.cst (.int .i64 1)) .nil)) (.done [(11, (.op (.bin .add) (.cons (.inp 11) (.cons (.cst (.int .i64 1)) .nil))))] none)))
@[simp] theorem h14_3_wp {P : Program} {F : PF P} {Q : EX → List Value → World → Prop} {env : List Value} {w : World} : h14_3.wp F Q env w = HC.wp F (.reg (.chk none (.bin .add) (.cons (.inp 11) (.cons (.cst (.int .i64 1)) .nil)) (.done [(11, (.op (.bin .add) (.cons (.inp 11) (.cons (.cst (.int .i64 1)) .nil))))] none))) Q env w := rfl
def h14_4 : HC := (.reg (.eff (.call 30) (.cons (.inp 0) (.cons (.inp 9) .nil)) (.done [] none)))
@[simp] theorem h14_4_wp {P : Program} {F : PF P} {Q : EX → List Value → World → Prop} {env : List Value} {w : World} : h14_4.wp F Q env w = HC.wp F (.reg (.eff (.call 30) (.cons (.inp 0) (.cons (.inp 9) .nil)) (.done [] none))) Q env w := rfl
def h14_5 : HC := (.seq (.reg (.chk none .chkp (.cons (.inp 9) .nil) (.chk none (.fld 0) (.cons (.op .chkp (.cons (.inp 9) .nil)) .nil) (.eff (.ld true 2) (.cons (.op (.fld 0) (.cons (.op .chkp (.cons (.inp 9) .nil)) .nil)) .nil) (.eff (.bsl 32 1 2 #[(.int .i64 0), (.int .i64 0)] [0]) (.cons (.bv 0) .nil) (.eff (.app 38 38 32 2 16 (.agg #[(.int .i64 0), (.int .i64 0)])) (.cons (.inp 6) (.cons (.bv 1) .nil)) (.done [(6, (.bv 2))] none))))))) h14_4)
@[simp] theorem h14_5_wp {P : Program} {F : PF P} {Q : EX → List Value → World → Prop} {env : List Value} {w : World} : h14_5.wp F Q env w = HC.wp F (.seq (.reg (.chk none .chkp (.cons (.inp 9) .nil) (.chk none (.fld 0) (.cons (.op .chkp (.cons (.inp 9) .nil)) .nil) (.eff (.ld true 2) (.cons (.op (.fld 0) (.cons (.op .chkp (.cons (.inp 9) .nil)) .nil)) .nil) (.eff (.bsl 32 1 2 #[(.int .i64 0), (.int .i64 0)] [0]) (.cons (.bv 0) .nil) (.eff (.app 38 38 32 2 16 (.agg #[(.int .i64 0), (.int .i64 0)])) (.cons (.inp 6) (.cons (.bv 1) .nil)) (.done [(6, (.bv 2))] none))))))) h14_4) Q env w := rfl
def h14_6 : HC := (.reg (.chk none .chkp (.cons (.inp 0) .nil) (.chk none (.fld 1) (.cons (.op .chkp (.cons (.inp 0) .nil)) .nil) (.eff (.ld false 1) (.cons (.op (.fld 1) (.cons (.op .chkp (.cons (.inp 0) .nil)) .nil)) .nil) (.chk none (.bin .add) (.cons (.bv 0) (.cons (.cst (.int .i64 1)) .nil)) (.chk none .chkp (.cons (.inp 0) .nil) (.chk none (.fld 1) (.cons (.op .chkp (.cons (.inp 0) .nil)) .nil) (.eff (.st 1) (.cons (.op (.fld 1) (.cons (.op .chkp (.cons (.inp 0) .nil)) .nil)) (.cons (.op (.bin .add) (.cons (.bv 0) (.cons (.cst (.int .i64 1)) .nil))) .nil)) (.done [] none)))))))))
@[simp] theorem h14_6_wp {P : Program} {F : PF P} {Q : EX → List Value → World → Prop} {env : List Value} {w : World} : h14_6.wp F Q env w = HC.wp F (.reg (.chk none .chkp (.cons (.inp 0) .nil) (.chk none (.fld 1) (.cons (.op .chkp (.cons (.inp 0) .nil)) .nil) (.eff (.ld false 1) (.cons (.op (.fld 1) (.cons (.op .chkp (.cons (.inp 0) .nil)) .nil)) .nil) (.chk none (.bin .add) (.cons (.bv 0) (.cons (.cst (.int .i64 1)) .nil)) (.chk none .chkp (.cons (.inp 0) .nil) (.chk none (.fld 1) (.cons (.op .chkp (.cons (.inp 0) .nil)) .nil) (.eff (.st 1) (.cons (.op (.fld 1) (.cons (.op .chkp (.cons (.inp 0) .nil)) .nil)) (.cons (.op (.bin .add) (.cons (.bv 0) (.cons (.cst (.int .i64 1)) .nil))) .nil)) (.done [] none))))))))) Q env w := rfl
def h14_7 : HC := (.seq (.reg (.eff (.call 29) (.cons (.inp 0) (.cons (.inp 9) .nil)) (.done [] none))) h14_6)
@[simp] theorem h14_7_wp {P : Program} {F : PF P} {Q : EX → List Value → World → Prop} {env : List Value} {w : World} : h14_7.wp F Q env w = HC.wp F (.seq (.reg (.eff (.call 29) (.cons (.inp 0) (.cons (.inp 9) .nil)) (.done [] none))) h14_6) Q env w := rfl
def h14_8 : HC := (.seq (.regq (some 1) (.chk none (.cal 32) (.cons (.inp 0) (.cons (.inp 7) (.cons (.inp 8) .nil))) (.chk none .chkp (.cons (.op (.cal 32) (.cons (.inp 0) (.cons (.inp 7) (.cons (.inp 8) .nil)))) .nil) (.eff (.ld false 1) (.cons (.op .chkp (.cons (.op (.cal 32) (.cons (.inp 0) (.cons (.inp 7) (.cons (.inp 8) .nil)))) .nil)) .nil) (.chk none .chkp (.cons (.inp 9) .nil) (.chk none (.fld 0) (.cons (.op .chkp (.cons (.inp 9) .nil)) .nil) (.chk none (.fld 0) (.cons (.op (.fld 0) (.cons (.op .chkp (.cons (.inp 9) .nil)) .nil)) .nil) (.eff (.ld false 1) (.cons (.op (.fld 0) (.cons (.op (.fld 0) (.cons (.op .chkp (.cons (.inp 9) .nil)) .nil)) .nil)) .nil) (.eff (.bi .delete #[72, 3] 0 #[false, false]) (.cons (.bv 0) (.cons (.bv 1) .nil)) (.done [] none)))))))))) h14_7)
@[simp] theorem h14_8_wp {P : Program} {F : PF P} {Q : EX → List Value → World → Prop} {env : List Value} {w : World} : h14_8.wp F Q env w = HC.wp F (.seq (.regq (some 1) (.chk none (.cal 32) (.cons (.inp 0) (.cons (.inp 7) (.cons (.inp 8) .nil))) (.chk none .chkp (.cons (.op (.cal 32) (.cons (.inp 0) (.cons (.inp 7) (.cons (.inp 8) .nil)))) .nil) (.eff (.ld false 1) (.cons (.op .chkp (.cons (.op (.cal 32) (.cons (.inp 0) (.cons (.inp 7) (.cons (.inp 8) .nil)))) .nil)) .nil) (.chk none .chkp (.cons (.inp 9) .nil) (.chk none (.fld 0) (.cons (.op .chkp (.cons (.inp 9) .nil)) .nil) (.chk none (.fld 0) (.cons (.op (.fld 0) (.cons (.op .chkp (.cons (.inp 9) .nil)) .nil)) .nil) (.eff (.ld false 1) (.cons (.op (.fld 0) (.cons (.op (.fld 0) (.cons (.op .chkp (.cons (.inp 9) .nil)) .nil)) .nil)) .nil) (.eff (.bi .delete #[72, 3] 0 #[false, false]) (.cons (.bv 0) (.cons (.bv 1) .nil)) (.done [] none)))))))))) h14_7) Q env w := rfl
def h14_9 : HC := (.br (.chk none (.bin .neq) (.cons (.inp 10) (.cons (.inp 7) .nil)) (.done [] (some (.op (.bin .neq) (.cons (.inp 10) (.cons (.inp 7) .nil)))))) h14_8 .skip)
@[simp] theorem h14_9_wp {P : Program} {F : PF P} {Q : EX → List Value → World → Prop} {env : List Value} {w : World} : h14_9.wp F Q env w = HC.wp F (.br (.chk none (.bin .neq) (.cons (.inp 10) (.cons (.inp 7) .nil)) (.done [] (some (.op (.bin .neq) (.cons (.inp 10) (.cons (.inp 7) .nil)))))) h14_8 .skip) Q env w := rfl
def h14_10 : HC := (.seq (.reg (.chk none .chkp (.cons (.inp 9) .nil) (.chk none (.fld 0) (.cons (.op .chkp (.cons (.inp 9) .nil)) .nil) (.chk none (.fld 1) (.cons (.op (.fld 0) (.cons (.op .chkp (.cons (.inp 9) .nil)) .nil)) .nil) (.eff (.ld false 1) (.cons (.op (.fld 1) (.cons (.op (.fld 0) (.cons (.op .chkp (.cons (.inp 9) .nil)) .nil)) .nil)) .nil) (.chk none (.cal 31) (.cons (.bv 0) (.cons (.inp 1) .nil)) (.chk none (.ext 0) (.cons (.op (.cal 31) (.cons (.bv 0) (.cons (.inp 1) .nil))) .nil) (.chk none (.ext 1) (.cons (.op (.cal 31) (.cons (.bv 0) (.cons (.inp 1) .nil))) .nil) (.done [(10, (.op (.ext 0) (.cons (.op (.cal 31) (.cons (.bv 0) (.cons (.inp 1) .nil))) .nil)))] none))))))))) h14_9)
@[simp] theorem h14_10_wp {P : Program} {F : PF P} {Q : EX → List Value → World → Prop} {env : List Value} {w : World} : h14_10.wp F Q env w = HC.wp F (.seq (.reg (.chk none .chkp (.cons (.inp 9) .nil) (.chk none (.fld 0) (.cons (.op .chkp (.cons (.inp 9) .nil)) .nil) (.chk none (.fld 1) (.cons (.op (.fld 0) (.cons (.op .chkp (.cons (.inp 9) .nil)) .nil)) .nil) (.eff (.ld false 1) (.cons (.op (.fld 1) (.cons (.op (.fld 0) (.cons (.op .chkp (.cons (.inp 9) .nil)) .nil)) .nil)) .nil) (.chk none (.cal 31) (.cons (.bv 0) (.cons (.inp 1) .nil)) (.chk none (.ext 0) (.cons (.op (.cal 31) (.cons (.bv 0) (.cons (.inp 1) .nil))) .nil) (.chk none (.ext 1) (.cons (.op (.cal 31) (.cons (.bv 0) (.cons (.inp 1) .nil))) .nil) (.done [(10, (.op (.ext 0) (.cons (.op (.cal 31) (.cons (.bv 0) (.cons (.inp 1) .nil))) .nil)))] none))))))))) h14_9) Q env w := rfl
def h14_11 : HC := (.br (.chk none .chkp (.cons (.inp 9) .nil) (.chk none (.fld 0) (.cons (.op .chkp (.cons (.inp 9) .nil)) .nil) (.chk none (.fld 1) (.cons (.op (.fld 0) (.cons (.op .chkp (.cons (.inp 9) .nil)) .nil)) .nil) (.eff (.ld false 1) (.cons (.op (.fld 1) (.cons (.op (.fld 0) (.cons (.op .chkp (.cons (.inp 9) .nil)) .nil)) .nil)) .nil) (.chk none (.bin .leq) (.cons (.bv 0) (.cons (.inp 1) .nil)) (.done [] (some (.op (.bin .leq) (.cons (.bv 0) (.cons (.inp 1) .nil)))))))))) h14_5 h14_10)
@[simp] theorem h14_11_wp {P : Program} {F : PF P} {Q : EX → List Value → World → Prop} {env : List Value} {w : World} : h14_11.wp F Q env w = HC.wp F (.br (.chk none .chkp (.cons (.inp 9) .nil) (.chk none (.fld 0) (.cons (.op .chkp (.cons (.inp 9) .nil)) .nil) (.chk none (.fld 1) (.cons (.op (.fld 0) (.cons (.op .chkp (.cons (.inp 9) .nil)) .nil)) .nil) (.eff (.ld false 1) (.cons (.op (.fld 1) (.cons (.op (.fld 0) (.cons (.op .chkp (.cons (.inp 9) .nil)) .nil)) .nil)) .nil) (.chk none (.bin .leq) (.cons (.bv 0) (.cons (.inp 1) .nil)) (.done [] (some (.op (.bin .leq) (.cons (.bv 0) (.cons (.inp 1) .nil)))))))))) h14_5 h14_10) Q env w := rfl
def h14_12 : HC := (.seq (.reg (.eff .ent (.cons (.inp 12) .nil) (.chk none (.ext 1) (.cons (.bv 0) .nil) (.done [(9, (.op (.ext 1) (.cons (.bv 0) .nil)))] none)))) h14_11)
@[simp] theorem h14_12_wp {P : Program} {F : PF P} {Q : EX → List Value → World → Prop} {env : List Value} {w : World} : h14_12.wp F Q env w = HC.wp F (.seq (.reg (.eff .ent (.cons (.inp 12) .nil) (.chk none (.ext 1) (.cons (.bv 0) .nil) (.done [(9, (.op (.ext 1) (.cons (.bv 0) .nil)))] none)))) h14_11) Q env w := rfl
def h14_13 : HC := (.block 6 h14_12)
@[simp] theorem h14_13_wp {P : Program} {F : PF P} {Q : EX → List Value → World → Prop} {env : List Value} {w : World} : h14_13.wp F Q env w = HC.wp F (.block 6 h14_12) Q env w := rfl
def h14_14 : HC := (.seq (.br (.eff (.nxt false 0) (.cons (.inp 12) .nil) (.chk none (.ext 0) (.cons (.bv 0) .nil) (.done [] (some (.op (.ext 0) (.cons (.bv 0) .nil)))))) .skip (.exit 5)) h14_13)
@[simp] theorem h14_14_wp {P : Program} {F : PF P} {Q : EX → List Value → World → Prop} {env : List Value} {w : World} : h14_14.wp F Q env w = HC.wp F (.seq (.br (.eff (.nxt false 0) (.cons (.inp 12) .nil) (.chk none (.ext 0) (.cons (.bv 0) .nil) (.done [] (some (.op (.ext 0) (.cons (.bv 0) .nil)))))) .skip (.exit 5)) h14_13) Q env w := rfl
def h14_15 : HC := (.loop h14_14)
@[simp] theorem h14_15_wp {P : Program} {F : PF P} {Q : EX → List Value → World → Prop} {env : List Value} {w : World} : h14_15.wp F Q env w = HC.wp F (.loop h14_14) Q env w := rfl
def h14_16 : HC := (.block 5 h14_15)
@[simp] theorem h14_16_wp {P : Program} {F : PF P} {Q : EX → List Value → World → Prop} {env : List Value} {w : World} : h14_16.wp F Q env w = HC.wp F (.block 5 h14_15) Q env w := rfl
def h14_17 : HC := (.seq (.reg (.chk none (.cal 32) (.cons (.inp 0) (.cons (.inp 7) (.cons (.inp 8) .nil))) (.chk none .chkp (.cons (.op (.cal 32) (.cons (.inp 0) (.cons (.inp 7) (.cons (.inp 8) .nil)))) .nil) (.eff (.ld false 1) (.cons (.op .chkp (.cons (.op (.cal 32) (.cons (.inp 0) (.cons (.inp 7) (.cons (.inp 8) .nil)))) .nil)) .nil) (.eff (.rng 72) (.cons (.bv 0) .nil) (.done [(12, (.bv 1))] none)))))) h14_16)
@[simp] theorem h14_17_wp {P : Program} {F : PF P} {Q : EX → List Value → World → Prop} {env : List Value} {w : World} : h14_17.wp F Q env w = HC.wp F (.seq (.reg (.chk none (.cal 32) (.cons (.inp 0) (.cons (.inp 7) (.cons (.inp 8) .nil))) (.chk none .chkp (.cons (.op (.cal 32) (.cons (.inp 0) (.cons (.inp 7) (.cons (.inp 8) .nil)))) .nil) (.eff (.ld false 1) (.cons (.op .chkp (.cons (.op (.cal 32) (.cons (.inp 0) (.cons (.inp 7) (.cons (.inp 8) .nil)))) .nil)) .nil) (.eff (.rng 72) (.cons (.bv 0) .nil) (.done [(12, (.bv 1))] none)))))) h14_16) Q env w := rfl
def h14_18 : HC := (.seq (.br (.chk none (.bin .eql) (.cons (.inp 7) (.cons (.cst (.int .i64 4)) .nil)) (.bnd (.op (.bin .eql) (.cons (.inp 7) (.cons (.cst (.int .i64 4)) .nil))) (.chk (some ((.bv 0), true)) (.bin .gtr) (.cons (.inp 8) (.cons (.cst (.int .i64 0)) .nil)) (.isb none (.bv 0) (.bnd (.ite (.bv 0) true (.op (.bin .gtr) (.cons (.inp 8) (.cons (.cst (.int .i64 0)) .nil))) (.cst (.bool false))) (.chk (some ((.bv 1), false)) (.bin .eql) (.cons (.inp 7) (.cons (.inp 4) .nil)) (.bnd (.ite (.bv 1) false (.op (.bin .eql) (.cons (.inp 7) (.cons (.inp 4) .nil))) (.cst (.tuple #[]))) (.chk (some ((.bv 2), true)) (.bin .gtr) (.cons (.inp 8) (.cons (.inp 5) .nil)) (.isb (some ((.bv 1), false)) (.bv 2) (.isb none (.bv 1) (.done [] (some (.ite (.bv 1) true (.cst (.bool true)) (.ite (.bv 2) true (.op (.bin .gtr) (.cons (.inp 8) (.cons (.inp 5) .nil))) (.cst (.bool false)))))))))))))))) (.exit 3) .skip) h14_17)
@[simp] theorem h14_18_wp {P : Program} {F : PF P} {Q : EX → List Value → World → Prop} {env : List Value} {w : World} : h14_18.wp F Q env w = HC.wp F (.seq (.br (.chk none (.bin .eql) (.cons (.inp 7) (.cons (.cst (.int .i64 4)) .nil)) (.bnd (.op (.bin .eql) (.cons (.inp 7) (.cons (.cst (.int .i64 4)) .nil))) (.chk (some ((.bv 0), true)) (.bin .gtr) (.cons (.inp 8) (.cons (.cst (.int .i64 0)) .nil)) (.isb none (.bv 0) (.bnd (.ite (.bv 0) true (.op (.bin .gtr) (.cons (.inp 8) (.cons (.cst (.int .i64 0)) .nil))) (.cst (.bool false))) (.chk (some ((.bv 1), false)) (.bin .eql) (.cons (.inp 7) (.cons (.inp 4) .nil)) (.bnd (.ite (.bv 1) false (.op (.bin .eql) (.cons (.inp 7) (.cons (.inp 4) .nil))) (.cst (.tuple #[]))) (.chk (some ((.bv 2), true)) (.bin .gtr) (.cons (.inp 8) (.cons (.inp 5) .nil)) (.isb (some ((.bv 1), false)) (.bv 2) (.isb none (.bv 1) (.done [] (some (.ite (.bv 1) true (.cst (.bool true)) (.ite (.bv 2) true (.op (.bin .gtr) (.cons (.inp 8) (.cons (.inp 5) .nil))) (.cst (.bool false)))))))))))))))) (.exit 3) .skip) h14_17) Q env w := rfl
def h14_19 : HC := (.seq (.reg (.done [(8, (.inp 11))] none)) h14_18)
@[simp] theorem h14_19_wp {P : Program} {F : PF P} {Q : EX → List Value → World → Prop} {env : List Value} {w : World} : h14_19.wp F Q env w = HC.wp F (.seq (.reg (.done [(8, (.inp 11))] none)) h14_18) Q env w := rfl
def h14_20 : HC := (.seq (.block 4 h14_19) h14_3)
@[simp] theorem h14_20_wp {P : Program} {F : PF P} {Q : EX → List Value → World → Prop} {env : List Value} {w : World} : h14_20.wp F Q env w = HC.wp F (.seq (.block 4 h14_19) h14_3) Q env w := rfl
def h14_21 : HC := (.seq (.br (.chk none (.bin .lss) (.cons (.inp 11) (.cons (.cst (.int .i64 64)) .nil)) (.done [] (some (.op (.bin .lss) (.cons (.inp 11) (.cons (.cst (.int .i64 64)) .nil)))))) .skip (.exit 3)) h14_20)
@[simp] theorem h14_21_wp {P : Program} {F : PF P} {Q : EX → List Value → World → Prop} {env : List Value} {w : World} : h14_21.wp F Q env w = HC.wp F (.seq (.br (.chk none (.bin .lss) (.cons (.inp 11) (.cons (.cst (.int .i64 64)) .nil)) (.done [] (some (.op (.bin .lss) (.cons (.inp 11) (.cons (.cst (.int .i64 64)) .nil)))))) .skip (.exit 3)) h14_20) Q env w := rfl
def h14_22 : HC := (.loop h14_21)
@[simp] theorem h14_22_wp {P : Program} {F : PF P} {Q : EX → List Value → World → Prop} {env : List Value} {w : World} : h14_22.wp F Q env w = HC.wp F (.loop h14_21) Q env w := rfl
def h14_23 : HC := (.block 3 h14_22)
@[simp] theorem h14_23_wp {P : Program} {F : PF P} {Q : EX → List Value → World → Prop} {env : List Value} {w : World} : h14_23.wp F Q env w = HC.wp F (.block 3 h14_22) Q env w := rfl
def h14_24 : HC := (.seq (.reg (.done [(11, (.cst (.int .i64 0)))] none)) h14_23)
@[simp] theorem h14_24_wp {P : Program} {F : PF P} {Q : EX → List Value → World → Prop} {env : List Value} {w : World} : h14_24.wp F Q env w = HC.wp F (.seq (.reg (.done [(11, (.cst (.int .i64 0)))] none)) h14_23) Q env w := rfl
def h14_25 : HC := (.seq (.block 2 h14_24) h14_2)
@[simp] theorem h14_25_wp {P : Program} {F : PF P} {Q : EX → List Value → World → Prop} {env : List Value} {w : World} : h14_25.wp F Q env w = HC.wp F (.seq (.block 2 h14_24) h14_2) Q env w := rfl
def h14_26 : HC := (.seq (.br (.chk none (.bin .leq) (.cons (.inp 7) (.cons (.inp 4) .nil)) (.done [] (some (.op (.bin .leq) (.cons (.inp 7) (.cons (.inp 4) .nil)))))) .skip (.exit 1)) h14_25)
@[simp] theorem h14_26_wp {P : Program} {F : PF P} {Q : EX → List Value → World → Prop} {env : List Value} {w : World} : h14_26.wp F Q env w = HC.wp F (.seq (.br (.chk none (.bin .leq) (.cons (.inp 7) (.cons (.inp 4) .nil)) (.done [] (some (.op (.bin .leq) (.cons (.inp 7) (.cons (.inp 4) .nil)))))) .skip (.exit 1)) h14_25) Q env w := rfl
def h14_27 : HC := (.loop h14_26)
@[simp] theorem h14_27_wp {P : Program} {F : PF P} {Q : EX → List Value → World → Prop} {env : List Value} {w : World} : h14_27.wp F Q env w = HC.wp F (.loop h14_26) Q env w := rfl
def h14_28 : HC := (.seq (.block 1 h14_27) h14_1)
@[simp] theorem h14_28_wp {P : Program} {F : PF P} {Q : EX → List Value → World → Prop} {env : List Value} {w : World} : h14_28.wp F Q env w = HC.wp F (.seq (.block 1 h14_27) h14_1) Q env w := rfl
def h14_29 : HC := (.seq (.reg (.done [(7, (.cst (.int .i64 0)))] none)) h14_28)
@[simp] theorem h14_29_wp {P : Program} {F : PF P} {Q : EX → List Value → World → Prop} {env : List Value} {w : World} : h14_29.wp F Q env w = HC.wp F (.seq (.reg (.done [(7, (.cst (.int .i64 0)))] none)) h14_28) Q env w := rfl
def h14_30 : HC := (.seq (.reg (.done [(6, (.cst (.slice none 0 0)))] none)) h14_29)
@[simp] theorem h14_30_wp {P : Program} {F : PF P} {Q : EX → List Value → World → Prop} {env : List Value} {w : World} : h14_30.wp F Q env w = HC.wp F (.seq (.reg (.done [(6, (.cst (.slice none 0 0)))] none)) h14_29) Q env w := rfl
def h14_31 : HC := (.seq (.reg (.chk none .chkp (.cons (.inp 0) .nil) (.chk none (.fld 0) (.cons (.op .chkp (.cons (.inp 0) .nil)) .nil) (.eff (.st 1) (.cons (.op (.fld 0) (.cons (.op .chkp (.cons (.inp 0) .nil)) .nil)) (.cons (.inp 1) .nil)) (.done [] none))))) h14_30)
@[simp] theorem h14_31_wp {P : Program} {F : PF P} {Q : EX → List Value → World → Prop} {env : List Value} {w : World} : h14_31.wp F Q env w = HC.wp F (.seq (.reg (.chk none .chkp (.cons (.inp 0) .nil) (.chk none (.fld 0) (.cons (.op .chkp (.cons (.inp 0) .nil)) .nil) (.eff (.st 1) (.cons (.op (.fld 0) (.cons (.op .chkp (.cons (.inp 0) .nil)) .nil)) (.cons (.inp 1) .nil)) (.done [] none))))) h14_30) Q env w := rfl
def h14_32 : HC := (.seq (.reg (.chk none .chkp (.cons (.inp 0) .nil) (.chk none (.fld 0) (.cons (.op .chkp (.cons (.inp 0) .nil)) .nil) (.eff (.ld false 1) (.cons (.op (.fld 0) (.cons (.op .chkp (.cons (.inp 0) .nil)) .nil)) .nil) (.chk none (.cal 31) (.cons (.inp 1) (.cons (.bv 0) .nil)) (.chk none (.ext 0) (.cons (.op (.cal 31) (.cons (.inp 1) (.cons (.bv 0) .nil))) .nil) (.chk none (.ext 1) (.cons (.op (.cal 31) (.cons (.inp 1) (.cons (.bv 0) .nil))) .nil) (.done [(4, (.op (.ext 0) (.cons (.op (.cal 31) (.cons (.inp 1) (.cons (.bv 0) .nil))) .nil))), (5, (.op (.ext 1) (.cons (.op (.cal 31) (.cons (.inp 1) (.cons (.bv 0) .nil))) .nil)))] none)))))))) h14_31)
@[simp] theorem h14_32_wp {P : Program} {F : PF P} {Q : EX → List Value → World → Prop} {env : List Value} {w : World} : h14_32.wp F Q env w = HC.wp F (.seq (.reg (.chk none .chkp (.cons (.inp 0) .nil) (.chk none (.fld 0) (.cons (.op .chkp (.cons (.inp 0) .nil)) .nil) (.eff (.ld false 1) (.cons (.op (.fld 0) (.cons (.op .chkp (.cons (.inp 0) .nil)) .nil)) .nil) (.chk none (.cal 31) (.cons (.inp 1) (.cons (.bv 0) .nil)) (.chk none (.ext 0) (.cons (.op (.cal 31) (.cons (.inp 1) (.cons (.bv 0) .nil))) .nil) (.chk none (.ext 1) (.cons (.op (.cal 31) (.cons (.inp 1) (.cons (.bv 0) .nil))) .nil) (.done [(4, (.op (.ext 0) (.cons (.op (.cal 31) (.cons (.inp 1) (.cons (.bv 0) .nil))) .nil))), (5, (.op (.ext 1) (.cons (.op (.cal 31) (.cons (.inp 1) (.cons (.bv 0) .nil))) .nil)))] none)))))))) h14_31) Q env w := rfl
def h14_33 : HC := (.seq (.reg (.done [(2, (.cst (.slice none 0 0))), (3, (.cst (.int .i64 1)))] none)) .ret)
@[simp] theorem h14_33_wp {P : Program} {F : PF P} {Q : EX → List Value → World → Prop} {env : List Value} {w : World} : h14_33.wp F Q env w = HC.wp F (.seq (.reg (.done [(2, (.cst (.slice none 0 0))), (3, (.cst (.int .i64 1)))] none)) .ret) Q env w := rfl
def h14_34 : HC := (.seq (.reg (.done [(2, (.cst (.slice none 0 0))), (3, (.cst (.int .i64 90)))] none)) .ret)
@[simp] theorem h14_34_wp {P : Program} {F : PF P} {Q : EX → List Value → World → Prop} {env : List Value} {w : World} : h14_34.wp F Q env w = HC.wp F (.seq (.reg (.done [(2, (.cst (.slice none 0 0))), (3, (.cst (.int .i64 90)))] none)) .ret) Q env w := rfl
def h14_35 : HC := (.seq (.reg (.done [(2, (.cst (.slice none 0 0))), (3, (.cst (.int .i64 0)))] none)) .ret)
@[simp] theorem h14_35_wp {P : Program} {F : PF P} {Q : EX → List Value → World → Prop} {env : List Value} {w : World} : h14_35.wp F Q env w = HC.wp F (.seq (.reg (.done [(2, (.cst (.slice none 0 0))), (3, (.cst (.int .i64 0)))] none)) .ret) Q env w := rfl
def h14_36 : HC := (.br (.chk none .chkp (.cons (.inp 0) .nil) (.chk none (.fld 0) (.cons (.op .chkp (.cons (.inp 0) .nil)) .nil) (.eff (.ld false 1) (.cons (.op (.fld 0) (.cons (.op .chkp (.cons (.inp 0) .nil)) .nil)) .nil) (.chk none (.bin .eql) (.cons (.inp 1) (.cons (.bv 0) .nil)) (.done [] (some (.op (.bin .eql) (.cons (.inp 1) (.cons (.bv 0) .nil))))))))) h14_35 .skip)
@[simp] theorem h14_36_wp {P : Program} {F : PF P} {Q : EX → List Value → World → Prop} {env : List Value} {w : World} : h14_36.wp F Q env w = HC.wp F (.br (.chk none .chkp (.cons (.inp 0) .nil) (.chk none (.fld 0) (.cons (.op .chkp (.cons (.inp 0) .nil)) .nil) (.eff (.ld false 1) (.cons (.op (.fld 0) (.cons (.op .chkp (.cons (.inp 0) .nil)) .nil)) .nil) (.chk none (.bin .eql) (.cons (.inp 1) (.cons (.bv 0) .nil)) (.done [] (some (.op (.bin .eql) (.cons (.inp 1) (.cons (.bv 0) .nil))))))))) h14_35 .skip) Q env w := rfl
def h14_37 : HC := (.br (.chk none .chkp (.cons (.inp 0) .nil) (.chk none (.fld 0) (.cons (.op .chkp (.cons (.inp 0) .nil)) .nil) (.eff (.ld false 1) (.cons (.op (.fld 0) (.cons (.op .chkp (.cons (.inp 0) .nil)) .nil)) .nil) (.chk none (.bin .lss) (.cons (.inp 1) (.cons (.bv 0) .nil)) (.bnd (.op (.bin .lss) (.cons (.inp 1) (.cons (.bv 0) .nil))) (.chk (some ((.bv 1), false)) (.bin .gtr) (.cons (.inp 1) (.cons (.cst (.int .i64 1099511627776)) .nil)) (.isb none (.bv 1) (.done [] (some (.ite (.bv 1) true (.cst (.bool true)) (.op (.bin .gtr) (.cons (.inp 1) (.cons (.cst (.int .i64 1099511627776)) .nil))))))))))))) h14_34 h14_36)
@[simp] theorem h14_37_wp {P : Program} {F : PF P} {Q : EX → List Value → World → Prop} {env : List Value} {w : World} : h14_37.wp F Q env w = HC.wp F (.br (.chk none .chkp (.cons (.inp 0) .nil) (.chk none (.fld 0) (.cons (.op .chkp (.cons (.inp 0) .nil)) .nil) (.eff (.ld false 1) (.cons (.op (.fld 0) (.cons (.op .chkp (.cons (.inp 0) .nil)) .nil)) .nil) (.chk none (.bin .lss) (.cons (.inp 1) (.cons (.bv 0) .nil)) (.bnd (.op (.bin .lss) (.cons (.inp 1) (.cons (.bv 0) .nil))) (.chk (some ((.bv 1), false)) (.bin .gtr) (.cons (.inp 1) (.cons (.cst (.int .i64 1099511627776)) .nil)) (.isb none (.bv 1) (.done [] (some (.ite (.bv 1) true (.cst (.bool true)) (.op (.bin .gtr) (.cons (.inp 1) (.cons (.cst (.int .i64 1099511627776)) .nil))))))))))))) h14_34 h14_36) Q env w := rfl
def h14_38 : HC := (.br (.chk none (.eqNil false (.pointer 76) (.pointer none)) (.cons (.inp 0) .nil) (.done [] (some (.op (.eqNil false (.pointer 76) (.pointer none)) (.cons (.inp 0) .nil))))) h14_33 h14_37)
@[simp] theorem h14_38_wp {P : Program} {F : PF P} {Q : EX → List Value → World → Prop} {env : List Value} {w : World} : h14_38.wp F Q env w = HC.wp F (.br (.chk none (.eqNil false (.pointer 76) (.pointer none)) (.cons (.inp 0) .nil) (.done [] (some (.op (.eqNil false (.pointer 76) (.pointer none)) (.cons (.inp 0) .nil))))) h14_33 h14_37) Q env w := rfl
def h14_39 : HC := (.seq (.block 0 h14_38) h14_32)
@[simp] theorem h14_39_wp {P : Program} {F : PF P} {Q : EX → List Value → World → Prop} {env : List Value} {w : World} : h14_39.wp F Q env w = HC.wp F (.seq (.block 0 h14_38) h14_32) Q env w := rfl
def l14 : Lifted := ⟨[0, 1, 4, 5, 6, 7, 8, 9, 10, 12, 13, 54, 79], 139, [.slot 2, .slot 3], (.seq (.reg (.done [(2, (.cst (.slice none 0 0))), (3, (.cst (.int .i64 0)))] none)) h14_39)⟩
theorem l14_ok : liftFn U2 14 400 = some l14 := by kernel_rfl


def tmr (t : Tm) : Int × Int := (t.n, (t.a : Int))
abbrev outs (v : Value) (os : List (Int × Int)) : Asn := own 32 2 v os.length (os.flatMap encT)
/-- one that is due -/
theorem due_part (p am now mv : Nat) (Y : Dk) (u : Tm) (aes : List En) (ac : Nat) (x : Nat × List En × Nat) (v : Value) (os : List (Int × Int)) (w0 w : World) (A : Asn) {Q : EX → List Value → World → Prop} (x1 x2 x3 x4 x5 x7 x8 x10 x11 x12 : Value) (ht : tmOK u) (hY : Y (tmQ u) = some x) (hos : os.length ≤ 65536)
    (s : St w0 (A * imap am aes ac * bigA slA Y 257 * wc p now mv am Y * outs v os * tmA u) w)
    (hk : ∀ v' w', St w0 (A * imap am (delI aes u.n) ac * bigA slA (upF Y (tmQ u) (dlX (some x) u.n)) 257 * wc p now mv am (upF Y (tmQ u) (dlX (some x) u.n)) * outs v' (os ++ [tmr u])) w' → Q .nrm [.pointer (some ⟨p, 0, none⟩), x1, x2, x3, x4, x5, v', x7, x8, tp u, x10, x11, x12] w') :
    h14_5.wp U2 Q [.pointer (some ⟨p, 0, none⟩), x1, x2, x3, x4, x5, v, x7, x8, tp u, x10, x11, x12] w := by
  simp
  refine eff_ldcs (vs := encT (tmr u)) (fun j y hy => ?_) rfl ?_
  · have hj : u.cs[j]? = some y := by
      match j, hy with
      | 0, hy => exact hy
      | 1, hy => exact hy
    exact s.row_cells j y hj
  simp
  refine eff_bslV s rfl ?_
  intro c w1 s1
  simp
  refine eff_app (m := 1) (news := encT (tmr u)) (s1.to (B := A * imap am aes ac * bigA slA Y 257 * wc p now mv am Y * tmA u * pt c (.cells (encT (tmr u)).toArray 32 (0, 0)) * outs v os) (by ac_rfl)) rfl s1.cells_look (fun y hy => by simp at hy; rcases hy with rfl | rfl <;> rfl) (by decide) rfl (by unfold maxLen; omega) (by omega) ?_
  intro v2 w2 s2
  simp
  have e : own 32 2 v2 (os.length + 1) (os.flatMap encT ++ encT (tmr u)) = outs v2 (os ++ [tmr u]) := by
    show _ = own _ 2 v2 (os ++ [tmr u]).length ((os ++ [tmr u]).flatMap encT)
    rw [List.length_append, List.flatMap_append]
    simp
  rw [e] at s2
  refine eff_call (drop_spec p am now mv Y u aes ac x w0 w2 (A * outs v2 (os ++ [tmr u])) ht hY (St.cut (pt c (.cells (encT (tmr u)).toArray 32 (0, 0))) s2 (by ac_rfl)) fun r w3 s3 => ?_)
  simp
  exact hk _ _ (St.cut (tmA u) s3 (by ac_rfl))
/-- one that goes to another place -/
theorem mov_part (p am now mv : Nat) (Y : Dk) (u : Tm) (x : Nat × List En × Nat) (w0 w : World) (A : Asn) {Q : EX → List Value → World → Prop} (l n : Nat) (x1 x2 x3 x4 x5 x6 x10 x11 x12 : Value) (hl : l ≤ 4) (hn : n < 64) (h4 : l = 4 → n = 0) (hY : Y (l * 64 + n) = some x) (ha : u.a ≤ 1099511627776) (hnow : now ≤ 1099511627776) (hmv : mv ≤ 4611686018427387904)
    (hfree : getI (slE (upF Y (l * 64 + n) (dlX (some x) u.n) (hgQ u now))) u.n = none)
    (s : St w0 (A * bigA slA Y 257 * wc p now mv am Y * tmA u) w)
    (hk : ∀ Y' m w', Y' = upF Y (l * 64 + n) (dlX (some x) u.n) → St w0 (A * bigA slA (upF Y' (hgQ u now) (hgX m (Y' (hgQ u now)) u)) 257 * wc p now (mv + 1) am (upF Y' (hgQ u now) (hgX m (Y' (hgQ u now)) u)) * tmA (hgT u now)) w' → Q .nrm [.pointer (some ⟨p, 0, none⟩), x1, x2, x3, x4, x5, x6, .int .i64 l, .int .i64 n, tp u, x10, x11, x12] w') :
    h14_8.wp U2 Q [.pointer (some ⟨p, 0, none⟩), x1, x2, x3, x4, x5, x6, .int .i64 l, .int .i64 n, tp u, x10, x11, x12] w := by
  obtain ⟨q, hqe⟩ : ∃ q, l * 64 + n = q := ⟨_, rfl⟩
  have hq257 : q < 257 := by omega
  rw [hqe] at hY hk hfree
  rw [big_at hq257, hY] at s
  have s : St w0 (A * (bigH slA Y q 257 * imap x.1 x.2.1 x.2.2) * wc p now mv am Y * tmA u) w := s
  simp
  refine regmI (plC2 (St w0 (A * (bigH slA Y q 257 * imap x.1 x.2.1 x.2.2) * wc p now mv am Y * tmA u)) (St w0 (A * (bigH slA Y q 257 * imap x.1 (delI x.2.1 u.n) x.2.2) * wc p now mv am Y * tmA u))) s.drew ?_
  simp
  refine ⟨⟨by omega, by omega, by omega⟩, ?_⟩
  rw [hqe]
  refine effm_ldc (v := .map (some x.1)) (fun vs' w he hw => ?_) ?_
  · match vs', hw with
    | [], hw =>
      have := wc_cell (show St w0 _ w from hw).drop hq257
      rw [hY] at this
      exact this
    | _ :: _, hw => simp [era] at he
  simp
  refine effm_ldc (v := .int .i64 u.n) (fun vs' w he hw => ?_) ?_
  · match vs', hw with
    | [], hw => exact (show St w0 _ w from hw).row_cells 0 _ rfl
    | _ :: _, hw => simp [era] at he
  simp
  refine effm_mv rfl (fun w hw => eff_delI hungI (St.to (show St w0 _ w from hw) (B := A * bigH slA Y q 257 * wc p now mv am Y * tmA u * imap x.1 x.2.1 x.2.2) (by ac_rfl)) fun w' h => ?_) (fun v _ => ?_)
  · show St w0 _ w'
    exact h.to (by ac_rfl)
  simp
  intro w2 s2
  have s2 : St w0 (A * (bigH slA Y q 257 * imap x.1 (delI x.2.1 u.n) x.2.2) * wc p now mv am Y * tmA u) w2 := s2
  obtain ⟨Y', hY'⟩ : ∃ Y', upF Y q (dlX (some x) u.n) = Y' := ⟨_, rfl⟩
  have s3 : St w0 (A * bigA slA Y' 257 * wc p now mv am Y' * tmA u) w2 := by
    rw [← hY', big_set hq257, wc_id p now mv am Y hq257 (x := dlX (some x) u.n) (by rw [hY]; rfl), show slA q (dlX (some x) u.n) = imap x.1 (delI x.2.1 u.n) x.2.2 from rfl]
    exact s2
  rw [hY'] at hfree hk
  refine eff_call (hang_spec p am now mv Y' u w0 w2 A (by omega) (by omega) hfree s3 fun r m w3 hm s4 => ?_)
  obtain ⟨Z, hZ⟩ : ∃ Z, upF Y' (hgQ u now) (hgX m (Y' (hgQ u now)) u) = Z := ⟨_, rfl⟩
  have hk := hk Y' m
  rw [hZ] at s4 hk
  simp
  refine eff_ldc (v := .int .i64 mv) (s4.drop.row_cells 1 _ rfl) ?_
  simp
  try simp (disch := omega) only [wrap64]
  refine eff_st1 (s4.swap) rfl (by simp [wcs_len]) ?_
  intro w4 s5
  simp
  refine hk w4 rfl ?_
  have e : (wcs now mv am Z).toArray.setIfInBounds 1 (.int .i64 (mv + 1)) = (wcs now (mv + 1) am Z).toArray := by
    simp [wcs]
  rw [e] at s5
  exact s5.swap
end Go.HL.Wh

namespace Go.HL.Wh
open Go.HL Go.Proofs
set_option maxRecDepth 4000
set_option linter.unusedSimpArgs false
set_option linter.unusedVariables false
def seenN (w : World) (b : Nat) : Nat := match w.heap[b]? with
  | some (.mapIter _ _ seen _) => seen.size
  | _ => 0
theorem count_add {ts : List Tm} {D : Tm → Bool} {t : Tm} (ht : t ∈ ts) (hD : D t = false) : (ts.filter fun u => !addD D t u).length + 1 ≤ (ts.filter fun u => !D u).length := by
  have e : (ts.filter fun u => !addD D t u) = (ts.filter fun u => !D u).filter fun u => !decide (u.n = t.n) := by
    rw [List.filter_filter]
    refine List.filter_congr fun u _ => ?_
    simp [addD, Bool.and_comm]
  rw [e]
  refine Nat.lt_of_le_of_ne (List.length_filter_le _ _) fun h => ?_
  have h2 := (List.length_filter_eq_length_iff.1 h) t (List.mem_filter.2 ⟨ht, by simp [hD]⟩)
  simp at h2
theorem en_eq {es : List En} {c : Nat} (h : okE es c) {e e' : En} (he : e ∈ es) (he' : e' ∈ es) : e'.b = e.b ↔ e'.k = e.k := by
  have inj : ∀ (f : En → Int) (es : List En), (es.map f).Nodup → e ∈ es → e' ∈ es → f e' = f e → e' = e := by
    intro f es
    induction es with
    | nil => intro _ h; cases h
    | cons x r ih =>
      intro hn h1 h2 hf
      rw [List.map_cons, List.nodup_cons] at hn
      rcases List.mem_cons.1 h1 with h1 | h1 <;> rcases List.mem_cons.1 h2 with h2 | h2
      · rw [h1, h2]
      · exact absurd (List.mem_map.2 ⟨e', h2, by rw [hf, h1]⟩) hn.1
      · exact absurd (List.mem_map.2 ⟨e, h1, by rw [← hf, h2]⟩) hn.1
      · exact ih hn.2 h1 h2 hf
  constructor
  · intro hb
    have hbn : (es.map fun e => (e.b : Int)).Nodup := by
      have := h.bn
      rw [List.nodup_iff_pairwise_ne, List.pairwise_map] at *
      exact this.imp fun h g => h (Int.ofNat.inj g)
    rw [inj (fun e => (e.b : Int)) es hbn he he' (by simp [hb])]
  · intro hk
    rw [inj (·.k) es h.kn he he' hk]
theorem mem_del {es : List En} {c : Nat} (h : okE es c) {n : Int} {e : En} (he : e ∈ delI es n) : e ∈ es ∧ e.k ≠ n := by
  rw [delI_eq h.kn] at he
  obtain ⟨h1, h2⟩ := List.mem_filter.1 he
  exact ⟨h1, of_decide_eq_true h2⟩
/-- so far in this slot -/
structure slI (to : Nat) (ts : List Tm) (l n : Nat) (D : Tm → Bool) (sn : List Int) (seen : Array Nat) (es : List En) (aes : List En) (ac : Nat) (Y : Dk) (os : List (Int × Int)) : Prop where
  hD : ∀ t ∈ ts, D t = (vD l n t || (decide (tmQ t = l * 64 + n) && decide (t.n ∈ sn)))
  ok : wOK (curT to D ts) aes ac Y
  hs : ∀ e ∈ es, e.b ∈ seen ↔ e.k ∈ sn
  hp : os.Perm ((outT to D ts).map tmr)
  hc : (ts.filter fun u => !D u).length + seen.size ≤ ts.length
section
variable {to : Nat} {ts : List Tm} {l n : Nat} {D : Tm → Bool} {sn : List Int} {seen : Array Nat} {es aes : List En} {ac : Nat} {Y : Dk} {os : List (Int × Int)}
theorem slI.nD (h : slI to ts l n D sn seen es aes ac Y os) (hn : (ts.map (·.n)).Nodup) {u : Tm} (hu : u ∈ ts) (hq : tmQ u = l * 64 + n) : ∀ t ∈ ts, addD D u t = (vD l n t || (decide (tmQ t = l * 64 + n) && decide (t.n ∈ u.n :: sn))) := by
  intro t ht
  by_cases e : t.n = u.n
  · have := num_inj hn ht hu e
    subst this
    simp [addD, hq]
  · simp [addD, h.hD t ht, e]
theorem slI.nS (h : slI to ts l n D sn seen es aes ac Y os) {c : Nat} (hes : okE es c) {e : En} (he : e ∈ es) {u : Tm} (hk : e.k = u.n) : ∀ e' ∈ es, e'.b ∈ seen.push e.b ↔ e'.k ∈ u.n :: sn := by
  intro e' he'
  rw [Array.mem_push, List.mem_cons, h.hs e' he', en_eq hes he he', hk]
  exact Or.comm
theorem slI.due (h : slI to ts l n D sn seen es aes ac Y os) (hn : (ts.map (·.n)).Nodup) {c : Nat} (hes : okE es c) {e : En} (he : e ∈ es) {u : Tm} (hk : e.k = u.n) (hu : u ∈ ts) (hDu : D u = false) (hq : tmQ u = l * 64 + n) (hd : u.a ≤ to) :
    slI to ts l n (addD D u) (u.n :: sn) (seen.push e.b) (delI es u.n) (delI aes u.n) ac (upF Y (tmQ u) (dlX (Y (tmQ u)) u.n)) (os ++ [tmr u]) ∧ movT to (addD D u) ts = movT to D ts := by
  refine ⟨⟨h.nD hn hu hq, ?_, fun e' he' => ?_, ?_, ?_⟩, ?_⟩
  · rw [cur_due hn hu hd]
    exact h.ok.drop (cur_mem hu hDu)
  · exact h.nS hes he hk e' (mem_del hes he').1
  · have := filt_add (fun u => decide (u.a ≤ to)) hn hu hDu (by simpa using hd)
    refine (List.perm_append_comm.trans ?_).trans (this.map tmr).symm
    exact h.hp.cons _
  · have := count_add hu hDu
    have := h.hc
    rw [Array.size_push]; omega
  · refine filt_not (movB to) hn hu ?_
    have : ¬ to < u.a := by omega
    simp [movB, this]
theorem slI.out_same (h : slI to ts l n D sn seen es aes ac Y os) (hn : (ts.map (·.n)).Nodup) {u : Tm} (hu : u ∈ ts) (hd : to < u.a) : os.Perm ((outT to (addD D u) ts).map tmr) := by
  have : outT to (addD D u) ts = outT to D ts := filt_not (fun u => decide (u.a ≤ to)) hn hu (by simp; omega)
  rw [this]; exact h.hp
theorem slI.mov (h : slI to ts l n D sn seen es aes ac Y os) (hn : (ts.map (·.n)).Nodup) {c : Nat} (hes : okE es c) {e : En} (he : e ∈ es) {u : Tm} (hk : e.k = u.n) (hu : u ∈ ts) (hDu : D u = false) (hq : tmQ u = l * 64 + n) (hd : to < u.a) (hne : tmQ (hgT u to) ≠ tmQ u) (hlv : (lvF u.a to).1 ≠ u.l) (m : Nat) :
    slI to ts l n (addD D u) (u.n :: sn) (seen.push e.b) (delI es u.n) aes ac (upF (upF Y (tmQ u) (dlX (Y (tmQ u)) u.n)) (tmQ (hgT u to)) (hgX m (Y (tmQ (hgT u to))) u)) os ∧ (movT to (addD D u) ts).length = (movT to D ts).length + 1 := by
  refine ⟨⟨h.nD hn hu hq, ?_, fun e' he' => ?_, h.out_same hn hu hd, ?_⟩, ?_⟩
  · rw [cur_mov hn hu hd]
    exact h.ok.move (t' := hgT u to) (cur_mem hu hDu) rfl rfl (hgT_ok u to) hne m
  · exact h.nS hes he hk e' (mem_del hes he').1
  · have := count_add hu hDu
    have := h.hc
    rw [Array.size_push]; omega
  · have := (filt_add (movB to) hn hu hDu (by simp [movB, hd, hlv])).length_eq
    rw [List.length_cons] at this
    exact this
theorem slI.same (h : slI to ts l n D sn seen es aes ac Y os) (hn : (ts.map (·.n)).Nodup) {c : Nat} (hes : okE es c) {e : En} (he : e ∈ es) {u : Tm} (hk : e.k = u.n) (hu : u ∈ ts) (hDu : D u = false) (hq : tmQ u = l * 64 + n) (hd : to < u.a) (hg : hgT u to = u) :
    slI to ts l n (addD D u) (u.n :: sn) (seen.push e.b) es aes ac Y os ∧ movT to (addD D u) ts = movT to D ts ∧ curT to (addD D u) ts = curT to D ts := by
  have hcur := cur_same (D := D) hn hu hd hg
  refine ⟨⟨h.nD hn hu hq, by rw [hcur]; exact h.ok, fun e' he' => h.nS hes he hk e' he', h.out_same hn hu hd, ?_⟩, ?_, hcur⟩
  · have := count_add hu hDu
    have := h.hc
    rw [Array.size_push]; omega
  · refine filt_not (movB to) hn hu ?_
    have : (lvF u.a to).1 = u.l := congrArg Tm.l hg
    simp [movB, this]
theorem slI.done (h : slI to ts l n D sn seen es aes ac Y os) {now : Nat} (hp : plOK now ts) (hn : n < 64) (hq : l * 64 + n < 257) (hY : slE (Y (l * 64 + n)) = es) (hall : ∀ e ∈ es, e.b ∈ seen) : ∀ t ∈ ts, D t = vD l (n + 1) t := by
  refine next_place hp hn h.hD fun t ht htq => ?_
  cases hD : D t with
  | true => rfl
  | false =>
    have hc := cur_mem (to := to) ht hD
    have h1 := ((h.ok.sl _ hq).mem t.n (tp t)).2 ⟨t, hc, rfl, htq, rfl⟩
    rw [hY] at h1
    obtain ⟨e, he, hk, _⟩ := getI_mem h1
    have := (h.hs e he).1 (hall e he)
    have hd := h.hD t ht
    rw [hk] at this
    rw [hD] at hd
    simp [htq, this] at hd
end
/-- what Advance has so far -/
def advA (p to mv0 : Nat) (ts : List Tm) (D : Tm → Bool) (v : Value) : Asn := fun h => ∃ os : List (Int × Int), os.Perm ((outT to D ts).map tmr) ∧ (outs v os * whl p to (mv0 + (movT to D ts).length) (curT to D ts)) h
theorem advopen {w0 w : World} {A : Asn} {p to mv0 : Nat} {ts : List Tm} {D : Tm → Bool} {v : Value} (s : St w0 (A * advA p to mv0 ts D v) w) : ∃ os, os.Perm ((outT to D ts).map tmr) ∧ St w0 (A * outs v os * whl p to (mv0 + (movT to D ts).length) (curT to D ts)) w := by
  obtain ⟨g, h1, h2, h3, d, e, a, os, hp, b⟩ := s.holds
  have s' : St w0 (A * (outs v os * whl p to (mv0 + (movT to D ts).length) (curT to D ts))) w := s.of ⟨g, h1, h2, h3, d, e, a, b⟩
  exact ⟨os, hp, s'.to (by ac_rfl)⟩
theorem advclose {w0 w : World} {A : Asn} {p to mv0 : Nat} {ts : List Tm} {D : Tm → Bool} {v : Value} {os : List (Int × Int)} (hp : os.Perm ((outT to D ts).map tmr)) (s : St w0 (A * outs v os * whl p to (mv0 + (movT to D ts).length) (curT to D ts)) w) : St w0 (A * advA p to mv0 ts D v) w := by
  have s' : St w0 (A * (outs v os * whl p to (mv0 + (movT to D ts).length) (curT to D ts))) w := s.to (by ac_rfl)
  exact s'.mono (sep_mono (fun _ h => h) fun g hg => ⟨os, hp, hg⟩)
theorem adv_congr {p to mv0 : Nat} {ts : List Tm} {D D' : Tm → Bool} {v : Value} (h : ∀ t ∈ ts, D t = D' t) : advA p to mv0 ts D v = advA p to mv0 ts D' v := by
  unfold advA
  rw [cur_congr h, out_congr h, mov_congr h]
end Go.HL.Wh

namespace Go.HL.Wh
open Go.HL Go.Proofs
set_option maxRecDepth 4000
set_option linter.unusedSimpArgs false
set_option linter.unusedVariables false
structure advP (now to mv0 : Nat) (ts : List Tm) : Prop where
  pl : plOK now ts
  lt : now < to
  bd : to ≤ 1099511627776
  len : ts.length ≤ 65536
  mv : mv0 ≤ 2305843009213693952
set_option maxHeartbeats 4000000 in
theorem slot_part (p now to mv0 : Nat) (ts : List Tm) (w0 w : World) (A : Asn) {Q : EX → List Value → World → Prop} (l n : Nat) (v x2 x3 x4 x5 x9 x10 x11 x12 : Value) (hp : advP now to mv0 ts) (hl : l ≤ 4) (hn : n < 64) (h4 : l = 4 → n = 0) (hv : visF now to (l, n))
    (s : St w0 (A * advA p to mv0 ts (vD l n) v) w)
    (hk : ∀ v' y9 y10 y12 w', St w0 (A * advA p to mv0 ts (vD l (n + 1)) v') w' → Q .nrm [.pointer (some ⟨p, 0, none⟩), .int .i64 to, x2, x3, x4, x5, v', .int .i64 l, .int .i64 n, y9, y10, x11, y12] w') :
    h14_17.wp U2 Q [.pointer (some ⟨p, 0, none⟩), .int .i64 to, x2, x3, x4, x5, v, .int .i64 l, .int .i64 n, x9, x10, x11, x12] w := by
  obtain ⟨os, hos, s1⟩ := advopen s
  obtain ⟨am, aes, ac, Y, hok, s2⟩ := wopen s1
  obtain ⟨q, hqe⟩ : ∃ q, l * 64 + n = q := ⟨_, rfl⟩
  have hq257 : q < 257 := by omega
  have hnum := hp.pl.num
  simp
  refine ⟨⟨by omega, by omega, by omega⟩, ?_⟩
  rw [hqe]
  refine eff_ldc (v := slv (Y q)) (wc_cell s2 hq257) ?_
  cases hYq : Y q with
  | none =>
    simp [slv]
    refine eff_rngN hungI.ty s2 ?_
    intro b w3 s3
    simp
    refine loopI (fun env w' => env = [.pointer (some ⟨p, 0, none⟩), .int .i64 to, x2, x3, x4, x5, v, .int .i64 l, .int .i64 n, x9, x10, x11, .pointer (some ⟨b, 0, none⟩)] ∧ St w0 (A * outs v os * hungA (curT to (vD l n) ts) * bigA slA Y 257 * imap am aes ac * wc p to (mv0 + (movT to (vD l n) ts).length) am Y * pt b (.mapIter none 0 #[] 0)) w') (fun _ _ => 0) ⟨rfl, s3⟩ ?_
    rintro LQ env w' ⟨rfl, s'⟩ hN hE hR
    simp
    refine eff_nxtN s' ?_
    simp
    refine hE _ _ _ ?_
    simp
    have hend : ∀ t ∈ ts, vD l n t = vD l (n + 1) t := by
      refine next_place hp.pl (l := l) hn (sn := []) (fun t ht => by simp) fun t ht htq => ?_
      cases hD : vD l n t with
      | true => rfl
      | false =>
        have hc := cur_mem (to := to) ht hD
        have h1 := ((hok.sl q hq257).mem t.n (tp t)).2 ⟨t, hc, rfl, by rw [← hqe]; exact htq, rfl⟩
        rw [hYq] at h1
        cases h1
    refine hk v x9 x10 _ w' ?_
    rw [← adv_congr hend]
    exact advclose hos (wclose hok (St.cut (pt b (.mapIter none 0 #[] 0)) s' (by ac_rfl)))
  | some x =>
    obtain ⟨m, es, c⟩ := x
    simp [slv]
    have hsl := hok.sl q hq257
    rw [hYq] at hsl
    have big : ∀ (D : Tm → Bool) (v : Value) (os : List (Int × Int)) (aes : List En) (ac : Nat) (Y : Dk) (mv : Nat) (es : List En), Y q = some (m, es, c) → A * outs v os * hungA (curT to D ts) * bigA slA Y 257 * imap am aes ac * wc p to mv am Y = A * outs v os * hungA (curT to D ts) * bigH slA Y q 257 * imap am aes ac * wc p to mv am Y * imap m es c := by
      intro D v os aes ac Y mv es hY
      rw [big_at hq257, hY]
      show _ * (_ * imap m es c) * _ * _ = _
      ac_rfl
    have hb := (s2.to (big _ _ _ _ _ _ _ _ hYq)).look
    refine eff_rngI hungI.ty s2 hb ?_
    intro b w3 s3
    simp
    refine loopI (fun env w' => ∃ (D : Tm → Bool) (sn : List Int) (seen : Array Nat) (es aes : List En) (ac : Nat) (Y : Dk) (os : List (Int × Int)) (v y9 y10 : Value), env = [.pointer (some ⟨p, 0, none⟩), .int .i64 to, x2, x3, x4, x5, v, .int .i64 l, .int .i64 n, y9, y10, x11, .pointer (some ⟨b, 0, none⟩)] ∧ slI to ts l n D sn seen es aes ac Y os ∧ Y q = some (m, es, c) ∧ St w0 (A * outs v os * hungA (curT to D ts) * bigA slA Y 257 * imap am aes ac * wc p to (mv0 + (movT to D ts).length) am Y * pt b (.mapIter (some m) c seen c)) w') (fun _ w' => ts.length + 1 - seenN w' b)
      ⟨vD l n, [], #[], es, aes, ac, Y, os, v, x9, x10, rfl, ⟨fun t ht => by simp, hok, fun e he => by simp, hos, by simpa using List.length_filter_le _ _⟩, hYq, s3⟩ ?_
    clear s3 hb hsl hYq s2 hok hos s1 s
    rintro LQ env w' ⟨D, sn, seen, es, aes, ac, Y, os, v, y9, y10, rfl, hI, hYq, s'⟩ hN hE hR
    have hok := hI.ok
    have hsl := hok.sl q hq257
    rw [hYq] at hsl
    have hes : okE es c := hsl.ok
    have hseen : seenN w' b = seen.size := by unfold seenN; rw [s'.look]
    have hcnt := hI.hc
    simp
    refine eff_nxtI (s'.to (B := A * outs v os * hungA (curT to D ts) * bigH slA Y q 257 * imap am aes ac * wc p to (mv0 + (movT to D ts).length) am Y * imap m es c * pt b (.mapIter (some m) c seen c)) (by rw [big _ _ _ _ _ _ _ _ hYq])) hes.lt (fun e he hns w2 s2 => ?_) (fun hall w2 s2 => ?_)
    · obtain ⟨u, hu, hun, huq, hev⟩ := (hsl.mem e.k e.v).1 (getI_of hes.kn he)
      have hnsn : u.n ∉ sn := fun g => hns ((hI.hs e he).2 (by rw [← hun]; exact g))
      obtain ⟨hut, hDu, hul, hus⟩ := at_place hp.pl hp.lt hl hn h4 hv hI.hD hu (by rw [hqe]; exact huq) hnsn
      have hub := hp.pl.bd u hut
      have hcnt2 := count_add hut hDu
      have hol : os.length ≤ 65536 := by
        have h1 := hI.hp.length_eq
        rw [List.length_map] at h1
        have h2 : (outT to D ts).length ≤ ts.length := List.length_filter_le _ _
        have := hp.len
        omega
      have hml : (movT to D ts).length ≤ ts.length := List.length_filter_le _ _
      have htslen := hp.len
      have hmv0 := hp.mv
      have hbd := hp.bd
      have hseen2 : ∀ (w3 : World) (F : Asn), St w0 (F * pt b (.mapIter (some m) c (seen.push e.b) c)) w3 → ts.length + 1 - seenN w3 b < ts.length + 1 - seenN w' b := by
        intro w3 F h
        have h1 : seenN w3 b = seen.size + 1 := by unfold seenN; rw [h.look]; exact Array.size_push _
        rw [h1, hseen]; omega
      simp
      refine eff_ent s2 he hes.bn ?_
      rw [hev]
      simp
      have s3 : St w0 (A * outs v os * hungA (offT (curT to D ts) u.n) * bigA slA Y 257 * imap am aes ac * wc p to (mv0 + (movT to D ts).length) am Y * pt b (.mapIter (some m) c (seen.push e.b) c) * tmA u) w2 := by
        have h1 : St w0 (A * outs v os * hungA (curT to D ts) * bigA slA Y 257 * imap am aes ac * wc p to (mv0 + (movT to D ts).length) am Y * pt b (.mapIter (some m) c (seen.push e.b) c)) w2 := by
          rw [big _ _ _ _ _ _ _ _ hYq]; exact s2
        rw [hungA_off hok.num hu] at h1
        exact h1.to (by ac_rfl)
      refine eff_ldc (v := .int .i64 u.a) (s3.row_cells 1 _ rfl) ?_
      simp
      have huq' : tmQ u = l * 64 + n := by rw [huq, hqe]
      obtain ⟨it, hit⟩ : ∃ it, pt b (.mapIter (some m) c (seen.push e.b) c) = it := ⟨_, rfl⟩
      rw [hit] at s3 hseen2
      have fin : ∀ (D' : Tm → Bool) (es' aes' : List En) (Y' : Dk) (os' : List (Int × Int)) (v' y10' : Value) (w3 : World), slI to ts l n D' (u.n :: sn) (seen.push e.b) es' aes' ac Y' os' → Y' q = some (m, es', c) →
          St w0 (A * outs v' os' * hungA (curT to D' ts) * bigA slA Y' 257 * imap am aes' ac * wc p to (mv0 + (movT to D' ts).length) am Y' * it) w3 →
          LQ .nrm [.pointer (some ⟨p, 0, none⟩), .int .i64 to, x2, x3, x4, x5, v', .int .i64 l, .int .i64 n, tp u, y10', x11, .pointer (some ⟨b, 0, none⟩)] w3 := by
        intro D' es' aes' Y' os' v' y10' w3 hI' hY' s4
        exact hN _ _ ⟨D', u.n :: sn, seen.push e.b, es', aes', ac, Y', os', v', tp u, y10', rfl, hI', hY', by rw [hit]; exact s4⟩ (hseen2 _ _ s4)
      refine cndI (fun hd => ?_) (fun hd => ?_)
      · simp at hd
        refine due_part p am to (mv0 + (movT to D ts).length) Y u aes ac (m, es, c) v os w0 w2 (A * hungA (offT (curT to D ts) u.n) * it) _ _ _ _ _ _ _ _ _ _ (hok.tm u hu) (by rw [huq]; exact hYq) hol (s3.to (by ac_rfl)) fun v' w3 s4 => ?_
        simp
        obtain ⟨hI', hmvE⟩ := hI.due hnum hes he hun.symm hut hDu huq' hd
        refine fin _ _ _ _ _ v' y10 w3 hI' (by rw [huq, upF_at, hYq]; rfl) ?_
        rw [hmvE, cur_due hnum hut hd, huq, hYq]
        rw [huq] at s4
        exact s4.to (by ac_rfl)
      · simp at hd
        simp
        refine eff_ldc (v := .int .i64 u.a) (s3.row_cells 1 _ rfl) ?_
        simp
        refine ⟨⟨by omega, by omega⟩, ?_⟩
        refine cndI (fun hlv => ?_) (fun hlv => ?_)
        · simp at hlv
          have hlv : (lvF u.a to).1 ≠ u.l := by rw [hul]; omega
          have hne : tmQ (hgT u to) ≠ tmQ u := by
            have h1 := hgT_ok u to
            have h2 := hok.tm u hu
            have h3 := h1.s
            have h4 := h2.s
            intro g
            unfold tmQ at g
            have : (hgT u to).l = u.l := by omega
            exact hlv this
          have hne2 : hgQ u to ≠ q := by rw [hgQ_eq, ← huq]; exact hne
          have hmem := hok.sl (hgQ u to) (by rw [hgQ_eq]; exact tmQ_lt (hgT_ok u to))
          refine mov_part p am to (mv0 + (movT to D ts).length) Y u (m, es, c) w0 w2 (A * outs v os * hungA (offT (curT to D ts) u.n) * imap am aes ac * it) l n _ _ _ _ _ _ _ _ _ hl hn h4 (by rw [hqe]; exact hYq) hub.1 hp.bd (by omega) ?_ (s3.to (by ac_rfl)) fun Y' m' w3 hY' s4 => ?_
          · rw [hqe, upF_ne _ _ hne2]
            cases hg : getI (slE (Y (hgQ u to))) u.n with
            | none => rfl
            | some g =>
              obtain ⟨t, ht, h1, h2, _⟩ := (hmem.mem _ _).1 hg
              have := num_inj hok.num ht hu h1
              rw [this, huq] at h2
              exact absurd h2.symm hne2
          simp
          obtain ⟨hI', hmvE⟩ := hI.mov hnum hes he hun.symm hut hDu huq' hd hne hlv m'
          subst hY'
          refine fin _ _ _ _ _ v _ w3 hI' ?_ ?_
          · rw [← hgQ_eq, upF_ne _ _ (Ne.symm hne2), huq, upF_at, hYq]; rfl
          · rw [hmvE, cur_mov hnum hut hd, hungA_on hok.num hu (t' := hgT u to) rfl, huq, hYq, ← hgQ_eq]
            rw [hqe, upF_ne _ _ hne2] at s4
            rw [← Nat.add_assoc]
            exact s4.to (by ac_rfl)
        · simp at hlv
          simp
          have hg := at_go hp.pl hp.lt hv hut hul hus hd (by omega)
          obtain ⟨hI', hmvE, hcur⟩ := hI.same hnum hes he hun.symm hut hDu huq' hd hg
          refine fin _ _ _ _ _ v _ w2 hI' hYq ?_
          rw [hmvE, hcur, hungA_off hok.num hu]
          exact s3.to (by ac_rfl)
    · simp
      refine hE _ _ _ ?_
      simp
      have hend := hI.done hp.pl hn (by rw [hqe]; exact hq257) (by rw [hqe, hYq]; rfl) hall
      refine hk v y9 y10 _ w2 ?_
      rw [← adv_congr hend]
      refine advclose hI.hp (wclose (am := am) hok ?_)
      have h1 : St w0 (A * outs v os * hungA (curT to D ts) * bigA slA Y 257 * imap am aes ac * wc p to (mv0 + (movT to D ts).length) am Y * pt b (.mapIter (some m) c seen c)) w2 := by
        rw [big _ _ _ _ _ _ _ _ hYq]; exact s2
      exact St.cut (pt b (.mapIter (some m) c seen c)) h1 (by ac_rfl)
end Go.HL.Wh
