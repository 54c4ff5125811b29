/-
  Wheel: digits and places, as numbers. Conditions: ticks from 0 up.
-/
import Derived.Test.YtngjaibngkhidaaEngK
import Derived.Test.YtngjaibngkhidaaEngJ
import Derived.Test.YtngjaibngkhidaaEngG
import Derived.Test.YtngjaibngkhidaaProg
namespace Go.HL.Wh
open Go.HL Go.Proofs
set_option maxRecDepth 4000
set_option linter.unusedSimpArgs false
set_option linter.unusedVariables false
noncomputable abbrev U0 : PF Try.prog := PF.none _
-- bazaar/wheel.digit
def h45_0 : HC := (.seq (.reg (.chk none (.bin .mul) (.cons (.cst (.int .i64 6)) (.cons (.inp 1) .nil)) (.chk none (.bin .shr) (.cons (.inp 0) (.cons (.op (.bin .mul) (.cons (.cst (.int .i64 6)) (.cons (.inp 1) .nil))) .nil)) (.chk none (.bin .rem) (.cons (.op (.bin .shr) (.cons (.inp 0) (.cons (.op (.bin .mul) (.cons (.cst (.int .i64 6)) (.cons (.inp 1) .nil))) .nil))) (.cons (.cst (.int .i64 64)) .nil)) (.done [(2, (.op (.bin .rem) (.cons (.op (.bin .shr) (.cons (.inp 0) (.cons (.op (.bin .mul) (.cons (.cst (.int .i64 6)) (.cons (.inp 1) .nil))) .nil))) (.cons (.cst (.int .i64 64)) .nil))))] none))))) .ret)
@[simp] theorem h45_0_wp {P : Program} {F : PF P} {Q : EX → List Value → World → Prop} {env : List Value} {w : World} : h45_0.wp F Q env w = HC.wp F (.seq (.reg (.chk none (.bin .mul) (.cons (.cst (.int .i64 6)) (.cons (.inp 1) .nil)) (.chk none (.bin .shr) (.cons (.inp 0) (.cons (.op (.bin .mul) (.cons (.cst (.int .i64 6)) (.cons (.inp 1) .nil))) .nil)) (.chk none (.bin .rem) (.cons (.op (.bin .shr) (.cons (.inp 0) (.cons (.op (.bin .mul) (.cons (.cst (.int .i64 6)) (.cons (.inp 1) .nil))) .nil))) (.cons (.cst (.int .i64 64)) .nil)) (.done [(2, (.op (.bin .rem) (.cons (.op (.bin .shr) (.cons (.inp 0) (.cons (.op (.bin .mul) (.cons (.cst (.int .i64 6)) (.cons (.inp 1) .nil))) .nil))) (.cons (.cst (.int .i64 64)) .nil))))] none))))) .ret) Q env w := rfl
def l45 : Lifted := ⟨[0, 1, 4], 10, [.slot 2], (.seq (.reg (.done [(2, (.cst (.int .i64 0)))] none)) h45_0)⟩
theorem l45_ok : liftFn U0 45 400 = some l45 := by kernel_rfl

-- (*bazaar/wheel.Wheel).at
def h32_0 : HC := (.seq (.reg (.chk none .chkp (.cons (.inp 0) .nil) (.chk none (.fld 3) (.cons (.op .chkp (.cons (.inp 0) .nil)) .nil) (.chk none (.idxP 4 64) (.cons (.op (.fld 3) (.cons (.op .chkp (.cons (.inp 0) .nil)) .nil)) (.cons (.inp 1) .nil)) (.chk none (.idxP 64 1) (.cons (.op (.idxP 4 64) (.cons (.op (.fld 3) (.cons (.op .chkp (.cons (.inp 0) .nil)) .nil)) (.cons (.inp 1) .nil))) (.cons (.inp 2) .nil)) (.done [(3, (.op (.idxP 64 1) (.cons (.op (.idxP 4 64) (.cons (.op (.fld 3) (.cons (.op .chkp (.cons (.inp 0) .nil)) .nil)) (.cons (.inp 1) .nil))) (.cons (.inp 2) .nil))))] none)))))) .ret)
@[simp] theorem h32_0_wp {P : Program} {F : PF P} {Q : EX → List Value → World → Prop} {env : List Value} {w : World} : h32_0.wp F Q env w = HC.wp F (.seq (.reg (.chk none .chkp (.cons (.inp 0) .nil) (.chk none (.fld 3) (.cons (.op .chkp (.cons (.inp 0) .nil)) .nil) (.chk none (.idxP 4 64) (.cons (.op (.fld 3) (.cons (.op .chkp (.cons (.inp 0) .nil)) .nil)) (.cons (.inp 1) .nil)) (.chk none (.idxP 64 1) (.cons (.op (.idxP 4 64) (.cons (.op (.fld 3) (.cons (.op .chkp (.cons (.inp 0) .nil)) .nil)) (.cons (.inp 1) .nil))) (.cons (.inp 2) .nil)) (.done [(3, (.op (.idxP 64 1) (.cons (.op (.idxP 4 64) (.cons (.op (.fld 3) (.cons (.op .chkp (.cons (.inp 0) .nil)) .nil)) (.cons (.inp 1) .nil))) (.cons (.inp 2) .nil))))] none)))))) .ret) Q env w := rfl
def h32_1 : HC := (.seq (.reg (.chk none .chkp (.cons (.inp 0) .nil) (.chk none (.fld 259) (.cons (.op .chkp (.cons (.inp 0) .nil)) .nil) (.done [(3, (.op (.fld 259) (.cons (.op .chkp (.cons (.inp 0) .nil)) .nil)))] none)))) .ret)
@[simp] theorem h32_1_wp {P : Program} {F : PF P} {Q : EX → List Value → World → Prop} {env : List Value} {w : World} : h32_1.wp F Q env w = HC.wp F (.seq (.reg (.chk none .chkp (.cons (.inp 0) .nil) (.chk none (.fld 259) (.cons (.op .chkp (.cons (.inp 0) .nil)) .nil) (.done [(3, (.op (.fld 259) (.cons (.op .chkp (.cons (.inp 0) .nil)) .nil)))] none)))) .ret) Q env w := rfl
def h32_2 : HC := (.seq (.br (.chk none (.bin .eql) (.cons (.inp 1) (.cons (.cst (.int .i64 4)) .nil)) (.done [] (some (.op (.bin .eql) (.cons (.inp 1) (.cons (.cst (.int .i64 4)) .nil)))))) h32_1 .skip) h32_0)
@[simp] theorem h32_2_wp {P : Program} {F : PF P} {Q : EX → List Value → World → Prop} {env : List Value} {w : World} : h32_2.wp F Q env w = HC.wp F (.seq (.br (.chk none (.bin .eql) (.cons (.inp 1) (.cons (.cst (.int .i64 4)) .nil)) (.done [] (some (.op (.bin .eql) (.cons (.inp 1) (.cons (.cst (.int .i64 4)) .nil)))))) h32_1 .skip) h32_0) Q env w := rfl
def l32 : Lifted := ⟨[0, 1, 2, 6], 19, [.slot 3], (.seq (.reg (.done [(3, (.cst (.pointer none)))] none)) h32_2)⟩
theorem l32_ok : liftFn U0 32 400 = some l32 := by kernel_rfl

-- bazaar/bazaarlaw09.num
def h10_0 : HC := (.seq (.reg (.done [(1, (.inp 0))] none)) .ret)
@[simp] theorem h10_0_wp {P : Program} {F : PF P} {Q : EX → List Value → World → Prop} {env : List Value} {w : World} : h10_0.wp F Q env w = HC.wp F (.seq (.reg (.done [(1, (.inp 0))] none)) .ret) Q env w := rfl
def l10 : Lifted := ⟨[0, 2], 4, [.slot 1], (.seq (.reg (.done [(1, (.cst (.int .i64 0)))] none)) h10_0)⟩
theorem l10_ok : liftFn U0 10 400 = some l10 := by kernel_rfl

-- bazaar/bazaarlaw09.place
def h8_0 : HC := (.seq (.reg (.done [(2, (.inp 3))] none)) .ret)
@[simp] theorem h8_0_wp {P : Program} {F : PF P} {Q : EX → List Value → World → Prop} {env : List Value} {w : World} : h8_0.wp F Q env w = HC.wp F (.seq (.reg (.done [(2, (.inp 3))] none)) .ret) Q env w := rfl
def h8_1 : HC := (.reg (.chk none (.bin .add) (.cons (.inp 3) (.cons (.inp 1) .nil)) (.done [(3, (.op (.bin .add) (.cons (.inp 3) (.cons (.inp 1) .nil))))] none)))
@[simp] theorem h8_1_wp {P : Program} {F : PF P} {Q : EX → List Value → World → Prop} {env : List Value} {w : World} : h8_1.wp F Q env w = HC.wp F (.reg (.chk none (.bin .add) (.cons (.inp 3) (.cons (.inp 1) .nil)) (.done [(3, (.op (.bin .add) (.cons (.inp 3) (.cons (.inp 1) .nil))))] none))) Q env w := rfl
def h8_2 : HC := (.seq (.br (.chk none (.bin .lss) (.cons (.inp 3) (.cons (.cst (.int .i64 0)) .nil)) (.done [] (some (.op (.bin .lss) (.cons (.inp 3) (.cons (.cst (.int .i64 0)) .nil)))))) h8_1 .skip) h8_0)
@[simp] theorem h8_2_wp {P : Program} {F : PF P} {Q : EX → List Value → World → Prop} {env : List Value} {w : World} : h8_2.wp F Q env w = HC.wp F (.seq (.br (.chk none (.bin .lss) (.cons (.inp 3) (.cons (.cst (.int .i64 0)) .nil)) (.done [] (some (.op (.bin .lss) (.cons (.inp 3) (.cons (.cst (.int .i64 0)) .nil)))))) h8_1 .skip) h8_0) Q env w := rfl
def h8_3 : HC := (.seq (.reg (.chk none (.bin .rem) (.cons (.inp 0) (.cons (.inp 1) .nil)) (.done [(3, (.op (.bin .rem) (.cons (.inp 0) (.cons (.inp 1) .nil))))] none))) h8_2)
@[simp] theorem h8_3_wp {P : Program} {F : PF P} {Q : EX → List Value → World → Prop} {env : List Value} {w : World} : h8_3.wp F Q env w = HC.wp F (.seq (.reg (.chk none (.bin .rem) (.cons (.inp 0) (.cons (.inp 1) .nil)) (.done [(3, (.op (.bin .rem) (.cons (.inp 0) (.cons (.inp 1) .nil))))] none))) h8_2) Q env w := rfl
def l8 : Lifted := ⟨[0, 1, 4, 5], 15, [.slot 2], (.seq (.reg (.done [(2, (.cst (.int .i64 0)))] none)) h8_3)⟩
theorem l8_ok : liftFn U0 8 400 = some l8 := by kernel_rfl


def digF (t l : Nat) : Nat := t / 64 ^ l % 64
def lvF (a n : Nat) : Nat × Nat :=
  if a / 16777216 ≠ n / 16777216 then (4, 0) else if digF a 3 ≠ digF n 3 then (3, digF a 3) else if digF a 2 ≠ digF n 2 then (2, digF a 2) else
  if digF a 1 ≠ digF n 1 then (1, digF a 1) else (0, digF a 0)
theorem digit_spec (t l : Nat) (w : World) (ht : t ≤ 4611686018427387904) (hl : l ≤ 3) :
    CallW Try.prog 45 [.int .i64 t, .int .i64 l] (fun r w' => r = .int .i64 (digF t l) ∧ w' = w) w := by
  refine callW_of_lift l45_ok (by simp [l45]) ?_
  have h : l = 0 ∨ l = 1 ∨ l = 2 ∨ l = 3 := by omega
  have key : ∀ c : Nat, 0 < c → (Int.fdiv (t : Int) (c : Int)).tmod 64 = ((t / c % 64 : Nat) : Int) := by
    intro c hc
    rw [Int.fdiv_eq_ediv_of_nonneg _ (by omega), Int.tmod_eq_emod_of_nonneg (Int.ediv_nonneg (by omega) (by omega))]
    rfl
  have b : IntKind.i64.bits = 64 := rfl
  rcases h with rfl | rfl | rfl | rfl
  · have := key 1 (by decide)
    have hw : IntKind.i64.wrap 0 = 0 := by decide
    simp [l45, digF, hw, b] at this ⊢
    first | exact this | simpa using this
  · have := key 64 (by decide)
    have hw : IntKind.i64.wrap 6 = 6 := by decide
    simp [l45, digF, hw, b] at this ⊢
    exact this
  · have := key 4096 (by decide)
    have hw : IntKind.i64.wrap 12 = 12 := by decide
    simp [l45, digF, hw, b] at this ⊢
    exact this
  · have := key 262144 (by decide)
    have hw : IntKind.i64.wrap 18 = 18 := by decide
    simp [l45, digF, hw, b] at this ⊢
    exact this
theorem at_spec (p : Nat) (l s : Nat) (w : World) (hl : l ≤ 4) (hs : s < 64) (h4 : l = 4 → s = 0) :
    CallW Try.prog 32 [.pointer (some ⟨p, 0, none⟩), .int .i64 l, .int .i64 s] (fun r w' => r = .pointer (some ⟨p, 3 + (l * 64 + s), none⟩) ∧ w' = w) w := by
  refine callW_of_lift l32_ok (by simp [l32]) ?_
  simp [l32]
  refine cndI (fun h => ?_) (fun h => ?_)
  · simp at h
    have : l = 4 := by omega
    subst this
    have := h4 rfl
    subst this
    simp
  · simp at h
    have : l < 4 := by omega
    simp
    omega
theorem num_spec (x : Int) (w : World) : CallW Try.prog 10 [.int .i64 x] (fun r w' => r = .int .i64 x ∧ w' = w) w := by
  refine callW_of_lift l10_ok (by simp [l10]) ?_
  simp [l10]
/-- a place among so many, out of any number -/
theorem lplace_spec (x : Int) (n : Nat) (w : World) (hn : 0 < n ∧ n ≤ 4611686018427387904) :
    CallW Try.prog 8 [.int .i64 x, .int .i64 n] (fun r w' => r = .int .i64 ((x.emod n).toNat) ∧ w' = w) w := by
  refine callW_of_lift l8_ok (by simp [l8]) ?_
  simp [l8]
  have hn0 : (n : Int) ≠ 0 := by omega
  have h0 := Int.emod_nonneg x hn0
  have h1 := Int.emod_lt_of_pos x (show (0 : Int) < n by omega)
  refine ⟨by omega, ?_⟩
  have ht := @Int.tmod_eq_emod x n
  have hm : max (x.emod n) 0 = x % n := Int.max_eq_left h0
  rw [hm]
  have h0 : 0 ≤ x % n := h0
  have h1 : x % n < n := h1
  refine cndI (fun h => ?_) (fun h => ?_)
  · simp at h
    have hc : ¬ (0 ≤ x ∨ (n : Int) ∣ x) := fun hc => by rw [if_pos hc] at ht; omega
    rw [if_neg hc] at ht
    have e : x.tmod n + n = x % n := by simp at ht; omega
    have hw : IntKind.i64.wrap (x % (n : Int)) = x % n := wrap64 (by omega) (by omega)
    simp [e, hw]
  · simp at h
    have e : x.tmod n = x % n := by
      by_cases hc : 0 ≤ x ∨ (n : Int) ∣ x
      · rw [if_pos hc] at ht; omega
      · rw [if_neg hc] at ht; simp at ht; omega
    simp [e]
noncomputable def digitS : PS Try.prog where
  f := 45
  val args := match args with
    | [.int _ t, .int _ l] => .int .i64 (digF t.toNat l.toNat)
    | _ => undef
  ok args := match args with
    | [.int k t, .int k' l] => k = .i64 ∧ k' = .i64 ∧ 0 ≤ t ∧ t ≤ 4611686018427387904 ∧ 0 ≤ l ∧ l ≤ 3
    | _ => False
  sound args w h := by
    split at h
    · rename_i k t k' l
      obtain ⟨rfl, rfl, h1, h2, h3, h4⟩ := h
      obtain ⟨t, rfl⟩ := Int.eq_ofNat_of_zero_le h1
      obtain ⟨l, rfl⟩ := Int.eq_ofNat_of_zero_le h3
      exact digit_spec t l w (by omega) (by omega)
    · exact h.elim
noncomputable def atS : PS Try.prog where
  f := 32
  val args := match args with
    | [.pointer (some a), .int _ l, .int _ s] => .pointer (some ⟨a.block, 3 + (l.toNat * 64 + s.toNat), none⟩)
    | _ => undef
  ok args := match args with
    | [.pointer (some a), .int k l, .int k' s] => a = ⟨a.block, 0, none⟩ ∧ k = .i64 ∧ k' = .i64 ∧ 0 ≤ l ∧ l ≤ 4 ∧ 0 ≤ s ∧ s < 64 ∧ (l = 4 → s = 0)
    | _ => False
  sound args w h := by
    split at h
    · rename_i a k l k' s
      obtain ⟨ha, rfl, rfl, h1, h2, h3, h4, h5⟩ := h
      obtain ⟨l, rfl⟩ := Int.eq_ofNat_of_zero_le h1
      obtain ⟨s, rfl⟩ := Int.eq_ofNat_of_zero_le h3
      rw [ha]
      exact at_spec a.block l s w (by omega) (by omega) (by omega)
    · exact h.elim
noncomputable def numS : PS Try.prog where
  f := 10
  val args := match args with
    | [.int _ x] => .int .i64 x
    | _ => undef
  ok args := match args with
    | [.int k _] => k = .i64
    | _ => False
  sound args w h := by
    split at h
    · subst h; exact num_spec _ w
    · exact h.elim
noncomputable def lplaceS : PS Try.prog where
  f := 8
  val args := match args with
    | [.int _ x, .int _ n] => .int .i64 ((x.emod n).toNat)
    | _ => undef
  ok args := match args with
    | [.int k x, .int k' n] => k = .i64 ∧ k' = .i64 ∧ 0 < n ∧ n ≤ 4611686018427387904
    | _ => False
  sound args w h := by
    split at h
    · rename_i k x k' n
      obtain ⟨rfl, rfl, h1, h2⟩ := h
      obtain ⟨n, rfl⟩ := Int.eq_ofNat_of_zero_le (Int.le_of_lt h1)
      exact lplace_spec x n w ⟨by omega, by omega⟩
    · exact h.elim
noncomputable abbrev U1 : PF Try.prog := PF.of [digitS, lplaceS]
@[simp] theorem U1_d_val (args : List Value) : U1.val 45 args = digitS.val args := rfl
@[simp] theorem U1_d_ok (args : List Value) : U1.ok 45 args = digitS.ok args := rfl
@[simp] theorem U1_l_val (args : List Value) : U1.val 8 args = lplaceS.val args := rfl
@[simp] theorem U1_l_ok (args : List Value) : U1.ok 8 args = lplaceS.ok args := rfl
@[simp] theorem digitS_val (t l : Int) : digitS.val [.int .i64 t, .int .i64 l] = .int .i64 (digF t.toNat l.toNat) := rfl
@[simp] theorem digitS_ok (t l : Int) : digitS.ok [.int .i64 t, .int .i64 l] = (IntKind.i64 = .i64 ∧ IntKind.i64 = .i64 ∧ 0 ≤ t ∧ t ≤ 4611686018427387904 ∧ 0 ≤ l ∧ l ≤ 3) := rfl
@[simp] theorem lplaceS_val (x n : Int) : lplaceS.val [.int .i64 x, .int .i64 n] = .int .i64 ((x.emod n).toNat) := rfl
@[simp] theorem lplaceS_ok (x n : Int) : lplaceS.ok [.int .i64 x, .int .i64 n] = (IntKind.i64 = .i64 ∧ IntKind.i64 = .i64 ∧ 0 < n ∧ n ≤ 4611686018427387904) := rfl
-- bazaar/wheel.place
def h31_0 : HC := (.seq (.reg (.chk none (.cal 45) (.cons (.inp 0) (.cons (.inp 4) .nil)) (.done [(2, (.inp 4)), (3, (.op (.cal 45) (.cons (.inp 0) (.cons (.inp 4) .nil))))] none))) .ret)
@[simp] theorem h31_0_wp {P : Program} {F : PF P} {Q : EX → List Value → World → Prop} {env : List Value} {w : World} : h31_0.wp F Q env w = HC.wp F (.seq (.reg (.chk none (.cal 45) (.cons (.inp 0) (.cons (.inp 4) .nil)) (.done [(2, (.inp 4)), (3, (.op (.cal 45) (.cons (.inp 0) (.cons (.inp 4) .nil))))] none))) .ret) Q env w := rfl
def h31_1 : HC := (.reg (.chk none (.bin .sub) (.cons (.inp 4) (.cons (.cst (.int .i64 1)) .nil)) (.done [(4, (.op (.bin .sub) (.cons (.inp 4) (.cons (.cst (.int .i64 1)) .nil))))] none)))
@[simp] theorem h31_1_wp {P : Program} {F : PF P} {Q : EX → List Value → World → Prop} {env : List Value} {w : World} : h31_1.wp F Q env w = HC.wp F (.reg (.chk none (.bin .sub) (.cons (.inp 4) (.cons (.cst (.int .i64 1)) .nil)) (.done [(4, (.op (.bin .sub) (.cons (.inp 4) (.cons (.cst (.int .i64 1)) .nil))))] none))) Q env w := rfl
def h31_2 : HC := (.block 1 h31_1)
@[simp] theorem h31_2_wp {P : Program} {F : PF P} {Q : EX → List Value → World → Prop} {env : List Value} {w : World} : h31_2.wp F Q env w = HC.wp F (.block 1 h31_1) Q env w := rfl
def h31_3 : HC := (.seq (.br (.chk none (.bin .gtr) (.cons (.inp 4) (.cons (.cst (.int .i64 0)) .nil)) (.bnd (.op (.bin .gtr) (.cons (.inp 4) (.cons (.cst (.int .i64 0)) .nil))) (.chk (some ((.bv 0), true)) (.cal 45) (.cons (.inp 0) (.cons (.inp 4) .nil)) (.chk (some ((.bv 0), true)) (.cal 45) (.cons (.inp 1) (.cons (.inp 4) .nil)) (.chk (some ((.bv 0), true)) (.bin .eql) (.cons (.op (.cal 45) (.cons (.inp 0) (.cons (.inp 4) .nil))) (.cons (.op (.cal 45) (.cons (.inp 1) (.cons (.inp 4) .nil))) .nil)) (.isb none (.bv 0) (.done [] (some (.ite (.bv 0) true (.op (.bin .eql) (.cons (.op (.cal 45) (.cons (.inp 0) (.cons (.inp 4) .nil))) (.cons (.op (.cal 45) (.cons (.inp 1) (.cons (.inp 4) .nil))) .nil))) (.cst (.bool false))))))))))) .skip (.exit 0)) h31_2)
@[simp] theorem h31_3_wp {P : Program} {F : PF P} {Q : EX → List Value → World → Prop} {env : List Value} {w : World} : h31_3.wp F Q env w = HC.wp F (.seq (.br (.chk none (.bin .gtr) (.cons (.inp 4) (.cons (.cst (.int .i64 0)) .nil)) (.bnd (.op (.bin .gtr) (.cons (.inp 4) (.cons (.cst (.int .i64 0)) .nil))) (.chk (some ((.bv 0), true)) (.cal 45) (.cons (.inp 0) (.cons (.inp 4) .nil)) (.chk (some ((.bv 0), true)) (.cal 45) (.cons (.inp 1) (.cons (.inp 4) .nil)) (.chk (some ((.bv 0), true)) (.bin .eql) (.cons (.op (.cal 45) (.cons (.inp 0) (.cons (.inp 4) .nil))) (.cons (.op (.cal 45) (.cons (.inp 1) (.cons (.inp 4) .nil))) .nil)) (.isb none (.bv 0) (.done [] (some (.ite (.bv 0) true (.op (.bin .eql) (.cons (.op (.cal 45) (.cons (.inp 0) (.cons (.inp 4) .nil))) (.cons (.op (.cal 45) (.cons (.inp 1) (.cons (.inp 4) .nil))) .nil))) (.cst (.bool false))))))))))) .skip (.exit 0)) h31_2) Q env w := rfl
def h31_4 : HC := (.loop h31_3)
@[simp] theorem h31_4_wp {P : Program} {F : PF P} {Q : EX → List Value → World → Prop} {env : List Value} {w : World} : h31_4.wp F Q env w = HC.wp F (.loop h31_3) Q env w := rfl
def h31_5 : HC := (.seq (.block 0 h31_4) h31_0)
@[simp] theorem h31_5_wp {P : Program} {F : PF P} {Q : EX → List Value → World → Prop} {env : List Value} {w : World} : h31_5.wp F Q env w = HC.wp F (.seq (.block 0 h31_4) h31_0) Q env w := rfl
def h31_6 : HC := (.seq (.reg (.done [(4, (.cst (.int .i64 3)))] none)) h31_5)
@[simp] theorem h31_6_wp {P : Program} {F : PF P} {Q : EX → List Value → World → Prop} {env : List Value} {w : World} : h31_6.wp F Q env w = HC.wp F (.seq (.reg (.done [(4, (.cst (.int .i64 3)))] none)) h31_5) Q env w := rfl
def h31_7 : HC := (.seq (.reg (.done [(2, (.cst (.int .i64 4))), (3, (.cst (.int .i64 0)))] none)) .ret)
@[simp] theorem h31_7_wp {P : Program} {F : PF P} {Q : EX → List Value → World → Prop} {env : List Value} {w : World} : h31_7.wp F Q env w = HC.wp F (.seq (.reg (.done [(2, (.cst (.int .i64 4))), (3, (.cst (.int .i64 0)))] none)) .ret) Q env w := rfl
def h31_8 : HC := (.seq (.br (.chk none (.bin .shr) (.cons (.inp 0) (.cons (.cst (.int .u64 24)) .nil)) (.chk none (.bin .shr) (.cons (.inp 1) (.cons (.cst (.int .u64 24)) .nil)) (.chk none (.bin .neq) (.cons (.op (.bin .shr) (.cons (.inp 0) (.cons (.cst (.int .u64 24)) .nil))) (.cons (.op (.bin .shr) (.cons (.inp 1) (.cons (.cst (.int .u64 24)) .nil))) .nil)) (.done [] (some (.op (.bin .neq) (.cons (.op (.bin .shr) (.cons (.inp 0) (.cons (.cst (.int .u64 24)) .nil))) (.cons (.op (.bin .shr) (.cons (.inp 1) (.cons (.cst (.int .u64 24)) .nil))) .nil)))))))) h31_7 .skip) h31_6)
@[simp] theorem h31_8_wp {P : Program} {F : PF P} {Q : EX → List Value → World → Prop} {env : List Value} {w : World} : h31_8.wp F Q env w = HC.wp F (.seq (.br (.chk none (.bin .shr) (.cons (.inp 0) (.cons (.cst (.int .u64 24)) .nil)) (.chk none (.bin .shr) (.cons (.inp 1) (.cons (.cst (.int .u64 24)) .nil)) (.chk none (.bin .neq) (.cons (.op (.bin .shr) (.cons (.inp 0) (.cons (.cst (.int .u64 24)) .nil))) (.cons (.op (.bin .shr) (.cons (.inp 1) (.cons (.cst (.int .u64 24)) .nil))) .nil)) (.done [] (some (.op (.bin .neq) (.cons (.op (.bin .shr) (.cons (.inp 0) (.cons (.cst (.int .u64 24)) .nil))) (.cons (.op (.bin .shr) (.cons (.inp 1) (.cons (.cst (.int .u64 24)) .nil))) .nil)))))))) h31_7 .skip) h31_6) Q env w := rfl
def l31 : Lifted := ⟨[0, 1, 4, 5, 6], 29, [.slot 2, .slot 3], (.seq (.reg (.done [(2, (.cst (.int .i64 0))), (3, (.cst (.int .i64 0)))] none)) h31_8)⟩
theorem l31_ok : liftFn U1 31 400 = some l31 := by kernel_rfl

-- bazaar/bazaarlaw09.ahead
def h11_0 : HC := (.seq (.reg (.chk none (.cal 8) (.cons (.inp 0) (.cons (.cst (.int .i64 1073741824)) .nil)) (.chk none (.bin .add) (.cons (.cst (.int .i64 1)) (.cons (.op (.cal 8) (.cons (.inp 0) (.cons (.cst (.int .i64 1073741824)) .nil))) .nil)) (.done [(1, (.op (.bin .add) (.cons (.cst (.int .i64 1)) (.cons (.op (.cal 8) (.cons (.inp 0) (.cons (.cst (.int .i64 1073741824)) .nil))) .nil))))] none)))) .ret)
@[simp] theorem h11_0_wp {P : Program} {F : PF P} {Q : EX → List Value → World → Prop} {env : List Value} {w : World} : h11_0.wp F Q env w = HC.wp F (.seq (.reg (.chk none (.cal 8) (.cons (.inp 0) (.cons (.cst (.int .i64 1073741824)) .nil)) (.chk none (.bin .add) (.cons (.cst (.int .i64 1)) (.cons (.op (.cal 8) (.cons (.inp 0) (.cons (.cst (.int .i64 1073741824)) .nil))) .nil)) (.done [(1, (.op (.bin .add) (.cons (.cst (.int .i64 1)) (.cons (.op (.cal 8) (.cons (.inp 0) (.cons (.cst (.int .i64 1073741824)) .nil))) .nil))))] none)))) .ret) Q env w := rfl
def l11 : Lifted := ⟨[0, 2], 6, [.slot 1], (.seq (.reg (.done [(1, (.cst (.int .i64 0)))] none)) h11_0)⟩
theorem l11_ok : liftFn U1 11 400 = some l11 := by kernel_rfl


theorem place_spec (a n : Nat) (w : World) (ha : a ≤ 4611686018427387904) (hn : n ≤ 4611686018427387904) :
    CallW Try.prog 31 [.int .i64 a, .int .i64 n] (fun r w' => r = .tuple #[.int .i64 (lvF a n).1, .int .i64 (lvF a n).2] ∧ w' = w) w := by
  refine callW_of_lift l31_ok (by simp [l31]) ?_
  simp [l31]
  have e24 : ∀ t : Nat, (t : Int).fdiv (2 ^ min 24 IntKind.i64.bits) = ((t / 16777216 : Nat) : Int) := fun t => by
    rw [show (2 : Int) ^ min 24 IntKind.i64.bits = 16777216 from rfl, Int.fdiv_eq_ediv_of_nonneg _ (by decide)]
    rfl
  rw [e24, e24]
  refine cndI (fun h => ?_) (fun h => ?_)
  · have : lvF a n = (4, 0) := by
      unfold lvF
      rw [if_pos]
      intro e
      rw [e] at h
      simp at h
    simp [this]
  have hq : a / 16777216 = n / 16777216 := by
    have : ((a / 16777216 : Nat) : Int) = ((n / 16777216 : Nat) : Int) := by simpa using h
    omega
  simp
  refine loopI (fun env w' => ∃ (k : Nat), env = [.int .i64 a, .int .i64 n, .int .i64 0, .int .i64 0, .int .i64 k] ∧ k ≤ 3 ∧ (∀ j, k < j → j ≤ 3 → digF a j = digF n j) ∧ w' = w)
    (fun env _ => slotN env 4) ⟨3, rfl, by omega, by intro j; omega, rfl⟩ ?_
  rintro LQ env w' ⟨k, rfl, hk, hj, rfl⟩ hN hE hR
  simp
  refine ⟨fun h0 => by omega, fun h0 => by omega, ?_⟩
  refine cndI (fun h => ?_) (fun h => ?_)
  · simp at h
    obtain ⟨h0, hd⟩ := h
    have hd : digF a k = digF n k := by omega
    simp
    have hw : IntKind.i64.wrap ((k : Int) - 1) = ((k - 1 : Nat) : Int) := by rw [wrap64 (by omega) (by omega)]; omega
    simp only [hw]
    refine hN _ _ ⟨k - 1, by simp, by omega, fun j h1 h2 => ?_, rfl⟩ (by simp [slotN]; omega)
    by_cases e : j = k
    · subst e; exact hd
    · exact hj j (by omega) h2
  simp only [Bool.and_eq_false_iff, decide_eq_false_iff_not] at h
  simp
  refine hE _ _ _ ?_
  simp
  have hlv : lvF a n = (k, digF a k) := by
    have h : k = 0 ∨ digF a k ≠ digF n k := by rcases h with h | h <;> omega
    unfold lvF
    rw [if_neg (fun e => e hq)]
    have h3 : k = 3 ∨ k = 2 ∨ k = 1 ∨ k = 0 := by omega
    rcases h3 with rfl | rfl | rfl | rfl
    · rw [if_pos (h.resolve_left (by decide))]
    · rw [if_neg (fun g => g (hj 3 (by decide) (by decide))), if_pos (h.resolve_left (by decide))]
    · rw [if_neg (fun g => g (hj 3 (by decide) (by decide))), if_neg (fun g => g (hj 2 (by decide) (by decide))), if_pos (h.resolve_left (by decide))]
    · rw [if_neg (fun g => g (hj 3 (by decide) (by decide))), if_neg (fun g => g (hj 2 (by decide) (by decide))), if_neg (fun g => g (hj 1 (by decide) (by decide)))]
  simp [hlv]
  omega
theorem ahead_spec (x : Int) (w : World) :
    CallW Try.prog 11 [.int .i64 x] (fun r w' => r = .int .i64 (1 + (x.emod 1073741824).toNat) ∧ w' = w) w := by
  refine callW_of_lift l11_ok (by simp [l11]) ?_
  simp [l11]
  have h0 : 0 ≤ x.emod 1073741824 := Int.emod_nonneg x (by decide)
  have h1 : x.emod 1073741824 < 1073741824 := Int.emod_lt_of_pos x (by decide)
  rw [Int.max_eq_left h0]
  exact wrap64 (by omega) (by omega)
end Go.HL.Wh
