/-
  What the claim leans on, part 5 of 12. Conditions: as each theorem says.
-/
import Derived.Test.YtliofpihaemglaaPlMd
namespace Go.HL.Nm
open Go.HL Go.Proofs
set_option maxRecDepth 4000
set_option linter.unusedSimpArgs false
set_option linter.unusedVariables false
theorem fd (n : Nat) (k : Nat) (h : k ≤ 32) : (n : Int).fdiv (2 ^ min k IntKind.i32.bits) = (n : Int) / 2 ^ k := by
  have : min k IntKind.i32.bits = k := Nat.min_eq_left h
  rw [this, Int.fdiv_eq_ediv_of_nonneg]
  exact Int.le_of_lt (Int.pow_pos (by decide))
theorem fd6 (n : Nat) : (n : Int).fdiv (2 ^ min 6 IntKind.i32.bits) = (n : Int) / 64 := fd n 6 (by decide)
theorem fd12 (n : Nat) : (n : Int).fdiv (2 ^ min 12 IntKind.i32.bits) = (n : Int) / 4096 := fd n 12 (by decide)
theorem fd18 (n : Nat) : (n : Int).fdiv (2 ^ min 18 IntKind.i32.bits) = (n : Int) / 262144 := fd n 18 (by decide)
theorem or192' : ∀ m : Fin 32, IntKind.u8.wrap ((192 % 2 ^ IntKind.u8.bits ||| (((m.val : Nat) : Int) % 2 ^ IntKind.u8.bits).toNat : Nat) : Int) = 192 + ((m.val : Nat) : Int) := by decide +kernel
theorem or224' : ∀ m : Fin 16, IntKind.u8.wrap ((224 % 2 ^ IntKind.u8.bits ||| (((m.val : Nat) : Int) % 2 ^ IntKind.u8.bits).toNat : Nat) : Int) = 224 + ((m.val : Nat) : Int) := by decide +kernel
theorem or240' : ∀ m : Fin 8, IntKind.u8.wrap ((240 % 2 ^ IntKind.u8.bits ||| (((m.val : Nat) : Int) % 2 ^ IntKind.u8.bits).toNat : Nat) : Int) = 240 + ((m.val : Nat) : Int) := by decide +kernel
theorem or128' : ∀ m : Fin 64, IntKind.u8.wrap ((128 % 2 ^ IntKind.u8.bits ||| (((m.val : Nat) : Int) % 2 ^ IntKind.u8.bits).toNat : Nat) : Int) = 128 + ((m.val : Nat) : Int) := by decide +kernel
theorem or192 {x : Int} (h : 0 ≤ x) (h2 : x < 32) : IntKind.u8.wrap ((192 % 2 ^ IntKind.u8.bits ||| (x % 2 ^ IntKind.u8.bits).toNat : Nat) : Int) = 192 + x := by
  obtain ⟨m, rfl⟩ := Int.eq_ofNat_of_zero_le h
  exact or192' ⟨m, by omega⟩
theorem or224 {x : Int} (h : 0 ≤ x) (h2 : x < 16) : IntKind.u8.wrap ((224 % 2 ^ IntKind.u8.bits ||| (x % 2 ^ IntKind.u8.bits).toNat : Nat) : Int) = 224 + x := by
  obtain ⟨m, rfl⟩ := Int.eq_ofNat_of_zero_le h
  exact or224' ⟨m, by omega⟩
theorem or240 {x : Int} (h : 0 ≤ x) (h2 : x < 8) : IntKind.u8.wrap ((240 % 2 ^ IntKind.u8.bits ||| (x % 2 ^ IntKind.u8.bits).toNat : Nat) : Int) = 240 + x := by
  obtain ⟨m, rfl⟩ := Int.eq_ofNat_of_zero_le h
  exact or240' ⟨m, by omega⟩
theorem or128 {x : Int} (h : 0 ≤ x) (h2 : x < 64) : IntKind.u8.wrap ((128 % 2 ^ IntKind.u8.bits ||| (x % 2 ^ IntKind.u8.bits).toNat : Nat) : Int) = 128 + x := by
  obtain ⟨m, rfl⟩ := Int.eq_ofNat_of_zero_le h
  exact or128' ⟨m, by omega⟩
theorem and63 {x : Int} (h : 0 ≤ x) : IntKind.u8.wrap (((IntKind.u8.wrap x % 2 ^ IntKind.u8.bits).toNat &&& 63 % 2 ^ IntKind.u8.bits : Nat) : Int) = x % 64 := by
  have e : (63 % 2 ^ IntKind.u8.bits : Nat) = 2 ^ 6 - 1 := rfl
  rw [e, Nat.and_two_pow_sub_one_eq_mod, IntKind.wrap_u8, IntKind.wrap_u8]
  have e2 : (2 ^ IntKind.u8.bits : Int) = 256 := rfl
  rw [e2]
  omega
-- unicode/utf8.appendRuneNonASCII
def h94_0 : HC := (.seq (.reg (.chk none (.bin .shr) (.cons (.inp 1) (.cons (.cst (.int .u64 6)) .nil)) (.chk none (.convI .u8) (.cons (.op (.bin .shr) (.cons (.inp 1) (.cons (.cst (.int .u64 6)) .nil))) .nil) (.chk none (.bin .or) (.cons (.cst (.int .u8 192)) (.cons (.op (.convI .u8) (.cons (.op (.bin .shr) (.cons (.inp 1) (.cons (.cst (.int .u64 6)) .nil))) .nil)) .nil)) (.chk none (.convI .u8) (.cons (.inp 1) .nil) (.chk none (.bin .and) (.cons (.op (.convI .u8) (.cons (.inp 1) .nil)) (.cons (.cst (.int .u8 63)) .nil)) (.chk none (.bin .or) (.cons (.cst (.int .u8 128)) (.cons (.op (.bin .and) (.cons (.op (.convI .u8) (.cons (.inp 1) .nil)) (.cons (.cst (.int .u8 63)) .nil))) .nil)) (.eff (.bsl 5 2 1 #[(.int .u8 0)] [0, 1]) (.cons (.op (.bin .or) (.cons (.cst (.int .u8 192)) (.cons (.op (.convI .u8) (.cons (.op (.bin .shr) (.cons (.inp 1) (.cons (.cst (.int .u64 6)) .nil))) .nil)) .nil))) (.cons (.op (.bin .or) (.cons (.cst (.int .u8 128)) (.cons (.op (.bin .and) (.cons (.op (.convI .u8) (.cons (.inp 1) .nil)) (.cons (.cst (.int .u8 63)) .nil))) .nil))) .nil)) (.eff (.app 102 102 5 1 1 (.int .u8 0)) (.cons (.inp 0) (.cons (.bv 0) .nil)) (.done [(2, (.bv 1))] none)))))))))) .ret)
@[simp] theorem h94_0_wp {P : Program} {F : PF P} {Q : EX → List Value → World → Prop} {env : List Value} {w : World} : h94_0.wp F Q env w = HC.wp F (.seq (.reg (.chk none (.bin .shr) (.cons (.inp 1) (.cons (.cst (.int .u64 6)) .nil)) (.chk none (.convI .u8) (.cons (.op (.bin .shr) (.cons (.inp 1) (.cons (.cst (.int .u64 6)) .nil))) .nil) (.chk none (.bin .or) (.cons (.cst (.int .u8 192)) (.cons (.op (.convI .u8) (.cons (.op (.bin .shr) (.cons (.inp 1) (.cons (.cst (.int .u64 6)) .nil))) .nil)) .nil)) (.chk none (.convI .u8) (.cons (.inp 1) .nil) (.chk none (.bin .and) (.cons (.op (.convI .u8) (.cons (.inp 1) .nil)) (.cons (.cst (.int .u8 63)) .nil)) (.chk none (.bin .or) (.cons (.cst (.int .u8 128)) (.cons (.op (.bin .and) (.cons (.op (.convI .u8) (.cons (.inp 1) .nil)) (.cons (.cst (.int .u8 63)) .nil))) .nil)) (.eff (.bsl 5 2 1 #[(.int .u8 0)] [0, 1]) (.cons (.op (.bin .or) (.cons (.cst (.int .u8 192)) (.cons (.op (.convI .u8) (.cons (.op (.bin .shr) (.cons (.inp 1) (.cons (.cst (.int .u64 6)) .nil))) .nil)) .nil))) (.cons (.op (.bin .or) (.cons (.cst (.int .u8 128)) (.cons (.op (.bin .and) (.cons (.op (.convI .u8) (.cons (.inp 1) .nil)) (.cons (.cst (.int .u8 63)) .nil))) .nil))) .nil)) (.eff (.app 102 102 5 1 1 (.int .u8 0)) (.cons (.inp 0) (.cons (.bv 0) .nil)) (.done [(2, (.bv 1))] none)))))))))) .ret) Q env w := rfl
def h94_1 : HC := (.seq (.reg (.chk none (.bin .shr) (.cons (.inp 1) (.cons (.cst (.int .u64 12)) .nil)) (.chk none (.convI .u8) (.cons (.op (.bin .shr) (.cons (.inp 1) (.cons (.cst (.int .u64 12)) .nil))) .nil) (.chk none (.bin .or) (.cons (.cst (.int .u8 224)) (.cons (.op (.convI .u8) (.cons (.op (.bin .shr) (.cons (.inp 1) (.cons (.cst (.int .u64 12)) .nil))) .nil)) .nil)) (.chk none (.bin .shr) (.cons (.inp 1) (.cons (.cst (.int .u64 6)) .nil)) (.chk none (.convI .u8) (.cons (.op (.bin .shr) (.cons (.inp 1) (.cons (.cst (.int .u64 6)) .nil))) .nil) (.chk none (.bin .and) (.cons (.op (.convI .u8) (.cons (.op (.bin .shr) (.cons (.inp 1) (.cons (.cst (.int .u64 6)) .nil))) .nil)) (.cons (.cst (.int .u8 63)) .nil)) (.chk none (.bin .or) (.cons (.cst (.int .u8 128)) (.cons (.op (.bin .and) (.cons (.op (.convI .u8) (.cons (.op (.bin .shr) (.cons (.inp 1) (.cons (.cst (.int .u64 6)) .nil))) .nil)) (.cons (.cst (.int .u8 63)) .nil))) .nil)) (.chk none (.convI .u8) (.cons (.inp 1) .nil) (.chk none (.bin .and) (.cons (.op (.convI .u8) (.cons (.inp 1) .nil)) (.cons (.cst (.int .u8 63)) .nil)) (.chk none (.bin .or) (.cons (.cst (.int .u8 128)) (.cons (.op (.bin .and) (.cons (.op (.convI .u8) (.cons (.inp 1) .nil)) (.cons (.cst (.int .u8 63)) .nil))) .nil)) (.eff (.bsl 5 3 1 #[(.int .u8 0)] [0, 1, 2]) (.cons (.op (.bin .or) (.cons (.cst (.int .u8 224)) (.cons (.op (.convI .u8) (.cons (.op (.bin .shr) (.cons (.inp 1) (.cons (.cst (.int .u64 12)) .nil))) .nil)) .nil))) (.cons (.op (.bin .or) (.cons (.cst (.int .u8 128)) (.cons (.op (.bin .and) (.cons (.op (.convI .u8) (.cons (.op (.bin .shr) (.cons (.inp 1) (.cons (.cst (.int .u64 6)) .nil))) .nil)) (.cons (.cst (.int .u8 63)) .nil))) .nil))) (.cons (.op (.bin .or) (.cons (.cst (.int .u8 128)) (.cons (.op (.bin .and) (.cons (.op (.convI .u8) (.cons (.inp 1) .nil)) (.cons (.cst (.int .u8 63)) .nil))) .nil))) .nil))) (.eff (.app 102 102 5 1 1 (.int .u8 0)) (.cons (.inp 0) (.cons (.bv 0) .nil)) (.done [(2, (.bv 1))] none)))))))))))))) .ret)
@[simp] theorem h94_1_wp {P : Program} {F : PF P} {Q : EX → List Value → World → Prop} {env : List Value} {w : World} : h94_1.wp F Q env w = HC.wp F (.seq (.reg (.chk none (.bin .shr) (.cons (.inp 1) (.cons (.cst (.int .u64 12)) .nil)) (.chk none (.convI .u8) (.cons (.op (.bin .shr) (.cons (.inp 1) (.cons (.cst (.int .u64 12)) .nil))) .nil) (.chk none (.bin .or) (.cons (.cst (.int .u8 224)) (.cons (.op (.convI .u8) (.cons (.op (.bin .shr) (.cons (.inp 1) (.cons (.cst (.int .u64 12)) .nil))) .nil)) .nil)) (.chk none (.bin .shr) (.cons (.inp 1) (.cons (.cst (.int .u64 6)) .nil)) (.chk none (.convI .u8) (.cons (.op (.bin .shr) (.cons (.inp 1) (.cons (.cst (.int .u64 6)) .nil))) .nil) (.chk none (.bin .and) (.cons (.op (.convI .u8) (.cons (.op (.bin .shr) (.cons (.inp 1) (.cons (.cst (.int .u64 6)) .nil))) .nil)) (.cons (.cst (.int .u8 63)) .nil)) (.chk none (.bin .or) (.cons (.cst (.int .u8 128)) (.cons (.op (.bin .and) (.cons (.op (.convI .u8) (.cons (.op (.bin .shr) (.cons (.inp 1) (.cons (.cst (.int .u64 6)) .nil))) .nil)) (.cons (.cst (.int .u8 63)) .nil))) .nil)) (.chk none (.convI .u8) (.cons (.inp 1) .nil) (.chk none (.bin .and) (.cons (.op (.convI .u8) (.cons (.inp 1) .nil)) (.cons (.cst (.int .u8 63)) .nil)) (.chk none (.bin .or) (.cons (.cst (.int .u8 128)) (.cons (.op (.bin .and) (.cons (.op (.convI .u8) (.cons (.inp 1) .nil)) (.cons (.cst (.int .u8 63)) .nil))) .nil)) (.eff (.bsl 5 3 1 #[(.int .u8 0)] [0, 1, 2]) (.cons (.op (.bin .or) (.cons (.cst (.int .u8 224)) (.cons (.op (.convI .u8) (.cons (.op (.bin .shr) (.cons (.inp 1) (.cons (.cst (.int .u64 12)) .nil))) .nil)) .nil))) (.cons (.op (.bin .or) (.cons (.cst (.int .u8 128)) (.cons (.op (.bin .and) (.cons (.op (.convI .u8) (.cons (.op (.bin .shr) (.cons (.inp 1) (.cons (.cst (.int .u64 6)) .nil))) .nil)) (.cons (.cst (.int .u8 63)) .nil))) .nil))) (.cons (.op (.bin .or) (.cons (.cst (.int .u8 128)) (.cons (.op (.bin .and) (.cons (.op (.convI .u8) (.cons (.inp 1) .nil)) (.cons (.cst (.int .u8 63)) .nil))) .nil))) .nil))) (.eff (.app 102 102 5 1 1 (.int .u8 0)) (.cons (.inp 0) (.cons (.bv 0) .nil)) (.done [(2, (.bv 1))] none)))))))))))))) .ret) Q env w := rfl
def h94_2 : HC := (.seq (.reg (.chk none (.bin .shr) (.cons (.inp 1) (.cons (.cst (.int .u64 18)) .nil)) (.chk none (.convI .u8) (.cons (.op (.bin .shr) (.cons (.inp 1) (.cons (.cst (.int .u64 18)) .nil))) .nil) (.chk none (.bin .or) (.cons (.cst (.int .u8 240)) (.cons (.op (.convI .u8) (.cons (.op (.bin .shr) (.cons (.inp 1) (.cons (.cst (.int .u64 18)) .nil))) .nil)) .nil)) (.chk none (.bin .shr) (.cons (.inp 1) (.cons (.cst (.int .u64 12)) .nil)) (.chk none (.convI .u8) (.cons (.op (.bin .shr) (.cons (.inp 1) (.cons (.cst (.int .u64 12)) .nil))) .nil) (.chk none (.bin .and) (.cons (.op (.convI .u8) (.cons (.op (.bin .shr) (.cons (.inp 1) (.cons (.cst (.int .u64 12)) .nil))) .nil)) (.cons (.cst (.int .u8 63)) .nil)) (.chk none (.bin .or) (.cons (.cst (.int .u8 128)) (.cons (.op (.bin .and) (.cons (.op (.convI .u8) (.cons (.op (.bin .shr) (.cons (.inp 1) (.cons (.cst (.int .u64 12)) .nil))) .nil)) (.cons (.cst (.int .u8 63)) .nil))) .nil)) (.chk none (.bin .shr) (.cons (.inp 1) (.cons (.cst (.int .u64 6)) .nil)) (.chk none (.convI .u8) (.cons (.op (.bin .shr) (.cons (.inp 1) (.cons (.cst (.int .u64 6)) .nil))) .nil) (.chk none (.bin .and) (.cons (.op (.convI .u8) (.cons (.op (.bin .shr) (.cons (.inp 1) (.cons (.cst (.int .u64 6)) .nil))) .nil)) (.cons (.cst (.int .u8 63)) .nil)) (.chk none (.bin .or) (.cons (.cst (.int .u8 128)) (.cons (.op (.bin .and) (.cons (.op (.convI .u8) (.cons (.op (.bin .shr) (.cons (.inp 1) (.cons (.cst (.int .u64 6)) .nil))) .nil)) (.cons (.cst (.int .u8 63)) .nil))) .nil)) (.chk none (.convI .u8) (.cons (.inp 1) .nil) (.chk none (.bin .and) (.cons (.op (.convI .u8) (.cons (.inp 1) .nil)) (.cons (.cst (.int .u8 63)) .nil)) (.chk none (.bin .or) (.cons (.cst (.int .u8 128)) (.cons (.op (.bin .and) (.cons (.op (.convI .u8) (.cons (.inp 1) .nil)) (.cons (.cst (.int .u8 63)) .nil))) .nil)) (.eff (.bsl 5 4 1 #[(.int .u8 0)] [0, 1, 2, 3]) (.cons (.op (.bin .or) (.cons (.cst (.int .u8 240)) (.cons (.op (.convI .u8) (.cons (.op (.bin .shr) (.cons (.inp 1) (.cons (.cst (.int .u64 18)) .nil))) .nil)) .nil))) (.cons (.op (.bin .or) (.cons (.cst (.int .u8 128)) (.cons (.op (.bin .and) (.cons (.op (.convI .u8) (.cons (.op (.bin .shr) (.cons (.inp 1) (.cons (.cst (.int .u64 12)) .nil))) .nil)) (.cons (.cst (.int .u8 63)) .nil))) .nil))) (.cons (.op (.bin .or) (.cons (.cst (.int .u8 128)) (.cons (.op (.bin .and) (.cons (.op (.convI .u8) (.cons (.op (.bin .shr) (.cons (.inp 1) (.cons (.cst (.int .u64 6)) .nil))) .nil)) (.cons (.cst (.int .u8 63)) .nil))) .nil))) (.cons (.op (.bin .or) (.cons (.cst (.int .u8 128)) (.cons (.op (.bin .and) (.cons (.op (.convI .u8) (.cons (.inp 1) .nil)) (.cons (.cst (.int .u8 63)) .nil))) .nil))) .nil)))) (.eff (.app 102 102 5 1 1 (.int .u8 0)) (.cons (.inp 0) (.cons (.bv 0) .nil)) (.done [(2, (.bv 1))] none)))))))))))))))))) .ret)
@[simp] theorem h94_2_wp {P : Program} {F : PF P} {Q : EX → List Value → World → Prop} {env : List Value} {w : World} : h94_2.wp F Q env w = HC.wp F (.seq (.reg (.chk none (.bin .shr) (.cons (.inp 1) (.cons (.cst (.int .u64 18)) .nil)) (.chk none (.convI .u8) (.cons (.op (.bin .shr) (.cons (.inp 1) (.cons (.cst (.int .u64 18)) .nil))) .nil) (.chk none (.bin .or) (.cons (.cst (.int .u8 240)) (.cons (.op (.convI .u8) (.cons (.op (.bin .shr) (.cons (.inp 1) (.cons (.cst (.int .u64 18)) .nil))) .nil)) .nil)) (.chk none (.bin .shr) (.cons (.inp 1) (.cons (.cst (.int .u64 12)) .nil)) (.chk none (.convI .u8) (.cons (.op (.bin .shr) (.cons (.inp 1) (.cons (.cst (.int .u64 12)) .nil))) .nil) (.chk none (.bin .and) (.cons (.op (.convI .u8) (.cons (.op (.bin .shr) (.cons (.inp 1) (.cons (.cst (.int .u64 12)) .nil))) .nil)) (.cons (.cst (.int .u8 63)) .nil)) (.chk none (.bin .or) (.cons (.cst (.int .u8 128)) (.cons (.op (.bin .and) (.cons (.op (.convI .u8) (.cons (.op (.bin .shr) (.cons (.inp 1) (.cons (.cst (.int .u64 12)) .nil))) .nil)) (.cons (.cst (.int .u8 63)) .nil))) .nil)) (.chk none (.bin .shr) (.cons (.inp 1) (.cons (.cst (.int .u64 6)) .nil)) (.chk none (.convI .u8) (.cons (.op (.bin .shr) (.cons (.inp 1) (.cons (.cst (.int .u64 6)) .nil))) .nil) (.chk none (.bin .and) (.cons (.op (.convI .u8) (.cons (.op (.bin .shr) (.cons (.inp 1) (.cons (.cst (.int .u64 6)) .nil))) .nil)) (.cons (.cst (.int .u8 63)) .nil)) (.chk none (.bin .or) (.cons (.cst (.int .u8 128)) (.cons (.op (.bin .and) (.cons (.op (.convI .u8) (.cons (.op (.bin .shr) (.cons (.inp 1) (.cons (.cst (.int .u64 6)) .nil))) .nil)) (.cons (.cst (.int .u8 63)) .nil))) .nil)) (.chk none (.convI .u8) (.cons (.inp 1) .nil) (.chk none (.bin .and) (.cons (.op (.convI .u8) (.cons (.inp 1) .nil)) (.cons (.cst (.int .u8 63)) .nil)) (.chk none (.bin .or) (.cons (.cst (.int .u8 128)) (.cons (.op (.bin .and) (.cons (.op (.convI .u8) (.cons (.inp 1) .nil)) (.cons (.cst (.int .u8 63)) .nil))) .nil)) (.eff (.bsl 5 4 1 #[(.int .u8 0)] [0, 1, 2, 3]) (.cons (.op (.bin .or) (.cons (.cst (.int .u8 240)) (.cons (.op (.convI .u8) (.cons (.op (.bin .shr) (.cons (.inp 1) (.cons (.cst (.int .u64 18)) .nil))) .nil)) .nil))) (.cons (.op (.bin .or) (.cons (.cst (.int .u8 128)) (.cons (.op (.bin .and) (.cons (.op (.convI .u8) (.cons (.op (.bin .shr) (.cons (.inp 1) (.cons (.cst (.int .u64 12)) .nil))) .nil)) (.cons (.cst (.int .u8 63)) .nil))) .nil))) (.cons (.op (.bin .or) (.cons (.cst (.int .u8 128)) (.cons (.op (.bin .and) (.cons (.op (.convI .u8) (.cons (.op (.bin .shr) (.cons (.inp 1) (.cons (.cst (.int .u64 6)) .nil))) .nil)) (.cons (.cst (.int .u8 63)) .nil))) .nil))) (.cons (.op (.bin .or) (.cons (.cst (.int .u8 128)) (.cons (.op (.bin .and) (.cons (.op (.convI .u8) (.cons (.inp 1) .nil)) (.cons (.cst (.int .u8 63)) .nil))) .nil))) .nil)))) (.eff (.app 102 102 5 1 1 (.int .u8 0)) (.cons (.inp 0) (.cons (.bv 0) .nil)) (.done [(2, (.bv 1))] none)))))))))))))))))) .ret) Q env w := rfl
def h94_3 : HC := (.seq (.reg (.eff (.bsl 5 3 1 #[(.int .u8 0)] [0, 1, 2]) (.cons (.cst (.int .u8 239)) (.cons (.cst (.int .u8 191)) (.cons (.cst (.int .u8 189)) .nil))) (.eff (.app 102 102 5 1 1 (.int .u8 0)) (.cons (.inp 0) (.cons (.bv 0) .nil)) (.done [(2, (.bv 1))] none)))) .ret)
@[simp] theorem h94_3_wp {P : Program} {F : PF P} {Q : EX → List Value → World → Prop} {env : List Value} {w : World} : h94_3.wp F Q env w = HC.wp F (.seq (.reg (.eff (.bsl 5 3 1 #[(.int .u8 0)] [0, 1, 2]) (.cons (.cst (.int .u8 239)) (.cons (.cst (.int .u8 191)) (.cons (.cst (.int .u8 189)) .nil))) (.eff (.app 102 102 5 1 1 (.int .u8 0)) (.cons (.inp 0) (.cons (.bv 0) .nil)) (.done [(2, (.bv 1))] none)))) .ret) Q env w := rfl
def h94_4 : HC := (.br (.chk none (.bin .gtr) (.cons (.inp 3) (.cons (.cst (.int .u32 65535)) .nil)) (.bnd (.op (.bin .gtr) (.cons (.inp 3) (.cons (.cst (.int .u32 65535)) .nil))) (.chk (some ((.bv 0), true)) (.bin .leq) (.cons (.inp 3) (.cons (.cst (.int .u32 1114111)) .nil)) (.isb none (.bv 0) (.done [] (some (.ite (.bv 0) true (.op (.bin .leq) (.cons (.inp 3) (.cons (.cst (.int .u32 1114111)) .nil))) (.cst (.bool false))))))))) h94_2 h94_3)
@[simp] theorem h94_4_wp {P : Program} {F : PF P} {Q : EX → List Value → World → Prop} {env : List Value} {w : World} : h94_4.wp F Q env w = HC.wp F (.br (.chk none (.bin .gtr) (.cons (.inp 3) (.cons (.cst (.int .u32 65535)) .nil)) (.bnd (.op (.bin .gtr) (.cons (.inp 3) (.cons (.cst (.int .u32 65535)) .nil))) (.chk (some ((.bv 0), true)) (.bin .leq) (.cons (.inp 3) (.cons (.cst (.int .u32 1114111)) .nil)) (.isb none (.bv 0) (.done [] (some (.ite (.bv 0) true (.op (.bin .leq) (.cons (.inp 3) (.cons (.cst (.int .u32 1114111)) .nil))) (.cst (.bool false))))))))) h94_2 h94_3) Q env w := rfl
def h94_5 : HC := (.cnd 4 h94_1 h94_4)
@[simp] theorem h94_5_wp {P : Program} {F : PF P} {Q : EX → List Value → World → Prop} {env : List Value} {w : World} : h94_5.wp F Q env w = HC.wp F (.cnd 4 h94_1 h94_4) Q env w := rfl
def h94_6 : HC := (.reg (.chk none (.bin .lss) (.cons (.cst (.int .u32 57343)) (.cons (.inp 3) .nil)) (.bnd (.op (.bin .lss) (.cons (.cst (.int .u32 57343)) (.cons (.inp 3) .nil))) (.chk (some ((.bv 0), true)) (.bin .leq) (.cons (.inp 3) (.cons (.cst (.int .u32 65535)) .nil)) (.isb none (.bv 0) (.done [(4, (.ite (.bv 0) true (.op (.bin .leq) (.cons (.inp 3) (.cons (.cst (.int .u32 65535)) .nil))) (.cst (.bool false))))] none))))))
@[simp] theorem h94_6_wp {P : Program} {F : PF P} {Q : EX → List Value → World → Prop} {env : List Value} {w : World} : h94_6.wp F Q env w = HC.wp F (.reg (.chk none (.bin .lss) (.cons (.cst (.int .u32 57343)) (.cons (.inp 3) .nil)) (.bnd (.op (.bin .lss) (.cons (.cst (.int .u32 57343)) (.cons (.inp 3) .nil))) (.chk (some ((.bv 0), true)) (.bin .leq) (.cons (.inp 3) (.cons (.cst (.int .u32 65535)) .nil)) (.isb none (.bv 0) (.done [(4, (.ite (.bv 0) true (.op (.bin .leq) (.cons (.inp 3) (.cons (.cst (.int .u32 65535)) .nil))) (.cst (.bool false))))] none)))))) Q env w := rfl
def h94_7 : HC := (.seq (.cnd 4 .skip h94_6) h94_5)
@[simp] theorem h94_7_wp {P : Program} {F : PF P} {Q : EX → List Value → World → Prop} {env : List Value} {w : World} : h94_7.wp F Q env w = HC.wp F (.seq (.cnd 4 .skip h94_6) h94_5) Q env w := rfl
def h94_8 : HC := (.seq (.reg (.chk none (.bin .lss) (.cons (.inp 3) (.cons (.cst (.int .u32 55296)) .nil)) (.done [(4, (.op (.bin .lss) (.cons (.inp 3) (.cons (.cst (.int .u32 55296)) .nil))))] none))) h94_7)
@[simp] theorem h94_8_wp {P : Program} {F : PF P} {Q : EX → List Value → World → Prop} {env : List Value} {w : World} : h94_8.wp F Q env w = HC.wp F (.seq (.reg (.chk none (.bin .lss) (.cons (.inp 3) (.cons (.cst (.int .u32 55296)) .nil)) (.done [(4, (.op (.bin .lss) (.cons (.inp 3) (.cons (.cst (.int .u32 55296)) .nil))))] none))) h94_7) Q env w := rfl
def h94_9 : HC := (.br (.chk none (.bin .leq) (.cons (.inp 3) (.cons (.cst (.int .u32 2047)) .nil)) (.done [] (some (.op (.bin .leq) (.cons (.inp 3) (.cons (.cst (.int .u32 2047)) .nil)))))) h94_0 h94_8)
@[simp] theorem h94_9_wp {P : Program} {F : PF P} {Q : EX → List Value → World → Prop} {env : List Value} {w : World} : h94_9.wp F Q env w = HC.wp F (.br (.chk none (.bin .leq) (.cons (.inp 3) (.cons (.cst (.int .u32 2047)) .nil)) (.done [] (some (.op (.bin .leq) (.cons (.inp 3) (.cons (.cst (.int .u32 2047)) .nil)))))) h94_0 h94_8) Q env w := rfl
def h94_10 : HC := (.block 0 h94_9)
@[simp] theorem h94_10_wp {P : Program} {F : PF P} {Q : EX → List Value → World → Prop} {env : List Value} {w : World} : h94_10.wp F Q env w = HC.wp F (.block 0 h94_9) Q env w := rfl
def h94_11 : HC := (.seq (.reg (.chk none (.convI .u32) (.cons (.inp 1) .nil) (.done [(3, (.op (.convI .u32) (.cons (.inp 1) .nil)))] none))) h94_10)
@[simp] theorem h94_11_wp {P : Program} {F : PF P} {Q : EX → List Value → World → Prop} {env : List Value} {w : World} : h94_11.wp F Q env w = HC.wp F (.seq (.reg (.chk none (.convI .u32) (.cons (.inp 1) .nil) (.done [(3, (.op (.convI .u32) (.cons (.inp 1) .nil)))] none))) h94_10) Q env w := rfl
def l94 : Lifted := ⟨[0, 1, 4, 5, 25], 78, [.slot 2], (.seq (.reg (.done [(2, (.cst (.slice none 0 0)))] none)) h94_11)⟩
theorem l94_ok : liftFn F4 94 400 = some l94 := by kernel_rfl

-- unicode/utf8.AppendRune
def h88_0 : HC := (.seq (.reg (.eff (.call 94) (.cons (.inp 0) (.cons (.inp 1) .nil)) (.done [(2, (.bv 0))] none))) .ret)
@[simp] theorem h88_0_wp {P : Program} {F : PF P} {Q : EX → List Value → World → Prop} {env : List Value} {w : World} : h88_0.wp F Q env w = HC.wp F (.seq (.reg (.eff (.call 94) (.cons (.inp 0) (.cons (.inp 1) .nil)) (.done [(2, (.bv 0))] none))) .ret) Q env w := rfl
def h88_1 : HC := (.seq (.reg (.chk none (.convI .u8) (.cons (.inp 1) .nil) (.eff (.bsl 5 1 1 #[(.int .u8 0)] [0]) (.cons (.op (.convI .u8) (.cons (.inp 1) .nil)) .nil) (.eff (.app 102 102 5 1 1 (.int .u8 0)) (.cons (.inp 0) (.cons (.bv 0) .nil)) (.done [(2, (.bv 1))] none))))) .ret)
@[simp] theorem h88_1_wp {P : Program} {F : PF P} {Q : EX → List Value → World → Prop} {env : List Value} {w : World} : h88_1.wp F Q env w = HC.wp F (.seq (.reg (.chk none (.convI .u8) (.cons (.inp 1) .nil) (.eff (.bsl 5 1 1 #[(.int .u8 0)] [0]) (.cons (.op (.convI .u8) (.cons (.inp 1) .nil)) .nil) (.eff (.app 102 102 5 1 1 (.int .u8 0)) (.cons (.inp 0) (.cons (.bv 0) .nil)) (.done [(2, (.bv 1))] none))))) .ret) Q env w := rfl
def h88_2 : HC := (.seq (.br (.chk none (.convI .u32) (.cons (.inp 1) .nil) (.chk none (.bin .leq) (.cons (.op (.convI .u32) (.cons (.inp 1) .nil)) (.cons (.cst (.int .u32 127)) .nil)) (.done [] (some (.op (.bin .leq) (.cons (.op (.convI .u32) (.cons (.inp 1) .nil)) (.cons (.cst (.int .u32 127)) .nil))))))) h88_1 .skip) h88_0)
@[simp] theorem h88_2_wp {P : Program} {F : PF P} {Q : EX → List Value → World → Prop} {env : List Value} {w : World} : h88_2.wp F Q env w = HC.wp F (.seq (.br (.chk none (.convI .u32) (.cons (.inp 1) .nil) (.chk none (.bin .leq) (.cons (.op (.convI .u32) (.cons (.inp 1) .nil)) (.cons (.cst (.int .u32 127)) .nil)) (.done [] (some (.op (.bin .leq) (.cons (.op (.convI .u32) (.cons (.inp 1) .nil)) (.cons (.cst (.int .u32 127)) .nil))))))) h88_1 .skip) h88_0) Q env w := rfl
def l88 : Lifted := ⟨[0, 1, 4], 16, [.slot 2], (.seq (.reg (.done [(2, (.cst (.slice none 0 0)))] none)) h88_2)⟩
theorem l88_ok : liftFn F4 88 400 = some l88 := by kernel_rfl

-- bazaar/name.put
def h77_0 : HC := (.seq (.reg (.eff (.call 88) (.cons (.inp 0) (.cons (.inp 1) .nil)) (.done [(2, (.bv 0))] none))) .ret)
@[simp] theorem h77_0_wp {P : Program} {F : PF P} {Q : EX → List Value → World → Prop} {env : List Value} {w : World} : h77_0.wp F Q env w = HC.wp F (.seq (.reg (.eff (.call 88) (.cons (.inp 0) (.cons (.inp 1) .nil)) (.done [(2, (.bv 0))] none))) .ret) Q env w := rfl
def h77_1 : HC := (.seq (.reg (.chk none (.bin .sub) (.cons (.inp 1) (.cons (.cst (.int .i32 2097152)) .nil)) (.chk none (.convI .u8) (.cons (.op (.bin .sub) (.cons (.inp 1) (.cons (.cst (.int .i32 2097152)) .nil))) .nil) (.eff (.bsl 5 1 1 #[(.int .u8 0)] [0]) (.cons (.op (.convI .u8) (.cons (.op (.bin .sub) (.cons (.inp 1) (.cons (.cst (.int .i32 2097152)) .nil))) .nil)) .nil) (.eff (.app 102 102 5 1 1 (.int .u8 0)) (.cons (.inp 0) (.cons (.bv 0) .nil)) (.done [(2, (.bv 1))] none)))))) .ret)
@[simp] theorem h77_1_wp {P : Program} {F : PF P} {Q : EX → List Value → World → Prop} {env : List Value} {w : World} : h77_1.wp F Q env w = HC.wp F (.seq (.reg (.chk none (.bin .sub) (.cons (.inp 1) (.cons (.cst (.int .i32 2097152)) .nil)) (.chk none (.convI .u8) (.cons (.op (.bin .sub) (.cons (.inp 1) (.cons (.cst (.int .i32 2097152)) .nil))) .nil) (.eff (.bsl 5 1 1 #[(.int .u8 0)] [0]) (.cons (.op (.convI .u8) (.cons (.op (.bin .sub) (.cons (.inp 1) (.cons (.cst (.int .i32 2097152)) .nil))) .nil)) .nil) (.eff (.app 102 102 5 1 1 (.int .u8 0)) (.cons (.inp 0) (.cons (.bv 0) .nil)) (.done [(2, (.bv 1))] none)))))) .ret) Q env w := rfl
def h77_2 : HC := (.seq (.br (.chk none (.bin .geq) (.cons (.inp 1) (.cons (.cst (.int .i32 2097152)) .nil)) (.done [] (some (.op (.bin .geq) (.cons (.inp 1) (.cons (.cst (.int .i32 2097152)) .nil)))))) h77_1 .skip) h77_0)
@[simp] theorem h77_2_wp {P : Program} {F : PF P} {Q : EX → List Value → World → Prop} {env : List Value} {w : World} : h77_2.wp F Q env w = HC.wp F (.seq (.br (.chk none (.bin .geq) (.cons (.inp 1) (.cons (.cst (.int .i32 2097152)) .nil)) (.done [] (some (.op (.bin .geq) (.cons (.inp 1) (.cons (.cst (.int .i32 2097152)) .nil)))))) h77_1 .skip) h77_0) Q env w := rfl
def l77 : Lifted := ⟨[0, 1, 4], 16, [.slot 2], (.seq (.reg (.done [(2, (.cst (.slice none 0 0)))] none)) h77_2)⟩
theorem l77_ok : liftFn F4 77 400 = some l77 := by kernel_rfl

-- bazaar/name.text
def h49_0 : HC := (.seq (.reg (.eff (.b2s 102 9) (.cons (.inp 2) .nil) (.done [(1, (.bv 0))] none))) .ret)
@[simp] theorem h49_0_wp {P : Program} {F : PF P} {Q : EX → List Value → World → Prop} {env : List Value} {w : World} : h49_0.wp F Q env w = HC.wp F (.seq (.reg (.eff (.b2s 102 9) (.cons (.inp 2) .nil) (.done [(1, (.bv 0))] none))) .ret) Q env w := rfl
def h49_1 : HC := (.reg (.chk none (.bin .add) (.cons (.inp 6) (.cons (.cst (.int .i64 1)) .nil)) (.done [(6, (.op (.bin .add) (.cons (.inp 6) (.cons (.cst (.int .i64 1)) .nil))))] none)))
@[simp] theorem h49_1_wp {P : Program} {F : PF P} {Q : EX → List Value → World → Prop} {env : List Value} {w : World} : h49_1.wp F Q env w = HC.wp F (.reg (.chk none (.bin .add) (.cons (.inp 6) (.cons (.cst (.int .i64 1)) .nil)) (.done [(6, (.op (.bin .add) (.cons (.inp 6) (.cons (.cst (.int .i64 1)) .nil))))] none))) Q env w := rfl
def h49_2 : HC := (.reg (.eff (.call 77) (.cons (.inp 2) (.cons (.inp 3) .nil)) (.done [(2, (.bv 0))] none)))
@[simp] theorem h49_2_wp {P : Program} {F : PF P} {Q : EX → List Value → World → Prop} {env : List Value} {w : World} : h49_2.wp F Q env w = HC.wp F (.reg (.eff (.call 77) (.cons (.inp 2) (.cons (.inp 3) .nil)) (.done [(2, (.bv 0))] none))) Q env w := rfl
def h49_3 : HC := (.seq (.reg (.chk none (.idxL 1) (.cons (.inp 4) (.cons (.inp 6) .nil)) (.eff (.ld false 1) (.cons (.op (.idxL 1) (.cons (.inp 4) (.cons (.inp 6) .nil))) .nil) (.done [(3, (.bv 0))] none)))) h49_2)
@[simp] theorem h49_3_wp {P : Program} {F : PF P} {Q : EX → List Value → World → Prop} {env : List Value} {w : World} : h49_3.wp F Q env w = HC.wp F (.seq (.reg (.chk none (.idxL 1) (.cons (.inp 4) (.cons (.inp 6) .nil)) (.eff (.ld false 1) (.cons (.op (.idxL 1) (.cons (.inp 4) (.cons (.inp 6) .nil))) .nil) (.done [(3, (.bv 0))] none)))) h49_2) Q env w := rfl
def h49_4 : HC := (.seq (.block 1 h49_3) h49_1)
@[simp] theorem h49_4_wp {P : Program} {F : PF P} {Q : EX → List Value → World → Prop} {env : List Value} {w : World} : h49_4.wp F Q env w = HC.wp F (.seq (.block 1 h49_3) h49_1) Q env w := rfl
def h49_5 : HC := (.seq (.br (.chk none (.bin .lss) (.cons (.inp 6) (.cons (.inp 5) .nil)) (.done [] (some (.op (.bin .lss) (.cons (.inp 6) (.cons (.inp 5) .nil)))))) .skip (.exit 0)) h49_4)
@[simp] theorem h49_5_wp {P : Program} {F : PF P} {Q : EX → List Value → World → Prop} {env : List Value} {w : World} : h49_5.wp F Q env w = HC.wp F (.seq (.br (.chk none (.bin .lss) (.cons (.inp 6) (.cons (.inp 5) .nil)) (.done [] (some (.op (.bin .lss) (.cons (.inp 6) (.cons (.inp 5) .nil)))))) .skip (.exit 0)) h49_4) Q env w := rfl
def h49_6 : HC := (.loop h49_5)
@[simp] theorem h49_6_wp {P : Program} {F : PF P} {Q : EX → List Value → World → Prop} {env : List Value} {w : World} : h49_6.wp F Q env w = HC.wp F (.loop h49_5) Q env w := rfl
def h49_7 : HC := (.seq (.block 0 h49_6) h49_0)
@[simp] theorem h49_7_wp {P : Program} {F : PF P} {Q : EX → List Value → World → Prop} {env : List Value} {w : World} : h49_7.wp F Q env w = HC.wp F (.seq (.block 0 h49_6) h49_0) Q env w := rfl
def h49_8 : HC := (.seq (.reg (.chk none .lenL (.cons (.inp 0) .nil) (.done [(4, (.inp 0)), (5, (.op .lenL (.cons (.inp 0) .nil))), (6, (.cst (.int .i64 0)))] none))) h49_7)
@[simp] theorem h49_8_wp {P : Program} {F : PF P} {Q : EX → List Value → World → Prop} {env : List Value} {w : World} : h49_8.wp F Q env w = HC.wp F (.seq (.reg (.chk none .lenL (.cons (.inp 0) .nil) (.done [(4, (.inp 0)), (5, (.op .lenL (.cons (.inp 0) .nil))), (6, (.cst (.int .i64 0)))] none))) h49_7) Q env w := rfl
def h49_9 : HC := (.seq (.reg (.done [(2, (.cst (.slice none 0 0)))] none)) h49_8)
@[simp] theorem h49_9_wp {P : Program} {F : PF P} {Q : EX → List Value → World → Prop} {env : List Value} {w : World} : h49_9.wp F Q env w = HC.wp F (.seq (.reg (.done [(2, (.cst (.slice none 0 0)))] none)) h49_8) Q env w := rfl
def l49 : Lifted := ⟨[0, 2, 3, 5, 6, 7, 8], 18, [.slot 1], (.seq (.reg (.done [(1, (.cst (.string ⟨#[]⟩)))] none)) h49_9)⟩
theorem l49_ok : liftFn F4 49 400 = some l49 := by kernel_rfl


theorem nonascii_spec (n : Nat) (bs : List UInt8) (v : Value) (w0 w : World) (A : Asn) (hl : bs.length ≤ 16777216) (hu : okU n) (h128 : 128 ≤ n) (hbad : n < 2097152) (s : St w0 (A * own 5 1 v bs.length (bytesV bs)) w) :
    CallW Try.prog 94 [v, .int .i32 n] (fun r w' => St w0 (A * own 5 1 r (bs.length + (encU n).length) (bytesV (bs ++ encU n))) w') w := by
  have hn : n ≤ 1114111 ∧ ¬ (55296 ≤ n ∧ n < 57344) := by unfold okU at hu; omega
  have hlen : (encU n).length = (encN n).length := by simp [encU]
  rw [bytesV_app, encV n hu, hlen]
  refine callW_of_lift l94_ok (by simp [l94]) ?_
  simp [l94]
  try simp (disch := omega) only [wrapu32]
  refine cndI (fun h1 => ?_) (fun h1 => ?_)
  · simp at h1
    have e : encN n = [192 + n / 64, 128 + n % 64] := by unfold encN; rw [if_neg (by omega), if_neg (by omega), if_pos (by omega)]
    rw [e]
    simp
    try simp (disch := omega) only [fd6, and63, wrapu8, or192, or128]
    refine eff_bsl2 s rfl rfl ?_
    intro b w1 s1
    simp
    refine eff_app (n := bs.length) (m := 2) (news := [.int .u8 (192 + n / 64), .int .u8 (128 + n % 64)]) s1.swap rfl s1.cells_look (by simp [Value.oneCell']) (by decide) rfl (by unfold maxLen; omega) (by omega) ?_
    intro v' w2 s2
    simp
    exact s2.swap.drop
  simp at h1
  simp
  refine cndI (fun h2 => ?_) (fun h2 => ?_)
  · simp at h2
    simp [h2]
    have e : encN n = [224 + n / 4096, 128 + n / 64 % 64, 128 + n % 64] := by unfold encN; rw [if_neg (by omega), if_neg (by omega), if_neg (by omega), if_pos (by omega)]
    rw [e]
    simp
    try simp (disch := omega) only [fd12, fd6, and63, wrapu8, or224, or128]
    refine eff_bsl3 s rfl rfl rfl ?_
    intro b w1 s1
    simp
    refine eff_app (n := bs.length) (m := 3) (news := [.int .u8 (224 + n / 4096), .int .u8 (128 + n / 64 % 64), .int .u8 (128 + n % 64)]) s1.swap rfl s1.cells_look (by simp [Value.oneCell']) (by decide) rfl (by unfold maxLen; omega) (by omega) ?_
    intro v' w2 s2
    simp
    exact s2.swap.drop
  simp at h2
  have h2' : ¬ (n : Int) < 55296 := by omega
  have h57 : (57343 : Int) < n := by omega
  simp [h57]
  refine cndI (fun h3 => ?_) (fun h3 => ?_)
  · simp at h3
    have e : encN n = [224 + n / 4096, 128 + n / 64 % 64, 128 + n % 64] := by unfold encN; rw [if_neg (by omega), if_neg (by omega), if_neg (by omega), if_pos (by omega)]
    rw [e]
    simp
    try simp (disch := omega) only [fd12, fd6, and63, wrapu8, or224, or128]
    refine eff_bsl3 s rfl rfl rfl ?_
    intro b w1 s1
    simp
    refine eff_app (n := bs.length) (m := 3) (news := [.int .u8 (224 + n / 4096), .int .u8 (128 + n / 64 % 64), .int .u8 (128 + n % 64)]) s1.swap rfl s1.cells_look (by simp [Value.oneCell']) (by decide) rfl (by unfold maxLen; omega) (by omega) ?_
    intro v' w2 s2
    simp
    exact s2.swap.drop
  simp at h3
  have h4 : (65535 : Int) < n := by omega
  have h5 : (n : Int) ≤ 1114111 := by omega
  have e : encN n = [240 + n / 262144, 128 + n / 4096 % 64, 128 + n / 64 % 64, 128 + n % 64] := by unfold encN; rw [if_neg (by omega), if_neg (by omega), if_neg (by omega), if_neg (by omega)]
  rw [e]
  simp [h4, h5]
  try simp (disch := omega) only [fd18, fd12, fd6, and63, wrapu8, or240, or128]
  refine eff_bsl4 s rfl rfl rfl rfl ?_
  intro b w1 s1
  simp
  refine eff_app (n := bs.length) (m := 4) (news := [.int .u8 (240 + n / 262144), .int .u8 (128 + n / 4096 % 64), .int .u8 (128 + n / 64 % 64), .int .u8 (128 + n % 64)]) s1.swap rfl s1.cells_look (by simp [Value.oneCell']) (by decide) rfl (by unfold maxLen; omega) (by omega) ?_
  intro v' w2 s2
  simp
  exact s2.swap.drop
theorem apprune_spec (n : Nat) (bs : List UInt8) (v : Value) (w0 w : World) (A : Asn) (hl : bs.length ≤ 16777216) (hu : okU n) (hbad : n < 2097152) (s : St w0 (A * own 5 1 v bs.length (bytesV bs)) w) :
    CallW Try.prog 88 [v, .int .i32 n] (fun r w' => St w0 (A * own 5 1 r (bs.length + (encU n).length) (bytesV (bs ++ encU n))) w') w := by
  refine callW_of_lift l88_ok (by simp [l88]) ?_
  simp [l88]
  try simp (disch := omega) only [wrapu32]
  refine cndI (fun h1 => ?_) (fun h1 => ?_)
  · simp at h1
    have e : encN n = [n] := by unfold encN; rw [if_neg (by omega), if_pos (by omega)]
    have hlen : (encU n).length = 1 := by simp [encU, e]
    rw [bytesV_app, encV n hu, hlen, e]
    simp
    try simp (disch := omega) only [wrapu8]
    refine eff_bsl1 s rfl ?_
    intro b w1 s1
    simp
    refine eff_app (n := bs.length) (m := 1) (news := [.int .u8 n]) s1.swap rfl s1.cells_look (by simp [Value.oneCell']) (by decide) rfl (by unfold maxLen; omega) (by omega) ?_
    intro v' w2 s2
    simp
    exact s2.swap.drop
  simp at h1
  simp
  refine eff_call ((nonascii_spec n bs v w0 w A hl hu (by omega) hbad s).mono ?_)
  intro r w2 s2
  simp
  exact s2
theorem put_spec (n : Nat) (bs : List UInt8) (v : Value) (w0 w : World) (A : Asn) (hl : bs.length ≤ 16777216) (hu : okU n) (s : St w0 (A * own 5 1 v bs.length (bytesV bs)) w) :
    CallW Try.prog 77 [v, .int .i32 n] (fun r w' => St w0 (A * own 5 1 r (bs.length + (encU n).length) (bytesV (bs ++ encU n))) w') w := by
  refine callW_of_lift l77_ok (by simp [l77]) ?_
  simp [l77]
  refine cndI (fun h1 => ?_) (fun h1 => ?_)
  · simp at h1
    have hn : n < 2097408 := by unfold okU at hu; omega
    have e : encN n = [n - 2097152] := by unfold encN; rw [if_pos (by omega)]
    have hlen : (encU n).length = 1 := by simp [encU, e]
    have hsub : ((n - 2097152 : Nat) : Int) = (n : Int) - 2097152 := by omega
    rw [bytesV_app, encV n hu, hlen, e]
    simp
    try simp (disch := omega) only [wrapu8, wrap32]
    refine eff_bsl1 s rfl ?_
    intro b w1 s1
    simp
    refine eff_app (n := bs.length) (m := 1) (news := [.int .u8 (n - 2097152)]) s1.swap rfl s1.cells_look (by simp [Value.oneCell']) (by decide) rfl (by unfold maxLen; omega) (by omega) ?_
    intro v' w2 s2
    simp
    rw [hsub]
    exact s2.swap.drop
  simp at h1
  simp
  refine eff_call ((apprune_spec n bs v w0 w A hl hu (by omega) s).mono ?_)
  intro r w2 s2
  simp
  exact s2
theorem text_spec (us : List Int) (v : Value) (w0 w : World) (A : Asn) (hl : us.length ≤ 4194304) (hok : ∀ u ∈ us, okU u) (s : St w0 (A * own 21 1 v us.length (ints32 us)) w) :
    CallW Try.prog 49 [v] (fun r w' => r = .string (mk (encAll us)) ∧ St w0 (A * own 21 1 v us.length (ints32 us)) w') w := by
  obtain ⟨a1, c1, rfl, hc1, hn1⟩ := s.own_val
  refine callW_of_lift l49_ok (by simp [l49]) ?_
  simp [l49]
  refine loopI (fun env w' => ∃ (i : Nat) (v x : Value), env = [.slice a1 us.length c1, .string (mk []), v, x, .slice a1 us.length c1, .int .i64 us.length, .int .i64 i] ∧ i ≤ us.length ∧
      St w0 (A * own 21 1 (.slice a1 us.length c1) us.length (ints32 us) * own 5 1 v (encAll (us.take i)).length (bytesV (encAll (us.take i)))) w')
    (fun env _ => us.length - slotN env 6) ⟨0, _, _, rfl, by omega, by simpa [encAll, bytesV] using s.own_nil 5 1⟩ ?_
  rintro LQ env w' ⟨i, v, x, rfl, hi, s'⟩ hN hE hR
  simp
  refine cndI (fun h => ?_) (fun h => ?_)
  · simp at h
    obtain ⟨g1, c1', e1, _, hcell⟩ := s'.swap.own_at (by omega)
    cases e1
    have hui := hcell i (.int .i32 us[i]) (by simp [ints32, h])
    simp
    refine ⟨h, eff_ldc hui ?_⟩
    simp
    have hub := hok us[i] (List.getElem_mem h)
    obtain ⟨m, hm⟩ := Int.eq_ofNat_of_zero_le (show 0 ≤ us[i] by unfold okU at hub; omega)
    rw [hm] at hub
    rw [hm]
    have hfl := encAll_len (us.take i)
    rw [List.length_take] at hfl
    refine eff_call ((put_spec m _ v w0 _ _ (by omega) hub s').mono ?_)
    intro r w2 s2
    simp
    try simp (disch := omega) only [wrap64]
    refine hN _ _ ⟨i + 1, r, _, by simp; rfl, h, ?_⟩ (by simp [slotN]; omega)
    rw [List.take_succ_eq_append_getElem h, encAll_snoc, hm, List.length_append]
    exact s2
  · simp at h
    simp
    refine hE _ _ _ ?_
    simp
    have : i = us.length := by omega
    subst this
    rw [List.take_length] at s'
    refine eff_b2s s' ?_
    simp
    exact s'.drop
end Go.HL.Nm

namespace Go.HL.Nm
open Go.HL Go.Proofs
set_option maxRecDepth 4000
set_option linter.unusedSimpArgs false
set_option linter.unusedVariables false
def likeL : List UInt8 := [48, 206, 191, 208, 190, 49, 206, 177, 208, 176, 209, 129, 208, 181, 209, 145, 206, 185, 206, 186, 208, 186, 207, 129, 209, 128, 207, 132, 209, 130, 207, 133, 206, 189, 207, 135, 209, 133, 206, 179, 209, 131, 32, 95]
def lookL : List UInt8 := [111, 111, 111, 108, 97, 97, 99, 101, 101, 105, 107, 107, 112, 112, 116, 116, 117, 118, 120, 120, 121, 121, 45, 45]
def tabL : List UInt8 := [97, 97, 97, 97, 97, 97, 230, 99, 101, 101, 101, 101, 105, 105, 105, 105, 240, 110, 111, 111, 111, 111, 111, 247, 111, 117, 117, 117, 117, 121, 254, 121]
def likeU : List (Int × Nat) := [(48, 1), (959, 2), (1086, 2), (49, 1), (945, 2), (1072, 2), (1089, 2), (1077, 2), (1105, 2), (953, 2), (954, 2), (1082, 2), (961, 2), (1088, 2), (964, 2), (1090, 2), (965, 2), (957, 2), (967, 2), (1093, 2), (947, 2), (1091, 2), (32, 1), (95, 1)]
theorem like_units : units likeL = likeU := by decide +kernel
theorem like_look : ∀ k : Fin 24, looksF (likeU.getD k.val (0, 0)).1 = ((lookL[k.val]?.getD 0).toNat : Int) ∧ runeOf (likeU.getD k.val (0, 0)).1 = (likeU.getD k.val (0, 0)).1 := by decide +kernel
theorem tab_look : ∀ k : Fin 32, looksF (224 + (k.val : Int)) = ((tabL[k.val]?.getD 0).toNat : Int) := by decide +kernel
theorem look_else (u : Int) (h : ∀ x ∈ likeU, x.1 ≠ u) (h2 : ¬ (224 ≤ u ∧ u ≤ 255)) : looksF u = u := by
  simp [likeU] at h
  unfold looksF
  repeat rw [if_neg (by omega)]
-- bazaar/name.seen
def h79_0 : HC := (.seq (.reg (.done [(1, (.inp 0))] none)) .ret)
@[simp] theorem h79_0_wp {P : Program} {F : PF P} {Q : EX → List Value → World → Prop} {env : List Value} {w : World} : h79_0.wp F Q env w = HC.wp F (.seq (.reg (.done [(1, (.inp 0))] none)) .ret) Q env w := rfl
def h79_1 : HC := (.seq (.reg (.chk none (.bin .sub) (.cons (.inp 0) (.cons (.cst (.int .i32 224)) .nil)) (.chk none .chS (.cons (.cst (.string ⟨#[97, 97, 97, 97, 97, 97, 230, 99, 101, 101, 101, 101, 105, 105, 105, 105, 240, 110, 111, 111, 111, 111, 111, 247, 111, 117, 117, 117, 117, 121, 254, 121]⟩)) (.cons (.op (.bin .sub) (.cons (.inp 0) (.cons (.cst (.int .i32 224)) .nil))) .nil)) (.chk none (.convI .i32) (.cons (.op .chS (.cons (.cst (.string ⟨#[97, 97, 97, 97, 97, 97, 230, 99, 101, 101, 101, 101, 105, 105, 105, 105, 240, 110, 111, 111, 111, 111, 111, 247, 111, 117, 117, 117, 117, 121, 254, 121]⟩)) (.cons (.op (.bin .sub) (.cons (.inp 0) (.cons (.cst (.int .i32 224)) .nil))) .nil))) .nil) (.done [(1, (.op (.convI .i32) (.cons (.op .chS (.cons (.cst (.string ⟨#[97, 97, 97, 97, 97, 97, 230, 99, 101, 101, 101, 101, 105, 105, 105, 105, 240, 110, 111, 111, 111, 111, 111, 247, 111, 117, 117, 117, 117, 121, 254, 121]⟩)) (.cons (.op (.bin .sub) (.cons (.inp 0) (.cons (.cst (.int .i32 224)) .nil))) .nil))) .nil)))] none))))) .ret)
@[simp] theorem h79_1_wp {P : Program} {F : PF P} {Q : EX → List Value → World → Prop} {env : List Value} {w : World} : h79_1.wp F Q env w = HC.wp F (.seq (.reg (.chk none (.bin .sub) (.cons (.inp 0) (.cons (.cst (.int .i32 224)) .nil)) (.chk none .chS (.cons (.cst (.string ⟨#[97, 97, 97, 97, 97, 97, 230, 99, 101, 101, 101, 101, 105, 105, 105, 105, 240, 110, 111, 111, 111, 111, 111, 247, 111, 117, 117, 117, 117, 121, 254, 121]⟩)) (.cons (.op (.bin .sub) (.cons (.inp 0) (.cons (.cst (.int .i32 224)) .nil))) .nil)) (.chk none (.convI .i32) (.cons (.op .chS (.cons (.cst (.string ⟨#[97, 97, 97, 97, 97, 97, 230, 99, 101, 101, 101, 101, 105, 105, 105, 105, 240, 110, 111, 111, 111, 111, 111, 247, 111, 117, 117, 117, 117, 121, 254, 121]⟩)) (.cons (.op (.bin .sub) (.cons (.inp 0) (.cons (.cst (.int .i32 224)) .nil))) .nil))) .nil) (.done [(1, (.op (.convI .i32) (.cons (.op .chS (.cons (.cst (.string ⟨#[97, 97, 97, 97, 97, 97, 230, 99, 101, 101, 101, 101, 105, 105, 105, 105, 240, 110, 111, 111, 111, 111, 111, 247, 111, 117, 117, 117, 117, 121, 254, 121]⟩)) (.cons (.op (.bin .sub) (.cons (.inp 0) (.cons (.cst (.int .i32 224)) .nil))) .nil))) .nil)))] none))))) .ret) Q env w := rfl
def h79_2 : HC := (.seq (.br (.chk none (.bin .geq) (.cons (.inp 0) (.cons (.cst (.int .i32 224)) .nil)) (.bnd (.op (.bin .geq) (.cons (.inp 0) (.cons (.cst (.int .i32 224)) .nil))) (.chk (some ((.bv 0), true)) (.bin .leq) (.cons (.inp 0) (.cons (.cst (.int .i32 255)) .nil)) (.isb none (.bv 0) (.done [] (some (.ite (.bv 0) true (.op (.bin .leq) (.cons (.inp 0) (.cons (.cst (.int .i32 255)) .nil))) (.cst (.bool false))))))))) h79_1 .skip) h79_0)
@[simp] theorem h79_2_wp {P : Program} {F : PF P} {Q : EX → List Value → World → Prop} {env : List Value} {w : World} : h79_2.wp F Q env w = HC.wp F (.seq (.br (.chk none (.bin .geq) (.cons (.inp 0) (.cons (.cst (.int .i32 224)) .nil)) (.bnd (.op (.bin .geq) (.cons (.inp 0) (.cons (.cst (.int .i32 224)) .nil))) (.chk (some ((.bv 0), true)) (.bin .leq) (.cons (.inp 0) (.cons (.cst (.int .i32 255)) .nil)) (.isb none (.bv 0) (.done [] (some (.ite (.bv 0) true (.op (.bin .leq) (.cons (.inp 0) (.cons (.cst (.int .i32 255)) .nil))) (.cst (.bool false))))))))) h79_1 .skip) h79_0) Q env w := rfl
def h79_3 : HC := (.reg (.chk none (.bin .add) (.cons (.inp 2) (.cons (.cst (.int .i64 1)) .nil)) (.done [(2, (.op (.bin .add) (.cons (.inp 2) (.cons (.cst (.int .i64 1)) .nil))))] none)))
@[simp] theorem h79_3_wp {P : Program} {F : PF P} {Q : EX → List Value → World → Prop} {env : List Value} {w : World} : h79_3.wp F Q env w = HC.wp F (.reg (.chk none (.bin .add) (.cons (.inp 2) (.cons (.cst (.int .i64 1)) .nil)) (.done [(2, (.op (.bin .add) (.cons (.inp 2) (.cons (.cst (.int .i64 1)) .nil))))] none))) Q env w := rfl
def h79_4 : HC := (.seq (.reg (.chk none .chS (.cons (.cst (.string ⟨#[111, 111, 111, 108, 97, 97, 99, 101, 101, 105, 107, 107, 112, 112, 116, 116, 117, 118, 120, 120, 121, 121, 45, 45]⟩)) (.cons (.inp 2) .nil)) (.chk none (.convI .i32) (.cons (.op .chS (.cons (.cst (.string ⟨#[111, 111, 111, 108, 97, 97, 99, 101, 101, 105, 107, 107, 112, 112, 116, 116, 117, 118, 120, 120, 121, 121, 45, 45]⟩)) (.cons (.inp 2) .nil))) .nil) (.done [(1, (.op (.convI .i32) (.cons (.op .chS (.cons (.cst (.string ⟨#[111, 111, 111, 108, 97, 97, 99, 101, 101, 105, 107, 107, 112, 112, 116, 116, 117, 118, 120, 120, 121, 121, 45, 45]⟩)) (.cons (.inp 2) .nil))) .nil)))] none)))) .ret)
@[simp] theorem h79_4_wp {P : Program} {F : PF P} {Q : EX → List Value → World → Prop} {env : List Value} {w : World} : h79_4.wp F Q env w = HC.wp F (.seq (.reg (.chk none .chS (.cons (.cst (.string ⟨#[111, 111, 111, 108, 97, 97, 99, 101, 101, 105, 107, 107, 112, 112, 116, 116, 117, 118, 120, 120, 121, 121, 45, 45]⟩)) (.cons (.inp 2) .nil)) (.chk none (.convI .i32) (.cons (.op .chS (.cons (.cst (.string ⟨#[111, 111, 111, 108, 97, 97, 99, 101, 101, 105, 107, 107, 112, 112, 116, 116, 117, 118, 120, 120, 121, 121, 45, 45]⟩)) (.cons (.inp 2) .nil))) .nil) (.done [(1, (.op (.convI .i32) (.cons (.op .chS (.cons (.cst (.string ⟨#[111, 111, 111, 108, 97, 97, 99, 101, 101, 105, 107, 107, 112, 112, 116, 116, 117, 118, 120, 120, 121, 121, 45, 45]⟩)) (.cons (.inp 2) .nil))) .nil)))] none)))) .ret) Q env w := rfl
def h79_5 : HC := (.seq (.br (.chk none (.bin .eql) (.cons (.inp 3) (.cons (.inp 0) .nil)) (.done [] (some (.op (.bin .eql) (.cons (.inp 3) (.cons (.inp 0) .nil)))))) h79_4 .skip) h79_3)
@[simp] theorem h79_5_wp {P : Program} {F : PF P} {Q : EX → List Value → World → Prop} {env : List Value} {w : World} : h79_5.wp F Q env w = HC.wp F (.seq (.br (.chk none (.bin .eql) (.cons (.inp 3) (.cons (.inp 0) .nil)) (.done [] (some (.op (.bin .eql) (.cons (.inp 3) (.cons (.inp 0) .nil)))))) h79_4 .skip) h79_3) Q env w := rfl
def h79_6 : HC := (.seq (.reg (.chk none (.ext 2) (.cons (.inp 5) .nil) (.done [(3, (.op (.ext 2) (.cons (.inp 5) .nil)))] none))) h79_5)
@[simp] theorem h79_6_wp {P : Program} {F : PF P} {Q : EX → List Value → World → Prop} {env : List Value} {w : World} : h79_6.wp F Q env w = HC.wp F (.seq (.reg (.chk none (.ext 2) (.cons (.inp 5) .nil) (.done [(3, (.op (.ext 2) (.cons (.inp 5) .nil)))] none))) h79_5) Q env w := rfl
def h79_7 : HC := (.block 1 h79_6)
@[simp] theorem h79_7_wp {P : Program} {F : PF P} {Q : EX → List Value → World → Prop} {env : List Value} {w : World} : h79_7.wp F Q env w = HC.wp F (.block 1 h79_6) Q env w := rfl
def h79_8 : HC := (.seq (.br (.eff (.nxt true 0) (.cons (.inp 4) .nil) (.chk none (.ext 0) (.cons (.bv 0) .nil) (.done [(5, (.bv 0))] (some (.op (.ext 0) (.cons (.bv 0) .nil)))))) .skip (.exit 0)) h79_7)
@[simp] theorem h79_8_wp {P : Program} {F : PF P} {Q : EX → List Value → World → Prop} {env : List Value} {w : World} : h79_8.wp F Q env w = HC.wp F (.seq (.br (.eff (.nxt true 0) (.cons (.inp 4) .nil) (.chk none (.ext 0) (.cons (.bv 0) .nil) (.done [(5, (.bv 0))] (some (.op (.ext 0) (.cons (.bv 0) .nil)))))) .skip (.exit 0)) h79_7) Q env w := rfl
def h79_9 : HC := (.loop h79_8)
@[simp] theorem h79_9_wp {P : Program} {F : PF P} {Q : EX → List Value → World → Prop} {env : List Value} {w : World} : h79_9.wp F Q env w = HC.wp F (.loop h79_8) Q env w := rfl
def h79_10 : HC := (.seq (.block 0 h79_9) h79_2)
@[simp] theorem h79_10_wp {P : Program} {F : PF P} {Q : EX → List Value → World → Prop} {env : List Value} {w : World} : h79_10.wp F Q env w = HC.wp F (.seq (.block 0 h79_9) h79_2) Q env w := rfl
def h79_11 : HC := (.seq (.reg (.eff (.rngS 9) (.cons (.cst (.string ⟨#[48, 206, 191, 208, 190, 49, 206, 177, 208, 176, 209, 129, 208, 181, 209, 145, 206, 185, 206, 186, 208, 186, 207, 129, 209, 128, 207, 132, 209, 130, 207, 133, 206, 189, 207, 135, 209, 133, 206, 179, 209, 131, 32, 95]⟩)) .nil) (.done [(4, (.bv 0))] none))) h79_10)
@[simp] theorem h79_11_wp {P : Program} {F : PF P} {Q : EX → List Value → World → Prop} {env : List Value} {w : World} : h79_11.wp F Q env w = HC.wp F (.seq (.reg (.eff (.rngS 9) (.cons (.cst (.string ⟨#[48, 206, 191, 208, 190, 49, 206, 177, 208, 176, 209, 129, 208, 181, 209, 145, 206, 185, 206, 186, 208, 186, 207, 129, 209, 128, 207, 132, 209, 130, 207, 133, 206, 189, 207, 135, 209, 133, 206, 179, 209, 131, 32, 95]⟩)) .nil) (.done [(4, (.bv 0))] none))) h79_10) Q env w := rfl
def h79_12 : HC := (.seq (.reg (.done [(2, (.cst (.int .i64 0)))] none)) h79_11)
@[simp] theorem h79_12_wp {P : Program} {F : PF P} {Q : EX → List Value → World → Prop} {env : List Value} {w : World} : h79_12.wp F Q env w = HC.wp F (.seq (.reg (.done [(2, (.cst (.int .i64 0)))] none)) h79_11) Q env w := rfl
def l79 : Lifted := ⟨[0, 2, 3, 5, 6, 7], 29, [.slot 1], (.seq (.reg (.done [(1, (.cst (.int .i32 0)))] none)) h79_12)⟩
theorem l79_ok : liftFn F4 79 400 = some l79 := by kernel_rfl


theorem seen_spec (u : Int) (w0 w : World) (A : Asn) (s : St w0 A w) :
    CallW Try.prog 79 [.int .i32 u] (fun r w' => r = .int .i32 (looksF u) ∧ St w0 A w') w := by
  refine callW_of_lift l79_ok (by simp [l79]) ?_
  simp [l79]
  refine eff_rngS s ?_
  intro b w1 s1
  simp
  have hk1 : ∀ (done : List (Int × Nat)) (x : Int × Nat) (r : List (Int × Nat)), likeU = done ++ x :: r → done.length < 24 ∧ looksF x.1 = ((lookL[done.length]?.getD 0).toNat : Int) ∧ runeOf x.1 = x.1 := by
    intro done x r h
    have h24 : done.length < 24 := by
      have := congrArg List.length h
      simp [likeU] at this
      omega
    have hx : likeU.getD done.length (0, 0) = x := by rw [h]; simp
    have := like_look ⟨done.length, h24⟩
    simp only [hx] at this
    exact ⟨h24, this⟩
  refine loopI (fun env w' => ∃ (i : Nat) (done : List (Int × Nat)) (x t : Value), env = [.int .i32 u, .int .i32 0, .int .i64 done.length, x, .pointer (some ⟨b, 0, none⟩), t] ∧
      i ≤ likeL.length ∧ units likeL = done ++ units (likeL.drop i) ∧ (∀ x ∈ done, x.1 ≠ u) ∧ St w0 (A * pt b (.stringIter (mk likeL) i)) w')
    (fun env _ => 44 - slotN env 2) ⟨0, [], _, _, rfl, by omega, by simp, by simp, s1⟩ ?_
  rintro LQ env w' ⟨i, done, x, t, rfl, hi, hu, hne, s'⟩ hN hE hR
  simp
  refine eff_nxtS s' (fun h w2 s2 => ?_) (fun h => ?_)
  · have h : i < likeL.length := by simpa using h
    have hle := oneF_le (l := likeL) (i := i) h
    have hob := oneF_bd (l := likeL.drop i) (by simp; omega)
    rw [decode_decL, decL_oneF _ (by simp; omega)] at s2
    have hstep := units_step hu h
    rw [decode_decL, decL_oneF _ (by simp; omega)]
    have hf := hk1 done (oneF (likeL.drop i)) (units (likeL.drop (i + (oneF (likeL.drop i)).2))) (by rw [← like_units, hstep]; simp)
    simp only [hf.2.2]
    simp
    refine cndI (fun h1 => ?_) (fun h1 => ?_)
    · simp at h1
      simp
      have hlt : (lookL[done.length]?.getD 0).toNat < 256 := UInt8.toNat_lt _
      have hw : IntKind.i32.wrap (((lookL[done.length]?.getD 0).toNat : Nat) : Int) = ((lookL[done.length]?.getD 0).toNat : Int) := wrap32 (by omega) (by omega)
      have e : looksF u = ((lookL[done.length]?.getD 0).toNat : Int) := by rw [← h1]; exact hf.2.1
      refine ⟨by omega, hR _ _ ?_⟩
      simp
      exact ⟨hw.trans e.symm, s2.drop⟩
    · simp at h1
      simp
      try simp (disch := omega) only [wrap64]
      refine hN _ _ ⟨i + (oneF (likeL.drop i)).2, done ++ [oneF (likeL.drop i)], _, _, by simp; exact ⟨rfl, rfl⟩, hle.1, hstep, ?_, s2⟩ (by simp [slotN]; omega)
      intro x hx
      rcases List.mem_append.1 hx with hx | hx
      · exact hne x hx
      · simp at hx; subst hx; exact h1
  · have h : ¬ i < likeL.length := by simpa using h
    simp
    refine hE _ _ _ ?_
    simp
    have : i = likeL.length := by omega
    subst this
    rw [List.drop_length, units_nil, List.append_nil, like_units] at hu
    rw [← hu] at hne
    refine cndI (fun h1 => ?_) (fun h1 => ?_)
    · simp at h1
      simp
      obtain ⟨k, hk⟩ := Int.eq_ofNat_of_zero_le (show 0 ≤ u - 224 by omega)
      have hwk : IntKind.i32.wrap (u - 224) = (k : Int) := by rw [hk]; exact wrap32 (by omega) (by omega)
      have hlt : (tabL[k]?.getD 0).toNat < 256 := UInt8.toNat_lt _
      have hw : IntKind.i32.wrap (((tabL[k]?.getD 0).toNat : Nat) : Int) = ((tabL[k]?.getD 0).toNat : Int) := wrap32 (by omega) (by omega)
      have e := tab_look ⟨k, by omega⟩
      rw [hwk, show u = 224 + (k : Int) by omega]
      exact ⟨⟨by omega, by omega⟩, hw.trans e.symm, s'.drop⟩
    · simp at h1
      simp
      exact ⟨(look_else u hne (by omega)).symm, s'.drop⟩
end Go.HL.Nm

namespace Go.HL.Nm
open Go.HL Go.Proofs
set_option maxRecDepth 4000
set_option linter.unusedSimpArgs false
set_option linter.unusedVariables false
theorem chkF_ok (b : Int) (r : List UInt8) (v : Int) (n : Nat) (least : Int) (hb : 0 ≤ b ∧ b < 256) (hv : 0 ≤ v) : okU (chkF b r v n least).1 := by
  unfold chkF okU
  split
  · rename_i u hu
    have := tailF_bd n r v u hv hu
    split
    · simp only; omega
    · simp only; omega
  · simp only; omega
theorem oneF_okU {l : List UInt8} (h : l ≠ []) : okU (oneF l).1 := by
  cases l with
  | nil => exact absurd rfl h
  | cons c r =>
    have hc := c.toNat_lt
    rw [oneF_cons]
    split
    · unfold okU; simp only; omega
    split
    · exact chkF_ok c.toNat r (c.toNat - 192) 1 128 (by omega) (by omega)
    split
    · exact chkF_ok c.toNat r (c.toNat - 224) 2 2048 (by omega) (by omega)
    split
    · exact chkF_ok c.toNat r (c.toNat - 240) 3 65536 (by omega) (by omega)
    · unfold okU; simp only; omega
theorem okU_foldF {u : Int} (h : okU u) : okU (foldF u) := by unfold okU at h ⊢; unfold foldF; repeat' split
                                                              all_goals omega
theorem okU_looksF {u : Int} (h : okU u) : okU (looksF u) := by
  have : looksF u = u ∨ (45 ≤ looksF u ∧ looksF u ≤ 121) := by unfold looksF; (repeat' split) <;> omega
  unfold okU at h ⊢
  omega
/-- two that look like one -/
def pairF : List Int → List Int
  | 114 :: 110 :: r => 109 :: pairF r
  | 118 :: 118 :: r => 119 :: pairF r
  | u :: r => u :: pairF r
  | [] => []
def lookF (l : List UInt8) : List Int := pairF ((foldedF l).map looksF)
theorem units_ok : ∀ (n : Nat) (l : List UInt8), l.length ≤ n → ∀ u ∈ units l, okU u.1
  | 0, l, h => by
    have : l = [] := List.eq_nil_of_length_eq_zero (by omega)
    subst this
    simp [units_nil]
  | n + 1, l, h => by
    by_cases he : l = []
    · subst he; simp [units_nil]
    · have hb := oneF_bd he
      rw [units_cons he]
      intro u hu
      rcases List.mem_cons.1 hu with rfl | hu
      · exact oneF_okU he
      · exact units_ok n _ (by simp; omega) u hu
theorem folded_ok (l : List UInt8) : ∀ u ∈ foldedF l, okU u := by
  intro u hu
  simp only [foldedF, foldAll, List.mem_flatMap] at hu
  obtain ⟨x, hx, hu⟩ := hu
  have hk := units_ok _ l (Nat.le_refl _) x hx
  unfold foldU at hu
  split at hu
  · have : u = 115 := by simpa using hu
    subst this
    exact .inl (by omega)
  · have : u = foldF x.1 := by simpa using hu
    subst this
    exact okU_foldF hk
theorem folded_len (l : List UInt8) : (foldedF l).length ≤ 2 * l.length := by
  have h1 := foldAll_len (units l)
  have h2 := units_len l
  unfold foldedF
  omega
-- bazaar/bazaarref04.Fold
def h83_0 : HC := (.seq (.reg (.eff (.call 92) (.cons (.inp 0) .nil) (.eff (.call 91) (.cons (.bv 0) .nil) (.done [(1, (.bv 1))] none)))) .ret)
@[simp] theorem h83_0_wp {P : Program} {F : PF P} {Q : EX → List Value → World → Prop} {env : List Value} {w : World} : h83_0.wp F Q env w = HC.wp F (.seq (.reg (.eff (.call 92) (.cons (.inp 0) .nil) (.eff (.call 91) (.cons (.bv 0) .nil) (.done [(1, (.bv 1))] none)))) .ret) Q env w := rfl
def l83 : Lifted := ⟨[0, 2], 6, [.slot 1], (.seq (.reg (.done [(1, (.cst (.string ⟨#[]⟩)))] none)) h83_0)⟩
theorem l83_ok : liftFn F4 83 400 = some l83 := by kernel_rfl

-- bazaar/name.Fold
def h15_0 : HC := (.seq (.reg (.eff (.call 50) (.cons (.inp 0) .nil) (.eff (.call 49) (.cons (.bv 0) .nil) (.done [(1, (.bv 1))] none)))) .ret)
@[simp] theorem h15_0_wp {P : Program} {F : PF P} {Q : EX → List Value → World → Prop} {env : List Value} {w : World} : h15_0.wp F Q env w = HC.wp F (.seq (.reg (.eff (.call 50) (.cons (.inp 0) .nil) (.eff (.call 49) (.cons (.bv 0) .nil) (.done [(1, (.bv 1))] none)))) .ret) Q env w := rfl
def l15 : Lifted := ⟨[0, 2], 6, [.slot 1], (.seq (.reg (.done [(1, (.cst (.string ⟨#[]⟩)))] none)) h15_0)⟩
theorem l15_ok : liftFn F4 15 400 = some l15 := by kernel_rfl

-- bazaar/bazaarref04.Look
def h86_0 : HC := (.seq (.reg (.eff (.call 91) (.cons (.inp 4) .nil) (.done [(1, (.bv 0))] none))) .ret)
@[simp] theorem h86_0_wp {P : Program} {F : PF P} {Q : EX → List Value → World → Prop} {env : List Value} {w : World} : h86_0.wp F Q env w = HC.wp F (.seq (.reg (.eff (.call 91) (.cons (.inp 4) .nil) (.done [(1, (.bv 0))] none))) .ret) Q env w := rfl
def h86_1 : HC := (.reg (.chk none (.bin .add) (.cons (.inp 5) (.cons (.cst (.int .i64 1)) .nil)) (.done [(5, (.op (.bin .add) (.cons (.inp 5) (.cons (.cst (.int .i64 1)) .nil))))] none)))
@[simp] theorem h86_1_wp {P : Program} {F : PF P} {Q : EX → List Value → World → Prop} {env : List Value} {w : World} : h86_1.wp F Q env w = HC.wp F (.reg (.chk none (.bin .add) (.cons (.inp 5) (.cons (.cst (.int .i64 1)) .nil)) (.done [(5, (.op (.bin .add) (.cons (.inp 5) (.cons (.cst (.int .i64 1)) .nil))))] none))) Q env w := rfl
def h86_2 : HC := (.reg (.chk none (.idxL 1) (.cons (.inp 2) (.cons (.inp 5) .nil)) (.eff (.ld false 1) (.cons (.op (.idxL 1) (.cons (.inp 2) (.cons (.inp 5) .nil))) .nil) (.eff (.bsl 3 1 1 #[(.int .i64 0)] [0]) (.cons (.bv 0) .nil) (.eff (.app 35 35 3 1 8 (.int .i64 0)) (.cons (.inp 4) (.cons (.bv 1) .nil)) (.done [(4, (.bv 2))] none))))))
@[simp] theorem h86_2_wp {P : Program} {F : PF P} {Q : EX → List Value → World → Prop} {env : List Value} {w : World} : h86_2.wp F Q env w = HC.wp F (.reg (.chk none (.idxL 1) (.cons (.inp 2) (.cons (.inp 5) .nil)) (.eff (.ld false 1) (.cons (.op (.idxL 1) (.cons (.inp 2) (.cons (.inp 5) .nil))) .nil) (.eff (.bsl 3 1 1 #[(.int .i64 0)] [0]) (.cons (.bv 0) .nil) (.eff (.app 35 35 3 1 8 (.int .i64 0)) (.cons (.inp 4) (.cons (.bv 1) .nil)) (.done [(4, (.bv 2))] none)))))) Q env w := rfl
def h86_3 : HC := (.reg (.chk none (.bin .add) (.cons (.inp 5) (.cons (.cst (.int .i64 1)) .nil)) (.done [(5, (.op (.bin .add) (.cons (.inp 5) (.cons (.cst (.int .i64 1)) .nil))))] none)))
@[simp] theorem h86_3_wp {P : Program} {F : PF P} {Q : EX → List Value → World → Prop} {env : List Value} {w : World} : h86_3.wp F Q env w = HC.wp F (.reg (.chk none (.bin .add) (.cons (.inp 5) (.cons (.cst (.int .i64 1)) .nil)) (.done [(5, (.op (.bin .add) (.cons (.inp 5) (.cons (.cst (.int .i64 1)) .nil))))] none))) Q env w := rfl
def h86_4 : HC := (.seq (.reg (.eff (.bsl 3 1 1 #[(.int .i64 0)] [0]) (.cons (.inp 6) .nil) (.eff (.app 35 35 3 1 8 (.int .i64 0)) (.cons (.inp 4) (.cons (.bv 0) .nil)) (.done [(4, (.bv 1))] none)))) h86_3)
@[simp] theorem h86_4_wp {P : Program} {F : PF P} {Q : EX → List Value → World → Prop} {env : List Value} {w : World} : h86_4.wp F Q env w = HC.wp F (.seq (.reg (.eff (.bsl 3 1 1 #[(.int .i64 0)] [0]) (.cons (.inp 6) .nil) (.eff (.app 35 35 3 1 8 (.int .i64 0)) (.cons (.inp 4) (.cons (.bv 0) .nil)) (.done [(4, (.bv 1))] none)))) h86_3) Q env w := rfl
def h86_5 : HC := (.br (.chk none (.bin .eql) (.cons (.inp 6) (.cons (.cst (.int .i64 0)) .nil)) (.done [] (some (.op (.bin .eql) (.cons (.inp 6) (.cons (.cst (.int .i64 0)) .nil)))))) h86_2 h86_4)
@[simp] theorem h86_5_wp {P : Program} {F : PF P} {Q : EX → List Value → World → Prop} {env : List Value} {w : World} : h86_5.wp F Q env w = HC.wp F (.br (.chk none (.bin .eql) (.cons (.inp 6) (.cons (.cst (.int .i64 0)) .nil)) (.done [] (some (.op (.bin .eql) (.cons (.inp 6) (.cons (.cst (.int .i64 0)) .nil)))))) h86_2 h86_4) Q env w := rfl
def h86_6 : HC := (.reg (.done [(6, (.cst (.int .i64 119)))] none))
@[simp] theorem h86_6_wp {P : Program} {F : PF P} {Q : EX → List Value → World → Prop} {env : List Value} {w : World} : h86_6.wp F Q env w = HC.wp F (.reg (.done [(6, (.cst (.int .i64 119)))] none)) Q env w := rfl
def h86_7 : HC := (.seq (.br (.chk none (.bin .add) (.cons (.inp 5) (.cons (.cst (.int .i64 1)) .nil)) (.chk none .lenL (.cons (.inp 2) .nil) (.chk none (.bin .lss) (.cons (.op (.bin .add) (.cons (.inp 5) (.cons (.cst (.int .i64 1)) .nil))) (.cons (.op .lenL (.cons (.inp 2) .nil)) .nil)) (.bnd (.op (.bin .lss) (.cons (.op (.bin .add) (.cons (.inp 5) (.cons (.cst (.int .i64 1)) .nil))) (.cons (.op .lenL (.cons (.inp 2) .nil)) .nil))) (.chk (some ((.bv 0), true)) (.idxL 1) (.cons (.inp 2) (.cons (.inp 5) .nil)) (.ite (.bv 0) true (.eff (.ld false 1) (.cons (.ite (.bv 0) true (.op (.idxL 1) (.cons (.inp 2) (.cons (.inp 5) .nil))) (.cst (.tuple #[]))) .nil) (.chk none (.bin .eql) (.cons (.bv 1) (.cons (.cst (.int .i64 118)) .nil)) (.isb none (.bv 0) (.bnd (.op (.bin .eql) (.cons (.bv 1) (.cons (.cst (.int .i64 118)) .nil))) (.chk (some ((.bv 2), true)) (.bin .add) (.cons (.inp 5) (.cons (.cst (.int .i64 1)) .nil)) (.chk (some ((.bv 2), true)) (.idxL 1) (.cons (.inp 2) (.cons (.op (.bin .add) (.cons (.inp 5) (.cons (.cst (.int .i64 1)) .nil))) .nil)) (.ite (.bv 2) true (.eff (.ld false 1) (.cons (.ite (.bv 2) true (.op (.idxL 1) (.cons (.inp 2) (.cons (.op (.bin .add) (.cons (.inp 5) (.cons (.cst (.int .i64 1)) .nil))) .nil))) (.cst (.tuple #[]))) .nil) (.chk none (.bin .eql) (.cons (.bv 3) (.cons (.cst (.int .i64 118)) .nil)) (.isb none (.bv 2) (.done [] (some (.op (.bin .eql) (.cons (.bv 3) (.cons (.cst (.int .i64 118)) .nil)))))))) (.isb none (.bv 2) (.done [] (some (.cst (.bool false)))))))))))) (.isb none (.bv 0) (.isb none (.cst (.bool false)) (.done [] (some (.cst (.bool false)))))))))))) h86_6 .skip) h86_5)
@[simp] theorem h86_7_wp {P : Program} {F : PF P} {Q : EX → List Value → World → Prop} {env : List Value} {w : World} : h86_7.wp F Q env w = HC.wp F (.seq (.br (.chk none (.bin .add) (.cons (.inp 5) (.cons (.cst (.int .i64 1)) .nil)) (.chk none .lenL (.cons (.inp 2) .nil) (.chk none (.bin .lss) (.cons (.op (.bin .add) (.cons (.inp 5) (.cons (.cst (.int .i64 1)) .nil))) (.cons (.op .lenL (.cons (.inp 2) .nil)) .nil)) (.bnd (.op (.bin .lss) (.cons (.op (.bin .add) (.cons (.inp 5) (.cons (.cst (.int .i64 1)) .nil))) (.cons (.op .lenL (.cons (.inp 2) .nil)) .nil))) (.chk (some ((.bv 0), true)) (.idxL 1) (.cons (.inp 2) (.cons (.inp 5) .nil)) (.ite (.bv 0) true (.eff (.ld false 1) (.cons (.ite (.bv 0) true (.op (.idxL 1) (.cons (.inp 2) (.cons (.inp 5) .nil))) (.cst (.tuple #[]))) .nil) (.chk none (.bin .eql) (.cons (.bv 1) (.cons (.cst (.int .i64 118)) .nil)) (.isb none (.bv 0) (.bnd (.op (.bin .eql) (.cons (.bv 1) (.cons (.cst (.int .i64 118)) .nil))) (.chk (some ((.bv 2), true)) (.bin .add) (.cons (.inp 5) (.cons (.cst (.int .i64 1)) .nil)) (.chk (some ((.bv 2), true)) (.idxL 1) (.cons (.inp 2) (.cons (.op (.bin .add) (.cons (.inp 5) (.cons (.cst (.int .i64 1)) .nil))) .nil)) (.ite (.bv 2) true (.eff (.ld false 1) (.cons (.ite (.bv 2) true (.op (.idxL 1) (.cons (.inp 2) (.cons (.op (.bin .add) (.cons (.inp 5) (.cons (.cst (.int .i64 1)) .nil))) .nil))) (.cst (.tuple #[]))) .nil) (.chk none (.bin .eql) (.cons (.bv 3) (.cons (.cst (.int .i64 118)) .nil)) (.isb none (.bv 2) (.done [] (some (.op (.bin .eql) (.cons (.bv 3) (.cons (.cst (.int .i64 118)) .nil)))))))) (.isb none (.bv 2) (.done [] (some (.cst (.bool false)))))))))))) (.isb none (.bv 0) (.isb none (.cst (.bool false)) (.done [] (some (.cst (.bool false)))))))))))) h86_6 .skip) h86_5) Q env w := rfl
def h86_8 : HC := (.reg (.done [(6, (.cst (.int .i64 109)))] none))
@[simp] theorem h86_8_wp {P : Program} {F : PF P} {Q : EX → List Value → World → Prop} {env : List Value} {w : World} : h86_8.wp F Q env w = HC.wp F (.reg (.done [(6, (.cst (.int .i64 109)))] none)) Q env w := rfl
def h86_9 : HC := (.seq (.br (.chk none (.bin .add) (.cons (.inp 5) (.cons (.cst (.int .i64 1)) .nil)) (.chk none .lenL (.cons (.inp 2) .nil) (.chk none (.bin .lss) (.cons (.op (.bin .add) (.cons (.inp 5) (.cons (.cst (.int .i64 1)) .nil))) (.cons (.op .lenL (.cons (.inp 2) .nil)) .nil)) (.bnd (.op (.bin .lss) (.cons (.op (.bin .add) (.cons (.inp 5) (.cons (.cst (.int .i64 1)) .nil))) (.cons (.op .lenL (.cons (.inp 2) .nil)) .nil))) (.chk (some ((.bv 0), true)) (.idxL 1) (.cons (.inp 2) (.cons (.inp 5) .nil)) (.ite (.bv 0) true (.eff (.ld false 1) (.cons (.ite (.bv 0) true (.op (.idxL 1) (.cons (.inp 2) (.cons (.inp 5) .nil))) (.cst (.tuple #[]))) .nil) (.chk none (.bin .eql) (.cons (.bv 1) (.cons (.cst (.int .i64 114)) .nil)) (.isb none (.bv 0) (.bnd (.op (.bin .eql) (.cons (.bv 1) (.cons (.cst (.int .i64 114)) .nil))) (.chk (some ((.bv 2), true)) (.bin .add) (.cons (.inp 5) (.cons (.cst (.int .i64 1)) .nil)) (.chk (some ((.bv 2), true)) (.idxL 1) (.cons (.inp 2) (.cons (.op (.bin .add) (.cons (.inp 5) (.cons (.cst (.int .i64 1)) .nil))) .nil)) (.ite (.bv 2) true (.eff (.ld false 1) (.cons (.ite (.bv 2) true (.op (.idxL 1) (.cons (.inp 2) (.cons (.op (.bin .add) (.cons (.inp 5) (.cons (.cst (.int .i64 1)) .nil))) .nil))) (.cst (.tuple #[]))) .nil) (.chk none (.bin .eql) (.cons (.bv 3) (.cons (.cst (.int .i64 110)) .nil)) (.isb none (.bv 2) (.done [] (some (.op (.bin .eql) (.cons (.bv 3) (.cons (.cst (.int .i64 110)) .nil)))))))) (.isb none (.bv 2) (.done [] (some (.cst (.bool false)))))))))))) (.isb none (.bv 0) (.isb none (.cst (.bool false)) (.done [] (some (.cst (.bool false)))))))))))) h86_8 .skip) h86_7)
@[simp] theorem h86_9_wp {P : Program} {F : PF P} {Q : EX → List Value → World → Prop} {env : List Value} {w : World} : h86_9.wp F Q env w = HC.wp F (.seq (.br (.chk none (.bin .add) (.cons (.inp 5) (.cons (.cst (.int .i64 1)) .nil)) (.chk none .lenL (.cons (.inp 2) .nil) (.chk none (.bin .lss) (.cons (.op (.bin .add) (.cons (.inp 5) (.cons (.cst (.int .i64 1)) .nil))) (.cons (.op .lenL (.cons (.inp 2) .nil)) .nil)) (.bnd (.op (.bin .lss) (.cons (.op (.bin .add) (.cons (.inp 5) (.cons (.cst (.int .i64 1)) .nil))) (.cons (.op .lenL (.cons (.inp 2) .nil)) .nil))) (.chk (some ((.bv 0), true)) (.idxL 1) (.cons (.inp 2) (.cons (.inp 5) .nil)) (.ite (.bv 0) true (.eff (.ld false 1) (.cons (.ite (.bv 0) true (.op (.idxL 1) (.cons (.inp 2) (.cons (.inp 5) .nil))) (.cst (.tuple #[]))) .nil) (.chk none (.bin .eql) (.cons (.bv 1) (.cons (.cst (.int .i64 114)) .nil)) (.isb none (.bv 0) (.bnd (.op (.bin .eql) (.cons (.bv 1) (.cons (.cst (.int .i64 114)) .nil))) (.chk (some ((.bv 2), true)) (.bin .add) (.cons (.inp 5) (.cons (.cst (.int .i64 1)) .nil)) (.chk (some ((.bv 2), true)) (.idxL 1) (.cons (.inp 2) (.cons (.op (.bin .add) (.cons (.inp 5) (.cons (.cst (.int .i64 1)) .nil))) .nil)) (.ite (.bv 2) true (.eff (.ld false 1) (.cons (.ite (.bv 2) true (.op (.idxL 1) (.cons (.inp 2) (.cons (.op (.bin .add) (.cons (.inp 5) (.cons (.cst (.int .i64 1)) .nil))) .nil))) (.cst (.tuple #[]))) .nil) (.chk none (.bin .eql) (.cons (.bv 3) (.cons (.cst (.int .i64 110)) .nil)) (.isb none (.bv 2) (.done [] (some (.op (.bin .eql) (.cons (.bv 3) (.cons (.cst (.int .i64 110)) .nil)))))))) (.isb none (.bv 2) (.done [] (some (.cst (.bool false)))))))))))) (.isb none (.bv 0) (.isb none (.cst (.bool false)) (.done [] (some (.cst (.bool false)))))))))))) h86_8 .skip) h86_7) Q env w := rfl
def h86_10 : HC := (.seq (.reg (.done [(6, (.cst (.int .i64 0)))] none)) h86_9)
@[simp] theorem h86_10_wp {P : Program} {F : PF P} {Q : EX → List Value → World → Prop} {env : List Value} {w : World} : h86_10.wp F Q env w = HC.wp F (.seq (.reg (.done [(6, (.cst (.int .i64 0)))] none)) h86_9) Q env w := rfl
def h86_11 : HC := (.seq (.block 3 h86_10) h86_1)
@[simp] theorem h86_11_wp {P : Program} {F : PF P} {Q : EX → List Value → World → Prop} {env : List Value} {w : World} : h86_11.wp F Q env w = HC.wp F (.seq (.block 3 h86_10) h86_1) Q env w := rfl
def h86_12 : HC := (.seq (.br (.chk none .lenL (.cons (.inp 2) .nil) (.chk none (.bin .lss) (.cons (.inp 5) (.cons (.op .lenL (.cons (.inp 2) .nil)) .nil)) (.done [] (some (.op (.bin .lss) (.cons (.inp 5) (.cons (.op .lenL (.cons (.inp 2) .nil)) .nil))))))) .skip (.exit 2)) h86_11)
@[simp] theorem h86_12_wp {P : Program} {F : PF P} {Q : EX → List Value → World → Prop} {env : List Value} {w : World} : h86_12.wp F Q env w = HC.wp F (.seq (.br (.chk none .lenL (.cons (.inp 2) .nil) (.chk none (.bin .lss) (.cons (.inp 5) (.cons (.op .lenL (.cons (.inp 2) .nil)) .nil)) (.done [] (some (.op (.bin .lss) (.cons (.inp 5) (.cons (.op .lenL (.cons (.inp 2) .nil)) .nil))))))) .skip (.exit 2)) h86_11) Q env w := rfl
def h86_13 : HC := (.loop h86_12)
@[simp] theorem h86_13_wp {P : Program} {F : PF P} {Q : EX → List Value → World → Prop} {env : List Value} {w : World} : h86_13.wp F Q env w = HC.wp F (.loop h86_12) Q env w := rfl
def h86_14 : HC := (.seq (.block 2 h86_13) h86_0)
@[simp] theorem h86_14_wp {P : Program} {F : PF P} {Q : EX → List Value → World → Prop} {env : List Value} {w : World} : h86_14.wp F Q env w = HC.wp F (.seq (.block 2 h86_13) h86_0) Q env w := rfl
def h86_15 : HC := (.seq (.reg (.done [(5, (.cst (.int .i64 0)))] none)) h86_14)
@[simp] theorem h86_15_wp {P : Program} {F : PF P} {Q : EX → List Value → World → Prop} {env : List Value} {w : World} : h86_15.wp F Q env w = HC.wp F (.seq (.reg (.done [(5, (.cst (.int .i64 0)))] none)) h86_14) Q env w := rfl
def h86_16 : HC := (.seq (.reg (.done [(4, (.cst (.slice none 0 0)))] none)) h86_15)
@[simp] theorem h86_16_wp {P : Program} {F : PF P} {Q : EX → List Value → World → Prop} {env : List Value} {w : World} : h86_16.wp F Q env w = HC.wp F (.seq (.reg (.done [(4, (.cst (.slice none 0 0)))] none)) h86_15) Q env w := rfl
def h86_17 : HC := (.reg (.chk none (.bin .add) (.cons (.inp 3) (.cons (.cst (.int .i64 1)) .nil)) (.done [(3, (.op (.bin .add) (.cons (.inp 3) (.cons (.cst (.int .i64 1)) .nil))))] none)))
@[simp] theorem h86_17_wp {P : Program} {F : PF P} {Q : EX → List Value → World → Prop} {env : List Value} {w : World} : h86_17.wp F Q env w = HC.wp F (.reg (.chk none (.bin .add) (.cons (.inp 3) (.cons (.cst (.int .i64 1)) .nil)) (.done [(3, (.op (.bin .add) (.cons (.inp 3) (.cons (.cst (.int .i64 1)) .nil))))] none))) Q env w := rfl
def h86_18 : HC := (.reg (.chk none (.idxL 1) (.cons (.inp 2) (.cons (.inp 3) .nil)) (.eff (.ld false 1) (.cons (.op (.idxL 1) (.cons (.inp 2) (.cons (.inp 3) .nil))) .nil) (.chk none (.cal 93) (.cons (.bv 0) .nil) (.chk none (.idxL 1) (.cons (.inp 2) (.cons (.inp 3) .nil)) (.eff (.st 1) (.cons (.op (.idxL 1) (.cons (.inp 2) (.cons (.inp 3) .nil))) (.cons (.op (.cal 93) (.cons (.bv 0) .nil)) .nil)) (.done [] none)))))))
@[simp] theorem h86_18_wp {P : Program} {F : PF P} {Q : EX → List Value → World → Prop} {env : List Value} {w : World} : h86_18.wp F Q env w = HC.wp F (.reg (.chk none (.idxL 1) (.cons (.inp 2) (.cons (.inp 3) .nil)) (.eff (.ld false 1) (.cons (.op (.idxL 1) (.cons (.inp 2) (.cons (.inp 3) .nil))) .nil) (.chk none (.cal 93) (.cons (.bv 0) .nil) (.chk none (.idxL 1) (.cons (.inp 2) (.cons (.inp 3) .nil)) (.eff (.st 1) (.cons (.op (.idxL 1) (.cons (.inp 2) (.cons (.inp 3) .nil))) (.cons (.op (.cal 93) (.cons (.bv 0) .nil)) .nil)) (.done [] none))))))) Q env w := rfl
def h86_19 : HC := (.seq (.block 1 h86_18) h86_17)
@[simp] theorem h86_19_wp {P : Program} {F : PF P} {Q : EX → List Value → World → Prop} {env : List Value} {w : World} : h86_19.wp F Q env w = HC.wp F (.seq (.block 1 h86_18) h86_17) Q env w := rfl
def h86_20 : HC := (.seq (.br (.chk none .lenL (.cons (.inp 2) .nil) (.chk none (.bin .lss) (.cons (.inp 3) (.cons (.op .lenL (.cons (.inp 2) .nil)) .nil)) (.done [] (some (.op (.bin .lss) (.cons (.inp 3) (.cons (.op .lenL (.cons (.inp 2) .nil)) .nil))))))) .skip (.exit 0)) h86_19)
@[simp] theorem h86_20_wp {P : Program} {F : PF P} {Q : EX → List Value → World → Prop} {env : List Value} {w : World} : h86_20.wp F Q env w = HC.wp F (.seq (.br (.chk none .lenL (.cons (.inp 2) .nil) (.chk none (.bin .lss) (.cons (.inp 3) (.cons (.op .lenL (.cons (.inp 2) .nil)) .nil)) (.done [] (some (.op (.bin .lss) (.cons (.inp 3) (.cons (.op .lenL (.cons (.inp 2) .nil)) .nil))))))) .skip (.exit 0)) h86_19) Q env w := rfl
def h86_21 : HC := (.loop h86_20)
@[simp] theorem h86_21_wp {P : Program} {F : PF P} {Q : EX → List Value → World → Prop} {env : List Value} {w : World} : h86_21.wp F Q env w = HC.wp F (.loop h86_20) Q env w := rfl
def h86_22 : HC := (.seq (.block 0 h86_21) h86_16)
@[simp] theorem h86_22_wp {P : Program} {F : PF P} {Q : EX → List Value → World → Prop} {env : List Value} {w : World} : h86_22.wp F Q env w = HC.wp F (.seq (.block 0 h86_21) h86_16) Q env w := rfl
def h86_23 : HC := (.seq (.reg (.done [(3, (.cst (.int .i64 0)))] none)) h86_22)
@[simp] theorem h86_23_wp {P : Program} {F : PF P} {Q : EX → List Value → World → Prop} {env : List Value} {w : World} : h86_23.wp F Q env w = HC.wp F (.seq (.reg (.done [(3, (.cst (.int .i64 0)))] none)) h86_22) Q env w := rfl
def h86_24 : HC := (.seq (.reg (.eff (.call 92) (.cons (.inp 0) .nil) (.done [(2, (.bv 0))] none))) h86_23)
@[simp] theorem h86_24_wp {P : Program} {F : PF P} {Q : EX → List Value → World → Prop} {env : List Value} {w : World} : h86_24.wp F Q env w = HC.wp F (.seq (.reg (.eff (.call 92) (.cons (.inp 0) .nil) (.done [(2, (.bv 0))] none))) h86_23) Q env w := rfl
def l86 : Lifted := ⟨[0, 2, 3, 4, 5, 6, 7], 87, [.slot 1], (.seq (.reg (.done [(1, (.cst (.string ⟨#[]⟩)))] none)) h86_24)⟩
theorem l86_ok : liftFn F4 86 400 = some l86 := by kernel_rfl

-- bazaar/name.Look
def h51_0 : HC := (.seq (.reg (.eff (.call 49) (.cons (.inp 5) .nil) (.done [(1, (.bv 0))] none))) .ret)
@[simp] theorem h51_0_wp {P : Program} {F : PF P} {Q : EX → List Value → World → Prop} {env : List Value} {w : World} : h51_0.wp F Q env w = HC.wp F (.seq (.reg (.eff (.call 49) (.cons (.inp 5) .nil) (.done [(1, (.bv 0))] none))) .ret) Q env w := rfl
def h51_1 : HC := (.reg (.chk none (.bin .add) (.cons (.inp 6) (.cons (.cst (.int .i64 1)) .nil)) (.done [(6, (.op (.bin .add) (.cons (.inp 6) (.cons (.cst (.int .i64 1)) .nil))))] none)))
@[simp] theorem h51_1_wp {P : Program} {F : PF P} {Q : EX → List Value → World → Prop} {env : List Value} {w : World} : h51_1.wp F Q env w = HC.wp F (.reg (.chk none (.bin .add) (.cons (.inp 6) (.cons (.cst (.int .i64 1)) .nil)) (.done [(6, (.op (.bin .add) (.cons (.inp 6) (.cons (.cst (.int .i64 1)) .nil))))] none))) Q env w := rfl
def h51_2 : HC := (.reg (.eff (.bsl 21 1 1 #[(.int .i32 0)] [0]) (.cons (.inp 7) .nil) (.eff (.app 84 84 21 1 4 (.int .i32 0)) (.cons (.inp 5) (.cons (.bv 0) .nil)) (.done [(5, (.bv 1))] none))))
@[simp] theorem h51_2_wp {P : Program} {F : PF P} {Q : EX → List Value → World → Prop} {env : List Value} {w : World} : h51_2.wp F Q env w = HC.wp F (.reg (.eff (.bsl 21 1 1 #[(.int .i32 0)] [0]) (.cons (.inp 7) .nil) (.eff (.app 84 84 21 1 4 (.int .i32 0)) (.cons (.inp 5) (.cons (.bv 0) .nil)) (.done [(5, (.bv 1))] none)))) Q env w := rfl
def h51_3 : HC := (.reg (.chk none (.bin .add) (.cons (.inp 6) (.cons (.cst (.int .i64 1)) .nil)) (.done [(6, (.op (.bin .add) (.cons (.inp 6) (.cons (.cst (.int .i64 1)) .nil))))] none)))
@[simp] theorem h51_3_wp {P : Program} {F : PF P} {Q : EX → List Value → World → Prop} {env : List Value} {w : World} : h51_3.wp F Q env w = HC.wp F (.reg (.chk none (.bin .add) (.cons (.inp 6) (.cons (.cst (.int .i64 1)) .nil)) (.done [(6, (.op (.bin .add) (.cons (.inp 6) (.cons (.cst (.int .i64 1)) .nil))))] none))) Q env w := rfl
def h51_4 : HC := (.seq (.reg (.done [(7, (.cst (.int .i32 109)))] none)) h51_3)
@[simp] theorem h51_4_wp {P : Program} {F : PF P} {Q : EX → List Value → World → Prop} {env : List Value} {w : World} : h51_4.wp F Q env w = HC.wp F (.seq (.reg (.done [(7, (.cst (.int .i32 109)))] none)) h51_3) Q env w := rfl
def h51_5 : HC := (.reg (.chk none (.bin .add) (.cons (.inp 6) (.cons (.cst (.int .i64 1)) .nil)) (.done [(6, (.op (.bin .add) (.cons (.inp 6) (.cons (.cst (.int .i64 1)) .nil))))] none)))
@[simp] theorem h51_5_wp {P : Program} {F : PF P} {Q : EX → List Value → World → Prop} {env : List Value} {w : World} : h51_5.wp F Q env w = HC.wp F (.reg (.chk none (.bin .add) (.cons (.inp 6) (.cons (.cst (.int .i64 1)) .nil)) (.done [(6, (.op (.bin .add) (.cons (.inp 6) (.cons (.cst (.int .i64 1)) .nil))))] none))) Q env w := rfl
def h51_6 : HC := (.seq (.reg (.done [(7, (.cst (.int .i32 119)))] none)) h51_5)
@[simp] theorem h51_6_wp {P : Program} {F : PF P} {Q : EX → List Value → World → Prop} {env : List Value} {w : World} : h51_6.wp F Q env w = HC.wp F (.seq (.reg (.done [(7, (.cst (.int .i32 119)))] none)) h51_5) Q env w := rfl
def h51_7 : HC := (.br (.chk none (.bin .add) (.cons (.inp 6) (.cons (.cst (.int .i64 1)) .nil)) (.chk none .lenL (.cons (.inp 2) .nil) (.chk none (.bin .lss) (.cons (.op (.bin .add) (.cons (.inp 6) (.cons (.cst (.int .i64 1)) .nil))) (.cons (.op .lenL (.cons (.inp 2) .nil)) .nil)) (.bnd (.op (.bin .lss) (.cons (.op (.bin .add) (.cons (.inp 6) (.cons (.cst (.int .i64 1)) .nil))) (.cons (.op .lenL (.cons (.inp 2) .nil)) .nil))) (.chk (some ((.bv 0), true)) (.bin .eql) (.cons (.inp 7) (.cons (.cst (.int .i32 118)) .nil)) (.isb none (.bv 0) (.bnd (.ite (.bv 0) true (.op (.bin .eql) (.cons (.inp 7) (.cons (.cst (.int .i32 118)) .nil))) (.cst (.bool false))) (.chk (some ((.bv 1), true)) (.bin .add) (.cons (.inp 6) (.cons (.cst (.int .i64 1)) .nil)) (.chk (some ((.bv 1), true)) (.idxL 1) (.cons (.inp 2) (.cons (.op (.bin .add) (.cons (.inp 6) (.cons (.cst (.int .i64 1)) .nil))) .nil)) (.ite (.bv 1) true (.eff (.ld false 1) (.cons (.ite (.bv 1) true (.op (.idxL 1) (.cons (.inp 2) (.cons (.op (.bin .add) (.cons (.inp 6) (.cons (.cst (.int .i64 1)) .nil))) .nil))) (.cst (.tuple #[]))) .nil) (.chk none (.bin .eql) (.cons (.bv 2) (.cons (.cst (.int .i32 118)) .nil)) (.isb none (.bv 1) (.done [] (some (.op (.bin .eql) (.cons (.bv 2) (.cons (.cst (.int .i32 118)) .nil)))))))) (.isb none (.bv 1) (.done [] (some (.cst (.bool false))))))))))))))) h51_6 .skip)
@[simp] theorem h51_7_wp {P : Program} {F : PF P} {Q : EX → List Value → World → Prop} {env : List Value} {w : World} : h51_7.wp F Q env w = HC.wp F (.br (.chk none (.bin .add) (.cons (.inp 6) (.cons (.cst (.int .i64 1)) .nil)) (.chk none .lenL (.cons (.inp 2) .nil) (.chk none (.bin .lss) (.cons (.op (.bin .add) (.cons (.inp 6) (.cons (.cst (.int .i64 1)) .nil))) (.cons (.op .lenL (.cons (.inp 2) .nil)) .nil)) (.bnd (.op (.bin .lss) (.cons (.op (.bin .add) (.cons (.inp 6) (.cons (.cst (.int .i64 1)) .nil))) (.cons (.op .lenL (.cons (.inp 2) .nil)) .nil))) (.chk (some ((.bv 0), true)) (.bin .eql) (.cons (.inp 7) (.cons (.cst (.int .i32 118)) .nil)) (.isb none (.bv 0) (.bnd (.ite (.bv 0) true (.op (.bin .eql) (.cons (.inp 7) (.cons (.cst (.int .i32 118)) .nil))) (.cst (.bool false))) (.chk (some ((.bv 1), true)) (.bin .add) (.cons (.inp 6) (.cons (.cst (.int .i64 1)) .nil)) (.chk (some ((.bv 1), true)) (.idxL 1) (.cons (.inp 2) (.cons (.op (.bin .add) (.cons (.inp 6) (.cons (.cst (.int .i64 1)) .nil))) .nil)) (.ite (.bv 1) true (.eff (.ld false 1) (.cons (.ite (.bv 1) true (.op (.idxL 1) (.cons (.inp 2) (.cons (.op (.bin .add) (.cons (.inp 6) (.cons (.cst (.int .i64 1)) .nil))) .nil))) (.cst (.tuple #[]))) .nil) (.chk none (.bin .eql) (.cons (.bv 2) (.cons (.cst (.int .i32 118)) .nil)) (.isb none (.bv 1) (.done [] (some (.op (.bin .eql) (.cons (.bv 2) (.cons (.cst (.int .i32 118)) .nil)))))))) (.isb none (.bv 1) (.done [] (some (.cst (.bool false))))))))))))))) h51_6 .skip) Q env w := rfl
def h51_8 : HC := (.br (.chk none (.bin .add) (.cons (.inp 6) (.cons (.cst (.int .i64 1)) .nil)) (.chk none .lenL (.cons (.inp 2) .nil) (.chk none (.bin .lss) (.cons (.op (.bin .add) (.cons (.inp 6) (.cons (.cst (.int .i64 1)) .nil))) (.cons (.op .lenL (.cons (.inp 2) .nil)) .nil)) (.bnd (.op (.bin .lss) (.cons (.op (.bin .add) (.cons (.inp 6) (.cons (.cst (.int .i64 1)) .nil))) (.cons (.op .lenL (.cons (.inp 2) .nil)) .nil))) (.chk (some ((.bv 0), true)) (.bin .eql) (.cons (.inp 7) (.cons (.cst (.int .i32 114)) .nil)) (.isb none (.bv 0) (.bnd (.ite (.bv 0) true (.op (.bin .eql) (.cons (.inp 7) (.cons (.cst (.int .i32 114)) .nil))) (.cst (.bool false))) (.chk (some ((.bv 1), true)) (.bin .add) (.cons (.inp 6) (.cons (.cst (.int .i64 1)) .nil)) (.chk (some ((.bv 1), true)) (.idxL 1) (.cons (.inp 2) (.cons (.op (.bin .add) (.cons (.inp 6) (.cons (.cst (.int .i64 1)) .nil))) .nil)) (.ite (.bv 1) true (.eff (.ld false 1) (.cons (.ite (.bv 1) true (.op (.idxL 1) (.cons (.inp 2) (.cons (.op (.bin .add) (.cons (.inp 6) (.cons (.cst (.int .i64 1)) .nil))) .nil))) (.cst (.tuple #[]))) .nil) (.chk none (.bin .eql) (.cons (.bv 2) (.cons (.cst (.int .i32 110)) .nil)) (.isb none (.bv 1) (.done [] (some (.op (.bin .eql) (.cons (.bv 2) (.cons (.cst (.int .i32 110)) .nil)))))))) (.isb none (.bv 1) (.done [] (some (.cst (.bool false))))))))))))))) h51_4 h51_7)
@[simp] theorem h51_8_wp {P : Program} {F : PF P} {Q : EX → List Value → World → Prop} {env : List Value} {w : World} : h51_8.wp F Q env w = HC.wp F (.br (.chk none (.bin .add) (.cons (.inp 6) (.cons (.cst (.int .i64 1)) .nil)) (.chk none .lenL (.cons (.inp 2) .nil) (.chk none (.bin .lss) (.cons (.op (.bin .add) (.cons (.inp 6) (.cons (.cst (.int .i64 1)) .nil))) (.cons (.op .lenL (.cons (.inp 2) .nil)) .nil)) (.bnd (.op (.bin .lss) (.cons (.op (.bin .add) (.cons (.inp 6) (.cons (.cst (.int .i64 1)) .nil))) (.cons (.op .lenL (.cons (.inp 2) .nil)) .nil))) (.chk (some ((.bv 0), true)) (.bin .eql) (.cons (.inp 7) (.cons (.cst (.int .i32 114)) .nil)) (.isb none (.bv 0) (.bnd (.ite (.bv 0) true (.op (.bin .eql) (.cons (.inp 7) (.cons (.cst (.int .i32 114)) .nil))) (.cst (.bool false))) (.chk (some ((.bv 1), true)) (.bin .add) (.cons (.inp 6) (.cons (.cst (.int .i64 1)) .nil)) (.chk (some ((.bv 1), true)) (.idxL 1) (.cons (.inp 2) (.cons (.op (.bin .add) (.cons (.inp 6) (.cons (.cst (.int .i64 1)) .nil))) .nil)) (.ite (.bv 1) true (.eff (.ld false 1) (.cons (.ite (.bv 1) true (.op (.idxL 1) (.cons (.inp 2) (.cons (.op (.bin .add) (.cons (.inp 6) (.cons (.cst (.int .i64 1)) .nil))) .nil))) (.cst (.tuple #[]))) .nil) (.chk none (.bin .eql) (.cons (.bv 2) (.cons (.cst (.int .i32 110)) .nil)) (.isb none (.bv 1) (.done [] (some (.op (.bin .eql) (.cons (.bv 2) (.cons (.cst (.int .i32 110)) .nil)))))))) (.isb none (.bv 1) (.done [] (some (.cst (.bool false))))))))))))))) h51_4 h51_7) Q env w := rfl
def h51_9 : HC := (.seq (.block 4 h51_8) h51_2)
@[simp] theorem h51_9_wp {P : Program} {F : PF P} {Q : EX → List Value → World → Prop} {env : List Value} {w : World} : h51_9.wp F Q env w = HC.wp F (.seq (.block 4 h51_8) h51_2) Q env w := rfl
def h51_10 : HC := (.seq (.reg (.chk none (.idxL 1) (.cons (.inp 2) (.cons (.inp 6) .nil)) (.eff (.ld false 1) (.cons (.op (.idxL 1) (.cons (.inp 2) (.cons (.inp 6) .nil))) .nil) (.done [(7, (.bv 0))] none)))) h51_9)
@[simp] theorem h51_10_wp {P : Program} {F : PF P} {Q : EX → List Value → World → Prop} {env : List Value} {w : World} : h51_10.wp F Q env w = HC.wp F (.seq (.reg (.chk none (.idxL 1) (.cons (.inp 2) (.cons (.inp 6) .nil)) (.eff (.ld false 1) (.cons (.op (.idxL 1) (.cons (.inp 2) (.cons (.inp 6) .nil))) .nil) (.done [(7, (.bv 0))] none)))) h51_9) Q env w := rfl
def h51_11 : HC := (.seq (.block 3 h51_10) h51_1)
@[simp] theorem h51_11_wp {P : Program} {F : PF P} {Q : EX → List Value → World → Prop} {env : List Value} {w : World} : h51_11.wp F Q env w = HC.wp F (.seq (.block 3 h51_10) h51_1) Q env w := rfl
def h51_12 : HC := (.seq (.br (.chk none .lenL (.cons (.inp 2) .nil) (.chk none (.bin .lss) (.cons (.inp 6) (.cons (.op .lenL (.cons (.inp 2) .nil)) .nil)) (.done [] (some (.op (.bin .lss) (.cons (.inp 6) (.cons (.op .lenL (.cons (.inp 2) .nil)) .nil))))))) .skip (.exit 2)) h51_11)
@[simp] theorem h51_12_wp {P : Program} {F : PF P} {Q : EX → List Value → World → Prop} {env : List Value} {w : World} : h51_12.wp F Q env w = HC.wp F (.seq (.br (.chk none .lenL (.cons (.inp 2) .nil) (.chk none (.bin .lss) (.cons (.inp 6) (.cons (.op .lenL (.cons (.inp 2) .nil)) .nil)) (.done [] (some (.op (.bin .lss) (.cons (.inp 6) (.cons (.op .lenL (.cons (.inp 2) .nil)) .nil))))))) .skip (.exit 2)) h51_11) Q env w := rfl
def h51_13 : HC := (.loop h51_12)
@[simp] theorem h51_13_wp {P : Program} {F : PF P} {Q : EX → List Value → World → Prop} {env : List Value} {w : World} : h51_13.wp F Q env w = HC.wp F (.loop h51_12) Q env w := rfl
def h51_14 : HC := (.seq (.block 2 h51_13) h51_0)
@[simp] theorem h51_14_wp {P : Program} {F : PF P} {Q : EX → List Value → World → Prop} {env : List Value} {w : World} : h51_14.wp F Q env w = HC.wp F (.seq (.block 2 h51_13) h51_0) Q env w := rfl
def h51_15 : HC := (.seq (.reg (.done [(6, (.cst (.int .i64 0)))] none)) h51_14)
@[simp] theorem h51_15_wp {P : Program} {F : PF P} {Q : EX → List Value → World → Prop} {env : List Value} {w : World} : h51_15.wp F Q env w = HC.wp F (.seq (.reg (.done [(6, (.cst (.int .i64 0)))] none)) h51_14) Q env w := rfl
def h51_16 : HC := (.seq (.reg (.chk none (.slL 1 false true false) (.cons (.inp 2) (.cons (.cst (.int .i64 0)) .nil)) (.done [(5, (.op (.slL 1 false true false) (.cons (.inp 2) (.cons (.cst (.int .i64 0)) .nil))))] none))) h51_15)
@[simp] theorem h51_16_wp {P : Program} {F : PF P} {Q : EX → List Value → World → Prop} {env : List Value} {w : World} : h51_16.wp F Q env w = HC.wp F (.seq (.reg (.chk none (.slL 1 false true false) (.cons (.inp 2) (.cons (.cst (.int .i64 0)) .nil)) (.done [(5, (.op (.slL 1 false true false) (.cons (.inp 2) (.cons (.cst (.int .i64 0)) .nil))))] none))) h51_15) Q env w := rfl
def h51_17 : HC := (.reg (.chk none (.bin .add) (.cons (.inp 10) (.cons (.cst (.int .i64 1)) .nil)) (.done [(10, (.op (.bin .add) (.cons (.inp 10) (.cons (.cst (.int .i64 1)) .nil))))] none)))
@[simp] theorem h51_17_wp {P : Program} {F : PF P} {Q : EX → List Value → World → Prop} {env : List Value} {w : World} : h51_17.wp F Q env w = HC.wp F (.reg (.chk none (.bin .add) (.cons (.inp 10) (.cons (.cst (.int .i64 1)) .nil)) (.done [(10, (.op (.bin .add) (.cons (.inp 10) (.cons (.cst (.int .i64 1)) .nil))))] none))) Q env w := rfl
def h51_18 : HC := (.reg (.eff (.call 79) (.cons (.inp 4) .nil) (.chk none (.idxL 1) (.cons (.inp 2) (.cons (.inp 3) .nil)) (.eff (.st 1) (.cons (.op (.idxL 1) (.cons (.inp 2) (.cons (.inp 3) .nil))) (.cons (.bv 0) .nil)) (.done [] none)))))
@[simp] theorem h51_18_wp {P : Program} {F : PF P} {Q : EX → List Value → World → Prop} {env : List Value} {w : World} : h51_18.wp F Q env w = HC.wp F (.reg (.eff (.call 79) (.cons (.inp 4) .nil) (.chk none (.idxL 1) (.cons (.inp 2) (.cons (.inp 3) .nil)) (.eff (.st 1) (.cons (.op (.idxL 1) (.cons (.inp 2) (.cons (.inp 3) .nil))) (.cons (.bv 0) .nil)) (.done [] none))))) Q env w := rfl
def h51_19 : HC := (.seq (.reg (.chk none (.idxL 1) (.cons (.inp 8) (.cons (.inp 10) .nil)) (.eff (.ld false 1) (.cons (.op (.idxL 1) (.cons (.inp 8) (.cons (.inp 10) .nil))) .nil) (.done [(3, (.inp 10)), (4, (.bv 0))] none)))) h51_18)
@[simp] theorem h51_19_wp {P : Program} {F : PF P} {Q : EX → List Value → World → Prop} {env : List Value} {w : World} : h51_19.wp F Q env w = HC.wp F (.seq (.reg (.chk none (.idxL 1) (.cons (.inp 8) (.cons (.inp 10) .nil)) (.eff (.ld false 1) (.cons (.op (.idxL 1) (.cons (.inp 8) (.cons (.inp 10) .nil))) .nil) (.done [(3, (.inp 10)), (4, (.bv 0))] none)))) h51_18) Q env w := rfl
def h51_20 : HC := (.seq (.block 1 h51_19) h51_17)
@[simp] theorem h51_20_wp {P : Program} {F : PF P} {Q : EX → List Value → World → Prop} {env : List Value} {w : World} : h51_20.wp F Q env w = HC.wp F (.seq (.block 1 h51_19) h51_17) Q env w := rfl
def h51_21 : HC := (.seq (.br (.chk none (.bin .lss) (.cons (.inp 10) (.cons (.inp 9) .nil)) (.done [] (some (.op (.bin .lss) (.cons (.inp 10) (.cons (.inp 9) .nil)))))) .skip (.exit 0)) h51_20)
@[simp] theorem h51_21_wp {P : Program} {F : PF P} {Q : EX → List Value → World → Prop} {env : List Value} {w : World} : h51_21.wp F Q env w = HC.wp F (.seq (.br (.chk none (.bin .lss) (.cons (.inp 10) (.cons (.inp 9) .nil)) (.done [] (some (.op (.bin .lss) (.cons (.inp 10) (.cons (.inp 9) .nil)))))) .skip (.exit 0)) h51_20) Q env w := rfl
def h51_22 : HC := (.loop h51_21)
@[simp] theorem h51_22_wp {P : Program} {F : PF P} {Q : EX → List Value → World → Prop} {env : List Value} {w : World} : h51_22.wp F Q env w = HC.wp F (.loop h51_21) Q env w := rfl
def h51_23 : HC := (.seq (.block 0 h51_22) h51_16)
@[simp] theorem h51_23_wp {P : Program} {F : PF P} {Q : EX → List Value → World → Prop} {env : List Value} {w : World} : h51_23.wp F Q env w = HC.wp F (.seq (.block 0 h51_22) h51_16) Q env w := rfl
def h51_24 : HC := (.seq (.reg (.chk none .lenL (.cons (.inp 2) .nil) (.done [(8, (.inp 2)), (9, (.op .lenL (.cons (.inp 2) .nil))), (10, (.cst (.int .i64 0)))] none))) h51_23)
@[simp] theorem h51_24_wp {P : Program} {F : PF P} {Q : EX → List Value → World → Prop} {env : List Value} {w : World} : h51_24.wp F Q env w = HC.wp F (.seq (.reg (.chk none .lenL (.cons (.inp 2) .nil) (.done [(8, (.inp 2)), (9, (.op .lenL (.cons (.inp 2) .nil))), (10, (.cst (.int .i64 0)))] none))) h51_23) Q env w := rfl
def h51_25 : HC := (.seq (.reg (.eff (.call 50) (.cons (.inp 0) .nil) (.done [(2, (.bv 0))] none))) h51_24)
@[simp] theorem h51_25_wp {P : Program} {F : PF P} {Q : EX → List Value → World → Prop} {env : List Value} {w : World} : h51_25.wp F Q env w = HC.wp F (.seq (.reg (.eff (.call 50) (.cons (.inp 0) .nil) (.done [(2, (.bv 0))] none))) h51_24) Q env w := rfl
def l51 : Lifted := ⟨[0, 2, 3, 4, 5, 6, 7, 8, 11, 12, 13], 82, [.slot 1], (.seq (.reg (.done [(1, (.cst (.string ⟨#[]⟩)))] none)) h51_25)⟩
theorem l51_ok : liftFn F4 51 400 = some l51 := by kernel_rfl


theorem rFold_spec (l : List UInt8) (w0 w : World) (A : Asn) (hl : l.length ≤ 1048576) (s : St w0 A w) :
    CallW Try.prog 83 [.string (mk l)] (fun r w' => r = .string (mk (encAll (foldedF l))) ∧ St w0 A w') w := by
  have hfl := folded_len l
  refine callW_of_lift l83_ok (by simp [l83]) ?_
  simp [l83]
  refine eff_call ((rfolded_spec l w0 w A hl s).mono ?_)
  intro v w1 s1
  simp
  refine eff_call ((rtext_spec _ v w0 w1 A (by omega) (folded_ok l) s1).mono ?_)
  rintro r w2 ⟨rfl, s2⟩
  simp
  exact s2.drop
theorem Fold_spec (l : List UInt8) (w0 w : World) (A : Asn) (hl : l.length ≤ 1048576) (s : St w0 A w) :
    CallW Try.prog 15 [.string (mk l)] (fun r w' => r = .string (mk (encAll (foldedF l))) ∧ St w0 A w') w := by
  have hfl := folded_len l
  refine callW_of_lift l15_ok (by simp [l15]) ?_
  simp [l15]
  refine eff_call ((folded_spec l w0 w A hl s).mono ?_)
  intro v w1 s1
  simp
  refine eff_call ((text_spec _ v w0 w1 A (by omega) (folded_ok l) s1).mono ?_)
  rintro r w2 ⟨rfl, s2⟩
  simp
  exact s2.drop
end Go.HL.Nm

namespace Go.HL.Nm
open Go.HL Go.Proofs
set_option maxRecDepth 4000
set_option linter.unusedSimpArgs false
set_option linter.unusedVariables false
/-- the first i turned -/
def half (f : Int → Int) : Nat → List Int → List Int
  | _, [] => []
  | 0, a :: l => a :: l
  | i + 1, a :: l => f a :: half f i l
theorem half_zero (f : Int → Int) (l : List Int) : half f 0 l = l := by cases l <;> rfl
theorem half_all (f : Int → Int) : ∀ l : List Int, half f l.length l = l.map f
  | [] => rfl
  | a :: l => by simp [half, half_all f l]
theorem half_set (f : Int → Int) : ∀ (i : Nat) (l : List Int) (h : i < l.length), (half f i l).set i (f l[i]) = half f (i + 1) l
  | i, [], h => by simp at h
  | 0, a :: l, _ => by simp [half, half_zero]
  | i + 1, a :: l, h => by
    have := half_set f i l (by simpa using h)
    simp [half, this]
theorem half_at (f : Int → Int) : ∀ (i : Nat) (l : List Int) (h : i < l.length), (half f i l)[i]? = some l[i]
  | i, [], h => by simp at h
  | 0, a :: l, _ => by simp [half]
  | i + 1, a :: l, h => by
    have := half_at f i l (by simpa using h)
    simp [half, this]
theorem ints_set (l : List Int) (i : Nat) (x : Int) : (ints l).set i (.int .i64 x) = ints (l.set i x) := by simp [ints, List.map_set]
theorem ints32_set (l : List Int) (i : Nat) (x : Int) : (ints32 l).set i (.int .i32 x) = ints32 (l.set i x) := by simp [ints32, List.map_set]
theorem ints_at {l : List Int} {i : Nat} {x : Int} (h : l[i]? = some x) : (ints l)[i]? = some (.int .i64 x) := by simp [ints, h]
theorem ints32_at {l : List Int} {i : Nat} {x : Int} (h : l[i]? = some x) : (ints32 l)[i]? = some (.int .i32 x) := by simp [ints32, h]
theorem pairF_two (a b : Int) (r : List Int) : pairF (a :: b :: r) = if a = 114 ∧ b = 110 then 109 :: pairF r else if a = 118 ∧ b = 118 then 119 :: pairF r else a :: pairF (b :: r) := by
  by_cases h1 : a = 114 ∧ b = 110
  · obtain ⟨rfl, rfl⟩ := h1; simp [pairF]
  · by_cases h2 : a = 118 ∧ b = 118
    · obtain ⟨rfl, rfl⟩ := h2; simp [pairF]
    · rw [if_neg h1, if_neg h2, pairF]
      · intro r' e1 e2; cases e2; exact h1 ⟨e1, rfl⟩
      · intro r' e1 e2; cases e2; exact h2 ⟨e1, rfl⟩
theorem pairF_one (a : Int) : pairF [a] = [a] := by
  rw [pairF]
  · rfl
  · intro r' e1 e2; cases e2
  · intro r' e1 e2; cases e2
theorem splice1 (l : List Value) (k : Nat) (x : Value) (h : k < l.length) : l.take (k * 1) ++ [x] ++ l.drop (k * 1 + [x].length) = l.set k x := by
  rw [Nat.mul_one, List.set_eq_take_append_cons_drop, if_pos h]; simp
theorem take_set1 (l : List Value) (d : List Int) (k : Nat) (x : Int) (h : l.take d.length = ints32 d) (hk : d.length < l.length) : (l.set d.length (.int .i32 x)).take (d ++ [x]).length = ints32 (d ++ [x]) := by
  rw [List.length_append, List.length_singleton, List.take_succ_eq_append_getElem (by simpa using hk), List.take_set_of_le (Nat.le_refl _), h]
  simp [ints32]
theorem rLook_spec (l : List UInt8) (w0 w : World) (A : Asn) (hl : l.length ≤ 1048576) (s : St w0 A w) :
    CallW Try.prog 86 [.string (mk l)] (fun r w' => r = .string (mk (encAll (lookF l))) ∧ St w0 A w') w := by
  have hfl := folded_len l
  have hfo := folded_ok l
  unfold lookF
  refine callW_of_lift l86_ok (by simp [l86]) ?_
  simp [l86]
  refine eff_call ((rfolded_spec l w0 w A hl s).mono ?_)
  intro v w1 s1
  generalize foldedF l = us at *
  obtain ⟨a1, c1, rfl, hc1, hn1⟩ := s1.own_val
  simp
  refine loopI (fun env w' => ∃ (i : Nat), env = [.string (mk l), .string (mk []), .slice a1 us.length c1, .int .i64 i, undef, undef, undef] ∧ i ≤ us.length ∧
      St w0 (A * own 3 1 (.slice a1 us.length c1) us.length (ints (half looksF i us))) w')
    (fun env _ => us.length - slotN env 3) ⟨0, rfl, by omega, by rw [half_zero]; exact s1⟩ ?_
  rintro LQ env w' ⟨i, rfl, hi, s'⟩ hN hE hR
  simp
  refine cndI (fun h => ?_) (fun h => ?_)
  · simp at h
    obtain ⟨g1, c1', e1, _, hcell⟩ := s'.own_at (by omega)
    cases e1
    simp
    refine ⟨h, eff_ldc (hcell i _ (ints_at (half_at looksF i us h))) ?_⟩
    simp
    refine ⟨h, ?_⟩
    refine eff_stO s' h rfl ?_
    intro w2 s2
    rw [ints_set, half_set looksF i us h] at s2
    simp
    try simp (disch := omega) only [wrap64]
    exact hN _ _ ⟨i + 1, by simp, h, s2⟩ (by simp [slotN]; omega)
  simp at h
  simp
  refine hE _ _ _ ?_
  simp
  have : i = us.length := by omega
  subst this
  rw [half_all] at s'
  clear hN hE hR s1 hn1 s
  have hok : ∀ u ∈ us.map looksF, okU u := by
    intro u hu
    obtain ⟨x, hx, rfl⟩ := List.mem_map.1 hu
    exact okU_looksF (hfo x hx)
  have hml : (us.map looksF).length = us.length := by simp
  generalize us.map looksF = ls at *
  refine loopI (fun env w' => ∃ (i : Nat) (done : List Int) (v x : Value), env = [.string (mk l), .string (mk []), .slice a1 us.length c1, .int .i64 us.length, v, .int .i64 i, x] ∧ i ≤ us.length ∧ done.length ≤ i ∧ (∀ u ∈ done, okU u) ∧
      pairF ls = done ++ pairF (ls.drop i) ∧
      St w0 (A * own 3 1 (.slice a1 us.length c1) us.length (ints ls) * own 3 1 v done.length (ints done)) w')
    (fun env _ => us.length - slotN env 5) ⟨0, [], _, _, rfl, by omega, by simp, by simp, by simp, by simpa [ints] using s'.own_nil 3 1⟩ ?_
  rintro LQ env w2 ⟨i, done, v, x, rfl, hi, hdl, hdo, hp, s2⟩ hN hE hR
  simp
  refine cndI (fun h => ?_) (fun h => ?_)
  · simp at h
    obtain ⟨g1, c1', e1, _, hcell⟩ := s2.swap.own_at (by omega)
    cases e1
    have hw : IntKind.i64.wrap ((i : Int) + 1) = (i : Int) + 1 := wrap64 (by omega) (by omega)
    have hla : ls[i]? = some ls[i] := by simp [hml, h]
    have hca := hcell i _ (ints_at hla)
    have hda : ls.drop i = ls[i] :: ls.drop (i + 1) := List.drop_eq_getElem_cons (by omega)
    have hoa := hok ls[i] (List.getElem_mem (by omega))
    generalize ls[i] = a at *
    by_cases h2 : i + 1 < us.length
    · have h2' : (i : Int) + 1 < us.length := by omega
      have htn : ((i : Int) + 1).toNat = i + 1 := by omega
      have hge : (0 : Int) ≤ (i : Int) + 1 := by omega
      have hlb : ls[i + 1]? = some ls[i + 1] := by simp [hml, h2]
      have hcb := hcell (i + 1) _ (ints_at hlb)
      have hdb : ls.drop (i + 1) = ls[i + 1] :: ls.drop (i + 2) := List.drop_eq_getElem_cons (by omega)
      generalize ls[i + 1] = b at *
      by_cases hA : a = 114
      · subst hA
        by_cases hB : b = 110
        · subst hB
          simp [hw, h2', h]
          refine eff_ldc hca ?_
          simp [hw, h2', h, htn, hge]
          refine eff_ldc hcb ?_
          simp [hw, h2', h]
          refine eff_ldc hca ?_
          simp
          refine eff_bsl1 s2 rfl ?_
          intro b3 w3 s3
          simp
          refine eff_app (n := done.length) (m := 1) (news := [.int .i64 109]) s3.swap rfl s3.cells_look (by simp [Value.oneCell']) (by decide) rfl (by unfold maxLen; omega) (by omega) ?_
          intro v' w4 s4
          simp
          try simp (disch := omega) only [wrap64]
          try simp
          refine hN _ _ ⟨i + 2, done ++ [109], v', _, by simp; constructor <;> first | rfl | omega, by omega, by simp; omega, ?_, ?_, by simpa [ints] using s4.swap.drop⟩ (by simp [slotN]; omega)
          · intro u hu
            rcases List.mem_append.1 hu with hu | hu
            · exact hdo u hu
            · have : u = 109 := by simpa using hu
              rw [this]; exact .inl (by omega)
          · rw [hp, hda]; rw [hdb, pairF_two]; simp
        · simp [hw, h2', h]
          refine eff_ldc hca ?_
          simp [hw, h2', h, htn, hge]
          refine eff_ldc hcb ?_
          simp [hw, h2', h, hB]
          refine eff_ldc hca ?_
          simp [h]
          refine eff_ldc hca ?_
          simp
          refine eff_bsl1 s2 rfl ?_
          intro b3 w3 s3
          simp
          refine eff_app (n := done.length) (m := 1) (news := [.int .i64 114]) s3.swap rfl s3.cells_look (by simp [Value.oneCell']) (by decide) rfl (by unfold maxLen; omega) (by omega) ?_
          intro v' w4 s4
          simp
          try simp (disch := omega) only [wrap64]
          try simp
          refine hN _ _ ⟨i + 1, done ++ [114], v', _, by simp; constructor <;> first | rfl | omega, by omega, by simp; omega, ?_, ?_, by simpa [ints] using s4.swap.drop⟩ (by simp [slotN]; omega)
          · intro u hu
            rcases List.mem_append.1 hu with hu | hu
            · exact hdo u hu
            · have : u = 114 := by simpa using hu
              rw [this]; exact .inl (by omega)
          · rw [hp, hda]; rw [hdb, pairF_two]; simp [hB]
      · by_cases hA2 : a = 118
        · subst hA2
          by_cases hB : b = 118
          · subst hB
            simp [hw, h2', h]
            refine eff_ldc hca ?_
            simp [hw, h2', h]
            refine eff_ldc hca ?_
            simp [hw, h2', h, htn, hge]
            refine eff_ldc hcb ?_
            simp
            refine eff_bsl1 s2 rfl ?_
            intro b3 w3 s3
            simp
            refine eff_app (n := done.length) (m := 1) (news := [.int .i64 119]) s3.swap rfl s3.cells_look (by simp [Value.oneCell']) (by decide) rfl (by unfold maxLen; omega) (by omega) ?_
            intro v' w4 s4
            simp
            try simp (disch := omega) only [wrap64]
            try simp
            refine hN _ _ ⟨i + 2, done ++ [119], v', _, by simp; constructor <;> first | rfl | omega, by omega, by simp; omega, ?_, ?_, by simpa [ints] using s4.swap.drop⟩ (by simp [slotN]; omega)
            · intro u hu
              rcases List.mem_append.1 hu with hu | hu
              · exact hdo u hu
              · have : u = 119 := by simpa using hu
                rw [this]; exact .inl (by omega)
            · rw [hp, hda]; rw [hdb, pairF_two]; simp
          · simp [hw, h2', h]
            refine eff_ldc hca ?_
            simp [hw, h2', h]
            refine eff_ldc hca ?_
            simp [hw, h2', h, htn, hge]
            refine eff_ldc hcb ?_
            simp [h, hB]
            refine eff_ldc hca ?_
            simp
            refine eff_bsl1 s2 rfl ?_
            intro b3 w3 s3
            simp
            refine eff_app (n := done.length) (m := 1) (news := [.int .i64 118]) s3.swap rfl s3.cells_look (by simp [Value.oneCell']) (by decide) rfl (by unfold maxLen; omega) (by omega) ?_
            intro v' w4 s4
            simp
            try simp (disch := omega) only [wrap64]
            try simp
            refine hN _ _ ⟨i + 1, done ++ [118], v', _, by simp; constructor <;> first | rfl | omega, by omega, by simp; omega, ?_, ?_, by simpa [ints] using s4.swap.drop⟩ (by simp [slotN]; omega)
            · intro u hu
              rcases List.mem_append.1 hu with hu | hu
              · exact hdo u hu
              · have : u = 118 := by simpa using hu
                rw [this]; exact .inl (by omega)
            · rw [hp, hda]; rw [hdb, pairF_two]; simp [hB]
        · simp [hw, h2', h]
          refine eff_ldc hca ?_
          simp [hw, h2', h, hA]
          refine eff_ldc hca ?_
          simp [h, hA2]
          refine eff_ldc hca ?_
          simp
          refine eff_bsl1 s2 rfl ?_
          intro b3 w3 s3
          simp
          refine eff_app (n := done.length) (m := 1) (news := [.int .i64 a]) s3.swap rfl s3.cells_look (by simp [Value.oneCell']) (by decide) rfl (by unfold maxLen; omega) (by omega) ?_
          intro v' w4 s4
          simp
          try simp (disch := omega) only [wrap64]
          try simp
          refine hN _ _ ⟨i + 1, done ++ [a], v', _, by simp; constructor <;> first | rfl | omega, by omega, by simp; omega, ?_, ?_, by simpa [ints] using s4.swap.drop⟩ (by simp [slotN]; omega)
          · intro u hu
            rcases List.mem_append.1 hu with hu | hu
            · exact hdo u hu
            · have : u = a := by simpa using hu
              rw [this]; exact hoa
          · rw [hp, hda]; rw [hdb, pairF_two]; simp [hA, hA2]
    · have h2' : ¬ ((i : Int) + 1 < us.length) := by omega
      have hdn : ls.drop (i + 1) = [] := List.drop_eq_nil_of_le (by omega)
      simp [hw, h2', h]
      refine eff_ldc hca ?_
      simp
      refine eff_bsl1 s2 rfl ?_
      intro b3 w3 s3
      simp
      refine eff_app (n := done.length) (m := 1) (news := [.int .i64 a]) s3.swap rfl s3.cells_look (by simp [Value.oneCell']) (by decide) rfl (by unfold maxLen; omega) (by omega) ?_
      intro v' w4 s4
      simp
      try simp (disch := omega) only [wrap64]
      try simp
      refine hN _ _ ⟨i + 1, done ++ [a], v', _, by simp; constructor <;> first | rfl | omega, by omega, by simp; omega, ?_, ?_, by simpa [ints] using s4.swap.drop⟩ (by simp [slotN]; omega)
      · intro u hu
        rcases List.mem_append.1 hu with hu | hu
        · exact hdo u hu
        · have : u = a := by simpa using hu
          rw [this]; exact hoa
      · rw [hp, hda]; rw [hdn, pairF_one]; simp [pairF]
  · simp at h
    simp
    refine hE _ _ _ ?_
    simp
    have : i = us.length := by omega
    subst this
    rw [← hml, List.drop_length] at hp
    simp [pairF] at hp
    rw [hp]
    refine eff_call ((rtext_spec _ v w0 _ _ (by omega) hdo s2).mono ?_)
    rintro r w3 ⟨rfl, s3⟩
    simp
    exact s3.drop.drop
theorem Look_spec (l : List UInt8) (w0 w : World) (A : Asn) (hl : l.length ≤ 1048576) (s : St w0 A w) :
    CallW Try.prog 51 [.string (mk l)] (fun r w' => r = .string (mk (encAll (lookF l))) ∧ St w0 A w') w := by
  have hfl := folded_len l
  have hfo := folded_ok l
  unfold lookF
  refine callW_of_lift l51_ok (by simp [l51]) ?_
  simp [l51]
  refine eff_call ((folded_spec l w0 w A hl s).mono ?_)
  intro v w1 s1
  generalize foldedF l = us at *
  obtain ⟨a1, c1, rfl, hc1, hn1⟩ := s1.own_val
  simp
  refine loopI (fun env w' => ∃ (i : Nat) (x y : Value), env = [.string (mk l), .string (mk []), .slice a1 us.length c1, x, y, undef, undef, undef, .slice a1 us.length c1, .int .i64 us.length, .int .i64 i] ∧ i ≤ us.length ∧
      St w0 (A * own 21 1 (.slice a1 us.length c1) us.length (ints32 (half looksF i us))) w')
    (fun env _ => us.length - slotN env 10) ⟨0, _, _, rfl, by omega, by rw [half_zero]; exact s1⟩ ?_
  rintro LQ env w' ⟨i, x, y, rfl, hi, s'⟩ hN hE hR
  simp
  refine cndI (fun h => ?_) (fun h => ?_)
  · simp at h
    obtain ⟨g1, c1', e1, _, hcell⟩ := s'.own_at (by omega)
    cases e1
    simp
    refine ⟨h, eff_ldc (hcell i _ (ints32_at (half_at looksF i us h))) ?_⟩
    simp
    refine eff_call ((seen_spec _ w0 _ _ s').mono ?_)
    rintro r w2 ⟨rfl, s2⟩
    simp
    refine ⟨h, ?_⟩
    refine eff_stO s2 h rfl ?_
    intro w3 s3
    rw [ints32_set, half_set looksF i us h] at s3
    simp
    try simp (disch := omega) only [wrap64]
    exact hN _ _ ⟨i + 1, _, _, by simp; exact ⟨rfl, rfl⟩, h, s3⟩ (by simp [slotN]; omega)
  simp at h
  simp
  refine hE _ _ _ ?_
  simp
  have : i = us.length := by omega
  subst this
  rw [half_all] at s'
  clear hN hE hR s1 hn1 s
  have hok : ∀ u ∈ us.map looksF, okU u := by
    intro u hu
    obtain ⟨x, hx, rfl⟩ := List.mem_map.1 hu
    exact okU_looksF (hfo x hx)
  have hml : (us.map looksF).length = us.length := by simp
  generalize us.map looksF = ls at *
  rcases s'.own.2 with ⟨h, hn, hx, s2⟩ | ⟨g, cap, cur, h, hn, hm, hcs, ht, s2⟩
  · obtain ⟨h1, h2, h3⟩ : a1 = none ∧ us.length = 0 ∧ c1 = 0 := by simpa using h
    subst h1 h3
    have : us = [] := List.eq_nil_of_length_eq_zero h2
    subst this
    have : ls = [] := List.eq_nil_of_length_eq_zero (by simpa using hml)
    subst this
    simp
    refine loopI (fun env w'' => ∃ o, env = [.string (mk l), .string (mk []), .slice none 0 0, x, y, .slice none 0 0, .int .i64 0, o, .slice none 0 0, .int .i64 0, .int .i64 0] ∧ w'' = w') (fun _ _ => 0) ⟨_, rfl, rfl⟩ ?_
    rintro LQ env w2 ⟨o, rfl, rfl⟩ hN hE hR
    simp
    refine hE _ _ _ ?_
    simp
    refine eff_call ((text_spec [] (.slice none 0 0) w0 _ A (by simp) (by simp) (by simpa [ints32] using s2.own_nil 21 1)).mono ?_)
    rintro r w3 ⟨rfl, s3⟩
    simp [pairF]
    exact s3.drop
  obtain ⟨h1, h2⟩ : a1 = some ⟨g, 0, none⟩ ∧ c1 = cap := by simpa using h
  subst h1 h2
  simp
  rw [Nat.mul_one] at hcs ht
  refine loopI (fun env w' => ∃ (i : Nat) (done : List Int) (o x y : Value) (cur : Array Value), env = [.string (mk l), .string (mk []), .slice (some ⟨g, 0, none⟩) us.length c1, x, y, .slice (some ⟨g, 0, none⟩) done.length c1, .int .i64 i, o, .slice (some ⟨g, 0, none⟩) us.length c1, .int .i64 us.length, .int .i64 us.length] ∧ i ≤ us.length ∧ done.length ≤ i ∧ (∀ u ∈ done, okU u) ∧
      pairF ls = done ++ pairF (ls.drop i) ∧ c1 * 1 ≤ cur.size ∧ cur.toList.take done.length = ints32 done ∧ (∀ j u, i ≤ j → ls[j]? = some u → cur[j]? = some (.int .i32 u)) ∧
      St w0 (A * pt g (.cells cur 21 (0, 0))) w')
    (fun env _ => us.length - slotN env 6) ⟨0, [], _, x, y, cur, rfl, by omega, by simp, by simp, by simp, by simpa using hcs, by simp [ints32], ?_, s2⟩ ?_
  · intro j u _ hu
    have hj : (ints32 ls)[j]? = some (.int .i32 u) := ints32_at hu
    rw [← ht, List.getElem?_take] at hj
    split at hj
    · simpa using hj
    · cases hj
  clear ht hcs s2 s'
  rintro LQ env w2 ⟨i, done, o, x, y, cur, rfl, hi, hdl, hdo, hp, hcs, hdt, hcur, s2⟩ hN hE hR
  simp
  refine cndI (fun h => ?_) (fun h => ?_)
  · simp at h
    have hw : IntKind.i64.wrap ((i : Int) + 1) = (i : Int) + 1 := wrap64 (by omega) (by omega)
    have hla : ls[i]? = some ls[i] := by simp [hml, h]
    have hca : w2.cell? ⟨g, i, none⟩ = some (.int .i32 ls[i]) := by rw [cell_of s2.look]; exact hcur i _ (Nat.le_refl _) hla
    have hda : ls.drop i = ls[i] :: ls.drop (i + 1) := List.drop_eq_getElem_cons (by omega)
    have hoa := hok ls[i] (List.getElem_mem (by omega))
    generalize ls[i] = a at *
    simp
    refine ⟨h, eff_ldc hca ?_⟩
    by_cases h2 : i + 1 < us.length
    · have h2' : (i : Int) + 1 < us.length := by omega
      have htn : ((i : Int) + 1).toNat = i + 1 := by omega
      have hge : (0 : Int) ≤ (i : Int) + 1 := by omega
      have hlb : ls[i + 1]? = some ls[i + 1] := by simp [hml, h2]
      have hcb : w2.cell? ⟨g, i + 1, none⟩ = some (.int .i32 ls[i + 1]) := by rw [cell_of s2.look]; exact hcur (i + 1) _ (by omega) hlb
      have hdb : ls.drop (i + 1) = ls[i + 1] :: ls.drop (i + 2) := List.drop_eq_getElem_cons (by omega)
      generalize ls[i + 1] = b at *
      by_cases hA : a = 114
      · subst hA
        by_cases hB : b = 110
        · subst hB
          simp [hw, h2', h, htn, hge]
          refine eff_ldc hcb ?_
          simp [hw, h2', h]
          refine eff_bsl1 s2 rfl ?_
          intro b3 w4 s3
          simp
          refine eff_app_room (g := g) (n := done.length) (m := 1) (cap := c1) (news := [.int .i32 109]) s3.swap rfl s3.cells_look (by simp [Value.oneCell']) (by omega) hcs ?_
          intro w5 s4
          rw [splice1 cur.toList done.length (.int .i32 109) (by have hcl : cur.toList.length = cur.size := Array.length_toList; omega)] at s4
          simp
          try simp (disch := omega) only [wrap64]
          try simp
          refine hN _ _ ⟨i + 2, done ++ [109], _, _, _, (cur.toList.set done.length (.int .i32 109)).toArray, by simp; first | exact ⟨rfl, rfl, by omega, rfl⟩ | exact ⟨rfl, rfl, rfl⟩ | trace_state, by omega, by simp; omega, ?_, ?_, by simpa using hcs, by simpa using take_set1 cur.toList done 0 _ hdt (by have hcl : cur.toList.length = cur.size := Array.length_toList; omega), ?_, s4.swap.drop⟩ (by simp [slotN]; omega)
          · intro u hu
            rcases List.mem_append.1 hu with hu | hu
            · exact hdo u hu
            · have : u = 109 := by simpa using hu
              rw [this]; exact .inl (by omega)
          · rw [hp, hda]; rw [hdb, pairF_two]; simp
          · intro j u hj hu
            have := hcur j u (by omega) hu
            rw [← Array.getElem?_toList] at this ⊢
            simp only [List.getElem?_set]
            rw [if_neg (by omega)]
            exact this
        · simp [hw, h2', h, htn, hge]
          refine eff_ldc hcb ?_
          simp [hw, h2', h, hB]
          refine eff_bsl1 s2 rfl ?_
          intro b3 w4 s3
          simp
          refine eff_app_room (g := g) (n := done.length) (m := 1) (cap := c1) (news := [.int .i32 114]) s3.swap rfl s3.cells_look (by simp [Value.oneCell']) (by omega) hcs ?_
          intro w5 s4
          rw [splice1 cur.toList done.length (.int .i32 114) (by have hcl : cur.toList.length = cur.size := Array.length_toList; omega)] at s4
          simp
          try simp (disch := omega) only [wrap64]
          try simp
          refine hN _ _ ⟨i + 1, done ++ [114], _, _, _, (cur.toList.set done.length (.int .i32 114)).toArray, by simp; first | exact ⟨rfl, rfl, by omega, rfl⟩ | exact ⟨rfl, rfl, rfl⟩ | trace_state, by omega, by simp; omega, ?_, ?_, by simpa using hcs, by simpa using take_set1 cur.toList done 0 _ hdt (by have hcl : cur.toList.length = cur.size := Array.length_toList; omega), ?_, s4.swap.drop⟩ (by simp [slotN]; omega)
          · intro u hu
            rcases List.mem_append.1 hu with hu | hu
            · exact hdo u hu
            · have : u = 114 := by simpa using hu
              rw [this]; exact .inl (by omega)
          · rw [hp, hda]; rw [hdb, pairF_two]; simp [hB]
          · intro j u hj hu
            have := hcur j u (by omega) hu
            rw [← Array.getElem?_toList] at this ⊢
            simp only [List.getElem?_set]
            rw [if_neg (by omega)]
            exact this
      · by_cases hA2 : a = 118
        · subst hA2
          by_cases hB : b = 118
          · subst hB
            simp [hw, h2', h, htn, hge]
            refine eff_ldc hcb ?_
            simp [hw, h2', h]
            refine eff_bsl1 s2 rfl ?_
            intro b3 w4 s3
            simp
            refine eff_app_room (g := g) (n := done.length) (m := 1) (cap := c1) (news := [.int .i32 119]) s3.swap rfl s3.cells_look (by simp [Value.oneCell']) (by omega) hcs ?_
            intro w5 s4
            rw [splice1 cur.toList done.length (.int .i32 119) (by have hcl : cur.toList.length = cur.size := Array.length_toList; omega)] at s4
            simp
            try simp (disch := omega) only [wrap64]
            try simp
            refine hN _ _ ⟨i + 2, done ++ [119], _, _, _, (cur.toList.set done.length (.int .i32 119)).toArray, by simp; first | exact ⟨rfl, rfl, by omega, rfl⟩ | exact ⟨rfl, rfl, rfl⟩ | trace_state, by omega, by simp; omega, ?_, ?_, by simpa using hcs, by simpa using take_set1 cur.toList done 0 _ hdt (by have hcl : cur.toList.length = cur.size := Array.length_toList; omega), ?_, s4.swap.drop⟩ (by simp [slotN]; omega)
            · intro u hu
              rcases List.mem_append.1 hu with hu | hu
              · exact hdo u hu
              · have : u = 119 := by simpa using hu
                rw [this]; exact .inl (by omega)
            · rw [hp, hda]; rw [hdb, pairF_two]; simp
            · intro j u hj hu
              have := hcur j u (by omega) hu
              rw [← Array.getElem?_toList] at this ⊢
              simp only [List.getElem?_set]
              rw [if_neg (by omega)]
              exact this
          · simp [hw, h2', h, htn, hge]
            refine eff_ldc hcb ?_
            simp [hw, h2', h, hB]
            refine eff_bsl1 s2 rfl ?_
            intro b3 w4 s3
            simp
            refine eff_app_room (g := g) (n := done.length) (m := 1) (cap := c1) (news := [.int .i32 118]) s3.swap rfl s3.cells_look (by simp [Value.oneCell']) (by omega) hcs ?_
            intro w5 s4
            rw [splice1 cur.toList done.length (.int .i32 118) (by have hcl : cur.toList.length = cur.size := Array.length_toList; omega)] at s4
            simp
            try simp (disch := omega) only [wrap64]
            try simp
            refine hN _ _ ⟨i + 1, done ++ [118], _, _, _, (cur.toList.set done.length (.int .i32 118)).toArray, by simp; first | exact ⟨rfl, rfl, by omega, rfl⟩ | exact ⟨rfl, rfl, rfl⟩ | trace_state, by omega, by simp; omega, ?_, ?_, by simpa using hcs, by simpa using take_set1 cur.toList done 0 _ hdt (by have hcl : cur.toList.length = cur.size := Array.length_toList; omega), ?_, s4.swap.drop⟩ (by simp [slotN]; omega)
            · intro u hu
              rcases List.mem_append.1 hu with hu | hu
              · exact hdo u hu
              · have : u = 118 := by simpa using hu
                rw [this]; exact .inl (by omega)
            · rw [hp, hda]; rw [hdb, pairF_two]; simp [hB]
            · intro j u hj hu
              have := hcur j u (by omega) hu
              rw [← Array.getElem?_toList] at this ⊢
              simp only [List.getElem?_set]
              rw [if_neg (by omega)]
              exact this
        · simp [hw, h2', h, hA, hA2]
          refine eff_bsl1 s2 rfl ?_
          intro b3 w4 s3
          simp
          refine eff_app_room (g := g) (n := done.length) (m := 1) (cap := c1) (news := [.int .i32 a]) s3.swap rfl s3.cells_look (by simp [Value.oneCell']) (by omega) hcs ?_
          intro w5 s4
          rw [splice1 cur.toList done.length (.int .i32 a) (by have hcl : cur.toList.length = cur.size := Array.length_toList; omega)] at s4
          simp
          try simp (disch := omega) only [wrap64]
          try simp
          refine hN _ _ ⟨i + 1, done ++ [a], _, _, _, (cur.toList.set done.length (.int .i32 a)).toArray, by simp; first | exact ⟨rfl, rfl, by omega, rfl⟩ | exact ⟨rfl, rfl, rfl⟩ | trace_state, by omega, by simp; omega, ?_, ?_, by simpa using hcs, by simpa using take_set1 cur.toList done 0 _ hdt (by have hcl : cur.toList.length = cur.size := Array.length_toList; omega), ?_, s4.swap.drop⟩ (by simp [slotN]; omega)
          · intro u hu
            rcases List.mem_append.1 hu with hu | hu
            · exact hdo u hu
            · have : u = a := by simpa using hu
              rw [this]; exact hoa
          · rw [hp, hda]; rw [hdb, pairF_two]; simp [hA, hA2]
          · intro j u hj hu
            have := hcur j u (by omega) hu
            rw [← Array.getElem?_toList] at this ⊢
            simp only [List.getElem?_set]
            rw [if_neg (by omega)]
            exact this
    · have h2' : ¬ ((i : Int) + 1 < us.length) := by omega
      have hdn : ls.drop (i + 1) = [] := List.drop_eq_nil_of_le (by omega)
      simp [hw, h2', h]
      refine eff_bsl1 s2 rfl ?_
      intro b3 w4 s3
      simp
      refine eff_app_room (g := g) (n := done.length) (m := 1) (cap := c1) (news := [.int .i32 a]) s3.swap rfl s3.cells_look (by simp [Value.oneCell']) (by omega) hcs ?_
      intro w5 s4
      rw [splice1 cur.toList done.length (.int .i32 a) (by have hcl : cur.toList.length = cur.size := Array.length_toList; omega)] at s4
      simp
      try simp (disch := omega) only [wrap64]
      try simp
      refine hN _ _ ⟨i + 1, done ++ [a], _, _, _, (cur.toList.set done.length (.int .i32 a)).toArray, by simp; first | exact ⟨rfl, rfl, by omega, rfl⟩ | exact ⟨rfl, rfl, rfl⟩ | trace_state, by omega, by simp; omega, ?_, ?_, by simpa using hcs, by simpa using take_set1 cur.toList done 0 _ hdt (by have hcl : cur.toList.length = cur.size := Array.length_toList; omega), ?_, s4.swap.drop⟩ (by simp [slotN]; omega)
      · intro u hu
        rcases List.mem_append.1 hu with hu | hu
        · exact hdo u hu
        · have : u = a := by simpa using hu
          rw [this]; exact hoa
      · rw [hp, hda]; rw [hdn, pairF_one]; simp [pairF]
      · intro j u hj hu
        have := hcur j u (by omega) hu
        rw [← Array.getElem?_toList] at this ⊢
        simp only [List.getElem?_set]
        rw [if_neg (by omega)]
        exact this
  · simp at h
    simp
    refine hE _ _ _ ?_
    simp
    have : i = us.length := by omega
    subst this
    rw [← hml, List.drop_length] at hp
    simp [pairF] at hp
    rw [hp]
    refine eff_call ((text_spec done _ w0 _ A (by omega) hdo (s2.own_mk' (n := done.length) (by omega) hm hcs (by rw [Nat.mul_one]; exact hdt))).mono ?_)
    rintro r w3 ⟨rfl, s3⟩
    simp
    exact s3.drop
end Go.HL.Nm

namespace Go.HL.Nm
open Go.HL Go.Proofs
set_option maxRecDepth 4000
set_option linter.unusedSimpArgs false
set_option linter.unusedVariables false
/-- a slice of numbers, as_ it is seen while A holds -/
def View (w0 : World) (A : Asn) (k : IntKind) (v : Value) (xs : List Int) : Prop :=
  ∃ a cap, v = .slice a xs.length cap ∧ xs.length ≤ cap ∧ (0 < xs.length → ∃ g o, a = some ⟨g, o, none⟩ ∧ ∀ w, St w0 A w → ∀ j u, xs[j]? = some u → w.cell? ⟨g, o + j, none⟩ = some (.int k u))
theorem View.mono {w0 : World} {A B : Asn} {k : IntKind} {v : Value} {xs : List Int} (h : View w0 A k v xs) (hs : ∀ w, St w0 B w → St w0 A w) : View w0 B k v xs := by
  obtain ⟨a, cap, hv, hc, h⟩ := h
  refine ⟨a, cap, hv, hc, fun h0 => ?_⟩
  obtain ⟨g, o, ha, h⟩ := h h0
  exact ⟨g, o, ha, fun w s => h w (hs w s)⟩
-- bazaar/name.Same
-- bazaar/name.Alike
end Go.HL.Nm

namespace Go.HL
set_option linter.unusedSimpArgs false
set_option linter.unusedVariables false
section
variable {P : Program} {K : Value → World → Prop} {w w0 : World} {F : Asn}
/-- cells, as_ one value -/
theorem eff_ldcs {b off m : Nat} {vs : List Value} (hc : ∀ j u, vs[j]? = some u → w.cell? ⟨b, off + j, none⟩ = some u) (hl : vs.length = m) (hk : K (.agg vs.toArray) w) :
    EffW P (.ld true m) [.pointer (some ⟨b, off, none⟩)] K w := by
  intro _
  refine upon_val (w' := w) ?_ hk
  have := run_loadCells_list (P := P) w ⟨b, off, none⟩ vs (by
    intro j v hj
    rw [addr_add]; exact hc j v hj)
  rw [hl] at this
  simp [ldS, Instr.sureAddr, this]
/-- a slice as_ it is seen while an assertion holds: n elements of size cells -/
def Row (w0 : World) (A : Asn) (v : Value) (n size : Nat) (xs : List Value) : Prop :=
  xs.length = n * size ∧ ∃ a cap, v = .slice a n cap ∧ n ≤ cap ∧
    (n = 0 ∨ ∃ g o, a = some ⟨g, o, none⟩ ∧ ∀ w, St w0 A w → ∀ j u, xs[j]? = some u → w.cell? ⟨g, o + j, none⟩ = some u)
theorem Row.mono {A B : Asn} {v : Value} {n size : Nat} {xs : List Value} (h : Row w0 A v n size xs) (hs : ∀ w, St w0 B w → St w0 A w) : Row w0 B v n size xs := by
  obtain ⟨hl, a, cap, rfl, hn, h⟩ := h
  refine ⟨hl, a, cap, rfl, hn, ?_⟩
  rcases h with h | ⟨g, o, rfl, hc⟩
  · exact .inl h
  · exact .inr ⟨g, o, rfl, fun w s => hc w (hs w s)⟩
theorem Row.val {A : Asn} {v : Value} {n size : Nat} {xs : List Value} (h : Row w0 A v n size xs) : ∃ a cap, v = .slice a n cap := by
  obtain ⟨_, a, cap, rfl, _⟩ := h
  exact ⟨_, _, rfl⟩
theorem Row.at {A : Asn} {v : Value} {n size : Nat} {xs : List Value} (h : Row w0 A v n size xs) (hn : 0 < n) :
    ∃ g o cap, v = .slice (some ⟨g, o, none⟩) n cap ∧ ∀ w, St w0 A w → ∀ j u, xs[j]? = some u → w.cell? ⟨g, o + j, none⟩ = some u := by
  obtain ⟨_, a, cap, rfl, _, h | ⟨g, o, rfl, hc⟩⟩ := h
  · omega
  · exact ⟨g, o, cap, rfl, hc⟩
theorem row_own {A : Asn} {e size n : Nat} {v : Value} {xs : List Value} (s : St w0 (A * own e size v n xs) w) : Row w0 (A * own e size v n xs) v n size xs := by
  refine ⟨s.own.1, ?_⟩
  rcases s.own_cell with ⟨_, rfl⟩ | ⟨g, cap, rfl, hn, _⟩
  · obtain ⟨a, cap, h, hn, _⟩ := s.own_val
    cases h
    exact ⟨none, 0, rfl, Nat.le_refl _, .inl rfl⟩
  · refine ⟨some ⟨g, 0, none⟩, cap, rfl, hn, .inr ⟨g, 0, rfl, fun w' s' j u hu => ?_⟩⟩
    rcases s'.own_cell with ⟨_, h⟩ | ⟨g', cap', h, _, hc⟩
    · cases h
    · cases h
      rw [Nat.zero_add]
      exact hc j u hu
/-- a cell of an owned row is set -/
theorem eff_stC {e size n g cap j : Nat} {u : Value} {xs : List Value} (s : St w0 (F * HL.own e size (.slice (some ⟨g, 0, none⟩) n cap) n xs) w) (hj : j < xs.length) (h1 : u.oneCell' = true)
    (hk : ∀ w', St w0 (F * HL.own e size (.slice (some ⟨g, 0, none⟩) n cap) n (xs.set j u)) w' → K undef w') : EffW P (.st 1) [.pointer (some ⟨g, j, none⟩), u] K w := by
  rcases s.own.2 with ⟨h, _⟩ | ⟨g', cap', cur, h, hn, hm, hc, ht, s'⟩
  · cases h
  · cases h
    have hl : xs.length = n * size := s.own.1
    have : n * size ≤ cap * size := Nat.mul_le_mul_right _ hn
    refine eff_st1 s' h1 (by omega) fun w' s2 => hk w' (s2.own_mk' hn hm (by simpa using hc) ?_)
    rw [Array.toList_setIfInBounds, List.take_set, ht]
/-- several cells of an owned row are set -/
theorem eff_stR {e size n g cap j m : Nat} {v : Value} {vs xs : List Value} (s : St w0 (F * HL.own e size (.slice (some ⟨g, 0, none⟩) n cap) n xs) w) (hv : v.cells.toList = vs) (hm : vs.length = m) (h1 : ∀ u ∈ vs, u.oneCell' = true) (hj : j + m ≤ xs.length)
    (hk : ∀ w', St w0 (F * HL.own e size (.slice (some ⟨g, 0, none⟩) n cap) n (xs.take j ++ vs ++ xs.drop (j + m))) w' → K undef w') : EffW P (.st m) [.pointer (some ⟨g, j, none⟩), v] K w := by
  rcases s.own.2 with ⟨h, _⟩ | ⟨g', cap', cur, h, hn, hmm, hc, ht, s'⟩
  · cases h
  · cases h
    have hl : xs.length = n * size := s.own.1
    have hle : n * size ≤ cap * size := Nat.mul_le_mul_right _ hn
    refine eff_stA s' hv hm h1 (by omega) fun w' s2 => hk w' (s2.own_mk' hn hmm ?_ ?_)
    · simp only [List.size_toArray, List.length_append, List.length_take, List.length_drop, Array.length_toList]
      omega
    · have e1 : cur.toList.take j = xs.take j := by rw [← ht, List.take_take, Nat.min_eq_left (by omega)]
      have e2 : (cur.toList.drop (j + m)).take (n * size - (j + m)) = xs.drop (j + m) := by rw [← ht, List.drop_take]
      have l1 : (cur.toList.take j ++ vs).length = j + m := by simp only [List.length_append, List.length_take, Array.length_toList]; omega
      rw [List.take_append, l1, e2, List.take_of_length_le (by omega), e1]
end
section
variable {α : Type}
theorem flat_length (f : α → List Value) (c : Nat) (hf : ∀ a, (f a).length = c) : ∀ l : List α, (l.flatMap f).length = l.length * c
  | [] => by simp
  | a :: l => by rw [List.flatMap_cons, List.length_append, hf, flat_length f c hf l, List.length_cons, Nat.add_mul]; omega
theorem flat_drop (f : α → List Value) (c : Nat) (hf : ∀ a, (f a).length = c) : ∀ (l : List α) (i : Nat), (l.flatMap f).drop (i * c) = (l.drop i).flatMap f
  | l, 0 => by simp
  | [], i + 1 => by simp
  | a :: l, i + 1 => by
    rw [List.flatMap_cons, List.drop_succ_cons, ← flat_drop f c hf l i, Nat.add_mul, Nat.one_mul, Nat.add_comm, ← List.drop_drop, ← hf a, List.drop_left]
theorem flat_row (f : α → List Value) (c : Nat) (hf : ∀ a, (f a).length = c) (l : List α) (i : Nat) (h : i < l.length) : ((l.flatMap f).drop (i * c)).take c = f l[i] := by
  rw [flat_drop f c hf, List.drop_eq_getElem_cons h, List.flatMap_cons, ← hf l[i], List.take_left]
theorem flat_get (f : α → List Value) (c : Nat) (hf : ∀ a, (f a).length = c) (l : List α) (i k : Nat) (h : i < l.length) (hk : k < c) : (l.flatMap f)[i * c + k]? = (f l[i])[k]? := by
  rw [← flat_row f c hf l i h, List.getElem?_take, if_pos hk, List.getElem?_drop]
theorem flat_set (f : α → List Value) (c : Nat) (hf : ∀ a, (f a).length = c) (x : α) : ∀ (l : List α) (i : Nat) (h : i < l.length), (l.flatMap f).take (i * c) ++ f x ++ (l.flatMap f).drop (i * c + c) = (l.set i x).flatMap f
  | a :: l, 0, _ => by
    rw [Nat.zero_mul, Nat.zero_add, List.take_zero, List.nil_append, List.set_cons_zero, List.flatMap_cons, List.flatMap_cons, ← hf a, List.drop_left]
  | a :: l, i + 1, h => by
    have ih := flat_set f c hf x l i (by simpa using h)
    have e1 : (i + 1) * c = c + i * c := by rw [Nat.add_mul]; omega
    have e2 : (i + 1) * c + c = c + (i * c + c) := by omega
    rw [List.set_cons_succ, List.flatMap_cons, List.flatMap_cons, ← ih, e2, e1, ← hf a, List.take_length_add_append, ← List.drop_drop, List.drop_left, List.append_assoc, List.append_assoc, hf a, List.append_assoc]
end
theorem foldl_set : ∀ (vs : List Value) (o : Nat) (c : List Value), o + vs.length ≤ c.length →
    ((vs.zipIdx o).foldl (fun (cs : Array Value) x => cs.setIfInBounds x.2 x.1) c.toArray) = (c.take o ++ vs ++ c.drop (o + vs.length)).toArray
  | [], o, c, _ => by simp
  | v :: vs, o, c, h => by
    simp only [List.length_cons] at h
    rw [List.zipIdx_cons, List.foldl_cons]
    have e : c.toArray.setIfInBounds o v = (c.set o v).toArray := by simp
    simp only [e]
    rw [foldl_set vs (o + 1) (c.set o v) (by rw [List.length_set]; omega)]
    congr 1
    have hlt : o < c.length := by omega
    rw [List.set_eq_take_append_cons_drop, if_pos hlt]
    have hl : (c.take o).length = o := by simp; omega
    have t1 : (c.take o ++ v :: c.drop (o + 1)).take (o + 1) = c.take o ++ [v] := by
      rw [List.take_append, hl, List.take_take, Nat.min_eq_right (by omega), show o + 1 - o = 1 by omega]; rfl
    have t2 : (c.take o ++ v :: c.drop (o + 1)).drop (o + 1 + vs.length) = c.drop (o + (vs.length + 1)) := by
      rw [List.drop_append, hl, List.drop_of_length_le (by rw [hl]; omega), show o + 1 + vs.length - o = vs.length + 1 by omega, List.drop_succ_cons, List.drop_drop, List.nil_append]
      congr 1; omega
    rw [t1, t2]
    simp
theorem fill1 (z : Array Value) (size : Nat) (v : Value) (hv : v.cells.size = size) : Instr.fill (fun i => some (i * size, size)) ((Array.range (1 * size)).map fun i => z[i % z.size]!) [(0, v)] = some v.cells := by
  have hf := foldl_set v.cells.toList 0 ((Array.range (1 * size)).map fun i => z[i % z.size]!).toList (by simp [hv])
  simp only [Instr.fill, Nat.zero_mul, Nat.zero_add, hv]
  rw [if_neg (by simp)]
  congr 1
  have e : v.cells.zipIdx = (v.cells.toList.zipIdx 0).toArray := by
    apply Array.ext'
    simp
  rw [e, List.size_toArray, List.foldl_toArray']
  · rw [Array.toArray_toList] at hf
    refine hf.trans ?_
    have hd : List.drop (0 + v.cells.toList.length) ((Array.range (1 * size)).map fun i => z[i % z.size]!).toList = [] := List.drop_of_length_le (by simp [hv])
    rw [hd]
    simp
  · rfl
/-- a slice of one, built -/
theorem eff_bslV {P : Program} {K : Value → World → Prop} {w w0 : World} {F : Asn} {e size : Nat} {z : Array Value} {v : Value} (s : St w0 F w) (hv : v.cells.size = size)
    (hk : ∀ b w', St w0 (F * pt b (.cells v.cells e (0, 0))) w' → K (.slice (some ⟨b, 0, none⟩) 1 1) w') : EffW P (.bsl e 1 size z [0]) [v] K w :=
  eff_bsl s (fill1 z size v hv) hk
/-- an empty slice, built -/
theorem eff_bsl0 {P : Program} {K : Value → World → Prop} {w w0 : World} {F : Asn} {e size : Nat} {z : Array Value} (s : St w0 F w)
    (hk : ∀ v w', St w0 (F * own e size v 0 []) w' → K v w') : EffW P (.bsl e 0 size z []) [] K w :=
  eff_bsl (cells := #[]) s (by simp [Instr.fill]) fun b w' s' => hk _ w' (s'.own_mk (Nat.le_refl 0) (Nat.zero_le _) (by simp) (by simp))
@[simp] theorem cells_agg (c : Array Value) : (Value.agg c).cells = c := rfl
/-- a result that lies in memory -/
theorem rv_cellA {P : Program} {env : List Value} {i n b off : Nat} {vs : List Value} {r : List RV} {K : List Value → World → Prop} {w : World} (he : env.getD i undef = .pointer (some ⟨b, off, none⟩))
    (hc : ∀ j u, vs[j]? = some u → w.cell? ⟨b, off + j, none⟩ = some u) (hl : vs.length = n) (hk : rvW P env r (fun us w => K (.agg vs.toArray :: us) w) w) : rvW P env (.cell i true n :: r) K w := by
  have := run_loadCells_list (P := P) w ⟨b, off, none⟩ vs (by
    intro j v hj
    rw [addr_add]; exact hc j v hj)
  rw [hl] at this
  show UponW P (valS (ldS true n (env.getD i undef))) _ w
  rw [he]
  refine upon_val (w' := w) (v := .agg vs.toArray) ?_ ⟨rfl, hk⟩
  simp [ldS, Instr.sureAddr, this]
/-- what a row at a block holds, cell by cell -/
theorem St.row_cells {w0 w : World} {F : Asn} {b : Nat} {vs : List Value} {t : TypeId} {f : Nat × Nat} (s : St w0 (F * pt b (.cells vs.toArray t f)) w) : ∀ j u, vs[j]? = some u → w.cell? ⟨b, 0 + j, none⟩ = some u := by
  intro j u hu
  rw [cell_of s.look, Nat.zero_add]
  simpa using hu
instance : Std.Associative (α := Asn) (· * ·) := ⟨sep_assoc⟩
instance : Std.Commutative (α := Asn) (· * ·) := ⟨sep_comm⟩
theorem St.to {w0 w : World} {A B : Asn} (s : St w0 A w) (h : A = B) : St w0 B w := h ▸ s
/-- forget what is not named -/
theorem St.cut {w0 w : World} {A B : Asn} (C : Asn) (s : St w0 A w) (h : A = B * C) : St w0 B w := (s.to h).drop
end Go.HL
