/-
  Texts of units: AppendRune, put and text of name. Conditions: so many units at most; each is a rune or a bad byte.
-/
import Derived.Test.YtliofpihaemglaaNmJ
namespace Go.HL.Nm
open Go.HL Go.Proofs
set_option maxRecDepth 4000
set_option linter.unusedSimpArgs false
set_option linter.unusedVariables false
theorem fd (n : Nat) (k : Nat) (h : k ≤ 32) : (n : Int).fdiv (2 ^ min k IntKind.i32.bits) = (n : Int) / 2 ^ k := by
  have : min k IntKind.i32.bits = k := Nat.min_eq_left h
  rw [this, Int.fdiv_eq_ediv_of_nonneg]
  exact Int.le_of_lt (Int.pow_pos (by decide))
theorem fd6 (n : Nat) : (n : Int).fdiv (2 ^ min 6 IntKind.i32.bits) = (n : Int) / 64 := fd n 6 (by decide)
theorem fd12 (n : Nat) : (n : Int).fdiv (2 ^ min 12 IntKind.i32.bits) = (n : Int) / 4096 := fd n 12 (by decide)
theorem fd18 (n : Nat) : (n : Int).fdiv (2 ^ min 18 IntKind.i32.bits) = (n : Int) / 262144 := fd n 18 (by decide)
theorem or192' : ∀ m : Fin 32, IntKind.u8.wrap ((192 % 2 ^ IntKind.u8.bits ||| (((m.val : Nat) : Int) % 2 ^ IntKind.u8.bits).toNat : Nat) : Int) = 192 + ((m.val : Nat) : Int) := by decide +kernel
theorem or224' : ∀ m : Fin 16, IntKind.u8.wrap ((224 % 2 ^ IntKind.u8.bits ||| (((m.val : Nat) : Int) % 2 ^ IntKind.u8.bits).toNat : Nat) : Int) = 224 + ((m.val : Nat) : Int) := by decide +kernel
theorem or240' : ∀ m : Fin 8, IntKind.u8.wrap ((240 % 2 ^ IntKind.u8.bits ||| (((m.val : Nat) : Int) % 2 ^ IntKind.u8.bits).toNat : Nat) : Int) = 240 + ((m.val : Nat) : Int) := by decide +kernel
theorem or128' : ∀ m : Fin 64, IntKind.u8.wrap ((128 % 2 ^ IntKind.u8.bits ||| (((m.val : Nat) : Int) % 2 ^ IntKind.u8.bits).toNat : Nat) : Int) = 128 + ((m.val : Nat) : Int) := by decide +kernel
theorem or192 {x : Int} (h : 0 ≤ x) (h2 : x < 32) : IntKind.u8.wrap ((192 % 2 ^ IntKind.u8.bits ||| (x % 2 ^ IntKind.u8.bits).toNat : Nat) : Int) = 192 + x := by
  obtain ⟨m, rfl⟩ := Int.eq_ofNat_of_zero_le h
  exact or192' ⟨m, by omega⟩
theorem or224 {x : Int} (h : 0 ≤ x) (h2 : x < 16) : IntKind.u8.wrap ((224 % 2 ^ IntKind.u8.bits ||| (x % 2 ^ IntKind.u8.bits).toNat : Nat) : Int) = 224 + x := by
  obtain ⟨m, rfl⟩ := Int.eq_ofNat_of_zero_le h
  exact or224' ⟨m, by omega⟩
theorem or240 {x : Int} (h : 0 ≤ x) (h2 : x < 8) : IntKind.u8.wrap ((240 % 2 ^ IntKind.u8.bits ||| (x % 2 ^ IntKind.u8.bits).toNat : Nat) : Int) = 240 + x := by
  obtain ⟨m, rfl⟩ := Int.eq_ofNat_of_zero_le h
  exact or240' ⟨m, by omega⟩
theorem or128 {x : Int} (h : 0 ≤ x) (h2 : x < 64) : IntKind.u8.wrap ((128 % 2 ^ IntKind.u8.bits ||| (x % 2 ^ IntKind.u8.bits).toNat : Nat) : Int) = 128 + x := by
  obtain ⟨m, rfl⟩ := Int.eq_ofNat_of_zero_le h
  exact or128' ⟨m, by omega⟩
theorem and63 {x : Int} (h : 0 ≤ x) : IntKind.u8.wrap (((IntKind.u8.wrap x % 2 ^ IntKind.u8.bits).toNat &&& 63 % 2 ^ IntKind.u8.bits : Nat) : Int) = x % 64 := by
  have e : (63 % 2 ^ IntKind.u8.bits : Nat) = 2 ^ 6 - 1 := rfl
  rw [e, Nat.and_two_pow_sub_one_eq_mod, IntKind.wrap_u8, IntKind.wrap_u8]
  have e2 : (2 ^ IntKind.u8.bits : Int) = 256 := rfl
  rw [e2]
  omega
-- unicode/utf8.appendRuneNonASCII
def h94_0 : HC := (.seq (.reg (.chk none (.bin .shr) (.cons (.inp 1) (.cons (.cst (.int .u64 6)) .nil)) (.chk none (.convI .u8) (.cons (.op (.bin .shr) (.cons (.inp 1) (.cons (.cst (.int .u64 6)) .nil))) .nil) (.chk none (.bin .or) (.cons (.cst (.int .u8 192)) (.cons (.op (.convI .u8) (.cons (.op (.bin .shr) (.cons (.inp 1) (.cons (.cst (.int .u64 6)) .nil))) .nil)) .nil)) (.chk none (.convI .u8) (.cons (.inp 1) .nil) (.chk none (.bin .and) (.cons (.op (.convI .u8) (.cons (.inp 1) .nil)) (.cons (.cst (.int .u8 63)) .nil)) (.chk none (.bin .or) (.cons (.cst (.int .u8 128)) (.cons (.op (.bin .and) (.cons (.op (.convI .u8) (.cons (.inp 1) .nil)) (.cons (.cst (.int .u8 63)) .nil))) .nil)) (.eff (.bsl 5 2 1 #[(.int .u8 0)] [0, 1]) (.cons (.op (.bin .or) (.cons (.cst (.int .u8 192)) (.cons (.op (.convI .u8) (.cons (.op (.bin .shr) (.cons (.inp 1) (.cons (.cst (.int .u64 6)) .nil))) .nil)) .nil))) (.cons (.op (.bin .or) (.cons (.cst (.int .u8 128)) (.cons (.op (.bin .and) (.cons (.op (.convI .u8) (.cons (.inp 1) .nil)) (.cons (.cst (.int .u8 63)) .nil))) .nil))) .nil)) (.eff (.app 102 102 5 1 1 (.int .u8 0)) (.cons (.inp 0) (.cons (.bv 0) .nil)) (.done [(2, (.bv 1))] none)))))))))) .ret)
@[simp] theorem h94_0_wp {P : Program} {F : PF P} {Q : EX → List Value → World → Prop} {env : List Value} {w : World} : h94_0.wp F Q env w = HC.wp F (.seq (.reg (.chk none (.bin .shr) (.cons (.inp 1) (.cons (.cst (.int .u64 6)) .nil)) (.chk none (.convI .u8) (.cons (.op (.bin .shr) (.cons (.inp 1) (.cons (.cst (.int .u64 6)) .nil))) .nil) (.chk none (.bin .or) (.cons (.cst (.int .u8 192)) (.cons (.op (.convI .u8) (.cons (.op (.bin .shr) (.cons (.inp 1) (.cons (.cst (.int .u64 6)) .nil))) .nil)) .nil)) (.chk none (.convI .u8) (.cons (.inp 1) .nil) (.chk none (.bin .and) (.cons (.op (.convI .u8) (.cons (.inp 1) .nil)) (.cons (.cst (.int .u8 63)) .nil)) (.chk none (.bin .or) (.cons (.cst (.int .u8 128)) (.cons (.op (.bin .and) (.cons (.op (.convI .u8) (.cons (.inp 1) .nil)) (.cons (.cst (.int .u8 63)) .nil))) .nil)) (.eff (.bsl 5 2 1 #[(.int .u8 0)] [0, 1]) (.cons (.op (.bin .or) (.cons (.cst (.int .u8 192)) (.cons (.op (.convI .u8) (.cons (.op (.bin .shr) (.cons (.inp 1) (.cons (.cst (.int .u64 6)) .nil))) .nil)) .nil))) (.cons (.op (.bin .or) (.cons (.cst (.int .u8 128)) (.cons (.op (.bin .and) (.cons (.op (.convI .u8) (.cons (.inp 1) .nil)) (.cons (.cst (.int .u8 63)) .nil))) .nil))) .nil)) (.eff (.app 102 102 5 1 1 (.int .u8 0)) (.cons (.inp 0) (.cons (.bv 0) .nil)) (.done [(2, (.bv 1))] none)))))))))) .ret) Q env w := rfl
def h94_1 : HC := (.seq (.reg (.chk none (.bin .shr) (.cons (.inp 1) (.cons (.cst (.int .u64 12)) .nil)) (.chk none (.convI .u8) (.cons (.op (.bin .shr) (.cons (.inp 1) (.cons (.cst (.int .u64 12)) .nil))) .nil) (.chk none (.bin .or) (.cons (.cst (.int .u8 224)) (.cons (.op (.convI .u8) (.cons (.op (.bin .shr) (.cons (.inp 1) (.cons (.cst (.int .u64 12)) .nil))) .nil)) .nil)) (.chk none (.bin .shr) (.cons (.inp 1) (.cons (.cst (.int .u64 6)) .nil)) (.chk none (.convI .u8) (.cons (.op (.bin .shr) (.cons (.inp 1) (.cons (.cst (.int .u64 6)) .nil))) .nil) (.chk none (.bin .and) (.cons (.op (.convI .u8) (.cons (.op (.bin .shr) (.cons (.inp 1) (.cons (.cst (.int .u64 6)) .nil))) .nil)) (.cons (.cst (.int .u8 63)) .nil)) (.chk none (.bin .or) (.cons (.cst (.int .u8 128)) (.cons (.op (.bin .and) (.cons (.op (.convI .u8) (.cons (.op (.bin .shr) (.cons (.inp 1) (.cons (.cst (.int .u64 6)) .nil))) .nil)) (.cons (.cst (.int .u8 63)) .nil))) .nil)) (.chk none (.convI .u8) (.cons (.inp 1) .nil) (.chk none (.bin .and) (.cons (.op (.convI .u8) (.cons (.inp 1) .nil)) (.cons (.cst (.int .u8 63)) .nil)) (.chk none (.bin .or) (.cons (.cst (.int .u8 128)) (.cons (.op (.bin .and) (.cons (.op (.convI .u8) (.cons (.inp 1) .nil)) (.cons (.cst (.int .u8 63)) .nil))) .nil)) (.eff (.bsl 5 3 1 #[(.int .u8 0)] [0, 1, 2]) (.cons (.op (.bin .or) (.cons (.cst (.int .u8 224)) (.cons (.op (.convI .u8) (.cons (.op (.bin .shr) (.cons (.inp 1) (.cons (.cst (.int .u64 12)) .nil))) .nil)) .nil))) (.cons (.op (.bin .or) (.cons (.cst (.int .u8 128)) (.cons (.op (.bin .and) (.cons (.op (.convI .u8) (.cons (.op (.bin .shr) (.cons (.inp 1) (.cons (.cst (.int .u64 6)) .nil))) .nil)) (.cons (.cst (.int .u8 63)) .nil))) .nil))) (.cons (.op (.bin .or) (.cons (.cst (.int .u8 128)) (.cons (.op (.bin .and) (.cons (.op (.convI .u8) (.cons (.inp 1) .nil)) (.cons (.cst (.int .u8 63)) .nil))) .nil))) .nil))) (.eff (.app 102 102 5 1 1 (.int .u8 0)) (.cons (.inp 0) (.cons (.bv 0) .nil)) (.done [(2, (.bv 1))] none)))))))))))))) .ret)
@[simp] theorem h94_1_wp {P : Program} {F : PF P} {Q : EX → List Value → World → Prop} {env : List Value} {w : World} : h94_1.wp F Q env w = HC.wp F (.seq (.reg (.chk none (.bin .shr) (.cons (.inp 1) (.cons (.cst (.int .u64 12)) .nil)) (.chk none (.convI .u8) (.cons (.op (.bin .shr) (.cons (.inp 1) (.cons (.cst (.int .u64 12)) .nil))) .nil) (.chk none (.bin .or) (.cons (.cst (.int .u8 224)) (.cons (.op (.convI .u8) (.cons (.op (.bin .shr) (.cons (.inp 1) (.cons (.cst (.int .u64 12)) .nil))) .nil)) .nil)) (.chk none (.bin .shr) (.cons (.inp 1) (.cons (.cst (.int .u64 6)) .nil)) (.chk none (.convI .u8) (.cons (.op (.bin .shr) (.cons (.inp 1) (.cons (.cst (.int .u64 6)) .nil))) .nil) (.chk none (.bin .and) (.cons (.op (.convI .u8) (.cons (.op (.bin .shr) (.cons (.inp 1) (.cons (.cst (.int .u64 6)) .nil))) .nil)) (.cons (.cst (.int .u8 63)) .nil)) (.chk none (.bin .or) (.cons (.cst (.int .u8 128)) (.cons (.op (.bin .and) (.cons (.op (.convI .u8) (.cons (.op (.bin .shr) (.cons (.inp 1) (.cons (.cst (.int .u64 6)) .nil))) .nil)) (.cons (.cst (.int .u8 63)) .nil))) .nil)) (.chk none (.convI .u8) (.cons (.inp 1) .nil) (.chk none (.bin .and) (.cons (.op (.convI .u8) (.cons (.inp 1) .nil)) (.cons (.cst (.int .u8 63)) .nil)) (.chk none (.bin .or) (.cons (.cst (.int .u8 128)) (.cons (.op (.bin .and) (.cons (.op (.convI .u8) (.cons (.inp 1) .nil)) (.cons (.cst (.int .u8 63)) .nil))) .nil)) (.eff (.bsl 5 3 1 #[(.int .u8 0)] [0, 1, 2]) (.cons (.op (.bin .or) (.cons (.cst (.int .u8 224)) (.cons (.op (.convI .u8) (.cons (.op (.bin .shr) (.cons (.inp 1) (.cons (.cst (.int .u64 12)) .nil))) .nil)) .nil))) (.cons (.op (.bin .or) (.cons (.cst (.int .u8 128)) (.cons (.op (.bin .and) (.cons (.op (.convI .u8) (.cons (.op (.bin .shr) (.cons (.inp 1) (.cons (.cst (.int .u64 6)) .nil))) .nil)) (.cons (.cst (.int .u8 63)) .nil))) .nil))) (.cons (.op (.bin .or) (.cons (.cst (.int .u8 128)) (.cons (.op (.bin .and) (.cons (.op (.convI .u8) (.cons (.inp 1) .nil)) (.cons (.cst (.int .u8 63)) .nil))) .nil))) .nil))) (.eff (.app 102 102 5 1 1 (.int .u8 0)) (.cons (.inp 0) (.cons (.bv 0) .nil)) (.done [(2, (.bv 1))] none)))))))))))))) .ret) Q env w := rfl
def h94_2 : HC := (.seq (.reg (.chk none (.bin .shr) (.cons (.inp 1) (.cons (.cst (.int .u64 18)) .nil)) (.chk none (.convI .u8) (.cons (.op (.bin .shr) (.cons (.inp 1) (.cons (.cst (.int .u64 18)) .nil))) .nil) (.chk none (.bin .or) (.cons (.cst (.int .u8 240)) (.cons (.op (.convI .u8) (.cons (.op (.bin .shr) (.cons (.inp 1) (.cons (.cst (.int .u64 18)) .nil))) .nil)) .nil)) (.chk none (.bin .shr) (.cons (.inp 1) (.cons (.cst (.int .u64 12)) .nil)) (.chk none (.convI .u8) (.cons (.op (.bin .shr) (.cons (.inp 1) (.cons (.cst (.int .u64 12)) .nil))) .nil) (.chk none (.bin .and) (.cons (.op (.convI .u8) (.cons (.op (.bin .shr) (.cons (.inp 1) (.cons (.cst (.int .u64 12)) .nil))) .nil)) (.cons (.cst (.int .u8 63)) .nil)) (.chk none (.bin .or) (.cons (.cst (.int .u8 128)) (.cons (.op (.bin .and) (.cons (.op (.convI .u8) (.cons (.op (.bin .shr) (.cons (.inp 1) (.cons (.cst (.int .u64 12)) .nil))) .nil)) (.cons (.cst (.int .u8 63)) .nil))) .nil)) (.chk none (.bin .shr) (.cons (.inp 1) (.cons (.cst (.int .u64 6)) .nil)) (.chk none (.convI .u8) (.cons (.op (.bin .shr) (.cons (.inp 1) (.cons (.cst (.int .u64 6)) .nil))) .nil) (.chk none (.bin .and) (.cons (.op (.convI .u8) (.cons (.op (.bin .shr) (.cons (.inp 1) (.cons (.cst (.int .u64 6)) .nil))) .nil)) (.cons (.cst (.int .u8 63)) .nil)) (.chk none (.bin .or) (.cons (.cst (.int .u8 128)) (.cons (.op (.bin .and) (.cons (.op (.convI .u8) (.cons (.op (.bin .shr) (.cons (.inp 1) (.cons (.cst (.int .u64 6)) .nil))) .nil)) (.cons (.cst (.int .u8 63)) .nil))) .nil)) (.chk none (.convI .u8) (.cons (.inp 1) .nil) (.chk none (.bin .and) (.cons (.op (.convI .u8) (.cons (.inp 1) .nil)) (.cons (.cst (.int .u8 63)) .nil)) (.chk none (.bin .or) (.cons (.cst (.int .u8 128)) (.cons (.op (.bin .and) (.cons (.op (.convI .u8) (.cons (.inp 1) .nil)) (.cons (.cst (.int .u8 63)) .nil))) .nil)) (.eff (.bsl 5 4 1 #[(.int .u8 0)] [0, 1, 2, 3]) (.cons (.op (.bin .or) (.cons (.cst (.int .u8 240)) (.cons (.op (.convI .u8) (.cons (.op (.bin .shr) (.cons (.inp 1) (.cons (.cst (.int .u64 18)) .nil))) .nil)) .nil))) (.cons (.op (.bin .or) (.cons (.cst (.int .u8 128)) (.cons (.op (.bin .and) (.cons (.op (.convI .u8) (.cons (.op (.bin .shr) (.cons (.inp 1) (.cons (.cst (.int .u64 12)) .nil))) .nil)) (.cons (.cst (.int .u8 63)) .nil))) .nil))) (.cons (.op (.bin .or) (.cons (.cst (.int .u8 128)) (.cons (.op (.bin .and) (.cons (.op (.convI .u8) (.cons (.op (.bin .shr) (.cons (.inp 1) (.cons (.cst (.int .u64 6)) .nil))) .nil)) (.cons (.cst (.int .u8 63)) .nil))) .nil))) (.cons (.op (.bin .or) (.cons (.cst (.int .u8 128)) (.cons (.op (.bin .and) (.cons (.op (.convI .u8) (.cons (.inp 1) .nil)) (.cons (.cst (.int .u8 63)) .nil))) .nil))) .nil)))) (.eff (.app 102 102 5 1 1 (.int .u8 0)) (.cons (.inp 0) (.cons (.bv 0) .nil)) (.done [(2, (.bv 1))] none)))))))))))))))))) .ret)
@[simp] theorem h94_2_wp {P : Program} {F : PF P} {Q : EX → List Value → World → Prop} {env : List Value} {w : World} : h94_2.wp F Q env w = HC.wp F (.seq (.reg (.chk none (.bin .shr) (.cons (.inp 1) (.cons (.cst (.int .u64 18)) .nil)) (.chk none (.convI .u8) (.cons (.op (.bin .shr) (.cons (.inp 1) (.cons (.cst (.int .u64 18)) .nil))) .nil) (.chk none (.bin .or) (.cons (.cst (.int .u8 240)) (.cons (.op (.convI .u8) (.cons (.op (.bin .shr) (.cons (.inp 1) (.cons (.cst (.int .u64 18)) .nil))) .nil)) .nil)) (.chk none (.bin .shr) (.cons (.inp 1) (.cons (.cst (.int .u64 12)) .nil)) (.chk none (.convI .u8) (.cons (.op (.bin .shr) (.cons (.inp 1) (.cons (.cst (.int .u64 12)) .nil))) .nil) (.chk none (.bin .and) (.cons (.op (.convI .u8) (.cons (.op (.bin .shr) (.cons (.inp 1) (.cons (.cst (.int .u64 12)) .nil))) .nil)) (.cons (.cst (.int .u8 63)) .nil)) (.chk none (.bin .or) (.cons (.cst (.int .u8 128)) (.cons (.op (.bin .and) (.cons (.op (.convI .u8) (.cons (.op (.bin .shr) (.cons (.inp 1) (.cons (.cst (.int .u64 12)) .nil))) .nil)) (.cons (.cst (.int .u8 63)) .nil))) .nil)) (.chk none (.bin .shr) (.cons (.inp 1) (.cons (.cst (.int .u64 6)) .nil)) (.chk none (.convI .u8) (.cons (.op (.bin .shr) (.cons (.inp 1) (.cons (.cst (.int .u64 6)) .nil))) .nil) (.chk none (.bin .and) (.cons (.op (.convI .u8) (.cons (.op (.bin .shr) (.cons (.inp 1) (.cons (.cst (.int .u64 6)) .nil))) .nil)) (.cons (.cst (.int .u8 63)) .nil)) (.chk none (.bin .or) (.cons (.cst (.int .u8 128)) (.cons (.op (.bin .and) (.cons (.op (.convI .u8) (.cons (.op (.bin .shr) (.cons (.inp 1) (.cons (.cst (.int .u64 6)) .nil))) .nil)) (.cons (.cst (.int .u8 63)) .nil))) .nil)) (.chk none (.convI .u8) (.cons (.inp 1) .nil) (.chk none (.bin .and) (.cons (.op (.convI .u8) (.cons (.inp 1) .nil)) (.cons (.cst (.int .u8 63)) .nil)) (.chk none (.bin .or) (.cons (.cst (.int .u8 128)) (.cons (.op (.bin .and) (.cons (.op (.convI .u8) (.cons (.inp 1) .nil)) (.cons (.cst (.int .u8 63)) .nil))) .nil)) (.eff (.bsl 5 4 1 #[(.int .u8 0)] [0, 1, 2, 3]) (.cons (.op (.bin .or) (.cons (.cst (.int .u8 240)) (.cons (.op (.convI .u8) (.cons (.op (.bin .shr) (.cons (.inp 1) (.cons (.cst (.int .u64 18)) .nil))) .nil)) .nil))) (.cons (.op (.bin .or) (.cons (.cst (.int .u8 128)) (.cons (.op (.bin .and) (.cons (.op (.convI .u8) (.cons (.op (.bin .shr) (.cons (.inp 1) (.cons (.cst (.int .u64 12)) .nil))) .nil)) (.cons (.cst (.int .u8 63)) .nil))) .nil))) (.cons (.op (.bin .or) (.cons (.cst (.int .u8 128)) (.cons (.op (.bin .and) (.cons (.op (.convI .u8) (.cons (.op (.bin .shr) (.cons (.inp 1) (.cons (.cst (.int .u64 6)) .nil))) .nil)) (.cons (.cst (.int .u8 63)) .nil))) .nil))) (.cons (.op (.bin .or) (.cons (.cst (.int .u8 128)) (.cons (.op (.bin .and) (.cons (.op (.convI .u8) (.cons (.inp 1) .nil)) (.cons (.cst (.int .u8 63)) .nil))) .nil))) .nil)))) (.eff (.app 102 102 5 1 1 (.int .u8 0)) (.cons (.inp 0) (.cons (.bv 0) .nil)) (.done [(2, (.bv 1))] none)))))))))))))))))) .ret) Q env w := rfl
def h94_3 : HC := (.seq (.reg (.eff (.bsl 5 3 1 #[(.int .u8 0)] [0, 1, 2]) (.cons (.cst (.int .u8 239)) (.cons (.cst (.int .u8 191)) (.cons (.cst (.int .u8 189)) .nil))) (.eff (.app 102 102 5 1 1 (.int .u8 0)) (.cons (.inp 0) (.cons (.bv 0) .nil)) (.done [(2, (.bv 1))] none)))) .ret)
@[simp] theorem h94_3_wp {P : Program} {F : PF P} {Q : EX → List Value → World → Prop} {env : List Value} {w : World} : h94_3.wp F Q env w = HC.wp F (.seq (.reg (.eff (.bsl 5 3 1 #[(.int .u8 0)] [0, 1, 2]) (.cons (.cst (.int .u8 239)) (.cons (.cst (.int .u8 191)) (.cons (.cst (.int .u8 189)) .nil))) (.eff (.app 102 102 5 1 1 (.int .u8 0)) (.cons (.inp 0) (.cons (.bv 0) .nil)) (.done [(2, (.bv 1))] none)))) .ret) Q env w := rfl
def h94_4 : HC := (.br (.chk none (.bin .gtr) (.cons (.inp 3) (.cons (.cst (.int .u32 65535)) .nil)) (.bnd (.op (.bin .gtr) (.cons (.inp 3) (.cons (.cst (.int .u32 65535)) .nil))) (.chk (some ((.bv 0), true)) (.bin .leq) (.cons (.inp 3) (.cons (.cst (.int .u32 1114111)) .nil)) (.isb none (.bv 0) (.done [] (some (.ite (.bv 0) true (.op (.bin .leq) (.cons (.inp 3) (.cons (.cst (.int .u32 1114111)) .nil))) (.cst (.bool false))))))))) h94_2 h94_3)
@[simp] theorem h94_4_wp {P : Program} {F : PF P} {Q : EX → List Value → World → Prop} {env : List Value} {w : World} : h94_4.wp F Q env w = HC.wp F (.br (.chk none (.bin .gtr) (.cons (.inp 3) (.cons (.cst (.int .u32 65535)) .nil)) (.bnd (.op (.bin .gtr) (.cons (.inp 3) (.cons (.cst (.int .u32 65535)) .nil))) (.chk (some ((.bv 0), true)) (.bin .leq) (.cons (.inp 3) (.cons (.cst (.int .u32 1114111)) .nil)) (.isb none (.bv 0) (.done [] (some (.ite (.bv 0) true (.op (.bin .leq) (.cons (.inp 3) (.cons (.cst (.int .u32 1114111)) .nil))) (.cst (.bool false))))))))) h94_2 h94_3) Q env w := rfl
def h94_5 : HC := (.cnd 4 h94_1 h94_4)
@[simp] theorem h94_5_wp {P : Program} {F : PF P} {Q : EX → List Value → World → Prop} {env : List Value} {w : World} : h94_5.wp F Q env w = HC.wp F (.cnd 4 h94_1 h94_4) Q env w := rfl
def h94_6 : HC := (.reg (.chk none (.bin .lss) (.cons (.cst (.int .u32 57343)) (.cons (.inp 3) .nil)) (.bnd (.op (.bin .lss) (.cons (.cst (.int .u32 57343)) (.cons (.inp 3) .nil))) (.chk (some ((.bv 0), true)) (.bin .leq) (.cons (.inp 3) (.cons (.cst (.int .u32 65535)) .nil)) (.isb none (.bv 0) (.done [(4, (.ite (.bv 0) true (.op (.bin .leq) (.cons (.inp 3) (.cons (.cst (.int .u32 65535)) .nil))) (.cst (.bool false))))] none))))))
@[simp] theorem h94_6_wp {P : Program} {F : PF P} {Q : EX → List Value → World → Prop} {env : List Value} {w : World} : h94_6.wp F Q env w = HC.wp F (.reg (.chk none (.bin .lss) (.cons (.cst (.int .u32 57343)) (.cons (.inp 3) .nil)) (.bnd (.op (.bin .lss) (.cons (.cst (.int .u32 57343)) (.cons (.inp 3) .nil))) (.chk (some ((.bv 0), true)) (.bin .leq) (.cons (.inp 3) (.cons (.cst (.int .u32 65535)) .nil)) (.isb none (.bv 0) (.done [(4, (.ite (.bv 0) true (.op (.bin .leq) (.cons (.inp 3) (.cons (.cst (.int .u32 65535)) .nil))) (.cst (.bool false))))] none)))))) Q env w := rfl
def h94_7 : HC := (.seq (.cnd 4 .skip h94_6) h94_5)
@[simp] theorem h94_7_wp {P : Program} {F : PF P} {Q : EX → List Value → World → Prop} {env : List Value} {w : World} : h94_7.wp F Q env w = HC.wp F (.seq (.cnd 4 .skip h94_6) h94_5) Q env w := rfl
def h94_8 : HC := (.seq (.reg (.chk none (.bin .lss) (.cons (.inp 3) (.cons (.cst (.int .u32 55296)) .nil)) (.done [(4, (.op (.bin .lss) (.cons (.inp 3) (.cons (.cst (.int .u32 55296)) .nil))))] none))) h94_7)
@[simp] theorem h94_8_wp {P : Program} {F : PF P} {Q : EX → List Value → World → Prop} {env : List Value} {w : World} : h94_8.wp F Q env w = HC.wp F (.seq (.reg (.chk none (.bin .lss) (.cons (.inp 3) (.cons (.cst (.int .u32 55296)) .nil)) (.done [(4, (.op (.bin .lss) (.cons (.inp 3) (.cons (.cst (.int .u32 55296)) .nil))))] none))) h94_7) Q env w := rfl
def h94_9 : HC := (.br (.chk none (.bin .leq) (.cons (.inp 3) (.cons (.cst (.int .u32 2047)) .nil)) (.done [] (some (.op (.bin .leq) (.cons (.inp 3) (.cons (.cst (.int .u32 2047)) .nil)))))) h94_0 h94_8)
@[simp] theorem h94_9_wp {P : Program} {F : PF P} {Q : EX → List Value → World → Prop} {env : List Value} {w : World} : h94_9.wp F Q env w = HC.wp F (.br (.chk none (.bin .leq) (.cons (.inp 3) (.cons (.cst (.int .u32 2047)) .nil)) (.done [] (some (.op (.bin .leq) (.cons (.inp 3) (.cons (.cst (.int .u32 2047)) .nil)))))) h94_0 h94_8) Q env w := rfl
def h94_10 : HC := (.block 0 h94_9)
@[simp] theorem h94_10_wp {P : Program} {F : PF P} {Q : EX → List Value → World → Prop} {env : List Value} {w : World} : h94_10.wp F Q env w = HC.wp F (.block 0 h94_9) Q env w := rfl
def h94_11 : HC := (.seq (.reg (.chk none (.convI .u32) (.cons (.inp 1) .nil) (.done [(3, (.op (.convI .u32) (.cons (.inp 1) .nil)))] none))) h94_10)
@[simp] theorem h94_11_wp {P : Program} {F : PF P} {Q : EX → List Value → World → Prop} {env : List Value} {w : World} : h94_11.wp F Q env w = HC.wp F (.seq (.reg (.chk none (.convI .u32) (.cons (.inp 1) .nil) (.done [(3, (.op (.convI .u32) (.cons (.inp 1) .nil)))] none))) h94_10) Q env w := rfl
def l94 : Lifted := ⟨[0, 1, 4, 5, 25], 78, [.slot 2], (.seq (.reg (.done [(2, (.cst (.slice none 0 0)))] none)) h94_11)⟩
theorem l94_ok : liftFn F4 94 400 = some l94 := by kernel_rfl

-- unicode/utf8.AppendRune
def h88_0 : HC := (.seq (.reg (.eff (.call 94) (.cons (.inp 0) (.cons (.inp 1) .nil)) (.done [(2, (.bv 0))] none))) .ret)
@[simp] theorem h88_0_wp {P : Program} {F : PF P} {Q : EX → List Value → World → Prop} {env : List Value} {w : World} : h88_0.wp F Q env w = HC.wp F (.seq (.reg (.eff (.call 94) (.cons (.inp 0) (.cons (.inp 1) .nil)) (.done [(2, (.bv 0))] none))) .ret) Q env w := rfl
def h88_1 : HC := (.seq (.reg (.chk none (.convI .u8) (.cons (.inp 1) .nil) (.eff (.bsl 5 1 1 #[(.int .u8 0)] [0]) (.cons (.op (.convI .u8) (.cons (.inp 1) .nil)) .nil) (.eff (.app 102 102 5 1 1 (.int .u8 0)) (.cons (.inp 0) (.cons (.bv 0) .nil)) (.done [(2, (.bv 1))] none))))) .ret)
@[simp] theorem h88_1_wp {P : Program} {F : PF P} {Q : EX → List Value → World → Prop} {env : List Value} {w : World} : h88_1.wp F Q env w = HC.wp F (.seq (.reg (.chk none (.convI .u8) (.cons (.inp 1) .nil) (.eff (.bsl 5 1 1 #[(.int .u8 0)] [0]) (.cons (.op (.convI .u8) (.cons (.inp 1) .nil)) .nil) (.eff (.app 102 102 5 1 1 (.int .u8 0)) (.cons (.inp 0) (.cons (.bv 0) .nil)) (.done [(2, (.bv 1))] none))))) .ret) Q env w := rfl
def h88_2 : HC := (.seq (.br (.chk none (.convI .u32) (.cons (.inp 1) .nil) (.chk none (.bin .leq) (.cons (.op (.convI .u32) (.cons (.inp 1) .nil)) (.cons (.cst (.int .u32 127)) .nil)) (.done [] (some (.op (.bin .leq) (.cons (.op (.convI .u32) (.cons (.inp 1) .nil)) (.cons (.cst (.int .u32 127)) .nil))))))) h88_1 .skip) h88_0)
@[simp] theorem h88_2_wp {P : Program} {F : PF P} {Q : EX → List Value → World → Prop} {env : List Value} {w : World} : h88_2.wp F Q env w = HC.wp F (.seq (.br (.chk none (.convI .u32) (.cons (.inp 1) .nil) (.chk none (.bin .leq) (.cons (.op (.convI .u32) (.cons (.inp 1) .nil)) (.cons (.cst (.int .u32 127)) .nil)) (.done [] (some (.op (.bin .leq) (.cons (.op (.convI .u32) (.cons (.inp 1) .nil)) (.cons (.cst (.int .u32 127)) .nil))))))) h88_1 .skip) h88_0) Q env w := rfl
def l88 : Lifted := ⟨[0, 1, 4], 16, [.slot 2], (.seq (.reg (.done [(2, (.cst (.slice none 0 0)))] none)) h88_2)⟩
theorem l88_ok : liftFn F4 88 400 = some l88 := by kernel_rfl

-- bazaar/name.put
def h77_0 : HC := (.seq (.reg (.eff (.call 88) (.cons (.inp 0) (.cons (.inp 1) .nil)) (.done [(2, (.bv 0))] none))) .ret)
@[simp] theorem h77_0_wp {P : Program} {F : PF P} {Q : EX → List Value → World → Prop} {env : List Value} {w : World} : h77_0.wp F Q env w = HC.wp F (.seq (.reg (.eff (.call 88) (.cons (.inp 0) (.cons (.inp 1) .nil)) (.done [(2, (.bv 0))] none))) .ret) Q env w := rfl
def h77_1 : HC := (.seq (.reg (.chk none (.bin .sub) (.cons (.inp 1) (.cons (.cst (.int .i32 2097152)) .nil)) (.chk none (.convI .u8) (.cons (.op (.bin .sub) (.cons (.inp 1) (.cons (.cst (.int .i32 2097152)) .nil))) .nil) (.eff (.bsl 5 1 1 #[(.int .u8 0)] [0]) (.cons (.op (.convI .u8) (.cons (.op (.bin .sub) (.cons (.inp 1) (.cons (.cst (.int .i32 2097152)) .nil))) .nil)) .nil) (.eff (.app 102 102 5 1 1 (.int .u8 0)) (.cons (.inp 0) (.cons (.bv 0) .nil)) (.done [(2, (.bv 1))] none)))))) .ret)
@[simp] theorem h77_1_wp {P : Program} {F : PF P} {Q : EX → List Value → World → Prop} {env : List Value} {w : World} : h77_1.wp F Q env w = HC.wp F (.seq (.reg (.chk none (.bin .sub) (.cons (.inp 1) (.cons (.cst (.int .i32 2097152)) .nil)) (.chk none (.convI .u8) (.cons (.op (.bin .sub) (.cons (.inp 1) (.cons (.cst (.int .i32 2097152)) .nil))) .nil) (.eff (.bsl 5 1 1 #[(.int .u8 0)] [0]) (.cons (.op (.convI .u8) (.cons (.op (.bin .sub) (.cons (.inp 1) (.cons (.cst (.int .i32 2097152)) .nil))) .nil)) .nil) (.eff (.app 102 102 5 1 1 (.int .u8 0)) (.cons (.inp 0) (.cons (.bv 0) .nil)) (.done [(2, (.bv 1))] none)))))) .ret) Q env w := rfl
def h77_2 : HC := (.seq (.br (.chk none (.bin .geq) (.cons (.inp 1) (.cons (.cst (.int .i32 2097152)) .nil)) (.done [] (some (.op (.bin .geq) (.cons (.inp 1) (.cons (.cst (.int .i32 2097152)) .nil)))))) h77_1 .skip) h77_0)
@[simp] theorem h77_2_wp {P : Program} {F : PF P} {Q : EX → List Value → World → Prop} {env : List Value} {w : World} : h77_2.wp F Q env w = HC.wp F (.seq (.br (.chk none (.bin .geq) (.cons (.inp 1) (.cons (.cst (.int .i32 2097152)) .nil)) (.done [] (some (.op (.bin .geq) (.cons (.inp 1) (.cons (.cst (.int .i32 2097152)) .nil)))))) h77_1 .skip) h77_0) Q env w := rfl
def l77 : Lifted := ⟨[0, 1, 4], 16, [.slot 2], (.seq (.reg (.done [(2, (.cst (.slice none 0 0)))] none)) h77_2)⟩
theorem l77_ok : liftFn F4 77 400 = some l77 := by kernel_rfl

-- bazaar/name.text
def h49_0 : HC := (.seq (.reg (.eff (.b2s 102 9) (.cons (.inp 2) .nil) (.done [(1, (.bv 0))] none))) .ret)
@[simp] theorem h49_0_wp {P : Program} {F : PF P} {Q : EX → List Value → World → Prop} {env : List Value} {w : World} : h49_0.wp F Q env w = HC.wp F (.seq (.reg (.eff (.b2s 102 9) (.cons (.inp 2) .nil) (.done [(1, (.bv 0))] none))) .ret) Q env w := rfl
def h49_1 : HC := (.reg (.chk none (.bin .add) (.cons (.inp 6) (.cons (.cst (.int .i64 1)) .nil)) (.done [(6, (.op (.bin .add) (.cons (.inp 6) (.cons (.cst (.int .i64 1)) .nil))))] none)))
@[simp] theorem h49_1_wp {P : Program} {F : PF P} {Q : EX → List Value → World → Prop} {env : List Value} {w : World} : h49_1.wp F Q env w = HC.wp F (.reg (.chk none (.bin .add) (.cons (.inp 6) (.cons (.cst (.int .i64 1)) .nil)) (.done [(6, (.op (.bin .add) (.cons (.inp 6) (.cons (.cst (.int .i64 1)) .nil))))] none))) Q env w := rfl
def h49_2 : HC := (.reg (.eff (.call 77) (.cons (.inp 2) (.cons (.inp 3) .nil)) (.done [(2, (.bv 0))] none)))
@[simp] theorem h49_2_wp {P : Program} {F : PF P} {Q : EX → List Value → World → Prop} {env : List Value} {w : World} : h49_2.wp F Q env w = HC.wp F (.reg (.eff (.call 77) (.cons (.inp 2) (.cons (.inp 3) .nil)) (.done [(2, (.bv 0))] none))) Q env w := rfl
def h49_3 : HC := (.seq (.reg (.chk none (.idxL 1) (.cons (.inp 4) (.cons (.inp 6) .nil)) (.eff (.ld false 1) (.cons (.op (.idxL 1) (.cons (.inp 4) (.cons (.inp 6) .nil))) .nil) (.done [(3, (.bv 0))] none)))) h49_2)
@[simp] theorem h49_3_wp {P : Program} {F : PF P} {Q : EX → List Value → World → Prop} {env : List Value} {w : World} : h49_3.wp F Q env w = HC.wp F (.seq (.reg (.chk none (.idxL 1) (.cons (.inp 4) (.cons (.inp 6) .nil)) (.eff (.ld false 1) (.cons (.op (.idxL 1) (.cons (.inp 4) (.cons (.inp 6) .nil))) .nil) (.done [(3, (.bv 0))] none)))) h49_2) Q env w := rfl
def h49_4 : HC := (.seq (.block 1 h49_3) h49_1)
@[simp] theorem h49_4_wp {P : Program} {F : PF P} {Q : EX → List Value → World → Prop} {env : List Value} {w : World} : h49_4.wp F Q env w = HC.wp F (.seq (.block 1 h49_3) h49_1) Q env w := rfl
def h49_5 : HC := (.seq (.br (.chk none (.bin .lss) (.cons (.inp 6) (.cons (.inp 5) .nil)) (.done [] (some (.op (.bin .lss) (.cons (.inp 6) (.cons (.inp 5) .nil)))))) .skip (.exit 0)) h49_4)
@[simp] theorem h49_5_wp {P : Program} {F : PF P} {Q : EX → List Value → World → Prop} {env : List Value} {w : World} : h49_5.wp F Q env w = HC.wp F (.seq (.br (.chk none (.bin .lss) (.cons (.inp 6) (.cons (.inp 5) .nil)) (.done [] (some (.op (.bin .lss) (.cons (.inp 6) (.cons (.inp 5) .nil)))))) .skip (.exit 0)) h49_4) Q env w := rfl
def h49_6 : HC := (.loop h49_5)
@[simp] theorem h49_6_wp {P : Program} {F : PF P} {Q : EX → List Value → World → Prop} {env : List Value} {w : World} : h49_6.wp F Q env w = HC.wp F (.loop h49_5) Q env w := rfl
def h49_7 : HC := (.seq (.block 0 h49_6) h49_0)
@[simp] theorem h49_7_wp {P : Program} {F : PF P} {Q : EX → List Value → World → Prop} {env : List Value} {w : World} : h49_7.wp F Q env w = HC.wp F (.seq (.block 0 h49_6) h49_0) Q env w := rfl
def h49_8 : HC := (.seq (.reg (.chk none .lenL (.cons (.inp 0) .nil) (.done [(4, (.inp 0)), (5, (.op .lenL (.cons (.inp 0) .nil))), (6, (.cst (.int .i64 0)))] none))) h49_7)
@[simp] theorem h49_8_wp {P : Program} {F : PF P} {Q : EX → List Value → World → Prop} {env : List Value} {w : World} : h49_8.wp F Q env w = HC.wp F (.seq (.reg (.chk none .lenL (.cons (.inp 0) .nil) (.done [(4, (.inp 0)), (5, (.op .lenL (.cons (.inp 0) .nil))), (6, (.cst (.int .i64 0)))] none))) h49_7) Q env w := rfl
def h49_9 : HC := (.seq (.reg (.done [(2, (.cst (.slice none 0 0)))] none)) h49_8)
@[simp] theorem h49_9_wp {P : Program} {F : PF P} {Q : EX → List Value → World → Prop} {env : List Value} {w : World} : h49_9.wp F Q env w = HC.wp F (.seq (.reg (.done [(2, (.cst (.slice none 0 0)))] none)) h49_8) Q env w := rfl
def l49 : Lifted := ⟨[0, 2, 3, 5, 6, 7, 8], 18, [.slot 1], (.seq (.reg (.done [(1, (.cst (.string ⟨#[]⟩)))] none)) h49_9)⟩
theorem l49_ok : liftFn F4 49 400 = some l49 := by kernel_rfl


theorem nonascii_spec (n : Nat) (bs : List UInt8) (v : Value) (w0 w : World) (A : Asn) (hl : bs.length ≤ 16777216) (hu : okU n) (h128 : 128 ≤ n) (hbad : n < 2097152) (s : St w0 (A * own 5 1 v bs.length (bytesV bs)) w) :
    CallW Try.prog 94 [v, .int .i32 n] (fun r w' => St w0 (A * own 5 1 r (bs.length + (encU n).length) (bytesV (bs ++ encU n))) w') w := by
  have hn : n ≤ 1114111 ∧ ¬ (55296 ≤ n ∧ n < 57344) := by unfold okU at hu; omega
  have hlen : (encU n).length = (encN n).length := by simp [encU]
  rw [bytesV_app, encV n hu, hlen]
  refine callW_of_lift l94_ok (by simp [l94]) ?_
  simp [l94]
  try simp (disch := omega) only [wrapu32]
  refine cndI (fun h1 => ?_) (fun h1 => ?_)
  · simp at h1
    have e : encN n = [192 + n / 64, 128 + n % 64] := by unfold encN; rw [if_neg (by omega), if_neg (by omega), if_pos (by omega)]
    rw [e]
    simp
    try simp (disch := omega) only [fd6, and63, wrapu8, or192, or128]
    refine eff_bsl2 s rfl rfl ?_
    intro b w1 s1
    simp
    refine eff_app (n := bs.length) (m := 2) (news := [.int .u8 (192 + n / 64), .int .u8 (128 + n % 64)]) s1.swap rfl s1.cells_look (by simp [Value.oneCell']) (by decide) rfl (by unfold maxLen; omega) (by omega) ?_
    intro v' w2 s2
    simp
    exact s2.swap.drop
  simp at h1
  simp
  refine cndI (fun h2 => ?_) (fun h2 => ?_)
  · simp at h2
    simp [h2]
    have e : encN n = [224 + n / 4096, 128 + n / 64 % 64, 128 + n % 64] := by unfold encN; rw [if_neg (by omega), if_neg (by omega), if_neg (by omega), if_pos (by omega)]
    rw [e]
    simp
    try simp (disch := omega) only [fd12, fd6, and63, wrapu8, or224, or128]
    refine eff_bsl3 s rfl rfl rfl ?_
    intro b w1 s1
    simp
    refine eff_app (n := bs.length) (m := 3) (news := [.int .u8 (224 + n / 4096), .int .u8 (128 + n / 64 % 64), .int .u8 (128 + n % 64)]) s1.swap rfl s1.cells_look (by simp [Value.oneCell']) (by decide) rfl (by unfold maxLen; omega) (by omega) ?_
    intro v' w2 s2
    simp
    exact s2.swap.drop
  simp at h2
  have h2' : ¬ (n : Int) < 55296 := by omega
  have h57 : (57343 : Int) < n := by omega
  simp [h57]
  refine cndI (fun h3 => ?_) (fun h3 => ?_)
  · simp at h3
    have e : encN n = [224 + n / 4096, 128 + n / 64 % 64, 128 + n % 64] := by unfold encN; rw [if_neg (by omega), if_neg (by omega), if_neg (by omega), if_pos (by omega)]
    rw [e]
    simp
    try simp (disch := omega) only [fd12, fd6, and63, wrapu8, or224, or128]
    refine eff_bsl3 s rfl rfl rfl ?_
    intro b w1 s1
    simp
    refine eff_app (n := bs.length) (m := 3) (news := [.int .u8 (224 + n / 4096), .int .u8 (128 + n / 64 % 64), .int .u8 (128 + n % 64)]) s1.swap rfl s1.cells_look (by simp [Value.oneCell']) (by decide) rfl (by unfold maxLen; omega) (by omega) ?_
    intro v' w2 s2
    simp
    exact s2.swap.drop
  simp at h3
  have h4 : (65535 : Int) < n := by omega
  have h5 : (n : Int) ≤ 1114111 := by omega
  have e : encN n = [240 + n / 262144, 128 + n / 4096 % 64, 128 + n / 64 % 64, 128 + n % 64] := by unfold encN; rw [if_neg (by omega), if_neg (by omega), if_neg (by omega), if_neg (by omega)]
  rw [e]
  simp [h4, h5]
  try simp (disch := omega) only [fd18, fd12, fd6, and63, wrapu8, or240, or128]
  refine eff_bsl4 s rfl rfl rfl rfl ?_
  intro b w1 s1
  simp
  refine eff_app (n := bs.length) (m := 4) (news := [.int .u8 (240 + n / 262144), .int .u8 (128 + n / 4096 % 64), .int .u8 (128 + n / 64 % 64), .int .u8 (128 + n % 64)]) s1.swap rfl s1.cells_look (by simp [Value.oneCell']) (by decide) rfl (by unfold maxLen; omega) (by omega) ?_
  intro v' w2 s2
  simp
  exact s2.swap.drop
theorem apprune_spec (n : Nat) (bs : List UInt8) (v : Value) (w0 w : World) (A : Asn) (hl : bs.length ≤ 16777216) (hu : okU n) (hbad : n < 2097152) (s : St w0 (A * own 5 1 v bs.length (bytesV bs)) w) :
    CallW Try.prog 88 [v, .int .i32 n] (fun r w' => St w0 (A * own 5 1 r (bs.length + (encU n).length) (bytesV (bs ++ encU n))) w') w := by
  refine callW_of_lift l88_ok (by simp [l88]) ?_
  simp [l88]
  try simp (disch := omega) only [wrapu32]
  refine cndI (fun h1 => ?_) (fun h1 => ?_)
  · simp at h1
    have e : encN n = [n] := by unfold encN; rw [if_neg (by omega), if_pos (by omega)]
    have hlen : (encU n).length = 1 := by simp [encU, e]
    rw [bytesV_app, encV n hu, hlen, e]
    simp
    try simp (disch := omega) only [wrapu8]
    refine eff_bsl1 s rfl ?_
    intro b w1 s1
    simp
    refine eff_app (n := bs.length) (m := 1) (news := [.int .u8 n]) s1.swap rfl s1.cells_look (by simp [Value.oneCell']) (by decide) rfl (by unfold maxLen; omega) (by omega) ?_
    intro v' w2 s2
    simp
    exact s2.swap.drop
  simp at h1
  simp
  refine eff_call ((nonascii_spec n bs v w0 w A hl hu (by omega) hbad s).mono ?_)
  intro r w2 s2
  simp
  exact s2
theorem put_spec (n : Nat) (bs : List UInt8) (v : Value) (w0 w : World) (A : Asn) (hl : bs.length ≤ 16777216) (hu : okU n) (s : St w0 (A * own 5 1 v bs.length (bytesV bs)) w) :
    CallW Try.prog 77 [v, .int .i32 n] (fun r w' => St w0 (A * own 5 1 r (bs.length + (encU n).length) (bytesV (bs ++ encU n))) w') w := by
  refine callW_of_lift l77_ok (by simp [l77]) ?_
  simp [l77]
  refine cndI (fun h1 => ?_) (fun h1 => ?_)
  · simp at h1
    have hn : n < 2097408 := by unfold okU at hu; omega
    have e : encN n = [n - 2097152] := by unfold encN; rw [if_pos (by omega)]
    have hlen : (encU n).length = 1 := by simp [encU, e]
    have hsub : ((n - 2097152 : Nat) : Int) = (n : Int) - 2097152 := by omega
    rw [bytesV_app, encV n hu, hlen, e]
    simp
    try simp (disch := omega) only [wrapu8, wrap32]
    refine eff_bsl1 s rfl ?_
    intro b w1 s1
    simp
    refine eff_app (n := bs.length) (m := 1) (news := [.int .u8 (n - 2097152)]) s1.swap rfl s1.cells_look (by simp [Value.oneCell']) (by decide) rfl (by unfold maxLen; omega) (by omega) ?_
    intro v' w2 s2
    simp
    rw [hsub]
    exact s2.swap.drop
  simp at h1
  simp
  refine eff_call ((apprune_spec n bs v w0 w A hl hu (by omega) s).mono ?_)
  intro r w2 s2
  simp
  exact s2
theorem text_spec (us : List Int) (v : Value) (w0 w : World) (A : Asn) (hl : us.length ≤ 4194304) (hok : ∀ u ∈ us, okU u) (s : St w0 (A * own 21 1 v us.length (ints32 us)) w) :
    CallW Try.prog 49 [v] (fun r w' => r = .string (mk (encAll us)) ∧ St w0 (A * own 21 1 v us.length (ints32 us)) w') w := by
  obtain ⟨a1, c1, rfl, hc1, hn1⟩ := s.own_val
  refine callW_of_lift l49_ok (by simp [l49]) ?_
  simp [l49]
  refine loopI (fun env w' => ∃ (i : Nat) (v x : Value), env = [.slice a1 us.length c1, .string (mk []), v, x, .slice a1 us.length c1, .int .i64 us.length, .int .i64 i] ∧ i ≤ us.length ∧
      St w0 (A * own 21 1 (.slice a1 us.length c1) us.length (ints32 us) * own 5 1 v (encAll (us.take i)).length (bytesV (encAll (us.take i)))) w')
    (fun env _ => us.length - slotN env 6) ⟨0, _, _, rfl, by omega, by simpa [encAll, bytesV] using s.own_nil 5 1⟩ ?_
  rintro LQ env w' ⟨i, v, x, rfl, hi, s'⟩ hN hE hR
  simp
  refine cndI (fun h => ?_) (fun h => ?_)
  · simp at h
    obtain ⟨g1, c1', e1, _, hcell⟩ := s'.swap.own_at (by omega)
    cases e1
    have hui := hcell i (.int .i32 us[i]) (by simp [ints32, h])
    simp
    refine ⟨h, eff_ldc hui ?_⟩
    simp
    have hub := hok us[i] (List.getElem_mem h)
    obtain ⟨m, hm⟩ := Int.eq_ofNat_of_zero_le (show 0 ≤ us[i] by unfold okU at hub; omega)
    rw [hm] at hub
    rw [hm]
    have hfl := encAll_len (us.take i)
    rw [List.length_take] at hfl
    refine eff_call ((put_spec m _ v w0 _ _ (by omega) hub s').mono ?_)
    intro r w2 s2
    simp
    try simp (disch := omega) only [wrap64]
    refine hN _ _ ⟨i + 1, r, _, by simp; rfl, h, ?_⟩ (by simp [slotN]; omega)
    rw [List.take_succ_eq_append_getElem h, encAll_snoc, hm, List.length_append]
    exact s2
  · simp at h
    simp
    refine hE _ _ _ ?_
    simp
    have : i = us.length := by omega
    subst this
    rw [List.take_length] at s'
    refine eff_b2s s' ?_
    simp
    exact s'.drop
end Go.HL.Nm
