/-
  Texts of units: bytes and Text of bazaarref04. Conditions: so many units at most; each is a rune or a bad byte.
-/
import Derived.Test.YtliofpihaemglaaNmI
namespace Go.HL.Nm
open Go.HL Go.Proofs
set_option maxRecDepth 4000
set_option linter.unusedSimpArgs false
set_option linter.unusedVariables false
/-- a rune or a bad byte -/
def okU (u : Int) : Prop := (0 ≤ u ∧ u < 55296) ∨ (57344 ≤ u ∧ u ≤ 1114111) ∨ (2097152 ≤ u ∧ u < 2097408)
/-- the bytes of a unit, as numbers -/
def encN (n : Nat) : List Nat :=
  if 2097152 ≤ n then [n - 2097152]
  else if n < 128 then [n]
  else if n < 2048 then [192 + n / 64, 128 + n % 64]
  else if n < 65536 then [224 + n / 4096, 128 + n / 64 % 64, 128 + n % 64]
  else [240 + n / 262144, 128 + n / 4096 % 64, 128 + n / 64 % 64, 128 + n % 64]
def encU (u : Int) : List UInt8 := (encN u.toNat).map UInt8.ofNat
def encAll (us : List Int) : List UInt8 := us.flatMap encU
theorem encN_len (n : Nat) : (encN n).length ≤ 4 := by unfold encN; (repeat' split) <;> simp
theorem encU_len (u : Int) : (encU u).length ≤ 4 := by simp only [encU, List.length_map]; exact encN_len _
theorem encAll_len : ∀ us : List Int, (encAll us).length ≤ 4 * us.length
  | [] => by simp [encAll]
  | u :: us => by
    have := encAll_len us
    have h1 := encU_len u
    simp only [encAll, List.flatMap_cons, List.length_append, List.length_cons] at this ⊢
    omega
theorem encAll_snoc (us : List Int) (u : Int) : encAll (us ++ [u]) = encAll us ++ encU u := by simp [encAll]
theorem bytesV_one (l : List UInt8) : ∀ u ∈ bytesV l, u.oneCell' = true := by intro u h; simp only [bytesV, List.mem_map] at h; obtain ⟨x, _, rfl⟩ := h; rfl
theorem bytesV_app (a b : List UInt8) : bytesV (a ++ b) = bytesV a ++ bytesV b := by simp [bytesV]
theorem bytesV_len (a : List UInt8) : (bytesV a).length = a.length := by simp [bytesV]
/-- the values of bytes that are numbers -/
theorem bytesV_nat (l : List Nat) (h : ∀ n ∈ l, n < 256) : bytesV (l.map UInt8.ofNat) = l.map fun n => .int .u8 (n : Int) := by
  simp only [bytesV, List.map_map]
  refine List.map_congr_left fun n hn => ?_
  have := h n hn
  simp
  omega
theorem encN_lt (n : Nat) (h : okU n) : ∀ b ∈ encN n, b < 256 := by
  have hn : n ≤ 1114111 ∨ (2097152 ≤ n ∧ n < 2097408) := by unfold okU at h; omega
  unfold encN
  repeat' split
  all_goals (intro b hb; simp at hb; omega)
theorem encV (n : Nat) (h : okU n) : bytesV (encU n) = (encN n).map fun b => .int .u8 (b : Int) := by
  have := bytesV_nat (encN n) (encN_lt n h)
  simpa [encU] using this
-- bazaar/bazaarref04.bytes
def h96_0 : HC := (.seq (.reg (.chk none (.bin .quo) (.cons (.inp 0) (.cons (.cst (.int .i64 262144)) .nil)) (.chk none (.bin .add) (.cons (.cst (.int .i64 240)) (.cons (.op (.bin .quo) (.cons (.inp 0) (.cons (.cst (.int .i64 262144)) .nil))) .nil)) (.chk none (.convI .u8) (.cons (.op (.bin .add) (.cons (.cst (.int .i64 240)) (.cons (.op (.bin .quo) (.cons (.inp 0) (.cons (.cst (.int .i64 262144)) .nil))) .nil))) .nil) (.chk none (.bin .quo) (.cons (.inp 0) (.cons (.cst (.int .i64 4096)) .nil)) (.chk none (.bin .rem) (.cons (.op (.bin .quo) (.cons (.inp 0) (.cons (.cst (.int .i64 4096)) .nil))) (.cons (.cst (.int .i64 64)) .nil)) (.chk none (.bin .add) (.cons (.cst (.int .i64 128)) (.cons (.op (.bin .rem) (.cons (.op (.bin .quo) (.cons (.inp 0) (.cons (.cst (.int .i64 4096)) .nil))) (.cons (.cst (.int .i64 64)) .nil))) .nil)) (.chk none (.convI .u8) (.cons (.op (.bin .add) (.cons (.cst (.int .i64 128)) (.cons (.op (.bin .rem) (.cons (.op (.bin .quo) (.cons (.inp 0) (.cons (.cst (.int .i64 4096)) .nil))) (.cons (.cst (.int .i64 64)) .nil))) .nil))) .nil) (.chk none (.bin .quo) (.cons (.inp 0) (.cons (.cst (.int .i64 64)) .nil)) (.chk none (.bin .rem) (.cons (.op (.bin .quo) (.cons (.inp 0) (.cons (.cst (.int .i64 64)) .nil))) (.cons (.cst (.int .i64 64)) .nil)) (.chk none (.bin .add) (.cons (.cst (.int .i64 128)) (.cons (.op (.bin .rem) (.cons (.op (.bin .quo) (.cons (.inp 0) (.cons (.cst (.int .i64 64)) .nil))) (.cons (.cst (.int .i64 64)) .nil))) .nil)) (.chk none (.convI .u8) (.cons (.op (.bin .add) (.cons (.cst (.int .i64 128)) (.cons (.op (.bin .rem) (.cons (.op (.bin .quo) (.cons (.inp 0) (.cons (.cst (.int .i64 64)) .nil))) (.cons (.cst (.int .i64 64)) .nil))) .nil))) .nil) (.chk none (.bin .rem) (.cons (.inp 0) (.cons (.cst (.int .i64 64)) .nil)) (.chk none (.bin .add) (.cons (.cst (.int .i64 128)) (.cons (.op (.bin .rem) (.cons (.inp 0) (.cons (.cst (.int .i64 64)) .nil))) .nil)) (.chk none (.convI .u8) (.cons (.op (.bin .add) (.cons (.cst (.int .i64 128)) (.cons (.op (.bin .rem) (.cons (.inp 0) (.cons (.cst (.int .i64 64)) .nil))) .nil))) .nil) (.eff (.bsl 5 4 1 #[(.int .u8 0)] [0, 1, 2, 3]) (.cons (.op (.convI .u8) (.cons (.op (.bin .add) (.cons (.cst (.int .i64 240)) (.cons (.op (.bin .quo) (.cons (.inp 0) (.cons (.cst (.int .i64 262144)) .nil))) .nil))) .nil)) (.cons (.op (.convI .u8) (.cons (.op (.bin .add) (.cons (.cst (.int .i64 128)) (.cons (.op (.bin .rem) (.cons (.op (.bin .quo) (.cons (.inp 0) (.cons (.cst (.int .i64 4096)) .nil))) (.cons (.cst (.int .i64 64)) .nil))) .nil))) .nil)) (.cons (.op (.convI .u8) (.cons (.op (.bin .add) (.cons (.cst (.int .i64 128)) (.cons (.op (.bin .rem) (.cons (.op (.bin .quo) (.cons (.inp 0) (.cons (.cst (.int .i64 64)) .nil))) (.cons (.cst (.int .i64 64)) .nil))) .nil))) .nil)) (.cons (.op (.convI .u8) (.cons (.op (.bin .add) (.cons (.cst (.int .i64 128)) (.cons (.op (.bin .rem) (.cons (.inp 0) (.cons (.cst (.int .i64 64)) .nil))) .nil))) .nil)) .nil)))) (.done [(1, (.bv 0))] none))))))))))))))))) .ret)
@[simp] theorem h96_0_wp {P : Program} {F : PF P} {Q : EX → List Value → World → Prop} {env : List Value} {w : World} : h96_0.wp F Q env w = HC.wp F (.seq (.reg (.chk none (.bin .quo) (.cons (.inp 0) (.cons (.cst (.int .i64 262144)) .nil)) (.chk none (.bin .add) (.cons (.cst (.int .i64 240)) (.cons (.op (.bin .quo) (.cons (.inp 0) (.cons (.cst (.int .i64 262144)) .nil))) .nil)) (.chk none (.convI .u8) (.cons (.op (.bin .add) (.cons (.cst (.int .i64 240)) (.cons (.op (.bin .quo) (.cons (.inp 0) (.cons (.cst (.int .i64 262144)) .nil))) .nil))) .nil) (.chk none (.bin .quo) (.cons (.inp 0) (.cons (.cst (.int .i64 4096)) .nil)) (.chk none (.bin .rem) (.cons (.op (.bin .quo) (.cons (.inp 0) (.cons (.cst (.int .i64 4096)) .nil))) (.cons (.cst (.int .i64 64)) .nil)) (.chk none (.bin .add) (.cons (.cst (.int .i64 128)) (.cons (.op (.bin .rem) (.cons (.op (.bin .quo) (.cons (.inp 0) (.cons (.cst (.int .i64 4096)) .nil))) (.cons (.cst (.int .i64 64)) .nil))) .nil)) (.chk none (.convI .u8) (.cons (.op (.bin .add) (.cons (.cst (.int .i64 128)) (.cons (.op (.bin .rem) (.cons (.op (.bin .quo) (.cons (.inp 0) (.cons (.cst (.int .i64 4096)) .nil))) (.cons (.cst (.int .i64 64)) .nil))) .nil))) .nil) (.chk none (.bin .quo) (.cons (.inp 0) (.cons (.cst (.int .i64 64)) .nil)) (.chk none (.bin .rem) (.cons (.op (.bin .quo) (.cons (.inp 0) (.cons (.cst (.int .i64 64)) .nil))) (.cons (.cst (.int .i64 64)) .nil)) (.chk none (.bin .add) (.cons (.cst (.int .i64 128)) (.cons (.op (.bin .rem) (.cons (.op (.bin .quo) (.cons (.inp 0) (.cons (.cst (.int .i64 64)) .nil))) (.cons (.cst (.int .i64 64)) .nil))) .nil)) (.chk none (.convI .u8) (.cons (.op (.bin .add) (.cons (.cst (.int .i64 128)) (.cons (.op (.bin .rem) (.cons (.op (.bin .quo) (.cons (.inp 0) (.cons (.cst (.int .i64 64)) .nil))) (.cons (.cst (.int .i64 64)) .nil))) .nil))) .nil) (.chk none (.bin .rem) (.cons (.inp 0) (.cons (.cst (.int .i64 64)) .nil)) (.chk none (.bin .add) (.cons (.cst (.int .i64 128)) (.cons (.op (.bin .rem) (.cons (.inp 0) (.cons (.cst (.int .i64 64)) .nil))) .nil)) (.chk none (.convI .u8) (.cons (.op (.bin .add) (.cons (.cst (.int .i64 128)) (.cons (.op (.bin .rem) (.cons (.inp 0) (.cons (.cst (.int .i64 64)) .nil))) .nil))) .nil) (.eff (.bsl 5 4 1 #[(.int .u8 0)] [0, 1, 2, 3]) (.cons (.op (.convI .u8) (.cons (.op (.bin .add) (.cons (.cst (.int .i64 240)) (.cons (.op (.bin .quo) (.cons (.inp 0) (.cons (.cst (.int .i64 262144)) .nil))) .nil))) .nil)) (.cons (.op (.convI .u8) (.cons (.op (.bin .add) (.cons (.cst (.int .i64 128)) (.cons (.op (.bin .rem) (.cons (.op (.bin .quo) (.cons (.inp 0) (.cons (.cst (.int .i64 4096)) .nil))) (.cons (.cst (.int .i64 64)) .nil))) .nil))) .nil)) (.cons (.op (.convI .u8) (.cons (.op (.bin .add) (.cons (.cst (.int .i64 128)) (.cons (.op (.bin .rem) (.cons (.op (.bin .quo) (.cons (.inp 0) (.cons (.cst (.int .i64 64)) .nil))) (.cons (.cst (.int .i64 64)) .nil))) .nil))) .nil)) (.cons (.op (.convI .u8) (.cons (.op (.bin .add) (.cons (.cst (.int .i64 128)) (.cons (.op (.bin .rem) (.cons (.inp 0) (.cons (.cst (.int .i64 64)) .nil))) .nil))) .nil)) .nil)))) (.done [(1, (.bv 0))] none))))))))))))))))) .ret) Q env w := rfl
def h96_1 : HC := (.seq (.reg (.chk none (.bin .sub) (.cons (.inp 0) (.cons (.cst (.int .i64 2097152)) .nil)) (.chk none (.convI .u8) (.cons (.op (.bin .sub) (.cons (.inp 0) (.cons (.cst (.int .i64 2097152)) .nil))) .nil) (.eff (.bsl 5 1 1 #[(.int .u8 0)] [0]) (.cons (.op (.convI .u8) (.cons (.op (.bin .sub) (.cons (.inp 0) (.cons (.cst (.int .i64 2097152)) .nil))) .nil)) .nil) (.done [(1, (.bv 0))] none))))) .ret)
@[simp] theorem h96_1_wp {P : Program} {F : PF P} {Q : EX → List Value → World → Prop} {env : List Value} {w : World} : h96_1.wp F Q env w = HC.wp F (.seq (.reg (.chk none (.bin .sub) (.cons (.inp 0) (.cons (.cst (.int .i64 2097152)) .nil)) (.chk none (.convI .u8) (.cons (.op (.bin .sub) (.cons (.inp 0) (.cons (.cst (.int .i64 2097152)) .nil))) .nil) (.eff (.bsl 5 1 1 #[(.int .u8 0)] [0]) (.cons (.op (.convI .u8) (.cons (.op (.bin .sub) (.cons (.inp 0) (.cons (.cst (.int .i64 2097152)) .nil))) .nil)) .nil) (.done [(1, (.bv 0))] none))))) .ret) Q env w := rfl
def h96_2 : HC := (.seq (.reg (.chk none (.convI .u8) (.cons (.inp 0) .nil) (.eff (.bsl 5 1 1 #[(.int .u8 0)] [0]) (.cons (.op (.convI .u8) (.cons (.inp 0) .nil)) .nil) (.done [(1, (.bv 0))] none)))) .ret)
@[simp] theorem h96_2_wp {P : Program} {F : PF P} {Q : EX → List Value → World → Prop} {env : List Value} {w : World} : h96_2.wp F Q env w = HC.wp F (.seq (.reg (.chk none (.convI .u8) (.cons (.inp 0) .nil) (.eff (.bsl 5 1 1 #[(.int .u8 0)] [0]) (.cons (.op (.convI .u8) (.cons (.inp 0) .nil)) .nil) (.done [(1, (.bv 0))] none)))) .ret) Q env w := rfl
def h96_3 : HC := (.seq (.reg (.chk none (.bin .quo) (.cons (.inp 0) (.cons (.cst (.int .i64 64)) .nil)) (.chk none (.bin .add) (.cons (.cst (.int .i64 192)) (.cons (.op (.bin .quo) (.cons (.inp 0) (.cons (.cst (.int .i64 64)) .nil))) .nil)) (.chk none (.convI .u8) (.cons (.op (.bin .add) (.cons (.cst (.int .i64 192)) (.cons (.op (.bin .quo) (.cons (.inp 0) (.cons (.cst (.int .i64 64)) .nil))) .nil))) .nil) (.chk none (.bin .rem) (.cons (.inp 0) (.cons (.cst (.int .i64 64)) .nil)) (.chk none (.bin .add) (.cons (.cst (.int .i64 128)) (.cons (.op (.bin .rem) (.cons (.inp 0) (.cons (.cst (.int .i64 64)) .nil))) .nil)) (.chk none (.convI .u8) (.cons (.op (.bin .add) (.cons (.cst (.int .i64 128)) (.cons (.op (.bin .rem) (.cons (.inp 0) (.cons (.cst (.int .i64 64)) .nil))) .nil))) .nil) (.eff (.bsl 5 2 1 #[(.int .u8 0)] [0, 1]) (.cons (.op (.convI .u8) (.cons (.op (.bin .add) (.cons (.cst (.int .i64 192)) (.cons (.op (.bin .quo) (.cons (.inp 0) (.cons (.cst (.int .i64 64)) .nil))) .nil))) .nil)) (.cons (.op (.convI .u8) (.cons (.op (.bin .add) (.cons (.cst (.int .i64 128)) (.cons (.op (.bin .rem) (.cons (.inp 0) (.cons (.cst (.int .i64 64)) .nil))) .nil))) .nil)) .nil)) (.done [(1, (.bv 0))] none))))))))) .ret)
@[simp] theorem h96_3_wp {P : Program} {F : PF P} {Q : EX → List Value → World → Prop} {env : List Value} {w : World} : h96_3.wp F Q env w = HC.wp F (.seq (.reg (.chk none (.bin .quo) (.cons (.inp 0) (.cons (.cst (.int .i64 64)) .nil)) (.chk none (.bin .add) (.cons (.cst (.int .i64 192)) (.cons (.op (.bin .quo) (.cons (.inp 0) (.cons (.cst (.int .i64 64)) .nil))) .nil)) (.chk none (.convI .u8) (.cons (.op (.bin .add) (.cons (.cst (.int .i64 192)) (.cons (.op (.bin .quo) (.cons (.inp 0) (.cons (.cst (.int .i64 64)) .nil))) .nil))) .nil) (.chk none (.bin .rem) (.cons (.inp 0) (.cons (.cst (.int .i64 64)) .nil)) (.chk none (.bin .add) (.cons (.cst (.int .i64 128)) (.cons (.op (.bin .rem) (.cons (.inp 0) (.cons (.cst (.int .i64 64)) .nil))) .nil)) (.chk none (.convI .u8) (.cons (.op (.bin .add) (.cons (.cst (.int .i64 128)) (.cons (.op (.bin .rem) (.cons (.inp 0) (.cons (.cst (.int .i64 64)) .nil))) .nil))) .nil) (.eff (.bsl 5 2 1 #[(.int .u8 0)] [0, 1]) (.cons (.op (.convI .u8) (.cons (.op (.bin .add) (.cons (.cst (.int .i64 192)) (.cons (.op (.bin .quo) (.cons (.inp 0) (.cons (.cst (.int .i64 64)) .nil))) .nil))) .nil)) (.cons (.op (.convI .u8) (.cons (.op (.bin .add) (.cons (.cst (.int .i64 128)) (.cons (.op (.bin .rem) (.cons (.inp 0) (.cons (.cst (.int .i64 64)) .nil))) .nil))) .nil)) .nil)) (.done [(1, (.bv 0))] none))))))))) .ret) Q env w := rfl
def h96_4 : HC := (.seq (.reg (.chk none (.bin .quo) (.cons (.inp 0) (.cons (.cst (.int .i64 4096)) .nil)) (.chk none (.bin .add) (.cons (.cst (.int .i64 224)) (.cons (.op (.bin .quo) (.cons (.inp 0) (.cons (.cst (.int .i64 4096)) .nil))) .nil)) (.chk none (.convI .u8) (.cons (.op (.bin .add) (.cons (.cst (.int .i64 224)) (.cons (.op (.bin .quo) (.cons (.inp 0) (.cons (.cst (.int .i64 4096)) .nil))) .nil))) .nil) (.chk none (.bin .quo) (.cons (.inp 0) (.cons (.cst (.int .i64 64)) .nil)) (.chk none (.bin .rem) (.cons (.op (.bin .quo) (.cons (.inp 0) (.cons (.cst (.int .i64 64)) .nil))) (.cons (.cst (.int .i64 64)) .nil)) (.chk none (.bin .add) (.cons (.cst (.int .i64 128)) (.cons (.op (.bin .rem) (.cons (.op (.bin .quo) (.cons (.inp 0) (.cons (.cst (.int .i64 64)) .nil))) (.cons (.cst (.int .i64 64)) .nil))) .nil)) (.chk none (.convI .u8) (.cons (.op (.bin .add) (.cons (.cst (.int .i64 128)) (.cons (.op (.bin .rem) (.cons (.op (.bin .quo) (.cons (.inp 0) (.cons (.cst (.int .i64 64)) .nil))) (.cons (.cst (.int .i64 64)) .nil))) .nil))) .nil) (.chk none (.bin .rem) (.cons (.inp 0) (.cons (.cst (.int .i64 64)) .nil)) (.chk none (.bin .add) (.cons (.cst (.int .i64 128)) (.cons (.op (.bin .rem) (.cons (.inp 0) (.cons (.cst (.int .i64 64)) .nil))) .nil)) (.chk none (.convI .u8) (.cons (.op (.bin .add) (.cons (.cst (.int .i64 128)) (.cons (.op (.bin .rem) (.cons (.inp 0) (.cons (.cst (.int .i64 64)) .nil))) .nil))) .nil) (.eff (.bsl 5 3 1 #[(.int .u8 0)] [0, 1, 2]) (.cons (.op (.convI .u8) (.cons (.op (.bin .add) (.cons (.cst (.int .i64 224)) (.cons (.op (.bin .quo) (.cons (.inp 0) (.cons (.cst (.int .i64 4096)) .nil))) .nil))) .nil)) (.cons (.op (.convI .u8) (.cons (.op (.bin .add) (.cons (.cst (.int .i64 128)) (.cons (.op (.bin .rem) (.cons (.op (.bin .quo) (.cons (.inp 0) (.cons (.cst (.int .i64 64)) .nil))) (.cons (.cst (.int .i64 64)) .nil))) .nil))) .nil)) (.cons (.op (.convI .u8) (.cons (.op (.bin .add) (.cons (.cst (.int .i64 128)) (.cons (.op (.bin .rem) (.cons (.inp 0) (.cons (.cst (.int .i64 64)) .nil))) .nil))) .nil)) .nil))) (.done [(1, (.bv 0))] none))))))))))))) .ret)
@[simp] theorem h96_4_wp {P : Program} {F : PF P} {Q : EX → List Value → World → Prop} {env : List Value} {w : World} : h96_4.wp F Q env w = HC.wp F (.seq (.reg (.chk none (.bin .quo) (.cons (.inp 0) (.cons (.cst (.int .i64 4096)) .nil)) (.chk none (.bin .add) (.cons (.cst (.int .i64 224)) (.cons (.op (.bin .quo) (.cons (.inp 0) (.cons (.cst (.int .i64 4096)) .nil))) .nil)) (.chk none (.convI .u8) (.cons (.op (.bin .add) (.cons (.cst (.int .i64 224)) (.cons (.op (.bin .quo) (.cons (.inp 0) (.cons (.cst (.int .i64 4096)) .nil))) .nil))) .nil) (.chk none (.bin .quo) (.cons (.inp 0) (.cons (.cst (.int .i64 64)) .nil)) (.chk none (.bin .rem) (.cons (.op (.bin .quo) (.cons (.inp 0) (.cons (.cst (.int .i64 64)) .nil))) (.cons (.cst (.int .i64 64)) .nil)) (.chk none (.bin .add) (.cons (.cst (.int .i64 128)) (.cons (.op (.bin .rem) (.cons (.op (.bin .quo) (.cons (.inp 0) (.cons (.cst (.int .i64 64)) .nil))) (.cons (.cst (.int .i64 64)) .nil))) .nil)) (.chk none (.convI .u8) (.cons (.op (.bin .add) (.cons (.cst (.int .i64 128)) (.cons (.op (.bin .rem) (.cons (.op (.bin .quo) (.cons (.inp 0) (.cons (.cst (.int .i64 64)) .nil))) (.cons (.cst (.int .i64 64)) .nil))) .nil))) .nil) (.chk none (.bin .rem) (.cons (.inp 0) (.cons (.cst (.int .i64 64)) .nil)) (.chk none (.bin .add) (.cons (.cst (.int .i64 128)) (.cons (.op (.bin .rem) (.cons (.inp 0) (.cons (.cst (.int .i64 64)) .nil))) .nil)) (.chk none (.convI .u8) (.cons (.op (.bin .add) (.cons (.cst (.int .i64 128)) (.cons (.op (.bin .rem) (.cons (.inp 0) (.cons (.cst (.int .i64 64)) .nil))) .nil))) .nil) (.eff (.bsl 5 3 1 #[(.int .u8 0)] [0, 1, 2]) (.cons (.op (.convI .u8) (.cons (.op (.bin .add) (.cons (.cst (.int .i64 224)) (.cons (.op (.bin .quo) (.cons (.inp 0) (.cons (.cst (.int .i64 4096)) .nil))) .nil))) .nil)) (.cons (.op (.convI .u8) (.cons (.op (.bin .add) (.cons (.cst (.int .i64 128)) (.cons (.op (.bin .rem) (.cons (.op (.bin .quo) (.cons (.inp 0) (.cons (.cst (.int .i64 64)) .nil))) (.cons (.cst (.int .i64 64)) .nil))) .nil))) .nil)) (.cons (.op (.convI .u8) (.cons (.op (.bin .add) (.cons (.cst (.int .i64 128)) (.cons (.op (.bin .rem) (.cons (.inp 0) (.cons (.cst (.int .i64 64)) .nil))) .nil))) .nil)) .nil))) (.done [(1, (.bv 0))] none))))))))))))) .ret) Q env w := rfl
def h96_5 : HC := (.br (.chk none (.bin .lss) (.cons (.inp 0) (.cons (.cst (.int .i64 65536)) .nil)) (.done [] (some (.op (.bin .lss) (.cons (.inp 0) (.cons (.cst (.int .i64 65536)) .nil)))))) h96_4 .skip)
@[simp] theorem h96_5_wp {P : Program} {F : PF P} {Q : EX → List Value → World → Prop} {env : List Value} {w : World} : h96_5.wp F Q env w = HC.wp F (.br (.chk none (.bin .lss) (.cons (.inp 0) (.cons (.cst (.int .i64 65536)) .nil)) (.done [] (some (.op (.bin .lss) (.cons (.inp 0) (.cons (.cst (.int .i64 65536)) .nil)))))) h96_4 .skip) Q env w := rfl
def h96_6 : HC := (.br (.chk none (.bin .lss) (.cons (.inp 0) (.cons (.cst (.int .i64 2048)) .nil)) (.done [] (some (.op (.bin .lss) (.cons (.inp 0) (.cons (.cst (.int .i64 2048)) .nil)))))) h96_3 h96_5)
@[simp] theorem h96_6_wp {P : Program} {F : PF P} {Q : EX → List Value → World → Prop} {env : List Value} {w : World} : h96_6.wp F Q env w = HC.wp F (.br (.chk none (.bin .lss) (.cons (.inp 0) (.cons (.cst (.int .i64 2048)) .nil)) (.done [] (some (.op (.bin .lss) (.cons (.inp 0) (.cons (.cst (.int .i64 2048)) .nil)))))) h96_3 h96_5) Q env w := rfl
def h96_7 : HC := (.br (.chk none (.bin .lss) (.cons (.inp 0) (.cons (.cst (.int .i64 128)) .nil)) (.done [] (some (.op (.bin .lss) (.cons (.inp 0) (.cons (.cst (.int .i64 128)) .nil)))))) h96_2 h96_6)
@[simp] theorem h96_7_wp {P : Program} {F : PF P} {Q : EX → List Value → World → Prop} {env : List Value} {w : World} : h96_7.wp F Q env w = HC.wp F (.br (.chk none (.bin .lss) (.cons (.inp 0) (.cons (.cst (.int .i64 128)) .nil)) (.done [] (some (.op (.bin .lss) (.cons (.inp 0) (.cons (.cst (.int .i64 128)) .nil)))))) h96_2 h96_6) Q env w := rfl
def h96_8 : HC := (.br (.chk none (.bin .geq) (.cons (.inp 0) (.cons (.cst (.int .i64 2097152)) .nil)) (.done [] (some (.op (.bin .geq) (.cons (.inp 0) (.cons (.cst (.int .i64 2097152)) .nil)))))) h96_1 h96_7)
@[simp] theorem h96_8_wp {P : Program} {F : PF P} {Q : EX → List Value → World → Prop} {env : List Value} {w : World} : h96_8.wp F Q env w = HC.wp F (.br (.chk none (.bin .geq) (.cons (.inp 0) (.cons (.cst (.int .i64 2097152)) .nil)) (.done [] (some (.op (.bin .geq) (.cons (.inp 0) (.cons (.cst (.int .i64 2097152)) .nil)))))) h96_1 h96_7) Q env w := rfl
def h96_9 : HC := (.seq (.block 0 h96_8) h96_0)
@[simp] theorem h96_9_wp {P : Program} {F : PF P} {Q : EX → List Value → World → Prop} {env : List Value} {w : World} : h96_9.wp F Q env w = HC.wp F (.seq (.block 0 h96_8) h96_0) Q env w := rfl
def l96 : Lifted := ⟨[0, 2], 64, [.slot 1], (.seq (.reg (.done [(1, (.cst (.slice none 0 0)))] none)) h96_9)⟩
theorem l96_ok : liftFn F4 96 400 = some l96 := by kernel_rfl

-- bazaar/bazaarref04.Text
def h91_0 : HC := (.seq (.reg (.eff (.b2s 102 9) (.cons (.inp 2) .nil) (.done [(1, (.bv 0))] none))) .ret)
@[simp] theorem h91_0_wp {P : Program} {F : PF P} {Q : EX → List Value → World → Prop} {env : List Value} {w : World} : h91_0.wp F Q env w = HC.wp F (.seq (.reg (.eff (.b2s 102 9) (.cons (.inp 2) .nil) (.done [(1, (.bv 0))] none))) .ret) Q env w := rfl
def h91_1 : HC := (.reg (.chk none (.bin .add) (.cons (.inp 3) (.cons (.cst (.int .i64 1)) .nil)) (.done [(3, (.op (.bin .add) (.cons (.inp 3) (.cons (.cst (.int .i64 1)) .nil))))] none)))
@[simp] theorem h91_1_wp {P : Program} {F : PF P} {Q : EX → List Value → World → Prop} {env : List Value} {w : World} : h91_1.wp F Q env w = HC.wp F (.reg (.chk none (.bin .add) (.cons (.inp 3) (.cons (.cst (.int .i64 1)) .nil)) (.done [(3, (.op (.bin .add) (.cons (.inp 3) (.cons (.cst (.int .i64 1)) .nil))))] none))) Q env w := rfl
def h91_2 : HC := (.reg (.chk none (.idxL 1) (.cons (.inp 0) (.cons (.inp 3) .nil)) (.eff (.ld false 1) (.cons (.op (.idxL 1) (.cons (.inp 0) (.cons (.inp 3) .nil))) .nil) (.eff (.call 96) (.cons (.bv 0) .nil) (.eff (.app 102 102 5 1 1 (.int .u8 0)) (.cons (.inp 2) (.cons (.bv 1) .nil)) (.done [(2, (.bv 2))] none))))))
@[simp] theorem h91_2_wp {P : Program} {F : PF P} {Q : EX → List Value → World → Prop} {env : List Value} {w : World} : h91_2.wp F Q env w = HC.wp F (.reg (.chk none (.idxL 1) (.cons (.inp 0) (.cons (.inp 3) .nil)) (.eff (.ld false 1) (.cons (.op (.idxL 1) (.cons (.inp 0) (.cons (.inp 3) .nil))) .nil) (.eff (.call 96) (.cons (.bv 0) .nil) (.eff (.app 102 102 5 1 1 (.int .u8 0)) (.cons (.inp 2) (.cons (.bv 1) .nil)) (.done [(2, (.bv 2))] none)))))) Q env w := rfl
def h91_3 : HC := (.seq (.block 1 h91_2) h91_1)
@[simp] theorem h91_3_wp {P : Program} {F : PF P} {Q : EX → List Value → World → Prop} {env : List Value} {w : World} : h91_3.wp F Q env w = HC.wp F (.seq (.block 1 h91_2) h91_1) Q env w := rfl
def h91_4 : HC := (.seq (.br (.chk none .lenL (.cons (.inp 0) .nil) (.chk none (.bin .lss) (.cons (.inp 3) (.cons (.op .lenL (.cons (.inp 0) .nil)) .nil)) (.done [] (some (.op (.bin .lss) (.cons (.inp 3) (.cons (.op .lenL (.cons (.inp 0) .nil)) .nil))))))) .skip (.exit 0)) h91_3)
@[simp] theorem h91_4_wp {P : Program} {F : PF P} {Q : EX → List Value → World → Prop} {env : List Value} {w : World} : h91_4.wp F Q env w = HC.wp F (.seq (.br (.chk none .lenL (.cons (.inp 0) .nil) (.chk none (.bin .lss) (.cons (.inp 3) (.cons (.op .lenL (.cons (.inp 0) .nil)) .nil)) (.done [] (some (.op (.bin .lss) (.cons (.inp 3) (.cons (.op .lenL (.cons (.inp 0) .nil)) .nil))))))) .skip (.exit 0)) h91_3) Q env w := rfl
def h91_5 : HC := (.loop h91_4)
@[simp] theorem h91_5_wp {P : Program} {F : PF P} {Q : EX → List Value → World → Prop} {env : List Value} {w : World} : h91_5.wp F Q env w = HC.wp F (.loop h91_4) Q env w := rfl
def h91_6 : HC := (.seq (.block 0 h91_5) h91_0)
@[simp] theorem h91_6_wp {P : Program} {F : PF P} {Q : EX → List Value → World → Prop} {env : List Value} {w : World} : h91_6.wp F Q env w = HC.wp F (.seq (.block 0 h91_5) h91_0) Q env w := rfl
def h91_7 : HC := (.seq (.reg (.done [(3, (.cst (.int .i64 0)))] none)) h91_6)
@[simp] theorem h91_7_wp {P : Program} {F : PF P} {Q : EX → List Value → World → Prop} {env : List Value} {w : World} : h91_7.wp F Q env w = HC.wp F (.seq (.reg (.done [(3, (.cst (.int .i64 0)))] none)) h91_6) Q env w := rfl
def h91_8 : HC := (.seq (.reg (.done [(2, (.cst (.slice none 0 0)))] none)) h91_7)
@[simp] theorem h91_8_wp {P : Program} {F : PF P} {Q : EX → List Value → World → Prop} {env : List Value} {w : World} : h91_8.wp F Q env w = HC.wp F (.seq (.reg (.done [(2, (.cst (.slice none 0 0)))] none)) h91_7) Q env w := rfl
def l91 : Lifted := ⟨[0, 2, 3, 4], 20, [.slot 1], (.seq (.reg (.done [(1, (.cst (.string ⟨#[]⟩)))] none)) h91_8)⟩
theorem l91_ok : liftFn F4 91 400 = some l91 := by kernel_rfl


theorem tdiv_nat (n m : Nat) : (n : Int).tdiv (m : Int) = ((n / m : Nat) : Int) := rfl
theorem tmod_nat (n m : Nat) : (n : Int).tmod (m : Int) = ((n % m : Nat) : Int) := rfl
theorem rbytes_spec (n : Nat) (w0 w : World) (A : Asn) (hu : okU n) (s : St w0 A w) :
    CallW Try.prog 96 [.int .i64 n] (fun r w' => ∃ b, r = .slice (some ⟨b, 0, none⟩) (encU n).length (encU n).length ∧ St w0 (A * pt b (.cells (bytesV (encU n)).toArray 5 (0, 0))) w') w := by
  have hn : n ≤ 1114111 ∨ (2097152 ≤ n ∧ n < 2097408) := by unfold okU at hu; omega
  have hlen : (encU n).length = (encN n).length := by simp [encU]
  rw [encV n hu, hlen]
  have tm : ∀ x : Int, 0 ≤ x → x.tmod 64 = x % 64 := fun x h => Int.tmod_eq_emod_of_nonneg h
  refine callW_of_lift l96_ok (by simp [l96]) ?_
  simp [l96]
  refine cndI (fun h1 => ?_) (fun h1 => ?_)
  · simp at h1
    have e : encN n = [n - 2097152] := by unfold encN; rw [if_pos (by omega)]
    rw [e]
    simp
    try simp (disch := omega) only [wrap64, wrapu8]
    refine eff_bsl1 s rfl ?_
    intro b w1 s1
    simp
    have : ((n - 2097152 : Nat) : Int) = (n : Int) - 2097152 := by omega
    simpa [this] using s1
  simp at h1
  simp
  refine cndI (fun h2 => ?_) (fun h2 => ?_)
  · simp at h2
    have e : encN n = [n] := by unfold encN; rw [if_neg (by omega), if_pos (by omega)]
    rw [e]
    simp
    try simp (disch := omega) only [wrap64, wrapu8]
    refine eff_bsl1 s rfl ?_
    intro b w1 s1
    simp
    exact s1
  simp at h2
  simp
  refine cndI (fun h3 => ?_) (fun h3 => ?_)
  · simp at h3
    have e : encN n = [192 + n / 64, 128 + n % 64] := by unfold encN; rw [if_neg (by omega), if_neg (by omega), if_pos (by omega)]
    rw [e]
    simp
    try simp (disch := omega) only [wrap64, wrapu8, tm]
    refine eff_bsl2 s rfl rfl ?_
    intro b w1 s1
    simp
    exact s1
  simp at h3
  simp
  refine cndI (fun h4 => ?_) (fun h4 => ?_)
  · simp at h4
    have e : encN n = [224 + n / 4096, 128 + n / 64 % 64, 128 + n % 64] := by unfold encN; rw [if_neg (by omega), if_neg (by omega), if_neg (by omega), if_pos (by omega)]
    rw [e]
    simp
    try simp (disch := omega) only [wrap64, wrapu8, tm]
    refine eff_bsl3 s rfl rfl rfl ?_
    intro b w1 s1
    simp
    exact s1
  simp at h4
  have e : encN n = [240 + n / 262144, 128 + n / 4096 % 64, 128 + n / 64 % 64, 128 + n % 64] := by unfold encN; rw [if_neg (by omega), if_neg (by omega), if_neg (by omega), if_neg (by omega)]
  rw [e]
  simp
  try simp (disch := omega) only [wrap64, wrapu8, tm]
  refine eff_bsl4 s rfl rfl rfl rfl ?_
  intro b w1 s1
  simp
  exact s1
theorem rtext_spec (us : List Int) (v : Value) (w0 w : World) (A : Asn) (hl : us.length ≤ 4194304) (hok : ∀ u ∈ us, okU u) (s : St w0 (A * own 3 1 v us.length (ints us)) w) :
    CallW Try.prog 91 [v] (fun r w' => r = .string (mk (encAll us)) ∧ St w0 (A * own 3 1 v us.length (ints us)) w') w := by
  obtain ⟨a1, c1, rfl, hc1, hn1⟩ := s.own_val
  refine callW_of_lift l91_ok (by simp [l91]) ?_
  simp [l91]
  refine loopI (fun env w' => ∃ (i : Nat) (v : Value), env = [.slice a1 us.length c1, .string (mk []), v, .int .i64 i] ∧ i ≤ us.length ∧
      St w0 (A * own 3 1 (.slice a1 us.length c1) us.length (ints us) * own 5 1 v (encAll (us.take i)).length (bytesV (encAll (us.take i)))) w')
    (fun env _ => us.length - slotN env 3) ⟨0, _, rfl, by omega, by simpa [encAll, bytesV] using s.own_nil 5 1⟩ ?_
  rintro LQ env w' ⟨i, v, rfl, hi, s'⟩ hN hE hR
  simp
  refine cndI (fun h => ?_) (fun h => ?_)
  · simp at h
    obtain ⟨g1, c1', e1, _, hcell⟩ := s'.swap.own_at (by omega)
    cases e1
    have hui := hcell i (.int .i64 us[i]) (by simp [ints, h])
    simp
    refine ⟨h, eff_ldc hui ?_⟩
    simp
    have hub := hok us[i] (List.getElem_mem h)
    obtain ⟨m, hm⟩ := Int.eq_ofNat_of_zero_le (show 0 ≤ us[i] by unfold okU at hub; omega)
    rw [hm] at hub
    rw [hm]
    refine eff_call ((rbytes_spec m w0 _ _ hub s').mono ?_)
    rintro r w2 ⟨b, rfl, s2⟩
    have hfl := encAll_len (us.take i)
    rw [List.length_take] at hfl
    have hfu := encU_len (m : Int)
    simp
    refine eff_app (n := (encAll (us.take i)).length) (m := (encU m).length) (news := bytesV (encU m)) s2.swap (by simp [bytesV_len]) s2.cells_look (bytesV_one _) (by decide) rfl (by unfold maxLen; omega) (by omega) ?_
    intro v' w3 s3
    simp
    try simp (disch := omega) only [wrap64]
    refine hN _ _ ⟨i + 1, v', by simp, h, ?_⟩ (by simp [slotN]; omega)
    rw [List.take_succ_eq_append_getElem h, encAll_snoc, hm, bytesV_app, List.length_append]
    exact s3.swap.drop
  · simp at h
    simp
    refine hE _ _ _ ?_
    simp
    have : i = us.length := by omega
    subst this
    rw [List.take_length] at s'
    refine eff_b2s s' ?_
    simp
    exact s'.drop
end Go.HL.Nm
