/-
  What the claim leans on, part 9 of 13. Conditions: as each theorem says.
-/
import Derived.Test.YtnpobdapojomnaaSRMh
import Derived.Test.YtnpobdapojomnaaProg
namespace Go.HL.Tl
open Go.HL Go.Proofs
set_option maxRecDepth 4000
set_option linter.unusedSimpArgs false
set_option linter.unusedVariables false
theorem bytesV_one (l : List UInt8) : ∀ u ∈ bytesV l, u.oneCell' = true := by intro u h; simp only [bytesV, List.mem_map] at h; obtain ⟨x, _, rfl⟩ := h; rfl
theorem bytesV_app (a b : List UInt8) : bytesV (a ++ b) = bytesV a ++ bytesV b := by simp [bytesV]
theorem bytesV_len (a : List UInt8) : (bytesV a).length = a.length := by simp [bytesV]
theorem bytesV_at (l : List UInt8) (k : Nat) : (bytesV l)[k]? = (l[k]?).map fun b => .int .u8 (b.toNat : Int) := by simp [bytesV]
def shortK : Nat → Nat → List UInt8
  | 0, n => [UInt8.ofNat n]
  | k + 1, n => if n < 128 then [UInt8.ofNat n] else UInt8.ofNat (n % 128 + 128) :: shortK k (n / 128)
def shortL (n : Nat) : List UInt8 := shortK 9 n
theorem shortK_len : ∀ (k n : Nat), 1 ≤ (shortK k n).length ∧ (shortK k n).length ≤ k + 1
  | 0, n => by simp [shortK]
  | k + 1, n => by
    unfold shortK
    split
    · simp
    · have := shortK_len k (n / 128)
      simp; omega
theorem shortL_len (n : Nat) : 1 ≤ (shortL n).length ∧ (shortL n).length ≤ 10 := shortK_len 9 n
theorem u8_or (m : Int) (h : 0 ≤ m) : IntKind.u8.wrap ((((IntKind.u8.wrap m % 2 ^ IntKind.u8.bits).toNat ||| 128 % 2 ^ IntKind.u8.bits : Nat)) : Int) = ((m.toNat % 128 + 128 : Nat) : Int) := by
  have key : ∀ b : Fin 256, IntKind.u8.wrap (((((b.val : Nat) : Int) % 2 ^ IntKind.u8.bits).toNat ||| 128 % 2 ^ IntKind.u8.bits : Nat) : Int) = ((b.val % 128 + 128 : Nat) : Int) := by decide +kernel
  have e : IntKind.u8.wrap m = ((m.toNat % 256 : Nat) : Int) := by simp [IntKind.wrap, IntKind.bits, IntKind.signed]; omega
  rw [e]
  have := key ⟨m.toNat % 256, Nat.mod_lt _ (by decide)⟩
  simp only at this
  rw [this]
  omega
structure ShS (n : Nat) (m : Int) (k : Nat) (acc : List UInt8) : Prop where
  pos : 0 ≤ m
  lt : m < 2 * 128 ^ k
  len : acc.length + k = 9
  eq : shortL n = acc ++ shortK k m.toNat
  big : m < 18446744073709551616
theorem ShS.start {n : Int} (h : 0 ≤ n ∧ n < 18446744073709551616) : ShS n.toNat n 9 [] := ⟨h.1, by omega, rfl, rfl, h.2⟩
theorem ShS.more {n : Nat} {m : Int} {k : Nat} {acc : List UInt8} (h : ShS n m k acc) (hm : 127 < m) : ∃ j, k = j + 1 ∧ ShS n (m / 128) j (acc ++ [UInt8.ofNat (m.toNat % 128 + 128)]) := by
  obtain ⟨h0, h1, h2, h3, h4⟩ := h
  cases k with
  | zero => simp at h1; omega
  | succ j =>
    refine ⟨j, rfl, by omega, ?_, by simp; omega, ?_, by omega⟩
    · rw [Int.pow_succ] at h1; omega
    · rw [h3]
      have : ¬ m.toNat < 128 := by omega
      simp only [shortK, if_neg this, List.append_assoc, List.singleton_append]
      have e : (m / 128).toNat = m.toNat / 128 := by omega
      rw [e]
theorem ShS.last {n : Nat} {m : Int} {k : Nat} {acc : List UInt8} (h : ShS n m k acc) (hm : m ≤ 127) : shortL n = acc ++ [UInt8.ofNat m.toNat] := by
  rw [h.eq]
  have h0 := h.pos
  cases k with
  | zero => rfl
  | succ j =>
    have : m.toNat < 128 := by omega
    simp only [shortK, if_pos this]
theorem shr7 (m : Int) : m.fdiv (2 ^ min 7 IntKind.u64.bits) = m / 128 := by
  have : (2 : Int) ^ min 7 IntKind.u64.bits = 128 := by decide
  rw [this]; exact Int.fdiv_eq_ediv_of_nonneg _ (by decide)
theorem byteN {n : Nat} (h : n < 256) : (#[.int .u8 (n : Int)] : Array Value) = (bytesV [UInt8.ofNat n]).toArray := by simp [bytesV]; omega
theorem byteI {m : Int} (h : 0 ≤ m ∧ m < 256) : (#[.int .u8 m] : Array Value) = (bytesV [UInt8.ofNat m.toNat]).toArray := by simp [bytesV]; omega
theorem u8_small (m : Int) (h : 0 ≤ m ∧ m < 256) : IntKind.u8.wrap m = m := by simp [IntKind.wrap, IntKind.bits, IntKind.signed]; omega
theorem u64_small (m : Int) (h : 0 ≤ m ∧ m < 18446744073709551616) : IntKind.u64.wrap m = m := by simp [IntKind.wrap, IntKind.bits, IntKind.signed]; omega
noncomputable abbrev T0 : PF Try.prog := PF.none _
theorem u8_mod {m : Int} (h : 0 ≤ m) : IntKind.u8.wrap (IntKind.u8.wrap (m.tmod 128) + 128) = ((m.toNat % 128 + 128 : Nat) : Int) := by
  have e : m.tmod 128 = m % 128 := Int.tmod_eq_emod_of_nonneg h
  rw [e, u8_small (m % 128) (by omega), u8_small _ (by omega)]
  omega
def clipV : Value → Value
  | .slice a n _ => .slice a n n
  | v => v
theorem clip_own {w0 w : World} {A : Asn} {e size n : Nat} {v : Value} {xs : List Value} (s : St w0 (A * own e size v n xs) w) : St w0 (A * own e size (clipV v) n xs) w := by
  rcases s.own with ⟨hl, ⟨rfl, rfl, rfl, s'⟩ | ⟨g, cap, cur, rfl, h1, h2, h3, h4, s'⟩⟩
  · exact s
  · exact s'.own_mk' (Nat.le_refl n) (Nat.le_trans h1 h2) (Nat.le_trans (Nat.mul_le_mul_right _ h1) h3) h4
theorem add_zero : (fun x : Addr => x.add 0) = id := by funext x; cases x; rfl

def h62_0 : HC := (.seq (.reg (.chk none .lenL (.cons (.inp 2) .nil) (.chk none .lenL (.cons (.inp 2) .nil) (.chk none (.slL 1 false true true) (.cons (.inp 2) (.cons (.op .lenL (.cons (.inp 2) .nil)) (.cons (.op .lenL (.cons (.inp 2) .nil)) .nil))) (.done [(1, (.op (.slL 1 false true true) (.cons (.inp 2) (.cons (.op .lenL (.cons (.inp 2) .nil)) (.cons (.op .lenL (.cons (.inp 2) .nil)) .nil)))))] none))))) .ret)
@[simp] theorem h62_0_wp : type_of% (@wpH h62_0 _ h62_0.eq_1) := wpH h62_0.eq_1
def h62_1 : HC := (.seq (.reg (.chk none (.convI .u8) (.cons (.inp 0) .nil) (.eff (.bsl 5 1 1 #[(.int .u8 0)] [0]) (.cons (.op (.convI .u8) (.cons (.inp 0) .nil)) .nil) (.eff (.app 31 31 5 1 1 (.int .u8 0)) (.cons (.inp 2) (.cons (.bv 0) .nil)) (.done [(2, (.bv 1))] none))))) h62_0)
@[simp] theorem h62_1_wp : type_of% (@wpH h62_1 _ h62_1.eq_1) := wpH h62_1.eq_1
def h62_2 : HC := (.reg (.chk none (.bin .shr) (.cons (.inp 0) (.cons (.cst (.int .u64 7)) .nil)) (.done [(0, (.op (.bin .shr) (.cons (.inp 0) (.cons (.cst (.int .u64 7)) .nil))))] none)))
@[simp] theorem h62_2_wp : type_of% (@wpH h62_2 _ h62_2.eq_1) := wpH h62_2.eq_1
def h62_3 : HC := (.seq (.reg (.chk none (.convI .u8) (.cons (.inp 0) .nil) (.chk none (.bin .or) (.cons (.op (.convI .u8) (.cons (.inp 0) .nil)) (.cons (.cst (.int .u8 128)) .nil)) (.eff (.bsl 5 1 1 #[(.int .u8 0)] [0]) (.cons (.op (.bin .or) (.cons (.op (.convI .u8) (.cons (.inp 0) .nil)) (.cons (.cst (.int .u8 128)) .nil))) .nil) (.eff (.app 31 31 5 1 1 (.int .u8 0)) (.cons (.inp 2) (.cons (.bv 0) .nil)) (.done [(2, (.bv 1))] none)))))) h62_2)
@[simp] theorem h62_3_wp : type_of% (@wpH h62_3 _ h62_3.eq_1) := wpH h62_3.eq_1
def h62_4 : HC := (.block 1 h62_3)
@[simp] theorem h62_4_wp : type_of% (@wpH h62_4 _ h62_4.eq_1) := wpH h62_4.eq_1
def h62_5 : HC := (.seq (.br (.chk none (.bin .gtr) (.cons (.inp 0) (.cons (.cst (.int .u64 127)) .nil)) (.done [] (some (.op (.bin .gtr) (.cons (.inp 0) (.cons (.cst (.int .u64 127)) .nil)))))) .skip (.exit 0)) h62_4)
@[simp] theorem h62_5_wp : type_of% (@wpH h62_5 _ h62_5.eq_1) := wpH h62_5.eq_1
def h62_6 : HC := (.loop h62_5)
@[simp] theorem h62_6_wp : type_of% (@wpH h62_6 _ h62_6.eq_1) := wpH h62_6.eq_1
def h62_7 : HC := (.seq (.block 0 h62_6) h62_1)
@[simp] theorem h62_7_wp : type_of% (@wpH h62_7 _ h62_7.eq_1) := wpH h62_7.eq_1
def h62_8 : HC := (.seq (.reg (.eff (.mks 31 5 1 1 (.int .u8 0)) (.cons (.cst (.int .i64 0)) (.cons (.cst (.int .i64 10)) .nil)) (.done [(2, (.bv 0))] none))) h62_7)
@[simp] theorem h62_8_wp : type_of% (@wpH h62_8 _ h62_8.eq_1) := wpH h62_8.eq_1
def l62 : Lifted := ⟨[0, 2, 3], 26, [.slot 1], (.seq (.reg (.done [(1, (.cst (.slice none 0 0)))] none)) h62_8)⟩
theorem l62_ok : liftFn T0 62 400 = some l62 := by kernel_rfl

def h56_0 : HC := (.seq (.reg (.chk none (.convI .u8) (.cons (.inp 0) .nil) (.eff (.bsl 5 1 1 #[(.int .u8 0)] [0]) (.cons (.op (.convI .u8) (.cons (.inp 0) .nil)) .nil) (.eff (.app 31 31 5 1 1 (.int .u8 0)) (.cons (.inp 2) (.cons (.bv 0) .nil)) (.done [(1, (.bv 1))] none))))) .ret)
@[simp] theorem h56_0_wp : type_of% (@wpH h56_0 _ h56_0.eq_1) := wpH h56_0.eq_1
def h56_1 : HC := (.reg (.chk none (.bin .quo) (.cons (.inp 0) (.cons (.cst (.int .u64 128)) .nil)) (.done [(0, (.op (.bin .quo) (.cons (.inp 0) (.cons (.cst (.int .u64 128)) .nil))))] none)))
@[simp] theorem h56_1_wp : type_of% (@wpH h56_1 _ h56_1.eq_1) := wpH h56_1.eq_1
def h56_2 : HC := (.seq (.reg (.chk none (.bin .rem) (.cons (.inp 0) (.cons (.cst (.int .u64 128)) .nil)) (.chk none (.convI .u8) (.cons (.op (.bin .rem) (.cons (.inp 0) (.cons (.cst (.int .u64 128)) .nil))) .nil) (.chk none (.bin .add) (.cons (.op (.convI .u8) (.cons (.op (.bin .rem) (.cons (.inp 0) (.cons (.cst (.int .u64 128)) .nil))) .nil)) (.cons (.cst (.int .u8 128)) .nil)) (.eff (.bsl 5 1 1 #[(.int .u8 0)] [0]) (.cons (.op (.bin .add) (.cons (.op (.convI .u8) (.cons (.op (.bin .rem) (.cons (.inp 0) (.cons (.cst (.int .u64 128)) .nil))) .nil)) (.cons (.cst (.int .u8 128)) .nil))) .nil) (.eff (.app 31 31 5 1 1 (.int .u8 0)) (.cons (.inp 2) (.cons (.bv 0) .nil)) (.done [(2, (.bv 1))] none))))))) h56_1)
@[simp] theorem h56_2_wp : type_of% (@wpH h56_2 _ h56_2.eq_1) := wpH h56_2.eq_1
def h56_3 : HC := (.block 1 h56_2)
@[simp] theorem h56_3_wp : type_of% (@wpH h56_3 _ h56_3.eq_1) := wpH h56_3.eq_1
def h56_4 : HC := (.seq (.br (.chk none (.bin .geq) (.cons (.inp 0) (.cons (.cst (.int .u64 128)) .nil)) (.done [] (some (.op (.bin .geq) (.cons (.inp 0) (.cons (.cst (.int .u64 128)) .nil)))))) .skip (.exit 0)) h56_3)
@[simp] theorem h56_4_wp : type_of% (@wpH h56_4 _ h56_4.eq_1) := wpH h56_4.eq_1
def h56_5 : HC := (.loop h56_4)
@[simp] theorem h56_5_wp : type_of% (@wpH h56_5 _ h56_5.eq_1) := wpH h56_5.eq_1
def h56_6 : HC := (.seq (.block 0 h56_5) h56_0)
@[simp] theorem h56_6_wp : type_of% (@wpH h56_6 _ h56_6.eq_1) := wpH h56_6.eq_1
def h56_7 : HC := (.seq (.reg (.done [(2, (.cst (.slice none 0 0)))] none)) h56_6)
@[simp] theorem h56_7_wp : type_of% (@wpH h56_7 _ h56_7.eq_1) := wpH h56_7.eq_1
def l56 : Lifted := ⟨[0, 2, 3], 20, [.slot 1], (.seq (.reg (.done [(1, (.cst (.slice none 0 0)))] none)) h56_7)⟩
theorem l56_ok : liftFn T0 56 400 = some l56 := by kernel_rfl
theorem Short_spec (n : Int) (w0 w : World) (A : Asn) (hn : 0 ≤ n ∧ n < 18446744073709551616) (s : St w0 A w) :
    CallW Try.prog 62 [.int .u64 n] (fun r w' => St w0 (A * own 5 1 r (shortL n.toNat).length (bytesV (shortL n.toNat))) w') w := by
  refine callW_of_lift l62_ok (by simp [l62]) ?_
  simp [l62]
  refine eff_mks (l := 0) (c := 10) s (by decide) (by decide) (by decide) rfl fun bv w1 s1 => ?_
  simp
  have s1 : St w0 (A * own 5 1 bv 0 []) w1 := by simpa using s1
  refine loopI (fun env w' => ∃ (m : Int) (v : Value) (k : Nat) (acc : List UInt8), env = [.int .u64 m, .slice none 0 0, v] ∧ ShS n.toNat m k acc ∧ St w0 (A * own 5 1 v acc.length (bytesV acc)) w')
    (fun env _ => slotN env 0) ⟨n, _, 9, [], rfl, ShS.start hn, s1⟩ ?_
  rintro LQ env w' ⟨m, v, k, acc, rfl, hS, s1⟩ hN hX hR
  have h0 := hS.pos
  have hl := hS.len
  simp
  refine cndI (fun hc => ?_) (fun hc => ?_)
  · simp at hc
    obtain ⟨j, rfl, hS'⟩ := hS.more hc
    simp
    rw [u8_or m h0]
    refine eff_bsl1 s1 rfl fun b w2 s2 => ?_
    simp
    rw [byteN (by omega)] at s2
    refine eff_app (m := 1) (news := bytesV [UInt8.ofNat (m.toNat % 128 + 128)]) s2.swap rfl (by simpa using s2.cells_look) (bytesV_one _) (by decide) rfl (by unfold maxLen; omega) (by omega) fun v2 w3 s3 => ?_
    simp
    rw [shr7]
    refine hN _ _ ⟨m / 128, v2, j, _, rfl, hS', ?_⟩ (by simp [slotN]; omega)
    rw [bytesV_app, List.length_append]
    exact s3.swap.drop
  · simp at hc
    simp
    refine hX _ _ _ ?_
    simp
    rw [u8_small m (by omega)]
    refine eff_bsl1 s1 rfl fun b w2 s2 => ?_
    simp
    rw [byteI (by omega)] at s2
    refine eff_app (m := 1) (news := bytesV [UInt8.ofNat m.toNat]) s2.swap rfl (by simpa using s2.cells_look) (bytesV_one _) (by decide) rfl (by unfold maxLen; omega) (by omega) fun v2 w3 s3 => ?_
    simp
    have e := hS.last (by omega)
    obtain ⟨g, vcap, rfl, hcap, _⟩ := s3.own_at (by omega)
    simp
    refine ⟨⟨⟨by omega, by omega⟩, by omega⟩, ?_⟩
    rw [e, bytesV_app, List.length_append]
    exact clip_own s3.swap.drop
theorem rShort_spec (n : Int) (w0 w : World) (A : Asn) (hn : 0 ≤ n ∧ n < 18446744073709551616) (s : St w0 A w) :
    CallW Try.prog 56 [.int .u64 n] (fun r w' => St w0 (A * own 5 1 r (shortL n.toNat).length (bytesV (shortL n.toNat))) w') w := by
  refine callW_of_lift l56_ok (by simp [l56]) ?_
  simp [l56]
  refine loopI (fun env w' => ∃ (m : Int) (v : Value) (k : Nat) (acc : List UInt8), env = [.int .u64 m, .slice none 0 0, v] ∧ ShS n.toNat m k acc ∧ St w0 (A * own 5 1 v acc.length (bytesV acc)) w')
    (fun env _ => slotN env 0) ⟨n, _, 9, [], rfl, ShS.start hn, s.own_nil 5 1⟩ ?_
  rintro LQ env w' ⟨m, v, k, acc, rfl, hS, s1⟩ hN hX hR
  have h0 := hS.pos
  have hl := hS.len
  simp
  refine cndI (fun hc => ?_) (fun hc => ?_)
  · simp at hc
    obtain ⟨j, rfl, hS'⟩ := hS.more (by omega)
    simp
    rw [u8_mod h0]
    refine eff_bsl1 s1 rfl fun b w2 s2 => ?_
    simp
    rw [byteN (by omega)] at s2
    refine eff_app (m := 1) (news := bytesV [UInt8.ofNat (m.toNat % 128 + 128)]) s2.swap rfl (by simpa using s2.cells_look) (bytesV_one _) (by decide) rfl (by unfold maxLen; omega) (by omega) fun v2 w3 s3 => ?_
    simp
    have hb := hS.big
    have eq : IntKind.u64.wrap (m.tdiv 128) = m / 128 := by rw [Int.tdiv_eq_ediv_of_nonneg h0]; exact u64_small _ (by omega)
    rw [eq]
    refine hN _ _ ⟨m / 128, v2, j, _, rfl, hS', ?_⟩ (by simp [slotN]; omega)
    rw [bytesV_app, List.length_append]
    exact s3.swap.drop
  · simp at hc
    simp
    refine hX _ _ _ ?_
    simp
    rw [u8_small m (by omega)]
    refine eff_bsl1 s1 rfl fun b w2 s2 => ?_
    simp
    rw [byteI (by omega)] at s2
    refine eff_app (m := 1) (news := bytesV [UInt8.ofNat m.toNat]) s2.swap rfl (by simpa using s2.cells_look) (bytesV_one _) (by decide) rfl (by unfold maxLen; omega) (by omega) fun v2 w3 s3 => ?_
    simp
    have e := hS.last (by omega)
    rw [e, bytesV_app]
    have s4 := s3.swap.drop
    simpa using s4
end Go.HL.Tl
