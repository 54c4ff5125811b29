/-
  What the claim leans on, part 13 of 13. Conditions: as each theorem says.
-/
import Derived.Test.YtnpobdapojomnaaSRMl
namespace Go.HL.Sr
open Go.HL Go.HL.Tl Go.Proofs
set_option maxRecDepth 4000
set_option linter.unusedSimpArgs false
set_option linter.unusedVariables false
attribute [local irreducible] EffW
def PR.zero : PR := ⟨0, [], 0, 0, 0, 0, 0, PE.zero, PC.zero, 0⟩
theorem pr_one (r : PR) (ev cv : Value) (h1 : ev.oneCell' = true) (h2 : cv.oneCell' = true) : ∀ u ∈ r.cs ev cv, u.oneCell' = true := by
  intro u hu
  simp only [PR.cs, List.mem_cons, List.not_mem_nil, or_false] at hu
  rcases hu with rfl | rfl | rfl | rfl | rfl | rfl | rfl | rfl | rfl | rfl | rfl | rfl | rfl | rfl | rfl | rfl | rfl | rfl | rfl | rfl | rfl | rfl | rfl | rfl
  all_goals first | rfl | exact h1 | exact h2
def decX (b : List UInt8) : PR :=
  let x0 := rdF false b
  let x1 := takeR x0.1 x0.2 1
  let x2 := rawR x1.2 x0.2 2 4096
  let x3 := takeR x2.2 x0.2 3
  let x4 := takeR x3.2 x0.2 4
  let x5 := numR x4.2 x0.2 5 whole
  let x6 := takeR x5.2 x0.2 6
  let x7 := takeR x6.2 x0.2 7
  let x8 := recR x7.2 x0.2 8
  let y8 := recE x8.1 x8.2
  let x9 := recR y8.2 x0.2 9
  let y9 := recC x9.1 x9.2
  let y := takeR y9.2 x0.2 10
  ⟨x1.1, x2.1, x3.1, x4.1, x5.1, x6.1, x7.1, y8.1, y9.1, y.1⟩
def decR (b : List UInt8) : PR × Int := if 4096 < b.length then (PR.zero, 3) else if encE (decX b) ≠ 0 ∨ encB (decX b) ≠ b then (PR.zero, 238) else (decX b, 0)
theorem rawR_len {F : Flds} (hO : OKF F) (bad : Bool) (tag most : Int) : (rawR bad F tag most).1.length ≤ 1048576 := by
  unfold rawR
  split
  · simp
  · rename_i x hx
    by_cases h : (if most < 0 then 0 else most) < x.length
    · rw [if_pos h]; simp
    · rw [if_neg h]; exact valF_len hO hx
theorem decX_ok (b : List UInt8) : (decX b).ok := by
  refine ⟨numR_bd _ _ _, rawR_len (rdF_ok _ _) _ _ _, recE_ok (recR_ok _ _ _) _, recC_ok (recR_ok _ _ _) _⟩
theorem b2s_nil {w0 w : World} {A : Asn} (s : St w0 A w) : St w0 (A * own 3 1 (.slice none 0 0) 0 [] * esO (.slice none 0 0) []) w := by
  have h := (s.own_nil 3 1).own_nil 25 5
  have e1 : esO (.slice none 0 0) [] = own 25 5 (.slice none 0 0) 0 [] * emp := rfl
  rw [e1, sep_emp]
  exact h
theorem encB_len (r : PR) : (encB r).length ≤ 1048576 := by
  unfold encB; split
  · exact (encW_ok r).len
  · simp

def h12_0 : HC := (.seq (.reg (.eff (.ld true 24) (.cons (.inp 4) .nil) (.eff (.st 24) (.cons (.inp 1) (.cons (.bv 0) .nil)) (.done [(2, (.cst (.int .i64 0)))] none)))) .ret)
@[simp] theorem h12_0_wp : type_of% (@wpH h12_0 _ h12_0.eq_1) := wpH h12_0.eq_1
def h12_1 : HC := (.seq (.reg (.chk none (.build (rl [(1, (.int .i64 0)), (1, (.string ⟨#[]⟩)), (2, (.int .i64 0)), (1, (.int .u64 0)), (4, (.int .i64 0)), (2, (.int .u64 0)), (1, (.slice none 0 0)), (6, (.int .i64 0)), (3, (.int .u64 0)), (1, (.int .i64 0)), (1, (.slice none 0 0)), (1, (.int .i64 0))]) [(0, 1), (1, 1), (2, 1), (3, 1), (4, 1), (5, 1), (6, 1), (7, 5), (12, 11), (23, 1)] []) .nil (.eff (.st 24) (.cons (.inp 1) (.cons (.op (.build (rl [(1, (.int .i64 0)), (1, (.string ⟨#[]⟩)), (2, (.int .i64 0)), (1, (.int .u64 0)), (4, (.int .i64 0)), (2, (.int .u64 0)), (1, (.slice none 0 0)), (6, (.int .i64 0)), (3, (.int .u64 0)), (1, (.int .i64 0)), (1, (.slice none 0 0)), (1, (.int .i64 0))]) [(0, 1), (1, 1), (2, 1), (3, 1), (4, 1), (5, 1), (6, 1), (7, 5), (12, 11), (23, 1)] []) .nil) .nil)) (.done [(2, (.cst (.int .i64 238)))] none)))) .ret)
@[simp] theorem h12_1_wp : type_of% (@wpH h12_1 _ h12_1.eq_1) := wpH h12_1.eq_1
def h12_2 : HC := (.seq (.br (.chk none (.bin .neq) (.cons (.inp 6) (.cons (.cst (.int .i64 0)) .nil)) (.bnd (.op (.bin .neq) (.cons (.inp 6) (.cons (.cst (.int .i64 0)) .nil))) (.ite (.bv 0) false (.eff (.call 49) (.cons (.ite (.bv 0) false (.inp 5) (.cst (.tuple #[]))) (.cons (.ite (.bv 0) false (.inp 0) (.cst (.tuple #[]))) .nil)) (.chk none (.un .not) (.cons (.bv 1) .nil) (.isb none (.bv 0) (.done [] (some (.op (.un .not) (.cons (.bv 1) .nil))))))) (.isb none (.bv 0) (.done [] (some (.cst (.bool true)))))))) h12_1 .skip) h12_0)
@[simp] theorem h12_2_wp : type_of% (@wpH h12_2 _ h12_2.eq_1) := wpH h12_2.eq_1
def h12_3 : HC := (.seq (.reg (.eff (.ld true 24) (.cons (.inp 4) .nil) (.eff (.call 6) (.cons (.bv 0) .nil) (.chk none (.ext 0) (.cons (.bv 1) .nil) (.chk none (.ext 1) (.cons (.bv 1) .nil) (.done [(5, (.op (.ext 0) (.cons (.bv 1) .nil))), (6, (.op (.ext 1) (.cons (.bv 1) .nil)))] none)))))) h12_2)
@[simp] theorem h12_3_wp : type_of% (@wpH h12_3 _ h12_3.eq_1) := wpH h12_3.eq_1
def r12_0 : RT := (.chk none (.build (rl [(1, (.int .i64 0)), (1, (.string ⟨#[]⟩)), (2, (.int .i64 0)), (1, (.int .u64 0)), (4, (.int .i64 0)), (2, (.int .u64 0)), (1, (.slice none 0 0)), (6, (.int .i64 0)), (3, (.int .u64 0)), (1, (.int .i64 0)), (1, (.slice none 0 0)), (1, (.int .i64 0))]) [(0, 1), (1, 1), (2, 1), (3, 1), (4, 1), (5, 1), (6, 1), (7, 5), (12, 11), (23, 1)] [0, 1, 2, 3, 4, 5, 6, 7, 8, 9]) (.cons (.bv 0) (.cons (.bv 1) (.cons (.bv 2) (.cons (.bv 3) (.cons (.bv 4) (.cons (.bv 5) (.cons (.bv 6) (.cons (.bv 8) (.cons (.bv 10) (.cons (.bv 11) .nil)))))))))) (.eff (.new 30 (.agg #[(.int .i64 0), (.string ⟨#[]⟩), (.int .i64 0), (.int .i64 0), (.int .u64 0), (.int .i64 0), (.int .i64 0), (.int .i64 0), (.int .i64 0), (.int .u64 0), (.int .u64 0), (.slice none 0 0), (.int .i64 0), (.int .i64 0), (.int .i64 0), (.int .i64 0), (.int .i64 0), (.int .i64 0), (.int .u64 0), (.int .u64 0), (.int .u64 0), (.int .i64 0), (.slice none 0 0), (.int .i64 0)])) .nil (.eff (.st 24) (.cons (.bv 12) (.cons (.op (.build (rl [(1, (.int .i64 0)), (1, (.string ⟨#[]⟩)), (2, (.int .i64 0)), (1, (.int .u64 0)), (4, (.int .i64 0)), (2, (.int .u64 0)), (1, (.slice none 0 0)), (6, (.int .i64 0)), (3, (.int .u64 0)), (1, (.int .i64 0)), (1, (.slice none 0 0)), (1, (.int .i64 0))]) [(0, 1), (1, 1), (2, 1), (3, 1), (4, 1), (5, 1), (6, 1), (7, 5), (12, 11), (23, 1)] [0, 1, 2, 3, 4, 5, 6, 7, 8, 9]) (.cons (.bv 0) (.cons (.bv 1) (.cons (.bv 2) (.cons (.bv 3) (.cons (.bv 4) (.cons (.bv 5) (.cons (.bv 6) (.cons (.bv 8) (.cons (.bv 10) (.cons (.bv 11) .nil))))))))))) .nil)) (.done [(4, (.bv 12))] none))))
@[simp] theorem r12_0_wp : type_of% (@wpR r12_0 _ r12_0.eq_1) := wpR r12_0.eq_1
@[simp] theorem r12_0_wpq : type_of% (@wpRq r12_0 _ r12_0.eq_1) := wpRq r12_0.eq_1
@[simp] theorem r12_0_wpm : type_of% (@wpRm r12_0 _ r12_0.eq_1) := wpRm r12_0.eq_1
def r12_1 : RT := (.eff (.call 43) (.cons (.inp 3) (.cons (.cst (.int .i64 10)) .nil)) r12_0)
@[simp] theorem r12_1_wp : type_of% (@wpR r12_1 _ r12_1.eq_1) := wpR r12_1.eq_1
@[simp] theorem r12_1_wpq : type_of% (@wpRq r12_1 _ r12_1.eq_1) := wpRq r12_1.eq_1
@[simp] theorem r12_1_wpm : type_of% (@wpRm r12_1 _ r12_1.eq_1) := wpRm r12_1.eq_1
def r12_2 : RT := (.eff (.call 48) (.cons (.bv 9) .nil) r12_1)
@[simp] theorem r12_2_wp : type_of% (@wpR r12_2 _ r12_2.eq_1) := wpR r12_2.eq_1
@[simp] theorem r12_2_wpq : type_of% (@wpRq r12_2 _ r12_2.eq_1) := wpRq r12_2.eq_1
@[simp] theorem r12_2_wpm : type_of% (@wpRm r12_2 _ r12_2.eq_1) := wpRm r12_2.eq_1
def r12_3 : RT := (.eff (.call 47) (.cons (.inp 3) (.cons (.cst (.int .i64 9)) .nil)) r12_2)
@[simp] theorem r12_3_wp : type_of% (@wpR r12_3 _ r12_3.eq_1) := wpR r12_3.eq_1
@[simp] theorem r12_3_wpq : type_of% (@wpRq r12_3 _ r12_3.eq_1) := wpRq r12_3.eq_1
@[simp] theorem r12_3_wpm : type_of% (@wpRm r12_3 _ r12_3.eq_1) := wpRm r12_3.eq_1
def r12_4 : RT := (.eff (.call 46) (.cons (.bv 7) .nil) r12_3)
@[simp] theorem r12_4_wp : type_of% (@wpR r12_4 _ r12_4.eq_1) := wpR r12_4.eq_1
@[simp] theorem r12_4_wpq : type_of% (@wpRq r12_4 _ r12_4.eq_1) := wpRq r12_4.eq_1
@[simp] theorem r12_4_wpm : type_of% (@wpRm r12_4 _ r12_4.eq_1) := wpRm r12_4.eq_1
def r12_5 : RT := (.eff (.call 47) (.cons (.inp 3) (.cons (.cst (.int .i64 8)) .nil)) r12_4)
@[simp] theorem r12_5_wp : type_of% (@wpR r12_5 _ r12_5.eq_1) := wpR r12_5.eq_1
@[simp] theorem r12_5_wpq : type_of% (@wpRq r12_5 _ r12_5.eq_1) := wpRq r12_5.eq_1
@[simp] theorem r12_5_wpm : type_of% (@wpRm r12_5 _ r12_5.eq_1) := wpRm r12_5.eq_1
def r12_6 : RT := (.eff (.call 43) (.cons (.inp 3) (.cons (.cst (.int .i64 7)) .nil)) r12_5)
@[simp] theorem r12_6_wp : type_of% (@wpR r12_6 _ r12_6.eq_1) := wpR r12_6.eq_1
@[simp] theorem r12_6_wpq : type_of% (@wpRq r12_6 _ r12_6.eq_1) := wpRq r12_6.eq_1
@[simp] theorem r12_6_wpm : type_of% (@wpRm r12_6 _ r12_6.eq_1) := wpRm r12_6.eq_1
def r12_7 : RT := (.eff (.call 43) (.cons (.inp 3) (.cons (.cst (.int .i64 6)) .nil)) r12_6)
@[simp] theorem r12_7_wp : type_of% (@wpR r12_7 _ r12_7.eq_1) := wpR r12_7.eq_1
@[simp] theorem r12_7_wpq : type_of% (@wpRq r12_7 _ r12_7.eq_1) := wpRq r12_7.eq_1
@[simp] theorem r12_7_wpm : type_of% (@wpRm r12_7 _ r12_7.eq_1) := wpRm r12_7.eq_1
def r12_8 : RT := (.eff (.call 45) (.cons (.inp 3) (.cons (.cst (.int .i64 5)) (.cons (.cst (.int .u64 18446744073709551615)) .nil))) r12_7)
@[simp] theorem r12_8_wp : type_of% (@wpR r12_8 _ r12_8.eq_1) := wpR r12_8.eq_1
@[simp] theorem r12_8_wpq : type_of% (@wpRq r12_8 _ r12_8.eq_1) := wpRq r12_8.eq_1
@[simp] theorem r12_8_wpm : type_of% (@wpRm r12_8 _ r12_8.eq_1) := wpRm r12_8.eq_1
def r12_9 : RT := (.eff (.call 43) (.cons (.inp 3) (.cons (.cst (.int .i64 4)) .nil)) r12_8)
@[simp] theorem r12_9_wp : type_of% (@wpR r12_9 _ r12_9.eq_1) := wpR r12_9.eq_1
@[simp] theorem r12_9_wpq : type_of% (@wpRq r12_9 _ r12_9.eq_1) := wpRq r12_9.eq_1
@[simp] theorem r12_9_wpm : type_of% (@wpRm r12_9 _ r12_9.eq_1) := wpRm r12_9.eq_1
def r12_10 : RT := (.eff (.call 43) (.cons (.inp 3) (.cons (.cst (.int .i64 3)) .nil)) r12_9)
@[simp] theorem r12_10_wp : type_of% (@wpR r12_10 _ r12_10.eq_1) := wpR r12_10.eq_1
@[simp] theorem r12_10_wpq : type_of% (@wpRq r12_10 _ r12_10.eq_1) := wpRq r12_10.eq_1
@[simp] theorem r12_10_wpm : type_of% (@wpRm r12_10 _ r12_10.eq_1) := wpRm r12_10.eq_1
def r12_11 : RT := (.eff (.call 44) (.cons (.inp 3) (.cons (.cst (.int .i64 2)) (.cons (.cst (.int .i64 4096)) .nil))) r12_10)
@[simp] theorem r12_11_wp : type_of% (@wpR r12_11 _ r12_11.eq_1) := wpR r12_11.eq_1
@[simp] theorem r12_11_wpq : type_of% (@wpRq r12_11 _ r12_11.eq_1) := wpRq r12_11.eq_1
@[simp] theorem r12_11_wpm : type_of% (@wpRm r12_11 _ r12_11.eq_1) := wpRm r12_11.eq_1
def h12_4 : HC := (.seq (.reg (.eff (.call 43) (.cons (.inp 3) (.cons (.cst (.int .i64 1)) .nil)) r12_11)) h12_3)
@[simp] theorem h12_4_wp : type_of% (@wpH h12_4 _ h12_4.eq_1) := wpH h12_4.eq_1
def h12_5 : HC := (.seq (.reg (.eff (.call 42) (.cons (.inp 0) .nil) (.done [(3, (.bv 0))] none))) h12_4)
@[simp] theorem h12_5_wp : type_of% (@wpH h12_5 _ h12_5.eq_1) := wpH h12_5.eq_1
def h12_6 : HC := (.seq (.reg (.chk none (.build (rl [(1, (.int .i64 0)), (1, (.string ⟨#[]⟩)), (2, (.int .i64 0)), (1, (.int .u64 0)), (4, (.int .i64 0)), (2, (.int .u64 0)), (1, (.slice none 0 0)), (6, (.int .i64 0)), (3, (.int .u64 0)), (1, (.int .i64 0)), (1, (.slice none 0 0)), (1, (.int .i64 0))]) [(0, 1), (1, 1), (2, 1), (3, 1), (4, 1), (5, 1), (6, 1), (7, 5), (12, 11), (23, 1)] []) .nil (.eff (.st 24) (.cons (.inp 1) (.cons (.op (.build (rl [(1, (.int .i64 0)), (1, (.string ⟨#[]⟩)), (2, (.int .i64 0)), (1, (.int .u64 0)), (4, (.int .i64 0)), (2, (.int .u64 0)), (1, (.slice none 0 0)), (6, (.int .i64 0)), (3, (.int .u64 0)), (1, (.int .i64 0)), (1, (.slice none 0 0)), (1, (.int .i64 0))]) [(0, 1), (1, 1), (2, 1), (3, 1), (4, 1), (5, 1), (6, 1), (7, 5), (12, 11), (23, 1)] []) .nil) .nil)) (.done [(2, (.cst (.int .i64 3)))] none)))) .ret)
@[simp] theorem h12_6_wp : type_of% (@wpH h12_6 _ h12_6.eq_1) := wpH h12_6.eq_1
def h12_7 : HC := (.seq (.br (.chk none .lenL (.cons (.inp 0) .nil) (.chk none (.bin .gtr) (.cons (.op .lenL (.cons (.inp 0) .nil)) (.cons (.cst (.int .i64 4096)) .nil)) (.done [] (some (.op (.bin .gtr) (.cons (.op .lenL (.cons (.inp 0) .nil)) (.cons (.cst (.int .i64 4096)) .nil))))))) h12_6 .skip) h12_5)
@[simp] theorem h12_7_wp : type_of% (@wpH h12_7 _ h12_7.eq_1) := wpH h12_7.eq_1
def l12 : Lifted := ⟨[0, 2, 3, 4, 5, 6, 7], 52, [.cell 1 true 24, .slot 2], (.seq (.reg (.eff (.new 30 (.agg #[(.int .i64 0), (.string ⟨#[]⟩), (.int .i64 0), (.int .i64 0), (.int .u64 0), (.int .i64 0), (.int .i64 0), (.int .i64 0), (.int .i64 0), (.int .u64 0), (.int .u64 0), (.slice none 0 0), (.int .i64 0), (.int .i64 0), (.int .i64 0), (.int .i64 0), (.int .i64 0), (.int .i64 0), (.int .u64 0), (.int .u64 0), (.int .u64 0), (.int .i64 0), (.slice none 0 0), (.int .i64 0)])) .nil (.done [(1, (.bv 0)), (2, (.cst (.int .i64 0)))] none))) h12_7)⟩
theorem l12_ok : liftFn T0 12 400 = some l12 := by kernel_rfl

def h11_0 : HC := (.seq (.reg (.eff (.ld true 24) (.cons (.inp 4) .nil) (.eff (.st 24) (.cons (.inp 1) (.cons (.bv 0) .nil)) (.done [(2, (.cst (.int .i64 0)))] none)))) .ret)
@[simp] theorem h11_0_wp : type_of% (@wpH h11_0 _ h11_0.eq_1) := wpH h11_0.eq_1
def h11_1 : HC := (.seq (.reg (.chk none (.build (rl [(1, (.int .i64 0)), (1, (.string ⟨#[]⟩)), (2, (.int .i64 0)), (1, (.int .u64 0)), (4, (.int .i64 0)), (2, (.int .u64 0)), (1, (.slice none 0 0)), (6, (.int .i64 0)), (3, (.int .u64 0)), (1, (.int .i64 0)), (1, (.slice none 0 0)), (1, (.int .i64 0))]) [(0, 1), (1, 1), (2, 1), (3, 1), (4, 1), (5, 1), (6, 1), (7, 5), (12, 11), (23, 1)] []) .nil (.eff (.st 24) (.cons (.inp 1) (.cons (.op (.build (rl [(1, (.int .i64 0)), (1, (.string ⟨#[]⟩)), (2, (.int .i64 0)), (1, (.int .u64 0)), (4, (.int .i64 0)), (2, (.int .u64 0)), (1, (.slice none 0 0)), (6, (.int .i64 0)), (3, (.int .u64 0)), (1, (.int .i64 0)), (1, (.slice none 0 0)), (1, (.int .i64 0))]) [(0, 1), (1, 1), (2, 1), (3, 1), (4, 1), (5, 1), (6, 1), (7, 5), (12, 11), (23, 1)] []) .nil) .nil)) (.done [(2, (.cst (.int .i64 238)))] none)))) .ret)
@[simp] theorem h11_1_wp : type_of% (@wpH h11_1 _ h11_1.eq_1) := wpH h11_1.eq_1
def h11_2 : HC := (.seq (.br (.chk none (.bin .neq) (.cons (.inp 6) (.cons (.cst (.int .i64 0)) .nil)) (.bnd (.op (.bin .neq) (.cons (.inp 6) (.cons (.cst (.int .i64 0)) .nil))) (.ite (.bv 0) false (.eff (.call 41) (.cons (.ite (.bv 0) false (.inp 5) (.cst (.tuple #[]))) (.cons (.ite (.bv 0) false (.inp 0) (.cst (.tuple #[]))) .nil)) (.chk none (.un .not) (.cons (.bv 1) .nil) (.isb none (.bv 0) (.done [] (some (.op (.un .not) (.cons (.bv 1) .nil))))))) (.isb none (.bv 0) (.done [] (some (.cst (.bool true)))))))) h11_1 .skip) h11_0)
@[simp] theorem h11_2_wp : type_of% (@wpH h11_2 _ h11_2.eq_1) := wpH h11_2.eq_1
def h11_3 : HC := (.seq (.reg (.eff (.ld true 24) (.cons (.inp 4) .nil) (.eff (.call 5) (.cons (.bv 0) .nil) (.chk none (.ext 0) (.cons (.bv 1) .nil) (.chk none (.ext 1) (.cons (.bv 1) .nil) (.done [(5, (.op (.ext 0) (.cons (.bv 1) .nil))), (6, (.op (.ext 1) (.cons (.bv 1) .nil)))] none)))))) h11_2)
@[simp] theorem h11_3_wp : type_of% (@wpH h11_3 _ h11_3.eq_1) := wpH h11_3.eq_1
def r11_0 : RT := (.chk none (.build (rl [(1, (.int .i64 0)), (1, (.string ⟨#[]⟩)), (2, (.int .i64 0)), (1, (.int .u64 0)), (4, (.int .i64 0)), (2, (.int .u64 0)), (1, (.slice none 0 0)), (6, (.int .i64 0)), (3, (.int .u64 0)), (1, (.int .i64 0)), (1, (.slice none 0 0)), (1, (.int .i64 0))]) [(0, 1), (1, 1), (2, 1), (3, 1), (4, 1), (5, 1), (6, 1), (7, 5), (12, 11), (23, 1)] [0, 1, 2, 3, 4, 5, 6, 7, 8, 9]) (.cons (.bv 0) (.cons (.bv 1) (.cons (.bv 2) (.cons (.bv 3) (.cons (.bv 4) (.cons (.bv 5) (.cons (.bv 6) (.cons (.bv 8) (.cons (.bv 10) (.cons (.bv 11) .nil)))))))))) (.eff (.new 30 (.agg #[(.int .i64 0), (.string ⟨#[]⟩), (.int .i64 0), (.int .i64 0), (.int .u64 0), (.int .i64 0), (.int .i64 0), (.int .i64 0), (.int .i64 0), (.int .u64 0), (.int .u64 0), (.slice none 0 0), (.int .i64 0), (.int .i64 0), (.int .i64 0), (.int .i64 0), (.int .i64 0), (.int .i64 0), (.int .u64 0), (.int .u64 0), (.int .u64 0), (.int .i64 0), (.slice none 0 0), (.int .i64 0)])) .nil (.eff (.st 24) (.cons (.bv 12) (.cons (.op (.build (rl [(1, (.int .i64 0)), (1, (.string ⟨#[]⟩)), (2, (.int .i64 0)), (1, (.int .u64 0)), (4, (.int .i64 0)), (2, (.int .u64 0)), (1, (.slice none 0 0)), (6, (.int .i64 0)), (3, (.int .u64 0)), (1, (.int .i64 0)), (1, (.slice none 0 0)), (1, (.int .i64 0))]) [(0, 1), (1, 1), (2, 1), (3, 1), (4, 1), (5, 1), (6, 1), (7, 5), (12, 11), (23, 1)] [0, 1, 2, 3, 4, 5, 6, 7, 8, 9]) (.cons (.bv 0) (.cons (.bv 1) (.cons (.bv 2) (.cons (.bv 3) (.cons (.bv 4) (.cons (.bv 5) (.cons (.bv 6) (.cons (.bv 8) (.cons (.bv 10) (.cons (.bv 11) .nil))))))))))) .nil)) (.done [(4, (.bv 12))] none))))
@[simp] theorem r11_0_wp : type_of% (@wpR r11_0 _ r11_0.eq_1) := wpR r11_0.eq_1
@[simp] theorem r11_0_wpq : type_of% (@wpRq r11_0 _ r11_0.eq_1) := wpRq r11_0.eq_1
@[simp] theorem r11_0_wpm : type_of% (@wpRm r11_0 _ r11_0.eq_1) := wpRm r11_0.eq_1
def r11_1 : RT := (.eff (.call 35) (.cons (.inp 3) (.cons (.cst (.int .i64 10)) .nil)) r11_0)
@[simp] theorem r11_1_wp : type_of% (@wpR r11_1 _ r11_1.eq_1) := wpR r11_1.eq_1
@[simp] theorem r11_1_wpq : type_of% (@wpRq r11_1 _ r11_1.eq_1) := wpRq r11_1.eq_1
@[simp] theorem r11_1_wpm : type_of% (@wpRm r11_1 _ r11_1.eq_1) := wpRm r11_1.eq_1
def r11_2 : RT := (.eff (.call 40) (.cons (.bv 9) .nil) r11_1)
@[simp] theorem r11_2_wp : type_of% (@wpR r11_2 _ r11_2.eq_1) := wpR r11_2.eq_1
@[simp] theorem r11_2_wpq : type_of% (@wpRq r11_2 _ r11_2.eq_1) := wpRq r11_2.eq_1
@[simp] theorem r11_2_wpm : type_of% (@wpRm r11_2 _ r11_2.eq_1) := wpRm r11_2.eq_1
def r11_3 : RT := (.eff (.call 39) (.cons (.inp 3) (.cons (.cst (.int .i64 9)) .nil)) r11_2)
@[simp] theorem r11_3_wp : type_of% (@wpR r11_3 _ r11_3.eq_1) := wpR r11_3.eq_1
@[simp] theorem r11_3_wpq : type_of% (@wpRq r11_3 _ r11_3.eq_1) := wpRq r11_3.eq_1
@[simp] theorem r11_3_wpm : type_of% (@wpRm r11_3 _ r11_3.eq_1) := wpRm r11_3.eq_1
def r11_4 : RT := (.eff (.call 38) (.cons (.bv 7) .nil) r11_3)
@[simp] theorem r11_4_wp : type_of% (@wpR r11_4 _ r11_4.eq_1) := wpR r11_4.eq_1
@[simp] theorem r11_4_wpq : type_of% (@wpRq r11_4 _ r11_4.eq_1) := wpRq r11_4.eq_1
@[simp] theorem r11_4_wpm : type_of% (@wpRm r11_4 _ r11_4.eq_1) := wpRm r11_4.eq_1
def r11_5 : RT := (.eff (.call 39) (.cons (.inp 3) (.cons (.cst (.int .i64 8)) .nil)) r11_4)
@[simp] theorem r11_5_wp : type_of% (@wpR r11_5 _ r11_5.eq_1) := wpR r11_5.eq_1
@[simp] theorem r11_5_wpq : type_of% (@wpRq r11_5 _ r11_5.eq_1) := wpRq r11_5.eq_1
@[simp] theorem r11_5_wpm : type_of% (@wpRm r11_5 _ r11_5.eq_1) := wpRm r11_5.eq_1
def r11_6 : RT := (.eff (.call 35) (.cons (.inp 3) (.cons (.cst (.int .i64 7)) .nil)) r11_5)
@[simp] theorem r11_6_wp : type_of% (@wpR r11_6 _ r11_6.eq_1) := wpR r11_6.eq_1
@[simp] theorem r11_6_wpq : type_of% (@wpRq r11_6 _ r11_6.eq_1) := wpRq r11_6.eq_1
@[simp] theorem r11_6_wpm : type_of% (@wpRm r11_6 _ r11_6.eq_1) := wpRm r11_6.eq_1
def r11_7 : RT := (.eff (.call 35) (.cons (.inp 3) (.cons (.cst (.int .i64 6)) .nil)) r11_6)
@[simp] theorem r11_7_wp : type_of% (@wpR r11_7 _ r11_7.eq_1) := wpR r11_7.eq_1
@[simp] theorem r11_7_wpq : type_of% (@wpRq r11_7 _ r11_7.eq_1) := wpRq r11_7.eq_1
@[simp] theorem r11_7_wpm : type_of% (@wpRm r11_7 _ r11_7.eq_1) := wpRm r11_7.eq_1
def r11_8 : RT := (.eff (.call 37) (.cons (.inp 3) (.cons (.cst (.int .i64 5)) (.cons (.cst (.int .u64 18446744073709551615)) .nil))) r11_7)
@[simp] theorem r11_8_wp : type_of% (@wpR r11_8 _ r11_8.eq_1) := wpR r11_8.eq_1
@[simp] theorem r11_8_wpq : type_of% (@wpRq r11_8 _ r11_8.eq_1) := wpRq r11_8.eq_1
@[simp] theorem r11_8_wpm : type_of% (@wpRm r11_8 _ r11_8.eq_1) := wpRm r11_8.eq_1
def r11_9 : RT := (.eff (.call 35) (.cons (.inp 3) (.cons (.cst (.int .i64 4)) .nil)) r11_8)
@[simp] theorem r11_9_wp : type_of% (@wpR r11_9 _ r11_9.eq_1) := wpR r11_9.eq_1
@[simp] theorem r11_9_wpq : type_of% (@wpRq r11_9 _ r11_9.eq_1) := wpRq r11_9.eq_1
@[simp] theorem r11_9_wpm : type_of% (@wpRm r11_9 _ r11_9.eq_1) := wpRm r11_9.eq_1
def r11_10 : RT := (.eff (.call 35) (.cons (.inp 3) (.cons (.cst (.int .i64 3)) .nil)) r11_9)
@[simp] theorem r11_10_wp : type_of% (@wpR r11_10 _ r11_10.eq_1) := wpR r11_10.eq_1
@[simp] theorem r11_10_wpq : type_of% (@wpRq r11_10 _ r11_10.eq_1) := wpRq r11_10.eq_1
@[simp] theorem r11_10_wpm : type_of% (@wpRm r11_10 _ r11_10.eq_1) := wpRm r11_10.eq_1
def r11_11 : RT := (.eff (.call 36) (.cons (.inp 3) (.cons (.cst (.int .i64 2)) (.cons (.cst (.int .i64 4096)) .nil))) r11_10)
@[simp] theorem r11_11_wp : type_of% (@wpR r11_11 _ r11_11.eq_1) := wpR r11_11.eq_1
@[simp] theorem r11_11_wpq : type_of% (@wpRq r11_11 _ r11_11.eq_1) := wpRq r11_11.eq_1
@[simp] theorem r11_11_wpm : type_of% (@wpRm r11_11 _ r11_11.eq_1) := wpRm r11_11.eq_1
def h11_4 : HC := (.seq (.reg (.eff (.call 35) (.cons (.inp 3) (.cons (.cst (.int .i64 1)) .nil)) r11_11)) h11_3)
@[simp] theorem h11_4_wp : type_of% (@wpH h11_4 _ h11_4.eq_1) := wpH h11_4.eq_1
def h11_5 : HC := (.seq (.reg (.eff (.call 34) (.cons (.inp 0) .nil) (.done [(3, (.bv 0))] none))) h11_4)
@[simp] theorem h11_5_wp : type_of% (@wpH h11_5 _ h11_5.eq_1) := wpH h11_5.eq_1
def h11_6 : HC := (.seq (.reg (.chk none (.build (rl [(1, (.int .i64 0)), (1, (.string ⟨#[]⟩)), (2, (.int .i64 0)), (1, (.int .u64 0)), (4, (.int .i64 0)), (2, (.int .u64 0)), (1, (.slice none 0 0)), (6, (.int .i64 0)), (3, (.int .u64 0)), (1, (.int .i64 0)), (1, (.slice none 0 0)), (1, (.int .i64 0))]) [(0, 1), (1, 1), (2, 1), (3, 1), (4, 1), (5, 1), (6, 1), (7, 5), (12, 11), (23, 1)] []) .nil (.eff (.st 24) (.cons (.inp 1) (.cons (.op (.build (rl [(1, (.int .i64 0)), (1, (.string ⟨#[]⟩)), (2, (.int .i64 0)), (1, (.int .u64 0)), (4, (.int .i64 0)), (2, (.int .u64 0)), (1, (.slice none 0 0)), (6, (.int .i64 0)), (3, (.int .u64 0)), (1, (.int .i64 0)), (1, (.slice none 0 0)), (1, (.int .i64 0))]) [(0, 1), (1, 1), (2, 1), (3, 1), (4, 1), (5, 1), (6, 1), (7, 5), (12, 11), (23, 1)] []) .nil) .nil)) (.done [(2, (.cst (.int .i64 3)))] none)))) .ret)
@[simp] theorem h11_6_wp : type_of% (@wpH h11_6 _ h11_6.eq_1) := wpH h11_6.eq_1
def h11_7 : HC := (.seq (.br (.chk none .lenL (.cons (.inp 0) .nil) (.chk none (.bin .gtr) (.cons (.op .lenL (.cons (.inp 0) .nil)) (.cons (.cst (.int .i64 4096)) .nil)) (.done [] (some (.op (.bin .gtr) (.cons (.op .lenL (.cons (.inp 0) .nil)) (.cons (.cst (.int .i64 4096)) .nil))))))) h11_6 .skip) h11_5)
@[simp] theorem h11_7_wp : type_of% (@wpH h11_7 _ h11_7.eq_1) := wpH h11_7.eq_1
def l11 : Lifted := ⟨[0, 2, 3, 4, 5, 6, 7], 52, [.cell 1 true 24, .slot 2], (.seq (.reg (.eff (.new 30 (.agg #[(.int .i64 0), (.string ⟨#[]⟩), (.int .i64 0), (.int .i64 0), (.int .u64 0), (.int .i64 0), (.int .i64 0), (.int .i64 0), (.int .i64 0), (.int .u64 0), (.int .u64 0), (.slice none 0 0), (.int .i64 0), (.int .i64 0), (.int .i64 0), (.int .i64 0), (.int .i64 0), (.int .i64 0), (.int .u64 0), (.int .u64 0), (.int .u64 0), (.int .i64 0), (.slice none 0 0), (.int .i64 0)])) .nil (.done [(1, (.bv 0)), (2, (.cst (.int .i64 0)))] none))) h11_7)⟩
theorem l11_ok : liftFn T0 11 400 = some l11 := by kernel_rfl
set_option maxHeartbeats 4000000 in
theorem Decode_spec (b : List UInt8) (v : Value) (w0 w : World) (A : Asn) (h : BR w0 A v b) (s : St w0 A w) :
    CallW Try.prog 12 [v] (fun x w' => ∃ ev cv l, x = .tuple #[.agg ((decR b).1.cs ev cv).toArray, .int .i64 (decR b).2] ∧ l.map (·.1) = (decR b).1.co.es ∧ St w0 (A * own 3 1 ev (decR b).1.en.ws.length (ints (decR b).1.en.ws) * esO cv l) w') w := by
  have hbr := h
  obtain ⟨va, vc, rfl⟩ := h.val
  refine callW_of_lift l12_ok (by simp [l12]) ?_
  simp -implicitDefEqProofs [l12]
  refine eff_new s fun c w1 s1 => ?_
  simp -implicitDefEqProofs
  have s1 : St w0 (A * pt c (.cells (PR.zero.cs (.slice none 0 0) (.slice none 0 0)).toArray 30 (0, 0))) w1 := s1.to (by simp only [PR.cs, PR.zero, PE.zero, PC.zero, Value.cells, mk])
  have bad : ∀ (e : Int) {w : World}, decR b = (PR.zero, e) → St w0 (A * pt c (.cells (PR.zero.cs (.slice none 0 0) (.slice none 0 0)).toArray 30 (0, 0))) w → ∃ ev cv l, (Value.tuple #[.agg (PR.zero.cs (.slice none 0 0) (.slice none 0 0)).toArray, .int .i64 e]) = .tuple #[.agg ((decR b).1.cs ev cv).toArray, .int .i64 (decR b).2] ∧ l.map (·.1) = (decR b).1.co.es ∧ St w0 (A * own 3 1 ev (decR b).1.en.ws.length (ints (decR b).1.en.ws) * esO cv l) w := fun e w hd s => by
    rw [hd]
    exact ⟨_, _, [], rfl, rfl, b2s_nil s.drop⟩
  refine cndI (fun h0 => ?_) (fun h0 => ?_)
  · have h0 : 4096 < b.length := by simp at h0; omega
    have hd : decR b = (PR.zero, 3) := if_pos h0
    simp -implicitDefEqProofs [Instr.fill, Value.cells, rl]
    refine eff_stA (vs := PR.zero.cs (.slice none 0 0) (.slice none 0 0)) s1 rfl rfl (pr_one _ _ _ rfl rfl) (by simp [PR.cs]) fun w2 s2 => ?_
    simp -implicitDefEqProofs
    have s2 : St w0 (A * pt c (.cells (PR.zero.cs (.slice none 0 0) (.slice none 0 0)).toArray 30 (0, 0))) w2 := by simpa [PR.cs] using s2
    refine rv_cellA rfl s2.row_cells rfl ?_
    simp -implicitDefEqProofs
    simpa using bad 3 hd s2
  have h0 : ¬ 4096 < b.length := by simp at h0; omega
  simp -implicitDefEqProofs
  refine eff_call ((NewReader_spec b _ w0 w1 _ (by omega) (hbr.mono fun w s => s.drop) s1).mono ?_)
  rintro _ w2 ⟨p, q, l0, vb, rfl, hP, s2⟩
  simp -implicitDefEqProofs
  obtain ⟨x0, hx0⟩ : ∃ x, rdF false b = x := ⟨_, rfl⟩
  have hO : OKF x0.2 := by rw [← hx0]; exact rdF_ok _ _
  rw [hx0] at hP s2
  obtain ⟨Bq, hBq⟩ : ∃ Bq, A * pt c (.cells (PR.zero.cs (.slice none 0 0) (.slice none 0 0)).toArray 30 (0, 0)) * byA vb b = Bq := ⟨_, rfl⟩
  rw [hBq] at hP s2
  have t0 : St w0 (Bq * flt q x0.1 * rdP w0 Bq p q x0.2) w2 := pclose hP s2
  have hB0 : ∀ w, St w0 Bq w → St w0 Bq w := fun w h => h
  obtain ⟨x1, hx1⟩ : ∃ x, takeR x0.1 x0.2 1 = x := ⟨_, rfl⟩
  refine eff_call ((number_spec p q x0.1 x0.2 1 w0 w2 _ Bq (fun w s => s) hO t0).mono ?_)
  rintro _ w3 ⟨rfl, t1⟩
  rw [hx1] at t1 ⊢
  simp -implicitDefEqProofs
  obtain ⟨x2, hx2⟩ : ∃ x, rawR x1.2 x0.2 2 4096 = x := ⟨_, rfl⟩
  refine eff_call ((Text_rspec p q x1.2 x0.2 2 4096 w0 w3 _ Bq (fun w s => s) hO t1).mono ?_)
  rintro _ w4 ⟨rfl, t2⟩
  rw [hx2] at t2 ⊢
  simp -implicitDefEqProofs
  obtain ⟨x3, hx3⟩ : ∃ x, takeR x2.2 x0.2 3 = x := ⟨_, rfl⟩
  refine eff_call ((number_spec p q x2.2 x0.2 3 w0 w4 _ Bq (fun w s => s) hO t2).mono ?_)
  rintro _ w5 ⟨rfl, t3⟩
  rw [hx3] at t3 ⊢
  simp -implicitDefEqProofs
  obtain ⟨x4, hx4⟩ : ∃ x, takeR x3.2 x0.2 4 = x := ⟨_, rfl⟩
  refine eff_call ((number_spec p q x3.2 x0.2 4 w0 w5 _ Bq (fun w s => s) hO t3).mono ?_)
  rintro _ w6 ⟨rfl, t4⟩
  rw [hx4] at t4 ⊢
  simp -implicitDefEqProofs
  obtain ⟨x5, hx5⟩ : ∃ x, numR x4.2 x0.2 5 whole = x := ⟨_, rfl⟩
  refine eff_call ((Number_rspec p q x4.2 x0.2 5 whole w0 w6 _ Bq (fun w s => s) hO t4).mono ?_)
  rintro _ w7 ⟨rfl, t5⟩
  rw [hx5] at t5 ⊢
  simp -implicitDefEqProofs
  obtain ⟨x6, hx6⟩ : ∃ x, takeR x5.2 x0.2 6 = x := ⟨_, rfl⟩
  refine eff_call ((number_spec p q x5.2 x0.2 6 w0 w7 _ Bq (fun w s => s) hO t5).mono ?_)
  rintro _ w8 ⟨rfl, t6⟩
  rw [hx6] at t6 ⊢
  simp -implicitDefEqProofs
  obtain ⟨x7, hx7⟩ : ∃ x, takeR x6.2 x0.2 7 = x := ⟨_, rfl⟩
  refine eff_call ((number_spec p q x6.2 x0.2 7 w0 w8 _ Bq (fun w s => s) hO t6).mono ?_)
  rintro _ w9 ⟨rfl, t7⟩
  rw [hx7] at t7 ⊢
  simp -implicitDefEqProofs
  obtain ⟨x8, hx8⟩ : ∃ x, recR x7.2 x0.2 8 = x := ⟨_, rfl⟩
  have hO8 : OKF x8.2 := by rw [← hx8]; exact recR_ok _ _ _
  refine eff_call ((Record_rspec p q x7.2 x0.2 8 w0 w9 _ Bq (fun w s => s) hO t7).mono ?_)
  rintro _ w20 ⟨p8, rfl, u0⟩
  rw [hx8] at u0
  simp -implicitDefEqProofs
  obtain ⟨y8, hy8⟩ : ∃ x, recE x8.1 x8.2 = x := ⟨_, rfl⟩
  refine eff_call ((readEntry_spec p8 q x8.1 x8.2 w0 w20 (Bq * rdP w0 Bq p q x0.2) Bq (fun w s => s.drop) hO8 (u0.to (by ac_rfl))).mono ?_)
  rintro _ w21 ⟨ev, rfl, u1⟩
  rw [hy8] at u1 ⊢
  simp -implicitDefEqProofs
  obtain ⟨x9, hx9⟩ : ∃ x, recR y8.2 x0.2 9 = x := ⟨_, rfl⟩
  have hO9 : OKF x9.2 := by rw [← hx9]; exact recR_ok _ _ _
  refine eff_call ((Record_rspec p q y8.2 x0.2 9 w0 w21 (Bq * own 3 1 ev y8.1.ws.length (ints y8.1.ws) * rdP w0 Bq p8 q x8.2) Bq (fun w s => s.drop.drop) hO (u1.to (by ac_rfl))).mono ?_)
  rintro _ w22 ⟨p9, rfl, u2⟩
  rw [hx9] at u2
  simp -implicitDefEqProofs
  obtain ⟨y9, hy9⟩ : ∃ x, recC x9.1 x9.2 = x := ⟨_, rfl⟩
  refine eff_call ((readContract_spec p9 q x9.1 x9.2 w0 w22 (Bq * own 3 1 ev y8.1.ws.length (ints y8.1.ws) * rdP w0 Bq p8 q x8.2 * rdP w0 Bq p q x0.2) Bq (fun w s => s.drop.drop.drop) hO9 (u2.to (by ac_rfl))).mono ?_)
  rintro _ w23 ⟨cv, l, rfl, hl, u3⟩
  rw [hy9] at u3 hl ⊢
  simp -implicitDefEqProofs
  obtain ⟨y, hy⟩ : ∃ x, takeR y9.2 x0.2 10 = x := ⟨_, rfl⟩
  refine eff_call ((number_spec p q y9.2 x0.2 10 w0 w23 (Bq * own 3 1 ev y8.1.ws.length (ints y8.1.ws) * rdP w0 Bq p8 q x8.2 * rdP w0 Bq p9 q x9.2 * esO cv l) Bq (fun w s => s.drop.drop.drop.drop) hO (u3.to (by ac_rfl))).mono ?_)
  rintro _ w24 ⟨rfl, u4⟩
  rw [hy] at u4 ⊢
  simp -implicitDefEqProofs [Instr.fill, Value.cells, rl, PE.cs, PC.cs]
  have hX : decX b = ⟨x1.1, x2.1, x3.1, x4.1, x5.1, x6.1, x7.1, y8.1, y9.1, y.1⟩ := by simp only [decX, hx0, hx1, hx2, hx3, hx4, hx5, hx6, hx7, hx8, hy8, hx9, hy9, hy]
  have u5 := u4.cut (B := A * pt c (.cells (PR.zero.cs (.slice none 0 0) (.slice none 0 0)).toArray 30 (0, 0)) * own 3 1 ev y8.1.ws.length (ints y8.1.ws) * esO cv l) (flt q y.2 * rdP w0 Bq p q x0.2 * rdP w0 Bq p8 q x8.2 * rdP w0 Bq p9 q x9.2 * byA vb b) (by rw [← hBq]; ac_rfl)
  obtain ⟨_, _, hev, _⟩ := (u5.to (B := A * pt c (.cells (PR.zero.cs (.slice none 0 0) (.slice none 0 0)).toArray 30 (0, 0)) * esO cv l * own 3 1 ev y8.1.ws.length (ints y8.1.ws)) (by ac_rfl)).own_val
  have hev : ev.oneCell' = true := by rw [hev]; rfl
  obtain ⟨_, _, hcv, _⟩ := (u5.to (B := A * pt c (.cells (PR.zero.cs (.slice none 0 0) (.slice none 0 0)).toArray 30 (0, 0)) * own 3 1 ev y8.1.ws.length (ints y8.1.ws) * esA l * own 25 5 cv l.length (eflat l)) (by simp only [esO]; ac_rfl)).own_val
  have hcv : cv.oneCell' = true := by rw [hcv]; rfl
  refine eff_new u5 fun d w25 u6 => ?_
  simp -implicitDefEqProofs [Instr.fill, Value.cells, rl, PE.cs, PC.cs]
  refine eff_stA (vs := (⟨x1.1, x2.1, x3.1, x4.1, x5.1, x6.1, x7.1, y8.1, y9.1, y.1⟩ : PR).cs ev cv) u6 (by simp [PR.cs, PE.cs, PC.cs]) rfl (pr_one _ _ _ hev hcv) (by simp) fun w26 u7 => ?_
  simp -implicitDefEqProofs
  obtain ⟨x, hx⟩ : ∃ x, decX b = x := ⟨_, rfl⟩
  have hxo : x.ok := by rw [← hx]; exact decX_ok b
  have e8 : y8.1 = x.en := by rw [← hx, hX]
  have e9 : y9.1 = x.co := by rw [← hx, hX]
  have u8 : St w0 (A * pt c (.cells (PR.zero.cs (.slice none 0 0) (.slice none 0 0)).toArray 30 (0, 0)) * own 3 1 ev y8.1.ws.length (ints y8.1.ws) * esO cv l * pt d (.cells (x.cs ev cv).toArray 30 (0, 0))) w26 := by rw [← hx, hX]; simpa [PR.cs] using u7
  rw [e8] at u8
  rw [e9] at hl
  clear hX u7 hx1 hx2 hx3 hx4 hx5 hx6 hx7 hx8 hx9 hy8 hy9 hy
  have hwr : WR w0 (A * pt c (.cells (PR.zero.cs (.slice none 0 0) (.slice none 0 0)).toArray 30 (0, 0)) * own 3 1 ev x.en.ws.length (ints x.en.ws) * esO cv l * pt d (.cells (x.cs ev cv).toArray 30 (0, 0))) ev x.en.ws := row_in (e := 3) (B := A * pt c (.cells (PR.zero.cs (.slice none 0 0) (.slice none 0 0)).toArray 30 (0, 0)) * esO cv l * pt d (.cells (x.cs ev cv).toArray 30 (0, 0))) u8 (by ac_rfl)
  have hcc : CV w0 (A * pt c (.cells (PR.zero.cs (.slice none 0 0) (.slice none 0 0)).toArray 30 (0, 0)) * own 3 1 ev x.en.ws.length (ints x.en.ws) * esO cv l * pt d (.cells (x.cs ev cv).toArray 30 (0, 0))) cv (l.map (·.2)) x.co.es := by
    have := es_seen (A := A * pt c (.cells (PR.zero.cs (.slice none 0 0) (.slice none 0 0)).toArray 30 (0, 0)) * own 3 1 ev x.en.ws.length (ints x.en.ws) * pt d (.cells (x.cs ev cv).toArray 30 (0, 0))) (cv := cv) (l := l) (u8.to (by ac_rfl))
    rw [hl] at this
    exact this.mono fun w s => s.to (by ac_rfl)
  refine eff_ldcs (vs := x.cs ev cv) u8.row_cells rfl ?_
  simp -implicitDefEqProofs
  refine eff_call ((Encode_spec x ev cv _ w0 w26 _ hxo hwr hcc u8).mono ?_)
  rintro _ w27 ⟨v2, rfl, u9⟩
  simp -implicitDefEqProofs
  obtain ⟨E, hE⟩ : ∃ E, A * own 3 1 ev x.en.ws.length (ints x.en.ws) * esO cv l * pt d (.cells (x.cs ev cv).toArray 30 (0, 0)) = E := ⟨_, rfl⟩
  have u10 : St w0 (E * byA v2 (encB x) * pt c (.cells (PR.zero.cs (.slice none 0 0) (.slice none 0 0)).toArray 30 (0, 0))) w27 := u9.to (by rw [← hE]; ac_rfl)
  have hEA : ∀ w, St w0 E w → St w0 A w := fun w h => by rw [← hE] at h; exact h.drop.drop.drop
  by_cases c1 : encE x = 0
  case neg =>
    simp -implicitDefEqProofs [c1, Instr.fill, Value.cells, rl]
    have hd : decR b = (PR.zero, 238) := by unfold decR; rw [if_neg h0, if_pos (.inl (by rw [hx]; exact c1))]
    refine eff_stA (vs := PR.zero.cs (.slice none 0 0) (.slice none 0 0)) u10 rfl rfl (pr_one _ _ _ rfl rfl) (by simp [PR.cs]) fun w40 s40 => ?_
    simp -implicitDefEqProofs
    have s40 : St w0 (E * byA v2 (encB x) * pt c (.cells (PR.zero.cs (.slice none 0 0) (.slice none 0 0)).toArray 30 (0, 0))) w40 := by simpa [PR.cs] using s40
    refine rv_cellA rfl s40.row_cells rfl ?_
    simp -implicitDefEqProofs
    have := bad 238 hd (w := w40) (by rw [← hE] at s40; exact s40.cut (own 3 1 ev x.en.ws.length (ints x.en.ws) * esO cv l * pt d (.cells (x.cs ev cv).toArray 30 (0, 0)) * byA v2 (encB x)) (by ac_rfl))
    simpa using this
  simp -implicitDefEqProofs [c1]
  refine eff_call ((Equal_spec (encB x) b v2 _ w0 w27 _ (row_in (e := 5) (B := E * pt c (.cells (PR.zero.cs (.slice none 0 0) (.slice none 0 0)).toArray 30 (0, 0))) u10 (by simp only [byA]; ac_rfl)) (hbr.mono fun w s => hEA _ s.drop.drop) u10).mono ?_)
  rintro _ w28 ⟨rfl, u11⟩
  by_cases c2 : encB x = b
  case neg =>
    have c3 : (encB x == b) = false := beq_eq_false_iff_ne.2 c2
    simp -implicitDefEqProofs [c3, Instr.fill, Value.cells, rl]
    have hd : decR b = (PR.zero, 238) := by unfold decR; rw [if_neg h0, if_pos (.inr (by rw [hx]; exact c2))]
    refine eff_stA (vs := PR.zero.cs (.slice none 0 0) (.slice none 0 0)) u11 rfl rfl (pr_one _ _ _ rfl rfl) (by simp [PR.cs]) fun w40 s40 => ?_
    simp -implicitDefEqProofs
    have s40 : St w0 (E * byA v2 (encB x) * pt c (.cells (PR.zero.cs (.slice none 0 0) (.slice none 0 0)).toArray 30 (0, 0))) w40 := by simpa [PR.cs] using s40
    refine rv_cellA rfl s40.row_cells rfl ?_
    simp -implicitDefEqProofs
    have := bad 238 hd (w := w40) (by rw [← hE] at s40; exact s40.cut (own 3 1 ev x.en.ws.length (ints x.en.ws) * esO cv l * pt d (.cells (x.cs ev cv).toArray 30 (0, 0)) * byA v2 (encB x)) (by ac_rfl))
    simpa using this
  simp -implicitDefEqProofs [c2]
  have hd : decR b = (x, 0) := by unfold decR; rw [if_neg h0, hx, if_neg (by rintro (h | h); exact h c1; exact h c2)]
  rw [← hE] at u11
  refine eff_ldcs (vs := x.cs ev cv) (St.row_cells (F := A * own 3 1 ev x.en.ws.length (ints x.en.ws) * esO cv l * byA v2 (encB x) * pt c (.cells (PR.zero.cs (.slice none 0 0) (.slice none 0 0)).toArray 30 (0, 0))) (u11.to (by ac_rfl))) rfl ?_
  simp -implicitDefEqProofs
  refine eff_stA (vs := x.cs ev cv) u11 rfl rfl (pr_one _ _ _ hev hcv) (by simp [PR.cs]) fun w29 u12 => ?_
  simp -implicitDefEqProofs
  have u12 : St w0 (A * own 3 1 ev x.en.ws.length (ints x.en.ws) * esO cv l * pt d (.cells (x.cs ev cv).toArray 30 (0, 0)) * byA v2 (encB x) * pt c (.cells (x.cs ev cv).toArray 30 (0, 0))) w29 := by simpa [PR.cs] using u12
  refine rv_cellA rfl u12.row_cells rfl ?_
  simp -implicitDefEqProofs
  simp -implicitDefEqProofs [hd]
  exact ⟨ev, cv, rfl, l, hl, u12.drop.drop.drop⟩
set_option maxHeartbeats 4000000 in
theorem rDecode_spec (b : List UInt8) (v : Value) (w0 w : World) (A : Asn) (h : BR w0 A v b) (s : St w0 A w) :
    CallW Try.prog 11 [v] (fun x w' => ∃ ev cv l, x = .tuple #[.agg ((decR b).1.cs ev cv).toArray, .int .i64 (decR b).2] ∧ l.map (·.1) = (decR b).1.co.es ∧ St w0 (A * own 3 1 ev (decR b).1.en.ws.length (ints (decR b).1.en.ws) * esO cv l) w') w := by
  have hbr := h
  obtain ⟨va, vc, rfl⟩ := h.val
  refine callW_of_lift l11_ok (by simp [l11]) ?_
  simp -implicitDefEqProofs [l11]
  refine eff_new s fun c w1 s1 => ?_
  simp -implicitDefEqProofs
  have s1 : St w0 (A * pt c (.cells (PR.zero.cs (.slice none 0 0) (.slice none 0 0)).toArray 30 (0, 0))) w1 := s1.to (by simp only [PR.cs, PR.zero, PE.zero, PC.zero, Value.cells, mk])
  have bad : ∀ (e : Int) {w : World}, decR b = (PR.zero, e) → St w0 (A * pt c (.cells (PR.zero.cs (.slice none 0 0) (.slice none 0 0)).toArray 30 (0, 0))) w → ∃ ev cv l, (Value.tuple #[.agg (PR.zero.cs (.slice none 0 0) (.slice none 0 0)).toArray, .int .i64 e]) = .tuple #[.agg ((decR b).1.cs ev cv).toArray, .int .i64 (decR b).2] ∧ l.map (·.1) = (decR b).1.co.es ∧ St w0 (A * own 3 1 ev (decR b).1.en.ws.length (ints (decR b).1.en.ws) * esO cv l) w := fun e w hd s => by
    rw [hd]
    exact ⟨_, _, [], rfl, rfl, b2s_nil s.drop⟩
  refine cndI (fun h0 => ?_) (fun h0 => ?_)
  · have h0 : 4096 < b.length := by simp at h0; omega
    have hd : decR b = (PR.zero, 3) := if_pos h0
    simp -implicitDefEqProofs [Instr.fill, Value.cells, rl]
    refine eff_stA (vs := PR.zero.cs (.slice none 0 0) (.slice none 0 0)) s1 rfl rfl (pr_one _ _ _ rfl rfl) (by simp [PR.cs]) fun w2 s2 => ?_
    simp -implicitDefEqProofs
    have s2 : St w0 (A * pt c (.cells (PR.zero.cs (.slice none 0 0) (.slice none 0 0)).toArray 30 (0, 0))) w2 := by simpa [PR.cs] using s2
    refine rv_cellA rfl s2.row_cells rfl ?_
    simp -implicitDefEqProofs
    simpa using bad 3 hd s2
  have h0 : ¬ 4096 < b.length := by simp at h0; omega
  simp -implicitDefEqProofs
  refine eff_call ((rNewReader_spec b _ w0 w1 _ (by omega) (hbr.mono fun w s => s.drop) s1).mono ?_)
  rintro _ w2 ⟨p, q, rfl, s2⟩
  simp -implicitDefEqProofs
  obtain ⟨x0, hx0⟩ : ∃ x, rdF false b = x := ⟨_, rfl⟩
  have hO : OKF x0.2 := by rw [← hx0]; exact rdF_ok _ _
  rw [hx0] at s2
  obtain ⟨Bq, hBq⟩ : ∃ Bq, A * pt c (.cells (PR.zero.cs (.slice none 0 0) (.slice none 0 0)).toArray 30 (0, 0)) = Bq := ⟨_, rfl⟩
  rw [hBq] at s2
  have t0 : St w0 (Bq * rflt q x0.1 * rrP p q x0.2) w2 := s2
  obtain ⟨x1, hx1⟩ : ∃ x, takeR x0.1 x0.2 1 = x := ⟨_, rfl⟩
  refine eff_call ((rnumber_spec p q x0.1 x0.2 1 w0 w2 _ hO t0).mono ?_)
  rintro _ w3 ⟨rfl, t1⟩
  rw [hx1] at t1 ⊢
  simp -implicitDefEqProofs
  obtain ⟨x2, hx2⟩ : ∃ x, rawR x1.2 x0.2 2 4096 = x := ⟨_, rfl⟩
  refine eff_call ((rText_rspec p q x1.2 x0.2 2 4096 w0 w3 _ hO t1).mono ?_)
  rintro _ w4 ⟨rfl, t2⟩
  rw [hx2] at t2 ⊢
  simp -implicitDefEqProofs
  obtain ⟨x3, hx3⟩ : ∃ x, takeR x2.2 x0.2 3 = x := ⟨_, rfl⟩
  refine eff_call ((rnumber_spec p q x2.2 x0.2 3 w0 w4 _ hO t2).mono ?_)
  rintro _ w5 ⟨rfl, t3⟩
  rw [hx3] at t3 ⊢
  simp -implicitDefEqProofs
  obtain ⟨x4, hx4⟩ : ∃ x, takeR x3.2 x0.2 4 = x := ⟨_, rfl⟩
  refine eff_call ((rnumber_spec p q x3.2 x0.2 4 w0 w5 _ hO t3).mono ?_)
  rintro _ w6 ⟨rfl, t4⟩
  rw [hx4] at t4 ⊢
  simp -implicitDefEqProofs
  obtain ⟨x5, hx5⟩ : ∃ x, numR x4.2 x0.2 5 whole = x := ⟨_, rfl⟩
  refine eff_call ((rNumber_rspec p q x4.2 x0.2 5 whole w0 w6 _ hO t4).mono ?_)
  rintro _ w7 ⟨rfl, t5⟩
  rw [hx5] at t5 ⊢
  simp -implicitDefEqProofs
  obtain ⟨x6, hx6⟩ : ∃ x, takeR x5.2 x0.2 6 = x := ⟨_, rfl⟩
  refine eff_call ((rnumber_spec p q x5.2 x0.2 6 w0 w7 _ hO t5).mono ?_)
  rintro _ w8 ⟨rfl, t6⟩
  rw [hx6] at t6 ⊢
  simp -implicitDefEqProofs
  obtain ⟨x7, hx7⟩ : ∃ x, takeR x6.2 x0.2 7 = x := ⟨_, rfl⟩
  refine eff_call ((rnumber_spec p q x6.2 x0.2 7 w0 w8 _ hO t6).mono ?_)
  rintro _ w9 ⟨rfl, t7⟩
  rw [hx7] at t7 ⊢
  simp -implicitDefEqProofs
  obtain ⟨x8, hx8⟩ : ∃ x, recR x7.2 x0.2 8 = x := ⟨_, rfl⟩
  have hO8 : OKF x8.2 := by rw [← hx8]; exact recR_ok _ _ _
  refine eff_call ((rRecord_rspec p q x7.2 x0.2 8 w0 w9 _ hO t7).mono ?_)
  rintro _ w20 ⟨p8, rfl, u0⟩
  rw [hx8] at u0
  simp -implicitDefEqProofs
  obtain ⟨y8, hy8⟩ : ∃ x, recE x8.1 x8.2 = x := ⟨_, rfl⟩
  refine eff_call ((rreadEntry_spec p8 q x8.1 x8.2 w0 w20 (Bq * rrP p q x0.2) hO8 (u0.to (by ac_rfl))).mono ?_)
  rintro _ w21 ⟨ev, rfl, u1⟩
  rw [hy8] at u1 ⊢
  simp -implicitDefEqProofs
  obtain ⟨x9, hx9⟩ : ∃ x, recR y8.2 x0.2 9 = x := ⟨_, rfl⟩
  have hO9 : OKF x9.2 := by rw [← hx9]; exact recR_ok _ _ _
  refine eff_call ((rRecord_rspec p q y8.2 x0.2 9 w0 w21 (Bq * own 3 1 ev y8.1.ws.length (ints y8.1.ws) * rrP p8 q x8.2) hO (u1.to (by ac_rfl))).mono ?_)
  rintro _ w22 ⟨p9, rfl, u2⟩
  rw [hx9] at u2
  simp -implicitDefEqProofs
  obtain ⟨y9, hy9⟩ : ∃ x, recC x9.1 x9.2 = x := ⟨_, rfl⟩
  refine eff_call ((rreadContract_spec p9 q x9.1 x9.2 w0 w22 (Bq * own 3 1 ev y8.1.ws.length (ints y8.1.ws) * rrP p8 q x8.2 * rrP p q x0.2) hO9 (u2.to (by ac_rfl))).mono ?_)
  rintro _ w23 ⟨cv, l, rfl, hl, u3⟩
  rw [hy9] at u3 hl ⊢
  simp -implicitDefEqProofs
  obtain ⟨y, hy⟩ : ∃ x, takeR y9.2 x0.2 10 = x := ⟨_, rfl⟩
  refine eff_call ((rnumber_spec p q y9.2 x0.2 10 w0 w23 (Bq * own 3 1 ev y8.1.ws.length (ints y8.1.ws) * rrP p8 q x8.2 * rrP p9 q x9.2 * esO cv l) hO (u3.to (by ac_rfl))).mono ?_)
  rintro _ w24 ⟨rfl, u4⟩
  rw [hy] at u4 ⊢
  simp -implicitDefEqProofs [Instr.fill, Value.cells, rl, PE.cs, PC.cs]
  have hX : decX b = ⟨x1.1, x2.1, x3.1, x4.1, x5.1, x6.1, x7.1, y8.1, y9.1, y.1⟩ := by simp only [decX, hx0, hx1, hx2, hx3, hx4, hx5, hx6, hx7, hx8, hy8, hx9, hy9, hy]
  have u5 := u4.cut (B := A * pt c (.cells (PR.zero.cs (.slice none 0 0) (.slice none 0 0)).toArray 30 (0, 0)) * own 3 1 ev y8.1.ws.length (ints y8.1.ws) * esO cv l) (rflt q y.2 * rrP p q x0.2 * rrP p8 q x8.2 * rrP p9 q x9.2) (by rw [← hBq]; ac_rfl)
  obtain ⟨_, _, hev, _⟩ := (u5.to (B := A * pt c (.cells (PR.zero.cs (.slice none 0 0) (.slice none 0 0)).toArray 30 (0, 0)) * esO cv l * own 3 1 ev y8.1.ws.length (ints y8.1.ws)) (by ac_rfl)).own_val
  have hev : ev.oneCell' = true := by rw [hev]; rfl
  obtain ⟨_, _, hcv, _⟩ := (u5.to (B := A * pt c (.cells (PR.zero.cs (.slice none 0 0) (.slice none 0 0)).toArray 30 (0, 0)) * own 3 1 ev y8.1.ws.length (ints y8.1.ws) * esA l * own 25 5 cv l.length (eflat l)) (by simp only [esO]; ac_rfl)).own_val
  have hcv : cv.oneCell' = true := by rw [hcv]; rfl
  refine eff_new u5 fun d w25 u6 => ?_
  simp -implicitDefEqProofs [Instr.fill, Value.cells, rl, PE.cs, PC.cs]
  refine eff_stA (vs := (⟨x1.1, x2.1, x3.1, x4.1, x5.1, x6.1, x7.1, y8.1, y9.1, y.1⟩ : PR).cs ev cv) u6 (by simp [PR.cs, PE.cs, PC.cs]) rfl (pr_one _ _ _ hev hcv) (by simp) fun w26 u7 => ?_
  simp -implicitDefEqProofs
  obtain ⟨x, hx⟩ : ∃ x, decX b = x := ⟨_, rfl⟩
  have hxo : x.ok := by rw [← hx]; exact decX_ok b
  have e8 : y8.1 = x.en := by rw [← hx, hX]
  have e9 : y9.1 = x.co := by rw [← hx, hX]
  have u8 : St w0 (A * pt c (.cells (PR.zero.cs (.slice none 0 0) (.slice none 0 0)).toArray 30 (0, 0)) * own 3 1 ev y8.1.ws.length (ints y8.1.ws) * esO cv l * pt d (.cells (x.cs ev cv).toArray 30 (0, 0))) w26 := by rw [← hx, hX]; simpa [PR.cs] using u7
  rw [e8] at u8
  rw [e9] at hl
  clear hX u7 hx1 hx2 hx3 hx4 hx5 hx6 hx7 hx8 hx9 hy8 hy9 hy
  have hwr : WR w0 (A * pt c (.cells (PR.zero.cs (.slice none 0 0) (.slice none 0 0)).toArray 30 (0, 0)) * own 3 1 ev x.en.ws.length (ints x.en.ws) * esO cv l * pt d (.cells (x.cs ev cv).toArray 30 (0, 0))) ev x.en.ws := row_in (e := 3) (B := A * pt c (.cells (PR.zero.cs (.slice none 0 0) (.slice none 0 0)).toArray 30 (0, 0)) * esO cv l * pt d (.cells (x.cs ev cv).toArray 30 (0, 0))) u8 (by ac_rfl)
  have hcc : CV w0 (A * pt c (.cells (PR.zero.cs (.slice none 0 0) (.slice none 0 0)).toArray 30 (0, 0)) * own 3 1 ev x.en.ws.length (ints x.en.ws) * esO cv l * pt d (.cells (x.cs ev cv).toArray 30 (0, 0))) cv (l.map (·.2)) x.co.es := by
    have := es_seen (A := A * pt c (.cells (PR.zero.cs (.slice none 0 0) (.slice none 0 0)).toArray 30 (0, 0)) * own 3 1 ev x.en.ws.length (ints x.en.ws) * pt d (.cells (x.cs ev cv).toArray 30 (0, 0))) (cv := cv) (l := l) (u8.to (by ac_rfl))
    rw [hl] at this
    exact this.mono fun w s => s.to (by ac_rfl)
  refine eff_ldcs (vs := x.cs ev cv) u8.row_cells rfl ?_
  simp -implicitDefEqProofs
  refine eff_call ((rEncode_spec x ev cv _ w0 w26 _ hxo hwr hcc u8).mono ?_)
  rintro _ w27 ⟨v2, rfl, u9⟩
  simp -implicitDefEqProofs
  obtain ⟨E, hE⟩ : ∃ E, A * own 3 1 ev x.en.ws.length (ints x.en.ws) * esO cv l * pt d (.cells (x.cs ev cv).toArray 30 (0, 0)) = E := ⟨_, rfl⟩
  have u10 : St w0 (E * byA v2 (encB x) * pt c (.cells (PR.zero.cs (.slice none 0 0) (.slice none 0 0)).toArray 30 (0, 0))) w27 := u9.to (by rw [← hE]; ac_rfl)
  have hEA : ∀ w, St w0 E w → St w0 A w := fun w h => by rw [← hE] at h; exact h.drop.drop.drop
  by_cases c1 : encE x = 0
  case neg =>
    simp -implicitDefEqProofs [c1, Instr.fill, Value.cells, rl]
    have hd : decR b = (PR.zero, 238) := by unfold decR; rw [if_neg h0, if_pos (.inl (by rw [hx]; exact c1))]
    refine eff_stA (vs := PR.zero.cs (.slice none 0 0) (.slice none 0 0)) u10 rfl rfl (pr_one _ _ _ rfl rfl) (by simp [PR.cs]) fun w40 s40 => ?_
    simp -implicitDefEqProofs
    have s40 : St w0 (E * byA v2 (encB x) * pt c (.cells (PR.zero.cs (.slice none 0 0) (.slice none 0 0)).toArray 30 (0, 0))) w40 := by simpa [PR.cs] using s40
    refine rv_cellA rfl s40.row_cells rfl ?_
    simp -implicitDefEqProofs
    have := bad 238 hd (w := w40) (by rw [← hE] at s40; exact s40.cut (own 3 1 ev x.en.ws.length (ints x.en.ws) * esO cv l * pt d (.cells (x.cs ev cv).toArray 30 (0, 0)) * byA v2 (encB x)) (by ac_rfl))
    simpa using this
  simp -implicitDefEqProofs [c1]
  refine eff_call ((same_spec (encB x) b v2 _ w0 w27 _ (by have := encB_len x; omega) (row_in (e := 5) (B := E * pt c (.cells (PR.zero.cs (.slice none 0 0) (.slice none 0 0)).toArray 30 (0, 0))) u10 (by simp only [byA]; ac_rfl)) (hbr.mono fun w s => hEA _ s.drop.drop) u10).mono ?_)
  rintro _ w28 ⟨rfl, u11⟩
  by_cases c2 : encB x = b
  case neg =>
    have c3 : (encB x == b) = false := beq_eq_false_iff_ne.2 c2
    simp -implicitDefEqProofs [c3, Instr.fill, Value.cells, rl]
    have hd : decR b = (PR.zero, 238) := by unfold decR; rw [if_neg h0, if_pos (.inr (by rw [hx]; exact c2))]
    refine eff_stA (vs := PR.zero.cs (.slice none 0 0) (.slice none 0 0)) u11 rfl rfl (pr_one _ _ _ rfl rfl) (by simp [PR.cs]) fun w40 s40 => ?_
    simp -implicitDefEqProofs
    have s40 : St w0 (E * byA v2 (encB x) * pt c (.cells (PR.zero.cs (.slice none 0 0) (.slice none 0 0)).toArray 30 (0, 0))) w40 := by simpa [PR.cs] using s40
    refine rv_cellA rfl s40.row_cells rfl ?_
    simp -implicitDefEqProofs
    have := bad 238 hd (w := w40) (by rw [← hE] at s40; exact s40.cut (own 3 1 ev x.en.ws.length (ints x.en.ws) * esO cv l * pt d (.cells (x.cs ev cv).toArray 30 (0, 0)) * byA v2 (encB x)) (by ac_rfl))
    simpa using this
  simp -implicitDefEqProofs [c2]
  have hd : decR b = (x, 0) := by unfold decR; rw [if_neg h0, hx, if_neg (by rintro (h | h); exact h c1; exact h c2)]
  rw [← hE] at u11
  refine eff_ldcs (vs := x.cs ev cv) (St.row_cells (F := A * own 3 1 ev x.en.ws.length (ints x.en.ws) * esO cv l * byA v2 (encB x) * pt c (.cells (PR.zero.cs (.slice none 0 0) (.slice none 0 0)).toArray 30 (0, 0))) (u11.to (by ac_rfl))) rfl ?_
  simp -implicitDefEqProofs
  refine eff_stA (vs := x.cs ev cv) u11 rfl rfl (pr_one _ _ _ hev hcv) (by simp [PR.cs]) fun w29 u12 => ?_
  simp -implicitDefEqProofs
  have u12 : St w0 (A * own 3 1 ev x.en.ws.length (ints x.en.ws) * esO cv l * pt d (.cells (x.cs ev cv).toArray 30 (0, 0)) * byA v2 (encB x) * pt c (.cells (x.cs ev cv).toArray 30 (0, 0))) w29 := by simpa [PR.cs] using u12
  refine rv_cellA rfl u12.row_cells rfl ?_
  simp -implicitDefEqProofs
  simp -implicitDefEqProofs [hd]
  exact ⟨ev, cv, rfl, l, hl, u12.drop.drop.drop⟩
end Go.HL.Sr

namespace Go.HL.Sr
open Go.HL Go.HL.Tl Go.Proofs
set_option maxRecDepth 4000
set_option linter.unusedSimpArgs false
set_option linter.unusedVariables false
attribute [local irreducible] EffW

def h7_0 : HC := (.seq (.reg (.done [(1, (.inp 0))] none)) .ret)
@[simp] theorem h7_0_wp : type_of% (@wpH h7_0 _ h7_0.eq_1) := wpH h7_0.eq_1
def l7 : Lifted := ⟨[0, 2], 4, [.slot 1], (.seq (.reg (.done [(1, (.cst (.int .i64 0)))] none)) h7_0)⟩
theorem l7_ok : liftFn T0 7 400 = some l7 := by kernel_rfl

def r50_0 : RT := (.eff (.ld false 1) (.cons (.ite (.bv 5) true (.op (.fld 2) (.cons (.inp 2) .nil)) (.cst (.tuple #[]))) .nil) (.chk none (.fld 2) (.cons (.inp 3) .nil) (.eff (.ld false 1) (.cons (.op (.fld 2) (.cons (.inp 3) .nil)) .nil) (.chk none (.bin .eql) (.cons (.bv 6) (.cons (.bv 7) .nil)) (.isb none (.bv 5) (.bnd (.op (.bin .eql) (.cons (.bv 6) (.cons (.bv 7) .nil))) (.chk (some ((.bv 8), true)) (.fld 3) (.cons (.inp 2) .nil) (.ite (.bv 8) true (.eff (.ld false 1) (.cons (.ite (.bv 8) true (.op (.fld 3) (.cons (.inp 2) .nil)) (.cst (.tuple #[]))) .nil) (.chk none (.fld 3) (.cons (.inp 3) .nil) (.eff (.ld false 1) (.cons (.op (.fld 3) (.cons (.inp 3) .nil)) .nil) (.chk none (.bin .eql) (.cons (.bv 9) (.cons (.bv 10) .nil)) (.isb none (.bv 8) (.bnd (.op (.bin .eql) (.cons (.bv 9) (.cons (.bv 10) .nil))) (.chk (some ((.bv 11), true)) (.fld 4) (.cons (.inp 2) .nil) (.ite (.bv 11) true (.eff (.ld false 1) (.cons (.ite (.bv 11) true (.op (.fld 4) (.cons (.inp 2) .nil)) (.cst (.tuple #[]))) .nil) (.chk none (.fld 4) (.cons (.inp 3) .nil) (.eff (.ld false 1) (.cons (.op (.fld 4) (.cons (.inp 3) .nil)) .nil) (.eff (.call 79) (.cons (.bv 12) (.cons (.bv 13) .nil)) (.isb none (.bv 11) (.done [(4, (.bv 14))] none)))))) (.isb none (.bv 11) (.done [(4, (.cst (.bool false)))] none)))))))))) (.isb none (.bv 8) (.isb none (.cst (.bool false)) (.done [(4, (.cst (.bool false)))] none)))))))))))
@[simp] theorem r50_0_wp : type_of% (@wpR r50_0 _ r50_0.eq_1) := wpR r50_0.eq_1
@[simp] theorem r50_0_wpq : type_of% (@wpRq r50_0 _ r50_0.eq_1) := wpRq r50_0.eq_1
@[simp] theorem r50_0_wpm : type_of% (@wpRm r50_0 _ r50_0.eq_1) := wpRm r50_0.eq_1
def r50_1 : RT := (.chk none (.bin .eql) (.cons (.bv 3) (.cons (.bv 4) .nil)) (.isb none (.bv 2) (.bnd (.op (.bin .eql) (.cons (.bv 3) (.cons (.bv 4) .nil))) (.chk (some ((.bv 5), true)) (.fld 2) (.cons (.inp 2) .nil) (.ite (.bv 5) true r50_0 (.isb none (.bv 5) (.isb none (.cst (.bool false)) (.isb none (.cst (.bool false)) (.done [(4, (.cst (.bool false)))] none)))))))))
@[simp] theorem r50_1_wp : type_of% (@wpR r50_1 _ r50_1.eq_1) := wpR r50_1.eq_1
@[simp] theorem r50_1_wpq : type_of% (@wpRq r50_1 _ r50_1.eq_1) := wpRq r50_1.eq_1
@[simp] theorem r50_1_wpm : type_of% (@wpRm r50_1 _ r50_1.eq_1) := wpRm r50_1.eq_1
def r50_2 : RT := (.chk none (.fld 1) (.cons (.inp 3) .nil) (.eff (.ld false 1) (.cons (.op (.fld 1) (.cons (.inp 3) .nil)) .nil) r50_1))
@[simp] theorem r50_2_wp : type_of% (@wpR r50_2 _ r50_2.eq_1) := wpR r50_2.eq_1
@[simp] theorem r50_2_wpq : type_of% (@wpRq r50_2 _ r50_2.eq_1) := wpRq r50_2.eq_1
@[simp] theorem r50_2_wpm : type_of% (@wpRm r50_2 _ r50_2.eq_1) := wpRm r50_2.eq_1
def r50_3 : RT := (.eff (.ld false 1) (.cons (.ite (.bv 2) true (.op (.fld 1) (.cons (.inp 2) .nil)) (.cst (.tuple #[]))) .nil) r50_2)
@[simp] theorem r50_3_wp : type_of% (@wpR r50_3 _ r50_3.eq_1) := wpR r50_3.eq_1
@[simp] theorem r50_3_wpq : type_of% (@wpRq r50_3 _ r50_3.eq_1) := wpRq r50_3.eq_1
@[simp] theorem r50_3_wpm : type_of% (@wpRm r50_3 _ r50_3.eq_1) := wpRm r50_3.eq_1
def r50_4 : RT := (.chk none (.bin .eql) (.cons (.bv 0) (.cons (.bv 1) .nil)) (.bnd (.op (.bin .eql) (.cons (.bv 0) (.cons (.bv 1) .nil))) (.chk (some ((.bv 2), true)) (.fld 1) (.cons (.inp 2) .nil) (.ite (.bv 2) true r50_3 (.isb none (.bv 2) (.isb none (.cst (.bool false)) (.isb none (.cst (.bool false)) (.isb none (.cst (.bool false)) (.done [(4, (.cst (.bool false)))] none)))))))))
@[simp] theorem r50_4_wp : type_of% (@wpR r50_4 _ r50_4.eq_1) := wpR r50_4.eq_1
@[simp] theorem r50_4_wpq : type_of% (@wpRq r50_4 _ r50_4.eq_1) := wpRq r50_4.eq_1
@[simp] theorem r50_4_wpm : type_of% (@wpRm r50_4 _ r50_4.eq_1) := wpRm r50_4.eq_1
def r50_5 : RT := (.chk none (.fld 0) (.cons (.inp 3) .nil) (.eff (.ld false 1) (.cons (.op (.fld 0) (.cons (.inp 3) .nil)) .nil) r50_4))
@[simp] theorem r50_5_wp : type_of% (@wpR r50_5 _ r50_5.eq_1) := wpR r50_5.eq_1
@[simp] theorem r50_5_wpq : type_of% (@wpRq r50_5 _ r50_5.eq_1) := wpRq r50_5.eq_1
@[simp] theorem r50_5_wpm : type_of% (@wpRm r50_5 _ r50_5.eq_1) := wpRm r50_5.eq_1
def h50_0 : HC := (.seq (.reg (.chk none (.fld 0) (.cons (.inp 2) .nil) (.eff (.ld false 1) (.cons (.op (.fld 0) (.cons (.inp 2) .nil)) .nil) r50_5))) .ret)
@[simp] theorem h50_0_wp : type_of% (@wpH h50_0 _ h50_0.eq_1) := wpH h50_0.eq_1
def l50 : Lifted := ⟨[0, 1, 2, 3, 4], 38, [.slot 4], (.seq (.reg (.eff (.box 25) (.cons (.inp 0) .nil) (.eff (.box 25) (.cons (.inp 1) .nil) (.done [(2, (.bv 0)), (3, (.bv 1)), (4, (.cst (.bool false)))] none)))) h50_0)⟩
theorem l50_ok : liftFn T0 50 400 = some l50 := by kernel_rfl

def h51_0 : HC := (.seq (.reg (.done [(4, (.cst (.bool true)))] none)) .ret)
@[simp] theorem h51_0_wp : type_of% (@wpH h51_0 _ h51_0.eq_1) := wpH h51_0.eq_1
def h51_1 : HC := (.reg (.chk none (.bin .add) (.cons (.inp 5) (.cons (.cst (.int .i64 1)) .nil)) (.done [(5, (.op (.bin .add) (.cons (.inp 5) (.cons (.cst (.int .i64 1)) .nil))))] none)))
@[simp] theorem h51_1_wp : type_of% (@wpH h51_1 _ h51_1.eq_1) := wpH h51_1.eq_1
def h51_2 : HC := (.seq (.reg (.done [(4, (.cst (.bool false)))] none)) .ret)
@[simp] theorem h51_2_wp : type_of% (@wpH h51_2 _ h51_2.eq_1) := wpH h51_2.eq_1
def h51_3 : HC := (.brq (some 1) (.chk none (.fld 10) (.cons (.inp 2) .nil) (.eff (.ld false 1) (.cons (.op (.fld 10) (.cons (.inp 2) .nil)) .nil) (.chk none (.idxL 5) (.cons (.bv 0) (.cons (.inp 5) .nil)) (.eff (.ld true 5) (.cons (.op (.idxL 5) (.cons (.bv 0) (.cons (.inp 5) .nil))) .nil) (.chk none (.fld 10) (.cons (.inp 3) .nil) (.eff (.ld false 1) (.cons (.op (.fld 10) (.cons (.inp 3) .nil)) .nil) (.chk none (.idxL 5) (.cons (.bv 2) (.cons (.inp 5) .nil)) (.eff (.ld true 5) (.cons (.op (.idxL 5) (.cons (.bv 2) (.cons (.inp 5) .nil))) .nil) (.eff (.call 50) (.cons (.bv 1) (.cons (.bv 3) .nil)) (.chk none (.un .not) (.cons (.bv 4) .nil) (.done [] (some (.op (.un .not) (.cons (.bv 4) .nil)))))))))))))) h51_2 .skip)
@[simp] theorem h51_3_wp : type_of% (@wpH h51_3 _ h51_3.eq_1) := wpH h51_3.eq_1
def h51_4 : HC := (.seq (.block 1 h51_3) h51_1)
@[simp] theorem h51_4_wp : type_of% (@wpH h51_4 _ h51_4.eq_1) := wpH h51_4.eq_1
def h51_5 : HC := (.seq (.br (.chk none (.fld 10) (.cons (.inp 2) .nil) (.eff (.ld false 1) (.cons (.op (.fld 10) (.cons (.inp 2) .nil)) .nil) (.chk none .lenL (.cons (.bv 0) .nil) (.chk none (.bin .lss) (.cons (.inp 5) (.cons (.op .lenL (.cons (.bv 0) .nil)) .nil)) (.done [] (some (.op (.bin .lss) (.cons (.inp 5) (.cons (.op .lenL (.cons (.bv 0) .nil)) .nil))))))))) .skip (.exit 0)) h51_4)
@[simp] theorem h51_5_wp : type_of% (@wpH h51_5 _ h51_5.eq_1) := wpH h51_5.eq_1
def h51_6 : HC := (.loop h51_5)
@[simp] theorem h51_6_wp : type_of% (@wpH h51_6 _ h51_6.eq_1) := wpH h51_6.eq_1
def h51_7 : HC := (.seq (.block 0 h51_6) h51_0)
@[simp] theorem h51_7_wp : type_of% (@wpH h51_7 _ h51_7.eq_1) := wpH h51_7.eq_1
def h51_8 : HC := (.seq (.reg (.done [(5, (.cst (.int .i64 0)))] none)) h51_7)
@[simp] theorem h51_8_wp : type_of% (@wpH h51_8 _ h51_8.eq_1) := wpH h51_8.eq_1
def h51_9 : HC := (.seq (.reg (.done [(4, (.cst (.bool false)))] none)) .ret)
@[simp] theorem h51_9_wp : type_of% (@wpH h51_9 _ h51_9.eq_1) := wpH h51_9.eq_1
def r51_0 : RT := (.chk none (.fld 8) (.cons (.inp 3) .nil) (.eff (.ld false 1) (.cons (.op (.fld 8) (.cons (.inp 3) .nil)) .nil) (.chk none (.bin .neq) (.cons (.bv 24) (.cons (.bv 25) .nil)) (.isb none (.bv 23) (.bnd (.op (.bin .neq) (.cons (.bv 24) (.cons (.bv 25) .nil))) (.chk (some ((.bv 26), false)) (.fld 9) (.cons (.inp 2) .nil) (.ite (.bv 26) false (.eff (.ld false 1) (.cons (.ite (.bv 26) false (.op (.fld 9) (.cons (.inp 2) .nil)) (.cst (.tuple #[]))) .nil) (.chk none (.fld 9) (.cons (.inp 3) .nil) (.eff (.ld false 1) (.cons (.op (.fld 9) (.cons (.inp 3) .nil)) .nil) (.chk none (.bin .neq) (.cons (.bv 27) (.cons (.bv 28) .nil)) (.isb none (.bv 26) (.bnd (.op (.bin .neq) (.cons (.bv 27) (.cons (.bv 28) .nil))) (.chk (some ((.bv 29), false)) (.fld 10) (.cons (.inp 2) .nil) (.ite (.bv 29) false (.eff (.ld false 1) (.cons (.ite (.bv 29) false (.op (.fld 10) (.cons (.inp 2) .nil)) (.cst (.tuple #[]))) .nil) (.chk none .lenL (.cons (.bv 30) .nil) (.chk none (.fld 10) (.cons (.inp 3) .nil) (.eff (.ld false 1) (.cons (.op (.fld 10) (.cons (.inp 3) .nil)) .nil) (.chk none .lenL (.cons (.bv 31) .nil) (.chk none (.bin .neq) (.cons (.op .lenL (.cons (.bv 30) .nil)) (.cons (.op .lenL (.cons (.bv 31) .nil)) .nil)) (.isb none (.bv 29) (.done [] (some (.op (.bin .neq) (.cons (.op .lenL (.cons (.bv 30) .nil)) (.cons (.op .lenL (.cons (.bv 31) .nil)) .nil)))))))))))) (.isb none (.bv 29) (.done [] (some (.cst (.bool true))))))))))))) (.isb none (.bv 26) (.isb none (.cst (.bool true)) (.done [] (some (.cst (.bool true)))))))))))))
@[simp] theorem r51_0_wp : type_of% (@wpR r51_0 _ r51_0.eq_1) := wpR r51_0.eq_1
@[simp] theorem r51_0_wpq : type_of% (@wpRq r51_0 _ r51_0.eq_1) := wpRq r51_0.eq_1
@[simp] theorem r51_0_wpm : type_of% (@wpRm r51_0 _ r51_0.eq_1) := wpRm r51_0.eq_1
def r51_1 : RT := (.eff (.ld false 1) (.cons (.ite (.bv 23) false (.op (.fld 8) (.cons (.inp 2) .nil)) (.cst (.tuple #[]))) .nil) r51_0)
@[simp] theorem r51_1_wp : type_of% (@wpR r51_1 _ r51_1.eq_1) := wpR r51_1.eq_1
@[simp] theorem r51_1_wpq : type_of% (@wpRq r51_1 _ r51_1.eq_1) := wpRq r51_1.eq_1
@[simp] theorem r51_1_wpm : type_of% (@wpRm r51_1 _ r51_1.eq_1) := wpRm r51_1.eq_1
def r51_2 : RT := (.chk none (.bin .neq) (.cons (.bv 21) (.cons (.bv 22) .nil)) (.isb none (.bv 20) (.bnd (.op (.bin .neq) (.cons (.bv 21) (.cons (.bv 22) .nil))) (.chk (some ((.bv 23), false)) (.fld 8) (.cons (.inp 2) .nil) (.ite (.bv 23) false r51_1 (.isb none (.bv 23) (.isb none (.cst (.bool true)) (.isb none (.cst (.bool true)) (.done [] (some (.cst (.bool true))))))))))))
@[simp] theorem r51_2_wp : type_of% (@wpR r51_2 _ r51_2.eq_1) := wpR r51_2.eq_1
@[simp] theorem r51_2_wpq : type_of% (@wpRq r51_2 _ r51_2.eq_1) := wpRq r51_2.eq_1
@[simp] theorem r51_2_wpm : type_of% (@wpRm r51_2 _ r51_2.eq_1) := wpRm r51_2.eq_1
def r51_3 : RT := (.chk none (.fld 7) (.cons (.inp 3) .nil) (.eff (.ld false 1) (.cons (.op (.fld 7) (.cons (.inp 3) .nil)) .nil) r51_2))
@[simp] theorem r51_3_wp : type_of% (@wpR r51_3 _ r51_3.eq_1) := wpR r51_3.eq_1
@[simp] theorem r51_3_wpq : type_of% (@wpRq r51_3 _ r51_3.eq_1) := wpRq r51_3.eq_1
@[simp] theorem r51_3_wpm : type_of% (@wpRm r51_3 _ r51_3.eq_1) := wpRm r51_3.eq_1
def r51_4 : RT := (.eff (.ld false 1) (.cons (.ite (.bv 20) false (.op (.fld 7) (.cons (.inp 2) .nil)) (.cst (.tuple #[]))) .nil) r51_3)
@[simp] theorem r51_4_wp : type_of% (@wpR r51_4 _ r51_4.eq_1) := wpR r51_4.eq_1
@[simp] theorem r51_4_wpq : type_of% (@wpRq r51_4 _ r51_4.eq_1) := wpRq r51_4.eq_1
@[simp] theorem r51_4_wpm : type_of% (@wpRm r51_4 _ r51_4.eq_1) := wpRm r51_4.eq_1
def r51_5 : RT := (.chk none (.bin .neq) (.cons (.bv 18) (.cons (.bv 19) .nil)) (.isb none (.bv 17) (.bnd (.op (.bin .neq) (.cons (.bv 18) (.cons (.bv 19) .nil))) (.chk (some ((.bv 20), false)) (.fld 7) (.cons (.inp 2) .nil) (.ite (.bv 20) false r51_4 (.isb none (.bv 20) (.isb none (.cst (.bool true)) (.isb none (.cst (.bool true)) (.isb none (.cst (.bool true)) (.done [] (some (.cst (.bool true)))))))))))))
@[simp] theorem r51_5_wp : type_of% (@wpR r51_5 _ r51_5.eq_1) := wpR r51_5.eq_1
@[simp] theorem r51_5_wpq : type_of% (@wpRq r51_5 _ r51_5.eq_1) := wpRq r51_5.eq_1
@[simp] theorem r51_5_wpm : type_of% (@wpRm r51_5 _ r51_5.eq_1) := wpRm r51_5.eq_1
def r51_6 : RT := (.chk none (.fld 6) (.cons (.inp 3) .nil) (.eff (.ld false 1) (.cons (.op (.fld 6) (.cons (.inp 3) .nil)) .nil) r51_5))
@[simp] theorem r51_6_wp : type_of% (@wpR r51_6 _ r51_6.eq_1) := wpR r51_6.eq_1
@[simp] theorem r51_6_wpq : type_of% (@wpRq r51_6 _ r51_6.eq_1) := wpRq r51_6.eq_1
@[simp] theorem r51_6_wpm : type_of% (@wpRm r51_6 _ r51_6.eq_1) := wpRm r51_6.eq_1
def r51_7 : RT := (.eff (.ld false 1) (.cons (.ite (.bv 17) false (.op (.fld 6) (.cons (.inp 2) .nil)) (.cst (.tuple #[]))) .nil) r51_6)
@[simp] theorem r51_7_wp : type_of% (@wpR r51_7 _ r51_7.eq_1) := wpR r51_7.eq_1
@[simp] theorem r51_7_wpq : type_of% (@wpRq r51_7 _ r51_7.eq_1) := wpRq r51_7.eq_1
@[simp] theorem r51_7_wpm : type_of% (@wpRm r51_7 _ r51_7.eq_1) := wpRm r51_7.eq_1
def r51_8 : RT := (.chk none (.bin .neq) (.cons (.bv 15) (.cons (.bv 16) .nil)) (.isb none (.bv 14) (.bnd (.op (.bin .neq) (.cons (.bv 15) (.cons (.bv 16) .nil))) (.chk (some ((.bv 17), false)) (.fld 6) (.cons (.inp 2) .nil) (.ite (.bv 17) false r51_7 (.isb none (.bv 17) (.isb none (.cst (.bool true)) (.isb none (.cst (.bool true)) (.isb none (.cst (.bool true)) (.isb none (.cst (.bool true)) (.done [] (some (.cst (.bool true))))))))))))))
@[simp] theorem r51_8_wp : type_of% (@wpR r51_8 _ r51_8.eq_1) := wpR r51_8.eq_1
@[simp] theorem r51_8_wpq : type_of% (@wpRq r51_8 _ r51_8.eq_1) := wpRq r51_8.eq_1
@[simp] theorem r51_8_wpm : type_of% (@wpRm r51_8 _ r51_8.eq_1) := wpRm r51_8.eq_1
def r51_9 : RT := (.chk none (.fld 5) (.cons (.inp 3) .nil) (.eff (.ld false 1) (.cons (.op (.fld 5) (.cons (.inp 3) .nil)) .nil) r51_8))
@[simp] theorem r51_9_wp : type_of% (@wpR r51_9 _ r51_9.eq_1) := wpR r51_9.eq_1
@[simp] theorem r51_9_wpq : type_of% (@wpRq r51_9 _ r51_9.eq_1) := wpRq r51_9.eq_1
@[simp] theorem r51_9_wpm : type_of% (@wpRm r51_9 _ r51_9.eq_1) := wpRm r51_9.eq_1
def r51_10 : RT := (.eff (.ld false 1) (.cons (.ite (.bv 14) false (.op (.fld 5) (.cons (.inp 2) .nil)) (.cst (.tuple #[]))) .nil) r51_9)
@[simp] theorem r51_10_wp : type_of% (@wpR r51_10 _ r51_10.eq_1) := wpR r51_10.eq_1
@[simp] theorem r51_10_wpq : type_of% (@wpRq r51_10 _ r51_10.eq_1) := wpRq r51_10.eq_1
@[simp] theorem r51_10_wpm : type_of% (@wpRm r51_10 _ r51_10.eq_1) := wpRm r51_10.eq_1
def r51_11 : RT := (.chk none (.bin .neq) (.cons (.bv 12) (.cons (.bv 13) .nil)) (.isb none (.bv 11) (.bnd (.op (.bin .neq) (.cons (.bv 12) (.cons (.bv 13) .nil))) (.chk (some ((.bv 14), false)) (.fld 5) (.cons (.inp 2) .nil) (.ite (.bv 14) false r51_10 (.isb none (.bv 14) (.isb none (.cst (.bool true)) (.isb none (.cst (.bool true)) (.isb none (.cst (.bool true)) (.isb none (.cst (.bool true)) (.isb none (.cst (.bool true)) (.done [] (some (.cst (.bool true)))))))))))))))
@[simp] theorem r51_11_wp : type_of% (@wpR r51_11 _ r51_11.eq_1) := wpR r51_11.eq_1
@[simp] theorem r51_11_wpq : type_of% (@wpRq r51_11 _ r51_11.eq_1) := wpRq r51_11.eq_1
@[simp] theorem r51_11_wpm : type_of% (@wpRm r51_11 _ r51_11.eq_1) := wpRm r51_11.eq_1
def r51_12 : RT := (.chk none (.fld 4) (.cons (.inp 3) .nil) (.eff (.ld false 1) (.cons (.op (.fld 4) (.cons (.inp 3) .nil)) .nil) r51_11))
@[simp] theorem r51_12_wp : type_of% (@wpR r51_12 _ r51_12.eq_1) := wpR r51_12.eq_1
@[simp] theorem r51_12_wpq : type_of% (@wpRq r51_12 _ r51_12.eq_1) := wpRq r51_12.eq_1
@[simp] theorem r51_12_wpm : type_of% (@wpRm r51_12 _ r51_12.eq_1) := wpRm r51_12.eq_1
def r51_13 : RT := (.eff (.ld false 1) (.cons (.ite (.bv 11) false (.op (.fld 4) (.cons (.inp 2) .nil)) (.cst (.tuple #[]))) .nil) r51_12)
@[simp] theorem r51_13_wp : type_of% (@wpR r51_13 _ r51_13.eq_1) := wpR r51_13.eq_1
@[simp] theorem r51_13_wpq : type_of% (@wpRq r51_13 _ r51_13.eq_1) := wpRq r51_13.eq_1
@[simp] theorem r51_13_wpm : type_of% (@wpRm r51_13 _ r51_13.eq_1) := wpRm r51_13.eq_1
def r51_14 : RT := (.chk none (.bin .neq) (.cons (.bv 9) (.cons (.bv 10) .nil)) (.isb none (.bv 8) (.bnd (.op (.bin .neq) (.cons (.bv 9) (.cons (.bv 10) .nil))) (.chk (some ((.bv 11), false)) (.fld 4) (.cons (.inp 2) .nil) (.ite (.bv 11) false r51_13 (.isb none (.bv 11) (.isb none (.cst (.bool true)) (.isb none (.cst (.bool true)) (.isb none (.cst (.bool true)) (.isb none (.cst (.bool true)) (.isb none (.cst (.bool true)) (.isb none (.cst (.bool true)) (.done [] (some (.cst (.bool true))))))))))))))))
@[simp] theorem r51_14_wp : type_of% (@wpR r51_14 _ r51_14.eq_1) := wpR r51_14.eq_1
@[simp] theorem r51_14_wpq : type_of% (@wpRq r51_14 _ r51_14.eq_1) := wpRq r51_14.eq_1
@[simp] theorem r51_14_wpm : type_of% (@wpRm r51_14 _ r51_14.eq_1) := wpRm r51_14.eq_1
def r51_15 : RT := (.chk none (.fld 3) (.cons (.inp 3) .nil) (.eff (.ld false 1) (.cons (.op (.fld 3) (.cons (.inp 3) .nil)) .nil) r51_14))
@[simp] theorem r51_15_wp : type_of% (@wpR r51_15 _ r51_15.eq_1) := wpR r51_15.eq_1
@[simp] theorem r51_15_wpq : type_of% (@wpRq r51_15 _ r51_15.eq_1) := wpRq r51_15.eq_1
@[simp] theorem r51_15_wpm : type_of% (@wpRm r51_15 _ r51_15.eq_1) := wpRm r51_15.eq_1
def r51_16 : RT := (.eff (.ld false 1) (.cons (.ite (.bv 8) false (.op (.fld 3) (.cons (.inp 2) .nil)) (.cst (.tuple #[]))) .nil) r51_15)
@[simp] theorem r51_16_wp : type_of% (@wpR r51_16 _ r51_16.eq_1) := wpR r51_16.eq_1
@[simp] theorem r51_16_wpq : type_of% (@wpRq r51_16 _ r51_16.eq_1) := wpRq r51_16.eq_1
@[simp] theorem r51_16_wpm : type_of% (@wpRm r51_16 _ r51_16.eq_1) := wpRm r51_16.eq_1
def r51_17 : RT := (.chk none (.bin .neq) (.cons (.bv 6) (.cons (.bv 7) .nil)) (.isb none (.bv 5) (.bnd (.op (.bin .neq) (.cons (.bv 6) (.cons (.bv 7) .nil))) (.chk (some ((.bv 8), false)) (.fld 3) (.cons (.inp 2) .nil) (.ite (.bv 8) false r51_16 (.isb none (.bv 8) (.isb none (.cst (.bool true)) (.isb none (.cst (.bool true)) (.isb none (.cst (.bool true)) (.isb none (.cst (.bool true)) (.isb none (.cst (.bool true)) (.isb none (.cst (.bool true)) (.isb none (.cst (.bool true)) (.done [] (some (.cst (.bool true)))))))))))))))))
@[simp] theorem r51_17_wp : type_of% (@wpR r51_17 _ r51_17.eq_1) := wpR r51_17.eq_1
@[simp] theorem r51_17_wpq : type_of% (@wpRq r51_17 _ r51_17.eq_1) := wpRq r51_17.eq_1
@[simp] theorem r51_17_wpm : type_of% (@wpRm r51_17 _ r51_17.eq_1) := wpRm r51_17.eq_1
def r51_18 : RT := (.chk none (.fld 2) (.cons (.inp 3) .nil) (.eff (.ld false 1) (.cons (.op (.fld 2) (.cons (.inp 3) .nil)) .nil) r51_17))
@[simp] theorem r51_18_wp : type_of% (@wpR r51_18 _ r51_18.eq_1) := wpR r51_18.eq_1
@[simp] theorem r51_18_wpq : type_of% (@wpRq r51_18 _ r51_18.eq_1) := wpRq r51_18.eq_1
@[simp] theorem r51_18_wpm : type_of% (@wpRm r51_18 _ r51_18.eq_1) := wpRm r51_18.eq_1
def r51_19 : RT := (.eff (.ld false 1) (.cons (.ite (.bv 5) false (.op (.fld 2) (.cons (.inp 2) .nil)) (.cst (.tuple #[]))) .nil) r51_18)
@[simp] theorem r51_19_wp : type_of% (@wpR r51_19 _ r51_19.eq_1) := wpR r51_19.eq_1
@[simp] theorem r51_19_wpq : type_of% (@wpRq r51_19 _ r51_19.eq_1) := wpRq r51_19.eq_1
@[simp] theorem r51_19_wpm : type_of% (@wpRm r51_19 _ r51_19.eq_1) := wpRm r51_19.eq_1
def r51_20 : RT := (.isb none (.bv 5) (.isb none (.cst (.bool true)) (.isb none (.cst (.bool true)) (.isb none (.cst (.bool true)) (.isb none (.cst (.bool true)) (.isb none (.cst (.bool true)) (.isb none (.cst (.bool true)) (.isb none (.cst (.bool true)) (.isb none (.cst (.bool true)) (.done [] (some (.cst (.bool true)))))))))))))
@[simp] theorem r51_20_wp : type_of% (@wpR r51_20 _ r51_20.eq_1) := wpR r51_20.eq_1
@[simp] theorem r51_20_wpq : type_of% (@wpRq r51_20 _ r51_20.eq_1) := wpRq r51_20.eq_1
@[simp] theorem r51_20_wpm : type_of% (@wpRm r51_20 _ r51_20.eq_1) := wpRm r51_20.eq_1
def r51_21 : RT := (.chk none (.bin .neq) (.cons (.bv 3) (.cons (.bv 4) .nil)) (.isb none (.bv 2) (.bnd (.op (.bin .neq) (.cons (.bv 3) (.cons (.bv 4) .nil))) (.chk (some ((.bv 5), false)) (.fld 2) (.cons (.inp 2) .nil) (.ite (.bv 5) false r51_19 r51_20)))))
@[simp] theorem r51_21_wp : type_of% (@wpR r51_21 _ r51_21.eq_1) := wpR r51_21.eq_1
@[simp] theorem r51_21_wpq : type_of% (@wpRq r51_21 _ r51_21.eq_1) := wpRq r51_21.eq_1
@[simp] theorem r51_21_wpm : type_of% (@wpRm r51_21 _ r51_21.eq_1) := wpRm r51_21.eq_1
def r51_22 : RT := (.chk none (.fld 1) (.cons (.inp 3) .nil) (.eff (.ld false 1) (.cons (.op (.fld 1) (.cons (.inp 3) .nil)) .nil) r51_21))
@[simp] theorem r51_22_wp : type_of% (@wpR r51_22 _ r51_22.eq_1) := wpR r51_22.eq_1
@[simp] theorem r51_22_wpq : type_of% (@wpRq r51_22 _ r51_22.eq_1) := wpRq r51_22.eq_1
@[simp] theorem r51_22_wpm : type_of% (@wpRm r51_22 _ r51_22.eq_1) := wpRm r51_22.eq_1
def r51_23 : RT := (.eff (.ld false 1) (.cons (.ite (.bv 2) false (.op (.fld 1) (.cons (.inp 2) .nil)) (.cst (.tuple #[]))) .nil) r51_22)
@[simp] theorem r51_23_wp : type_of% (@wpR r51_23 _ r51_23.eq_1) := wpR r51_23.eq_1
@[simp] theorem r51_23_wpq : type_of% (@wpRq r51_23 _ r51_23.eq_1) := wpRq r51_23.eq_1
@[simp] theorem r51_23_wpm : type_of% (@wpRm r51_23 _ r51_23.eq_1) := wpRm r51_23.eq_1
def r51_24 : RT := (.isb none (.bv 2) (.isb none (.cst (.bool true)) (.isb none (.cst (.bool true)) (.isb none (.cst (.bool true)) (.isb none (.cst (.bool true)) (.isb none (.cst (.bool true)) (.isb none (.cst (.bool true)) (.isb none (.cst (.bool true)) (.isb none (.cst (.bool true)) (.isb none (.cst (.bool true)) (.done [] (some (.cst (.bool true))))))))))))))
@[simp] theorem r51_24_wp : type_of% (@wpR r51_24 _ r51_24.eq_1) := wpR r51_24.eq_1
@[simp] theorem r51_24_wpq : type_of% (@wpRq r51_24 _ r51_24.eq_1) := wpRq r51_24.eq_1
@[simp] theorem r51_24_wpm : type_of% (@wpRm r51_24 _ r51_24.eq_1) := wpRm r51_24.eq_1
def r51_25 : RT := (.chk none (.bin .neq) (.cons (.bv 0) (.cons (.bv 1) .nil)) (.bnd (.op (.bin .neq) (.cons (.bv 0) (.cons (.bv 1) .nil))) (.chk (some ((.bv 2), false)) (.fld 1) (.cons (.inp 2) .nil) (.ite (.bv 2) false r51_23 r51_24))))
@[simp] theorem r51_25_wp : type_of% (@wpR r51_25 _ r51_25.eq_1) := wpR r51_25.eq_1
@[simp] theorem r51_25_wpq : type_of% (@wpRq r51_25 _ r51_25.eq_1) := wpRq r51_25.eq_1
@[simp] theorem r51_25_wpm : type_of% (@wpRm r51_25 _ r51_25.eq_1) := wpRm r51_25.eq_1
def r51_26 : RT := (.chk none (.fld 0) (.cons (.inp 3) .nil) (.eff (.ld false 1) (.cons (.op (.fld 0) (.cons (.inp 3) .nil)) .nil) r51_25))
@[simp] theorem r51_26_wp : type_of% (@wpR r51_26 _ r51_26.eq_1) := wpR r51_26.eq_1
@[simp] theorem r51_26_wpq : type_of% (@wpRq r51_26 _ r51_26.eq_1) := wpRq r51_26.eq_1
@[simp] theorem r51_26_wpm : type_of% (@wpRm r51_26 _ r51_26.eq_1) := wpRm r51_26.eq_1
def h51_10 : HC := (.seq (.br (.chk none (.fld 0) (.cons (.inp 2) .nil) (.eff (.ld false 1) (.cons (.op (.fld 0) (.cons (.inp 2) .nil)) .nil) r51_26)) h51_9 .skip) h51_8)
@[simp] theorem h51_10_wp : type_of% (@wpH h51_10 _ h51_10.eq_1) := wpH h51_10.eq_1
def l51 : Lifted := ⟨[0, 1, 2, 3, 4, 5], 102, [.slot 4], (.seq (.reg (.eff (.box 28) (.cons (.inp 0) .nil) (.eff (.box 28) (.cons (.inp 1) .nil) (.done [(2, (.bv 0)), (3, (.bv 1)), (4, (.cst (.bool false)))] none)))) h51_10)⟩
theorem l51_ok : liftFn T0 51 400 = some l51 := by kernel_rfl

def r13_0 : RT := (.chk none (.bin .eql) (.cons (.bv 18) (.cons (.bv 19) .nil)) (.isb none (.bv 17) (.bnd (.op (.bin .eql) (.cons (.bv 18) (.cons (.bv 19) .nil))) (.chk (some ((.bv 20), true)) (.fld 7) (.cons (.inp 2) .nil) (.ite (.bv 20) true (.eff (.ld true 5) (.cons (.ite (.bv 20) true (.op (.fld 7) (.cons (.inp 2) .nil)) (.cst (.tuple #[]))) .nil) (.chk none (.fld 7) (.cons (.inp 3) .nil) (.eff (.ld true 5) (.cons (.op (.fld 7) (.cons (.inp 3) .nil)) .nil) (.eff (.call 50) (.cons (.bv 21) (.cons (.bv 22) .nil)) (.isb none (.bv 20) (.chk (some ((.bv 23), true)) (.fld 12) (.cons (.inp 2) .nil) (.ite (.bv 23) true (.eff (.ld true 11) (.cons (.ite (.bv 23) true (.op (.fld 12) (.cons (.inp 2) .nil)) (.cst (.tuple #[]))) .nil) (.chk none (.fld 12) (.cons (.inp 3) .nil) (.eff (.ld true 11) (.cons (.op (.fld 12) (.cons (.inp 3) .nil)) .nil) (.eff (.call 51) (.cons (.bv 24) (.cons (.bv 25) .nil)) (.isb none (.bv 23) (.chk (some ((.bv 26), true)) (.fld 23) (.cons (.inp 2) .nil) (.ite (.bv 26) true (.eff (.ld false 1) (.cons (.ite (.bv 26) true (.op (.fld 23) (.cons (.inp 2) .nil)) (.cst (.tuple #[]))) .nil) (.chk none (.fld 23) (.cons (.inp 3) .nil) (.eff (.ld false 1) (.cons (.op (.fld 23) (.cons (.inp 3) .nil)) .nil) (.chk none (.bin .eql) (.cons (.bv 27) (.cons (.bv 28) .nil)) (.isb none (.bv 26) (.done [(4, (.op (.bin .eql) (.cons (.bv 27) (.cons (.bv 28) .nil))))] none)))))) (.isb none (.bv 26) (.done [(4, (.cst (.bool false)))] none))))))))) (.isb none (.bv 23) (.isb none (.cst (.bool false)) (.done [(4, (.cst (.bool false)))] none)))))))))) (.isb none (.bv 20) (.isb none (.cst (.bool false)) (.isb none (.cst (.bool false)) (.done [(4, (.cst (.bool false)))] none)))))))))
@[simp] theorem r13_0_wp : type_of% (@wpR r13_0 _ r13_0.eq_1) := wpR r13_0.eq_1
@[simp] theorem r13_0_wpq : type_of% (@wpRq r13_0 _ r13_0.eq_1) := wpRq r13_0.eq_1
@[simp] theorem r13_0_wpm : type_of% (@wpRm r13_0 _ r13_0.eq_1) := wpRm r13_0.eq_1
def r13_1 : RT := (.chk none (.fld 6) (.cons (.inp 3) .nil) (.eff (.ld false 1) (.cons (.op (.fld 6) (.cons (.inp 3) .nil)) .nil) r13_0))
@[simp] theorem r13_1_wp : type_of% (@wpR r13_1 _ r13_1.eq_1) := wpR r13_1.eq_1
@[simp] theorem r13_1_wpq : type_of% (@wpRq r13_1 _ r13_1.eq_1) := wpRq r13_1.eq_1
@[simp] theorem r13_1_wpm : type_of% (@wpRm r13_1 _ r13_1.eq_1) := wpRm r13_1.eq_1
def r13_2 : RT := (.eff (.ld false 1) (.cons (.ite (.bv 17) true (.op (.fld 6) (.cons (.inp 2) .nil)) (.cst (.tuple #[]))) .nil) r13_1)
@[simp] theorem r13_2_wp : type_of% (@wpR r13_2 _ r13_2.eq_1) := wpR r13_2.eq_1
@[simp] theorem r13_2_wpq : type_of% (@wpRq r13_2 _ r13_2.eq_1) := wpRq r13_2.eq_1
@[simp] theorem r13_2_wpm : type_of% (@wpRm r13_2 _ r13_2.eq_1) := wpRm r13_2.eq_1
def r13_3 : RT := (.chk none (.bin .eql) (.cons (.bv 15) (.cons (.bv 16) .nil)) (.isb none (.bv 14) (.bnd (.op (.bin .eql) (.cons (.bv 15) (.cons (.bv 16) .nil))) (.chk (some ((.bv 17), true)) (.fld 6) (.cons (.inp 2) .nil) (.ite (.bv 17) true r13_2 (.isb none (.bv 17) (.isb none (.cst (.bool false)) (.isb none (.cst (.bool false)) (.isb none (.cst (.bool false)) (.done [(4, (.cst (.bool false)))] none))))))))))
@[simp] theorem r13_3_wp : type_of% (@wpR r13_3 _ r13_3.eq_1) := wpR r13_3.eq_1
@[simp] theorem r13_3_wpq : type_of% (@wpRq r13_3 _ r13_3.eq_1) := wpRq r13_3.eq_1
@[simp] theorem r13_3_wpm : type_of% (@wpRm r13_3 _ r13_3.eq_1) := wpRm r13_3.eq_1
def r13_4 : RT := (.chk none (.fld 5) (.cons (.inp 3) .nil) (.eff (.ld false 1) (.cons (.op (.fld 5) (.cons (.inp 3) .nil)) .nil) r13_3))
@[simp] theorem r13_4_wp : type_of% (@wpR r13_4 _ r13_4.eq_1) := wpR r13_4.eq_1
@[simp] theorem r13_4_wpq : type_of% (@wpRq r13_4 _ r13_4.eq_1) := wpRq r13_4.eq_1
@[simp] theorem r13_4_wpm : type_of% (@wpRm r13_4 _ r13_4.eq_1) := wpRm r13_4.eq_1
def r13_5 : RT := (.eff (.ld false 1) (.cons (.ite (.bv 14) true (.op (.fld 5) (.cons (.inp 2) .nil)) (.cst (.tuple #[]))) .nil) r13_4)
@[simp] theorem r13_5_wp : type_of% (@wpR r13_5 _ r13_5.eq_1) := wpR r13_5.eq_1
@[simp] theorem r13_5_wpq : type_of% (@wpRq r13_5 _ r13_5.eq_1) := wpRq r13_5.eq_1
@[simp] theorem r13_5_wpm : type_of% (@wpRm r13_5 _ r13_5.eq_1) := wpRm r13_5.eq_1
def r13_6 : RT := (.chk none (.bin .eql) (.cons (.bv 12) (.cons (.bv 13) .nil)) (.isb none (.bv 11) (.bnd (.op (.bin .eql) (.cons (.bv 12) (.cons (.bv 13) .nil))) (.chk (some ((.bv 14), true)) (.fld 5) (.cons (.inp 2) .nil) (.ite (.bv 14) true r13_5 (.isb none (.bv 14) (.isb none (.cst (.bool false)) (.isb none (.cst (.bool false)) (.isb none (.cst (.bool false)) (.isb none (.cst (.bool false)) (.done [(4, (.cst (.bool false)))] none)))))))))))
@[simp] theorem r13_6_wp : type_of% (@wpR r13_6 _ r13_6.eq_1) := wpR r13_6.eq_1
@[simp] theorem r13_6_wpq : type_of% (@wpRq r13_6 _ r13_6.eq_1) := wpRq r13_6.eq_1
@[simp] theorem r13_6_wpm : type_of% (@wpRm r13_6 _ r13_6.eq_1) := wpRm r13_6.eq_1
def r13_7 : RT := (.chk none (.fld 4) (.cons (.inp 3) .nil) (.eff (.ld false 1) (.cons (.op (.fld 4) (.cons (.inp 3) .nil)) .nil) r13_6))
@[simp] theorem r13_7_wp : type_of% (@wpR r13_7 _ r13_7.eq_1) := wpR r13_7.eq_1
@[simp] theorem r13_7_wpq : type_of% (@wpRq r13_7 _ r13_7.eq_1) := wpRq r13_7.eq_1
@[simp] theorem r13_7_wpm : type_of% (@wpRm r13_7 _ r13_7.eq_1) := wpRm r13_7.eq_1
def r13_8 : RT := (.eff (.ld false 1) (.cons (.ite (.bv 11) true (.op (.fld 4) (.cons (.inp 2) .nil)) (.cst (.tuple #[]))) .nil) r13_7)
@[simp] theorem r13_8_wp : type_of% (@wpR r13_8 _ r13_8.eq_1) := wpR r13_8.eq_1
@[simp] theorem r13_8_wpq : type_of% (@wpRq r13_8 _ r13_8.eq_1) := wpRq r13_8.eq_1
@[simp] theorem r13_8_wpm : type_of% (@wpRm r13_8 _ r13_8.eq_1) := wpRm r13_8.eq_1
def r13_9 : RT := (.chk none (.bin .eql) (.cons (.bv 9) (.cons (.bv 10) .nil)) (.isb none (.bv 8) (.bnd (.op (.bin .eql) (.cons (.bv 9) (.cons (.bv 10) .nil))) (.chk (some ((.bv 11), true)) (.fld 4) (.cons (.inp 2) .nil) (.ite (.bv 11) true r13_8 (.isb none (.bv 11) (.isb none (.cst (.bool false)) (.isb none (.cst (.bool false)) (.isb none (.cst (.bool false)) (.isb none (.cst (.bool false)) (.isb none (.cst (.bool false)) (.done [(4, (.cst (.bool false)))] none))))))))))))
@[simp] theorem r13_9_wp : type_of% (@wpR r13_9 _ r13_9.eq_1) := wpR r13_9.eq_1
@[simp] theorem r13_9_wpq : type_of% (@wpRq r13_9 _ r13_9.eq_1) := wpRq r13_9.eq_1
@[simp] theorem r13_9_wpm : type_of% (@wpRm r13_9 _ r13_9.eq_1) := wpRm r13_9.eq_1
def r13_10 : RT := (.chk none (.fld 3) (.cons (.inp 3) .nil) (.eff (.ld false 1) (.cons (.op (.fld 3) (.cons (.inp 3) .nil)) .nil) r13_9))
@[simp] theorem r13_10_wp : type_of% (@wpR r13_10 _ r13_10.eq_1) := wpR r13_10.eq_1
@[simp] theorem r13_10_wpq : type_of% (@wpRq r13_10 _ r13_10.eq_1) := wpRq r13_10.eq_1
@[simp] theorem r13_10_wpm : type_of% (@wpRm r13_10 _ r13_10.eq_1) := wpRm r13_10.eq_1
def r13_11 : RT := (.eff (.ld false 1) (.cons (.ite (.bv 8) true (.op (.fld 3) (.cons (.inp 2) .nil)) (.cst (.tuple #[]))) .nil) r13_10)
@[simp] theorem r13_11_wp : type_of% (@wpR r13_11 _ r13_11.eq_1) := wpR r13_11.eq_1
@[simp] theorem r13_11_wpq : type_of% (@wpRq r13_11 _ r13_11.eq_1) := wpRq r13_11.eq_1
@[simp] theorem r13_11_wpm : type_of% (@wpRm r13_11 _ r13_11.eq_1) := wpRm r13_11.eq_1
def r13_12 : RT := (.chk none (.bin .eql) (.cons (.bv 6) (.cons (.bv 7) .nil)) (.isb none (.bv 5) (.bnd (.op (.bin .eql) (.cons (.bv 6) (.cons (.bv 7) .nil))) (.chk (some ((.bv 8), true)) (.fld 3) (.cons (.inp 2) .nil) (.ite (.bv 8) true r13_11 (.isb none (.bv 8) (.isb none (.cst (.bool false)) (.isb none (.cst (.bool false)) (.isb none (.cst (.bool false)) (.isb none (.cst (.bool false)) (.isb none (.cst (.bool false)) (.isb none (.cst (.bool false)) (.done [(4, (.cst (.bool false)))] none)))))))))))))
@[simp] theorem r13_12_wp : type_of% (@wpR r13_12 _ r13_12.eq_1) := wpR r13_12.eq_1
@[simp] theorem r13_12_wpq : type_of% (@wpRq r13_12 _ r13_12.eq_1) := wpRq r13_12.eq_1
@[simp] theorem r13_12_wpm : type_of% (@wpRm r13_12 _ r13_12.eq_1) := wpRm r13_12.eq_1
def r13_13 : RT := (.chk none (.fld 2) (.cons (.inp 3) .nil) (.eff (.ld false 1) (.cons (.op (.fld 2) (.cons (.inp 3) .nil)) .nil) r13_12))
@[simp] theorem r13_13_wp : type_of% (@wpR r13_13 _ r13_13.eq_1) := wpR r13_13.eq_1
@[simp] theorem r13_13_wpq : type_of% (@wpRq r13_13 _ r13_13.eq_1) := wpRq r13_13.eq_1
@[simp] theorem r13_13_wpm : type_of% (@wpRm r13_13 _ r13_13.eq_1) := wpRm r13_13.eq_1
def r13_14 : RT := (.eff (.ld false 1) (.cons (.ite (.bv 5) true (.op (.fld 2) (.cons (.inp 2) .nil)) (.cst (.tuple #[]))) .nil) r13_13)
@[simp] theorem r13_14_wp : type_of% (@wpR r13_14 _ r13_14.eq_1) := wpR r13_14.eq_1
@[simp] theorem r13_14_wpq : type_of% (@wpRq r13_14 _ r13_14.eq_1) := wpRq r13_14.eq_1
@[simp] theorem r13_14_wpm : type_of% (@wpRm r13_14 _ r13_14.eq_1) := wpRm r13_14.eq_1
def r13_15 : RT := (.chk none (.bin .eql) (.cons (.bv 3) (.cons (.bv 4) .nil)) (.isb none (.bv 2) (.bnd (.op (.bin .eql) (.cons (.bv 3) (.cons (.bv 4) .nil))) (.chk (some ((.bv 5), true)) (.fld 2) (.cons (.inp 2) .nil) (.ite (.bv 5) true r13_14 (.isb none (.bv 5) (.isb none (.cst (.bool false)) (.isb none (.cst (.bool false)) (.isb none (.cst (.bool false)) (.isb none (.cst (.bool false)) (.isb none (.cst (.bool false)) (.isb none (.cst (.bool false)) (.isb none (.cst (.bool false)) (.done [(4, (.cst (.bool false)))] none))))))))))))))
@[simp] theorem r13_15_wp : type_of% (@wpR r13_15 _ r13_15.eq_1) := wpR r13_15.eq_1
@[simp] theorem r13_15_wpq : type_of% (@wpRq r13_15 _ r13_15.eq_1) := wpRq r13_15.eq_1
@[simp] theorem r13_15_wpm : type_of% (@wpRm r13_15 _ r13_15.eq_1) := wpRm r13_15.eq_1
def r13_16 : RT := (.chk none (.fld 1) (.cons (.inp 3) .nil) (.eff (.ld false 1) (.cons (.op (.fld 1) (.cons (.inp 3) .nil)) .nil) r13_15))
@[simp] theorem r13_16_wp : type_of% (@wpR r13_16 _ r13_16.eq_1) := wpR r13_16.eq_1
@[simp] theorem r13_16_wpq : type_of% (@wpRq r13_16 _ r13_16.eq_1) := wpRq r13_16.eq_1
@[simp] theorem r13_16_wpm : type_of% (@wpRm r13_16 _ r13_16.eq_1) := wpRm r13_16.eq_1
def r13_17 : RT := (.eff (.ld false 1) (.cons (.ite (.bv 2) true (.op (.fld 1) (.cons (.inp 2) .nil)) (.cst (.tuple #[]))) .nil) r13_16)
@[simp] theorem r13_17_wp : type_of% (@wpR r13_17 _ r13_17.eq_1) := wpR r13_17.eq_1
@[simp] theorem r13_17_wpq : type_of% (@wpRq r13_17 _ r13_17.eq_1) := wpRq r13_17.eq_1
@[simp] theorem r13_17_wpm : type_of% (@wpRm r13_17 _ r13_17.eq_1) := wpRm r13_17.eq_1
def r13_18 : RT := (.isb none (.bv 2) (.isb none (.cst (.bool false)) (.isb none (.cst (.bool false)) (.isb none (.cst (.bool false)) (.isb none (.cst (.bool false)) (.isb none (.cst (.bool false)) (.isb none (.cst (.bool false)) (.isb none (.cst (.bool false)) (.isb none (.cst (.bool false)) (.done [(4, (.cst (.bool false)))] none))))))))))
@[simp] theorem r13_18_wp : type_of% (@wpR r13_18 _ r13_18.eq_1) := wpR r13_18.eq_1
@[simp] theorem r13_18_wpq : type_of% (@wpRq r13_18 _ r13_18.eq_1) := wpRq r13_18.eq_1
@[simp] theorem r13_18_wpm : type_of% (@wpRm r13_18 _ r13_18.eq_1) := wpRm r13_18.eq_1
def r13_19 : RT := (.chk none (.bin .eql) (.cons (.bv 0) (.cons (.bv 1) .nil)) (.bnd (.op (.bin .eql) (.cons (.bv 0) (.cons (.bv 1) .nil))) (.chk (some ((.bv 2), true)) (.fld 1) (.cons (.inp 2) .nil) (.ite (.bv 2) true r13_17 r13_18))))
@[simp] theorem r13_19_wp : type_of% (@wpR r13_19 _ r13_19.eq_1) := wpR r13_19.eq_1
@[simp] theorem r13_19_wpq : type_of% (@wpRq r13_19 _ r13_19.eq_1) := wpRq r13_19.eq_1
@[simp] theorem r13_19_wpm : type_of% (@wpRm r13_19 _ r13_19.eq_1) := wpRm r13_19.eq_1
def r13_20 : RT := (.chk none (.fld 0) (.cons (.inp 3) .nil) (.eff (.ld false 1) (.cons (.op (.fld 0) (.cons (.inp 3) .nil)) .nil) r13_19))
@[simp] theorem r13_20_wp : type_of% (@wpR r13_20 _ r13_20.eq_1) := wpR r13_20.eq_1
@[simp] theorem r13_20_wpq : type_of% (@wpRq r13_20 _ r13_20.eq_1) := wpRq r13_20.eq_1
@[simp] theorem r13_20_wpm : type_of% (@wpRm r13_20 _ r13_20.eq_1) := wpRm r13_20.eq_1
def h13_0 : HC := (.seq (.reg (.chk none (.fld 0) (.cons (.inp 2) .nil) (.eff (.ld false 1) (.cons (.op (.fld 0) (.cons (.inp 2) .nil)) .nil) r13_20))) .ret)
@[simp] theorem h13_0_wp : type_of% (@wpH h13_0 _ h13_0.eq_1) := wpH h13_0.eq_1
def l13 : Lifted := ⟨[0, 1, 2, 3, 4], 73, [.slot 4], (.seq (.reg (.eff (.box 30) (.cons (.inp 0) .nil) (.eff (.box 30) (.cons (.inp 1) .nil) (.done [(2, (.bv 0)), (3, (.bv 1)), (4, (.cst (.bool false)))] none)))) h13_0)⟩
theorem l13_ok : liftFn T0 13 400 = some l13 := by kernel_rfl
theorem num_spec (e : Int) (w : World) : CallW Try.prog 7 [.int .i64 e] (fun r w' => r = .int .i64 e ∧ w' = w) w := by
  refine callW_of_lift l7_ok (by simp [l7]) ?_
  simp [l7]
theorem lentry_spec (e : PE) (v1 v2 : Value) (w0 w : World) (A : Asn) (he : e.ws.length ≤ 1048576) (h1 : WR w0 A v1 e.ws) (h2 : WR w0 A v2 e.ws) (s : St w0 A w) :
    CallW Try.prog 50 [.agg (e.cs v1).toArray, .agg (e.cs v2).toArray] (fun r w' => r = .bool true ∧ St w0 A w') w := by
  have h1' := h1
  have h2' := h2
  obtain ⟨a1, c1, rfl⟩ := h1.val
  obtain ⟨a2, c2, rfl⟩ := h2.val
  refine callW_of_lift l50_ok (by simp [l50]) ?_
  simp -implicitDefEqProofs [l50, Instr.fill, Value.cells]
  refine eff_box s fun b w1 s1 => ?_
  simp -implicitDefEqProofs
  refine eff_box s1 fun d w2 s2 => ?_
  simp -implicitDefEqProofs [Instr.fill, Value.cells]
  have s2 : St w0 (A * pt b (.cells (e.cs (.slice a1 e.ws.length c1)).toArray 25 (0, 0)) * pt d (.cells (e.cs (.slice a2 e.ws.length c2)).toArray 25 (0, 0))) w2 := s2
  have fb : ∀ j u, (e.cs (.slice a1 e.ws.length c1))[j]? = some u → w2.cell? ⟨b, j, none⟩ = some u := fun j u hu => by
    have := s2.drop.row_cells j u hu; simpa using this
  have fd : ∀ j u, (e.cs (.slice a2 e.ws.length c2))[j]? = some u → w2.cell? ⟨d, j, none⟩ = some u := fun j u hu => by
    have := s2.row_cells j u hu; simpa using this
  refine eff_ldc (v := .int .i64 e.acc) (fb 0 _ rfl) ?_
  simp -implicitDefEqProofs
  refine eff_ldc (v := .int .i64 e.acc) (fd 0 _ rfl) ?_
  simp -implicitDefEqProofs
  refine eff_ldc (v := .int .i64 e.item) (fb 1 _ rfl) ?_
  simp -implicitDefEqProofs
  refine eff_ldc (v := .int .i64 e.item) (fd 1 _ rfl) ?_
  simp -implicitDefEqProofs
  refine eff_ldc (v := .int .u64 e.coins) (fb 2 _ rfl) ?_
  simp -implicitDefEqProofs
  refine eff_ldc (v := .int .u64 e.coins) (fd 2 _ rfl) ?_
  simp -implicitDefEqProofs
  refine eff_ldc (v := .int .u64 e.price) (fb 3 _ rfl) ?_
  simp -implicitDefEqProofs
  refine eff_ldc (v := .int .u64 e.price) (fd 3 _ rfl) ?_
  simp -implicitDefEqProofs
  refine eff_ldc (v := .slice a1 e.ws.length c1) (fb 4 _ rfl) ?_
  simp -implicitDefEqProofs
  refine eff_ldc (v := .slice a2 e.ws.length c2) (fd 4 _ rfl) ?_
  simp -implicitDefEqProofs
  refine eff_call ((lints_spec e.ws e.ws _ _ w0 w2 _ (by omega) (h1'.mono fun w s => s.drop.drop) (h2'.mono fun w s => s.drop.drop) s2).mono ?_)
  rintro _ w3 ⟨rfl, s3⟩
  simp -implicitDefEqProofs
  exact s3.drop.drop
theorem lcontract_spec (c : PC) (v1 v2 : Value) (x1 x2 : List Value) (w0 w : World) (A : Asn) (hc : c.es.length ≤ 1048576) (he : ∀ e ∈ c.es, e.ws.length ≤ 1048576) (h1 : CV w0 A v1 x1 c.es) (h2 : CV w0 A v2 x2 c.es) (s : St w0 A w) :
    CallW Try.prog 51 [.agg (c.cs v1).toArray, .agg (c.cs v2).toArray] (fun r w' => r = .bool true ∧ St w0 A w') w := by
  have h1' := h1
  have h2' := h2
  obtain ⟨a1, c1, rfl⟩ := h1.row.val
  obtain ⟨a2, c2, rfl⟩ := h2.row.val
  refine callW_of_lift l51_ok (by simp [l51]) ?_
  simp -implicitDefEqProofs [l51, Instr.fill, Value.cells]
  refine eff_box s fun b w1 s1 => ?_
  simp -implicitDefEqProofs
  refine eff_box s1 fun d w2 s2 => ?_
  simp -implicitDefEqProofs [Instr.fill, Value.cells]
  have s2 : St w0 (A * pt b (.cells (c.cs (.slice a1 c.es.length c1)).toArray 28 (0, 0)) * pt d (.cells (c.cs (.slice a2 c.es.length c2)).toArray 28 (0, 0))) w2 := s2
  obtain ⟨D, hD⟩ : ∃ D, A * pt b (.cells (c.cs (.slice a1 c.es.length c1)).toArray 28 (0, 0)) * pt d (.cells (c.cs (.slice a2 c.es.length c2)).toArray 28 (0, 0)) = D := ⟨_, rfl⟩
  rw [hD] at s2
  have fb : ∀ {w : World}, St w0 D w → ∀ j u, (c.cs (.slice a1 c.es.length c1))[j]? = some u → w.cell? ⟨b, j, none⟩ = some u := fun h j u hu => by
    rw [← hD] at h
    have := h.drop.row_cells j u hu; simpa using this
  have fd : ∀ {w : World}, St w0 D w → ∀ j u, (c.cs (.slice a2 c.es.length c2))[j]? = some u → w.cell? ⟨d, j, none⟩ = some u := fun h j u hu => by
    rw [← hD] at h
    have := h.row_cells j u hu; simpa using this
  have hDA : ∀ w, St w0 D w → St w0 A w := fun w h => by rw [← hD] at h; exact h.drop.drop
  refine eff_ldc (v := .int .i64 c.num) (fb s2 0 _ rfl) ?_
  simp -implicitDefEqProofs
  refine eff_ldc (v := .int .i64 c.num) (fd s2 0 _ rfl) ?_
  simp -implicitDefEqProofs
  refine eff_ldc (v := .int .i64 c.kind) (fb s2 1 _ rfl) ?_
  simp -implicitDefEqProofs
  refine eff_ldc (v := .int .i64 c.kind) (fd s2 1 _ rfl) ?_
  simp -implicitDefEqProofs
  refine eff_ldc (v := .int .i64 c.by') (fb s2 2 _ rfl) ?_
  simp -implicitDefEqProofs
  refine eff_ldc (v := .int .i64 c.by') (fd s2 2 _ rfl) ?_
  simp -implicitDefEqProofs
  refine eff_ldc (v := .int .i64 c.dead) (fb s2 3 _ rfl) ?_
  simp -implicitDefEqProofs
  refine eff_ldc (v := .int .i64 c.dead) (fd s2 3 _ rfl) ?_
  simp -implicitDefEqProofs
  refine eff_ldc (v := .int .i64 c.to') (fb s2 4 _ rfl) ?_
  simp -implicitDefEqProofs
  refine eff_ldc (v := .int .i64 c.to') (fd s2 4 _ rfl) ?_
  simp -implicitDefEqProofs
  refine eff_ldc (v := .int .i64 c.want) (fb s2 5 _ rfl) ?_
  simp -implicitDefEqProofs
  refine eff_ldc (v := .int .i64 c.want) (fd s2 5 _ rfl) ?_
  simp -implicitDefEqProofs
  refine eff_ldc (v := .int .u64 c.price) (fb s2 6 _ rfl) ?_
  simp -implicitDefEqProofs
  refine eff_ldc (v := .int .u64 c.price) (fd s2 6 _ rfl) ?_
  simp -implicitDefEqProofs
  refine eff_ldc (v := .int .u64 c.res) (fb s2 7 _ rfl) ?_
  simp -implicitDefEqProofs
  refine eff_ldc (v := .int .u64 c.res) (fd s2 7 _ rfl) ?_
  simp -implicitDefEqProofs
  refine eff_ldc (v := .int .u64 c.step) (fb s2 8 _ rfl) ?_
  simp -implicitDefEqProofs
  refine eff_ldc (v := .int .u64 c.step) (fd s2 8 _ rfl) ?_
  simp -implicitDefEqProofs
  refine eff_ldc (v := .int .i64 c.of') (fb s2 9 _ rfl) ?_
  simp -implicitDefEqProofs
  refine eff_ldc (v := .int .i64 c.of') (fd s2 9 _ rfl) ?_
  simp -implicitDefEqProofs
  refine eff_ldc (v := .slice a1 c.es.length c1) (fb s2 10 _ rfl) ?_
  simp -implicitDefEqProofs
  refine eff_ldc (v := .slice a2 c.es.length c2) (fd s2 10 _ rfl) ?_
  simp -implicitDefEqProofs
  refine loopI (fun env w' => ∃ (i : Nat), env = [.agg (c.cs (.slice a1 c.es.length c1)).toArray, .agg (c.cs (.slice a2 c.es.length c2)).toArray, .pointer (some ⟨b, 0, none⟩), .pointer (some ⟨d, 0, none⟩), .bool false, .int .i64 i] ∧ i ≤ c.es.length ∧ St w0 D w')
    (fun env _ => c.es.length - slotN env 5) ⟨0, rfl, by omega, s2⟩ ?_
  rintro LQ env w' ⟨i, rfl, hi, s3⟩ hN hE hR
  simp -implicitDefEqProofs
  refine eff_ldc (v := .slice a1 c.es.length c1) (fb s3 10 _ rfl) ?_
  simp -implicitDefEqProofs
  refine cndI (fun h3 => ?_) (fun h3 => ?_)
  · simp at h3
    obtain ⟨g1, o1, c1', e1, k1⟩ := h1.row.at (by omega)
    cases e1
    obtain ⟨g2, o2, c2', e2, k2⟩ := h2.row.at (by omega)
    cases e2
    have hl1 := h1.len
    have hl2 := h2.len
    have i1 : i < x1.length := by omega
    have i2 : i < x2.length := by omega
    have z1 : i < (c.es.zip x1).length := by simp; omega
    have z2 : i < (c.es.zip x2).length := by simp; omega
    have e1 := h1'.each i i1 h3
    have e2 := h2'.each i i2 h3
    obtain ⟨e, hee⟩ : ∃ e, c.es[i] = e := ⟨_, rfl⟩
    have hle := he e (by rw [← hee]; exact List.getElem_mem h3)
    rw [hee] at e1 e2
    have y1 : (c.es.zip x1)[i] = (e, x1[i]) := by simp [hee]
    have y2 : (c.es.zip x2)[i] = (e, x2[i]) := by simp [hee]
    refine brmI (fun vs w => (∀ v ∈ vs, v = .bool true) ∧ St w0 D w) ⟨by simp, s3.drew⟩ ?_
    simp -implicitDefEqProofs [h3]
    refine effm_ldc (fun vs' w _ hw => fb hw.2 10 _ rfl) ?_
    simp -implicitDefEqProofs [h3]
    refine effm_ldcs (us := e.cs x1[i]) (fun vs' w _ hw j u hu => by rw [Nat.add_assoc]; exact k1 w (hDA _ hw.2) _ _ (eflat_at z1 j u (by rw [y1]; exact hu))) rfl ?_
    simp -implicitDefEqProofs [h3]
    refine effm_ldc (fun vs' w _ hw => fd hw.2 10 _ rfl) ?_
    simp -implicitDefEqProofs [h3]
    refine effm_ldcs (us := e.cs x2[i]) (fun vs' w _ hw j u hu => by rw [Nat.add_assoc]; exact k2 w (hDA _ hw.2) _ _ (eflat_at z2 j u (by rw [y2]; exact hu))) rfl ?_
    simp -implicitDefEqProofs
    refine effm_mv rfl (fun w hw => eff_call ((lentry_spec e _ _ w0 w _ hle (e1.mono hDA) (e2.mono hDA) hw.2).mono ?_)) (fun v hv => ?_)
    · rintro _ w5 ⟨rfl, s5⟩
      exact ⟨by simp, s5⟩
    obtain ⟨_, hv, _⟩ := hv
    obtain rfl : v = .bool true := hv v (by simp)
    simp -implicitDefEqProofs
    intro w6 s6
    simp -implicitDefEqProofs [thenQ]
    try simp (disch := omega) only [wrap64]
    exact hN _ _ ⟨i + 1, by simp, by omega, s6⟩ (by simp [slotN]; omega)
  · simp at h3
    simp -implicitDefEqProofs
    refine hE _ _ _ ?_
    simp -implicitDefEqProofs
    exact hDA _ s3
theorem lrecord_spec (r : PR) (ev1 ev2 v1 v2 : Value) (x1 x2 : List Value) (w0 w : World) (A : Asn) (hr : r.ok) (h1 : WR w0 A ev1 r.en.ws) (h2 : WR w0 A ev2 r.en.ws) (h3 : CV w0 A v1 x1 r.co.es) (h4 : CV w0 A v2 x2 r.co.es) (s : St w0 A w) :
    CallW Try.prog 13 [.agg (r.cs ev1 v1).toArray, .agg (r.cs ev2 v2).toArray] (fun r w' => r = .bool true ∧ St w0 A w') w := by
  have h1' := h1
  have h2' := h2
  have h3' := h3
  have h4' := h4
  obtain ⟨a1, c1, rfl⟩ := h1.val
  obtain ⟨a2, c2, rfl⟩ := h2.val
  obtain ⟨a3, c3, rfl⟩ := h3.row.val
  obtain ⟨a4, c4, rfl⟩ := h4.row.val
  refine callW_of_lift l13_ok (by simp [l13]) ?_
  simp -implicitDefEqProofs [l13, Instr.fill, Value.cells]
  refine eff_box s fun b w1 s1 => ?_
  simp -implicitDefEqProofs
  refine eff_box s1 fun d w2 s2 => ?_
  simp -implicitDefEqProofs [Instr.fill, Value.cells]
  have s2 : St w0 (A * pt b (.cells (r.cs (.slice a1 r.en.ws.length c1) (.slice a3 r.co.es.length c3)).toArray 30 (0, 0)) * pt d (.cells (r.cs (.slice a2 r.en.ws.length c2) (.slice a4 r.co.es.length c4)).toArray 30 (0, 0))) w2 := s2
  obtain ⟨D, hD⟩ : ∃ D, A * pt b (.cells (r.cs (.slice a1 r.en.ws.length c1) (.slice a3 r.co.es.length c3)).toArray 30 (0, 0)) * pt d (.cells (r.cs (.slice a2 r.en.ws.length c2) (.slice a4 r.co.es.length c4)).toArray 30 (0, 0)) = D := ⟨_, rfl⟩
  rw [hD] at s2
  have fb : ∀ {w : World}, St w0 D w → ∀ j u, (r.cs (.slice a1 r.en.ws.length c1) (.slice a3 r.co.es.length c3))[j]? = some u → w.cell? ⟨b, j, none⟩ = some u := fun h j u hu => by
    rw [← hD] at h
    have := h.drop.row_cells j u hu; simpa using this
  have fd : ∀ {w : World}, St w0 D w → ∀ j u, (r.cs (.slice a2 r.en.ws.length c2) (.slice a4 r.co.es.length c4))[j]? = some u → w.cell? ⟨d, j, none⟩ = some u := fun h j u hu => by
    rw [← hD] at h
    have := h.row_cells j u hu; simpa using this
  have hDA : ∀ w, St w0 D w → St w0 A w := fun w h => by rw [← hD] at h; exact h.drop.drop
  refine eff_ldc (v := .int .i64 r.kind) (fb s2 0 _ rfl) ?_
  simp -implicitDefEqProofs
  refine eff_ldc (v := .int .i64 r.kind) (fd s2 0 _ rfl) ?_
  simp -implicitDefEqProofs
  refine eff_ldc (v := .string (mk r.nm)) (fb s2 1 _ rfl) ?_
  simp -implicitDefEqProofs
  refine eff_ldc (v := .string (mk r.nm)) (fd s2 1 _ rfl) ?_
  simp -implicitDefEqProofs
  refine eff_ldc (v := .int .i64 r.fr) (fb s2 2 _ rfl) ?_
  simp -implicitDefEqProofs
  refine eff_ldc (v := .int .i64 r.fr) (fd s2 2 _ rfl) ?_
  simp -implicitDefEqProofs
  refine eff_ldc (v := .int .i64 r.to') (fb s2 3 _ rfl) ?_
  simp -implicitDefEqProofs
  refine eff_ldc (v := .int .i64 r.to') (fd s2 3 _ rfl) ?_
  simp -implicitDefEqProofs
  refine eff_ldc (v := .int .u64 r.coins) (fb s2 4 _ rfl) ?_
  simp -implicitDefEqProofs
  refine eff_ldc (v := .int .u64 r.coins) (fd s2 4 _ rfl) ?_
  simp -implicitDefEqProofs
  refine eff_ldc (v := .int .i64 r.item) (fb s2 5 _ rfl) ?_
  simp -implicitDefEqProofs
  refine eff_ldc (v := .int .i64 r.item) (fd s2 5 _ rfl) ?_
  simp -implicitDefEqProofs
  refine eff_ldc (v := .int .i64 r.num) (fb s2 6 _ rfl) ?_
  simp -implicitDefEqProofs
  refine eff_ldc (v := .int .i64 r.num) (fd s2 6 _ rfl) ?_
  simp -implicitDefEqProofs
  refine eff_ldcs (vs := r.en.cs (.slice a1 r.en.ws.length c1)) (fun j u hu => fb s2 _ _ (pr_entry hu)) rfl ?_
  simp -implicitDefEqProofs
  refine eff_ldcs (vs := r.en.cs (.slice a2 r.en.ws.length c2)) (fun j u hu => fd s2 _ _ (pr_entry hu)) rfl ?_
  simp -implicitDefEqProofs
  refine eff_call ((lentry_spec r.en _ _ w0 w2 _ hr.en.len (h1'.mono hDA) (h2'.mono hDA) s2).mono ?_)
  rintro _ w3 ⟨rfl, s3⟩
  simp -implicitDefEqProofs
  refine eff_ldcs (vs := r.co.cs (.slice a3 r.co.es.length c3)) (fun j u hu => fb s3 _ _ (pr_contract hu)) rfl ?_
  simp -implicitDefEqProofs
  refine eff_ldcs (vs := r.co.cs (.slice a4 r.co.es.length c4)) (fun j u hu => fd s3 _ _ (pr_contract hu)) rfl ?_
  simp -implicitDefEqProofs
  refine eff_call ((lcontract_spec r.co _ _ x1 x2 w0 w3 _ hr.co.len (fun e h => (hr.co.each e h).len) (h3'.mono hDA) (h4'.mono hDA) s3).mono ?_)
  rintro _ w4 ⟨rfl, s4⟩
  simp -implicitDefEqProofs
  refine eff_ldc (v := .int .i64 r.ticks) (fb s4 23 _ rfl) ?_
  simp -implicitDefEqProofs
  refine eff_ldc (v := .int .i64 r.ticks) (fd s4 23 _ rfl) ?_
  simp -implicitDefEqProofs
  exact hDA _ s4
end Go.HL.Sr

namespace Go.HL
set_option linter.unusedSimpArgs false
set_option linter.unusedVariables false
section
variable {P : Program} {K : Value → World → Prop} {w w0 : World} {F : Asn}
def grw (e size : Nat) (v v' : Value) (n m : Nat) (xs ys : List Value) : Asn := fun h =>
  (∃ g cap, v = .slice (some ⟨g, 0, none⟩) n cap ∧ v' = .slice (some ⟨g, 0, none⟩) (n + m) cap ∧ xs.length = n * size ∧ own e size v' (n + m) (xs ++ ys) h) ∨
  (own e size v n xs * own e size v' (n + m) (xs ++ ys)) h
theorem St.grw {e size : Nat} {v v' : Value} {n m : Nat} {xs ys : List Value} (s : St w0 (F * HL.grw e size v v' n m xs ys) w) :
    (∃ g cap, v = .slice (some ⟨g, 0, none⟩) n cap ∧ v' = .slice (some ⟨g, 0, none⟩) (n + m) cap ∧ xs.length = n * size ∧ St w0 (F * HL.own e size v' (n + m) (xs ++ ys)) w) ∨
    St w0 (F * (HL.own e size v n xs * HL.own e size v' (n + m) (xs ++ ys))) w := by
  obtain ⟨g, h1, h2, h3, d, e', a, b⟩ := s.holds
  rcases b with ⟨g', cap, k1, k2, k3, k4⟩ | k
  · exact .inl ⟨g', cap, k1, k2, k3, s.of ⟨g, h1, h2, h3, d, e', a, k4⟩⟩
  · exact .inr (s.of ⟨g, h1, h2, h3, d, e', a, k⟩)
theorem own_less {e size g n m cap : Nat} {xs ys : List Value} (hl : xs.length = n * size) {h : _} (hh : own e size (.slice (some ⟨g, 0, none⟩) (n + m) cap) (n + m) (xs ++ ys) h) : own e size (.slice (some ⟨g, 0, none⟩) n cap) n xs h := by
  refine ⟨hl, .inr ?_⟩
  rcases hh.2 with ⟨h1, _⟩ | ⟨g', cap', cur, h1, h2, h3, h4, h5, h6⟩
  · cases h1
  · cases h1
    refine ⟨g, cap, cur, rfl, by omega, h3, h4, ?_, h6⟩
    have : (cur.toList.take ((n + m) * size)).take (n * size) = (xs ++ ys).take (n * size) := by rw [h5]
    rw [List.take_take, Nat.min_eq_left (Nat.mul_le_mul_right _ (by omega)), ← hl, List.take_left] at this
    rw [← hl]; exact this
end
def prodA (f : Nat → Asn) : Nat → Asn
  | 0 => emp
  | n + 1 => prodA f n * f n
theorem emp_sep (A : Asn) : emp * A = A := by
  have : emp * A = A * emp := by ac_rfl
  rw [this, sep_emp]
section
variable {α : Type}
def bigA (F : Nat → α → Asn) (Y : Nat → α) (n : Nat) : Asn := prodA (fun j => F j (Y j)) n
def bigH (F : Nat → α → Asn) (Y : Nat → α) (i n : Nat) : Asn := prodA (fun j => if j = i then emp else F j (Y j)) n
def upF (Y : Nat → α) (i : Nat) (y : α) : Nat → α := fun j => if j = i then y else Y j
end
end Go.HL

namespace Go.HL.Sr
open Go.HL Go.HL.Tl Go.Proofs
set_option maxRecDepth 4000
set_option linter.unusedSimpArgs false
set_option linter.unusedVariables false
attribute [local irreducible] EffW
theorem addr0 (a : Addr) : a.add 0 = a := rfl
def lenA (e size : Nat) (v : Value) (n k : Nat) (xs ys : List Value) : Asn := fun h => ∃ g cap, v = .slice (some ⟨g, 0, none⟩) n cap ∧ n + k ≤ cap ∧ xs.length = n * size ∧ own e size (.slice (some ⟨g, 0, none⟩) (n + k) cap) (n + k) (xs ++ ys) h
theorem lopen {w0 w : World} {A : Asn} {e size n k : Nat} {v : Value} {xs ys : List Value} (s : St w0 (A * lenA e size v n k xs ys) w) : ∃ g cap, v = .slice (some ⟨g, 0, none⟩) n cap ∧ n + k ≤ cap ∧ xs.length = n * size ∧ St w0 (A * own e size (.slice (some ⟨g, 0, none⟩) (n + k) cap) (n + k) (xs ++ ys)) w := by
  obtain ⟨g', h1, h2, h3, d, f, a, g, cap, rfl, hc, hl, b⟩ := s.holds
  exact ⟨g, cap, rfl, hc, hl, s.of ⟨g', h1, h2, h3, d, f, a, b⟩⟩
theorem lclose {w0 w : World} {A : Asn} {e size n k g cap : Nat} {xs ys : List Value} (hc : n + k ≤ cap) (hl : xs.length = n * size) (s : St w0 (A * own e size (.slice (some ⟨g, 0, none⟩) (n + k) cap) (n + k) (xs ++ ys)) w) : St w0 (A * lenA e size (.slice (some ⟨g, 0, none⟩) n cap) n k xs ys) w :=
  s.mono (sep_mono (fun _ h => h) fun h hh => ⟨g, cap, rfl, hc, hl, hh⟩)
theorem len_own {w0 w : World} {A : Asn} {e size n k : Nat} {v : Value} {xs ys : List Value} (s : St w0 (A * lenA e size v n k xs ys) w) : St w0 (A * own e size v n xs) w := by
  obtain ⟨g, cap, rfl, hc, hl, s1⟩ := lopen s
  exact s1.mono (sep_mono (fun _ h => h) fun h hh => own_less hl hh)
theorem len_row {w0 w : World} {A : Asn} {e size n k : Nat} {v : Value} {xs ys : List Value} (s : St w0 (A * lenA e size v n k xs ys) w) : Row w0 (A * lenA e size v n k xs ys) v n size xs := (row_own (len_own s)).mono fun w s => len_own s
theorem len_in {A B : Asn} {w0 w : World} {e size n k : Nat} {v : Value} {xs ys : List Value} (s : St w0 A w) (h : A = B * lenA e size v n k xs ys) : Row w0 A v n size xs := (len_row (s.to h)).mono fun w s => s.to h
def allA {α : Type} (f : α → Asn) : List α → Asn
  | [] => emp
  | x :: t => f x * allA f t
theorem allA_snoc {α : Type} (f : α → Asn) (y : α) (l : List α) : allA f (l ++ [y]) = allA f l * f y := by
  induction l with
  | nil => exact (sep_emp _).trans (emp_sep _).symm
  | cons x t ih =>
    have h1 : allA f (x :: t ++ [y]) = f x * allA f (t ++ [y]) := rfl
    have h2 : allA f (x :: t) = f x * allA f t := rfl
    rw [h1, h2, ih, sep_assoc]
theorem allA_at {α : Type} (f : α → Asn) (l : List α) : ∀ (i : Nat) (h : i < l.length), ∃ R, allA f l = R * f l[i] := by
  induction l with
  | nil => intro i h; simp at h
  | cons x t ih =>
    intro i h
    cases i with
    | zero => exact ⟨allA f t, by rw [sep_comm]; rfl⟩
    | succ i =>
      obtain ⟨R, hR⟩ := ih i (by simpa using h)
      have h3 : (x :: t)[i + 1] = t[i]'(by simpa using h) := rfl
      have h2 : allA f (x :: t) = f x * allA f t := rfl
      exact ⟨f x * R, by rw [h2, hR, h3, sep_assoc]⟩
def bmarks : List Value := [.int .u8 201, .int .u8 202]
abbrev lbA (v : Value) (b : List UInt8) : Asn := lenA 5 1 v b.length 2 (bytesV b) bmarks
abbrev lwA (v : Value) (ws : List Int) : Asn := lenA 3 1 v ws.length 1 (ints ws) [.int .i64 (-71)]
def emark : List Value := [.int .i64 (-73), .int .i64 0, .int .u64 0, .int .u64 0, .slice none 0 0]
abbrev leA (cv : Value) (l : List (PE × Value)) : Asn := lenA 25 5 cv l.length 1 (eflat l) emark * allA (fun x => lwA x.2 x.1.ws) l
theorem eflat_len (l : List (PE × Value)) : (eflat l).length = l.length * 5 := flat_length (fun y : PE × Value => y.1.cs y.2) 5 (fun _ => rfl) l
theorem le_seen {w0 w : World} {A : Asn} {cv : Value} {l : List (PE × Value)} (s : St w0 (A * leA cv l) w) : CV w0 (A * leA cv l) cv (l.map (·.2)) (l.map (·.1)) := by
  refine ⟨by simp, ?_, fun i h1 h2 => ?_⟩
  · rw [zip_parts, List.length_map]
    exact len_in (e := 25) (k := 1) (ys := emark) (B := A * allA (fun x => lwA x.2 x.1.ws) l) s (by simp only [leA]; ac_rfl)
  · have hi : i < l.length := by simpa using h1
    obtain ⟨R, hR⟩ := allA_at (fun x : PE × Value => lwA x.2 x.1.ws) l i hi
    have := len_in (e := 3) (size := 1) (n := l[i].1.ws.length) (k := 1) (v := l[i].2) (xs := ints l[i].1.ws) (ys := [.int .i64 (-71)]) (B := A * lenA 25 5 cv l.length 1 (eflat l) emark * R) s (by simp only [leA, hR]; ac_rfl)
    simpa using this

def h10_0 : HC := (.seq (.reg (.chk none .lenL (.cons (.inp 0) .nil) (.chk none (.slL 1 false true false) (.cons (.inp 2) (.cons (.op .lenL (.cons (.inp 0) .nil)) .nil)) (.done [(1, (.op (.slL 1 false true false) (.cons (.inp 2) (.cons (.op .lenL (.cons (.inp 0) .nil)) .nil))))] none)))) .ret)
@[simp] theorem h10_0_wp : type_of% (@wpH h10_0 _ h10_0.eq_1) := wpH h10_0.eq_1
def h10_1 : HC := (.seq (.reg (.eff (.bsl 5 2 1 #[(.int .u8 0)] [0, 1]) (.cons (.cst (.int .u8 201)) (.cons (.cst (.int .u8 202)) .nil)) (.eff (.app 31 31 5 1 1 (.int .u8 0)) (.cons (.inp 2) (.cons (.bv 0) .nil)) (.done [(2, (.bv 1))] none)))) h10_0)
@[simp] theorem h10_1_wp : type_of% (@wpH h10_1 _ h10_1.eq_1) := wpH h10_1.eq_1
def h10_2 : HC := (.seq (.reg (.eff (.app 31 31 5 1 1 (.int .u8 0)) (.cons (.inp 2) (.cons (.inp 0) .nil)) (.done [(2, (.bv 0))] none))) h10_1)
@[simp] theorem h10_2_wp : type_of% (@wpH h10_2 _ h10_2.eq_1) := wpH h10_2.eq_1
def h10_3 : HC := (.seq (.reg (.done [(2, (.cst (.slice none 0 0)))] none)) h10_2)
@[simp] theorem h10_3_wp : type_of% (@wpH h10_3 _ h10_3.eq_1) := wpH h10_3.eq_1
def l10 : Lifted := ⟨[0, 2, 3], 14, [.slot 1], (.seq (.reg (.done [(1, (.cst (.slice none 0 0)))] none)) h10_3)⟩
theorem l10_ok : liftFn T0 10 400 = some l10 := by kernel_rfl

def h14_0 : HC := (.seq (.reg (.eff (.call 8) (.cons (.inp 0) (.cons (.inp 1) .nil)) (.chk (some ((.bv 0), true)) .lenL (.cons (.inp 0) .nil) (.chk (some ((.bv 0), true)) (.idxL 1) (.cons (.inp 3) (.cons (.op .lenL (.cons (.inp 0) .nil)) .nil)) (.ite (.bv 0) true (.eff (.ld false 1) (.cons (.ite (.bv 0) true (.op (.idxL 1) (.cons (.inp 3) (.cons (.op .lenL (.cons (.inp 0) .nil)) .nil))) (.cst (.tuple #[]))) .nil) (.chk none (.bin .eql) (.cons (.bv 1) (.cons (.cst (.int .u8 201)) .nil)) (.isb none (.bv 0) (.bnd (.op (.bin .eql) (.cons (.bv 1) (.cons (.cst (.int .u8 201)) .nil))) (.chk (some ((.bv 2), true)) .lenL (.cons (.inp 0) .nil) (.chk (some ((.bv 2), true)) (.bin .add) (.cons (.op .lenL (.cons (.inp 0) .nil)) (.cons (.cst (.int .i64 1)) .nil)) (.chk (some ((.bv 2), true)) (.idxL 1) (.cons (.inp 3) (.cons (.op (.bin .add) (.cons (.op .lenL (.cons (.inp 0) .nil)) (.cons (.cst (.int .i64 1)) .nil))) .nil)) (.ite (.bv 2) true (.eff (.ld false 1) (.cons (.ite (.bv 2) true (.op (.idxL 1) (.cons (.inp 3) (.cons (.op (.bin .add) (.cons (.op .lenL (.cons (.inp 0) .nil)) (.cons (.cst (.int .i64 1)) .nil))) .nil))) (.cst (.tuple #[]))) .nil) (.chk none (.bin .eql) (.cons (.bv 3) (.cons (.cst (.int .u8 202)) .nil)) (.isb none (.bv 2) (.done [(2, (.op (.bin .eql) (.cons (.bv 3) (.cons (.cst (.int .u8 202)) .nil))))] none)))) (.isb none (.bv 2) (.done [(2, (.cst (.bool false)))] none)))))))))) (.isb none (.bv 0) (.isb none (.cst (.bool false)) (.done [(2, (.cst (.bool false)))] none)))))))) .ret)
@[simp] theorem h14_0_wp : type_of% (@wpH h14_0 _ h14_0.eq_1) := wpH h14_0.eq_1
def h14_1 : HC := (.seq (.reg (.chk none .lenL (.cons (.inp 0) .nil) (.chk none (.bin .add) (.cons (.op .lenL (.cons (.inp 0) .nil)) (.cons (.cst (.int .i64 2)) .nil)) (.chk none (.slL 1 false true false) (.cons (.inp 0) (.cons (.op (.bin .add) (.cons (.op .lenL (.cons (.inp 0) .nil)) (.cons (.cst (.int .i64 2)) .nil))) .nil)) (.done [(3, (.op (.slL 1 false true false) (.cons (.inp 0) (.cons (.op (.bin .add) (.cons (.op .lenL (.cons (.inp 0) .nil)) (.cons (.cst (.int .i64 2)) .nil))) .nil))))] none))))) h14_0)
@[simp] theorem h14_1_wp : type_of% (@wpH h14_1 _ h14_1.eq_1) := wpH h14_1.eq_1
def l14 : Lifted := ⟨[0, 1, 4, 5], 31, [.slot 2], (.seq (.reg (.done [(2, (.cst (.bool false)))] none)) h14_1)⟩
theorem l14_ok : liftFn T0 14 400 = some l14 := by kernel_rfl

def h16_0 : HC := (.seq (.reg (.eff (.ld true 5) (.cons (.inp 1) .nil) (.eff (.st 5) (.cons (.inp 2) (.cons (.bv 0) .nil)) (.done [] none)))) .ret)
@[simp] theorem h16_0_wp : type_of% (@wpH h16_0 _ h16_0.eq_1) := wpH h16_0.eq_1
def h16_1 : HC := (.seq (.reg (.chk none (.slL 1 false true false) (.cons (.inp 4) (.cons (.inp 3) .nil)) (.chk none (.fld 4) (.cons (.inp 1) .nil) (.eff (.st 1) (.cons (.op (.fld 4) (.cons (.inp 1) .nil)) (.cons (.op (.slL 1 false true false) (.cons (.inp 4) (.cons (.inp 3) .nil))) .nil)) (.done [] none))))) h16_0)
@[simp] theorem h16_1_wp : type_of% (@wpH h16_1 _ h16_1.eq_1) := wpH h16_1.eq_1
def h16_2 : HC := (.seq (.reg (.eff (.bsl 3 1 1 #[(.int .i64 0)] [0]) (.cons (.cst (.int .i64 (-71))) .nil) (.eff (.app 23 23 3 1 8 (.int .i64 0)) (.cons (.inp 4) (.cons (.bv 0) .nil)) (.done [(4, (.bv 1))] none)))) h16_1)
@[simp] theorem h16_2_wp : type_of% (@wpH h16_2 _ h16_2.eq_1) := wpH h16_2.eq_1
def h16_3 : HC := (.seq (.reg (.chk none (.fld 4) (.cons (.inp 1) .nil) (.eff (.ld false 1) (.cons (.op (.fld 4) (.cons (.inp 1) .nil)) .nil) (.eff (.app 23 23 3 1 8 (.int .i64 0)) (.cons (.inp 4) (.cons (.bv 0) .nil)) (.done [(4, (.bv 1))] none))))) h16_2)
@[simp] theorem h16_3_wp : type_of% (@wpH h16_3 _ h16_3.eq_1) := wpH h16_3.eq_1
def h16_4 : HC := (.seq (.reg (.done [(4, (.cst (.slice none 0 0)))] none)) h16_3)
@[simp] theorem h16_4_wp : type_of% (@wpH h16_4 _ h16_4.eq_1) := wpH h16_4.eq_1
def h16_5 : HC := (.seq (.reg (.chk none (.fld 4) (.cons (.inp 1) .nil) (.eff (.ld false 1) (.cons (.op (.fld 4) (.cons (.inp 1) .nil)) .nil) (.chk none .lenL (.cons (.bv 0) .nil) (.done [(3, (.op .lenL (.cons (.bv 0) .nil)))] none))))) h16_4)
@[simp] theorem h16_5_wp : type_of% (@wpH h16_5 _ h16_5.eq_1) := wpH h16_5.eq_1
def l16 : Lifted := ⟨[0, 1, 2, 3, 4], 20, [.cell 2 true 5], (.seq (.reg (.eff (.box 25) (.cons (.inp 0) .nil) (.eff (.new 25 (.agg #[(.int .i64 0), (.int .i64 0), (.int .u64 0), (.int .u64 0), (.slice none 0 0)])) .nil (.done [(1, (.bv 0)), (2, (.bv 1))] none)))) h16_5)⟩
theorem l16_ok : liftFn T0 16 400 = some l16 := by kernel_rfl

def h33_0 : HC := (.seq (.regq (some 0) (.chk none (.fld 4) (.cons (.inp 1) .nil) (.eff (.ld false 1) (.cons (.op (.fld 4) (.cons (.inp 1) .nil)) .nil) (.chk none (.fld 4) (.cons (.inp 1) .nil) (.eff (.ld false 1) (.cons (.op (.fld 4) (.cons (.inp 1) .nil)) .nil) (.chk none .lenL (.cons (.bv 1) .nil) (.chk none (.bin .add) (.cons (.op .lenL (.cons (.bv 1) .nil)) (.cons (.cst (.int .i64 1)) .nil)) (.chk none (.slL 1 false true false) (.cons (.bv 0) (.cons (.op (.bin .add) (.cons (.op .lenL (.cons (.bv 1) .nil)) (.cons (.cst (.int .i64 1)) .nil))) .nil)) (.chk none (.fld 4) (.cons (.inp 1) .nil) (.eff (.ld false 1) (.cons (.op (.fld 4) (.cons (.inp 1) .nil)) .nil) (.chk none .lenL (.cons (.bv 2) .nil) (.chk none (.idxL 1) (.cons (.op (.slL 1 false true false) (.cons (.bv 0) (.cons (.op (.bin .add) (.cons (.op .lenL (.cons (.bv 1) .nil)) (.cons (.cst (.int .i64 1)) .nil))) .nil))) (.cons (.op .lenL (.cons (.bv 2) .nil)) .nil)) (.eff (.ld false 1) (.cons (.op (.idxL 1) (.cons (.op (.slL 1 false true false) (.cons (.bv 0) (.cons (.op (.bin .add) (.cons (.op .lenL (.cons (.bv 1) .nil)) (.cons (.cst (.int .i64 1)) .nil))) .nil))) (.cons (.op .lenL (.cons (.bv 2) .nil)) .nil))) .nil) (.chk none (.bin .eql) (.cons (.bv 3) (.cons (.cst (.int .i64 (-71))) .nil)) (.done [(2, (.op (.bin .eql) (.cons (.bv 3) (.cons (.cst (.int .i64 (-71))) .nil))))] none))))))))))))))) .ret)
@[simp] theorem h33_0_wp : type_of% (@wpH h33_0 _ h33_0.eq_1) := wpH h33_0.eq_1
def l33 : Lifted := ⟨[0, 1, 2], 16, [.slot 2], (.seq (.reg (.eff (.box 25) (.cons (.inp 0) .nil) (.done [(1, (.bv 0)), (2, (.cst (.bool false)))] none))) h33_0)⟩
theorem l33_ok : liftFn T0 33 400 = some l33 := by kernel_rfl
theorem lentBytes_spec (b : List UInt8) (v : Value) (w0 w : World) (A : Asn) (hb : b.length ≤ 1048576) (h : BR w0 A v b) (s : St w0 A w) :
    CallW Try.prog 10 [v] (fun r w' => St w0 (A * lbA r b) w') w := by
  have hbr := h
  obtain ⟨a, c, rfl⟩ := h.val
  refine callW_of_lift l10_ok (by simp [l10]) ?_
  simp -implicitDefEqProofs [l10]
  have s1 := s.own_nil 5 1
  refine eff_appR s1 (hbr.mono fun w s => s.drop) (by simp [bytesV, Value.oneCell']) (by decide) rfl (by unfold maxLen; omega) (by omega) fun v1 w1 s1 => ?_
  simp -implicitDefEqProofs
  refine eff_bslO (vs := bmarks) s1 (by simp [bmarks, Value.oneCell']) rfl rfl (by decide) fun v2 w2 s2 => ?_
  simp -implicitDefEqProofs
  have s3 : St w0 (A * own 5 1 v2 2 bmarks * own 5 1 v1 b.length (bytesV b)) w2 := by have := s2.swap; simpa using this
  refine eff_appR s3 (row_in (e := 5) (n := 2) (xs := bmarks) (B := A * own 5 1 v1 b.length (bytesV b)) s3 (by ac_rfl)) (by simp [bmarks, Value.oneCell']) (by decide) rfl (by unfold maxLen; omega) (by omega) fun v3 w3 s4 => ?_
  simp -implicitDefEqProofs
  obtain ⟨g, cap, rfl, hcap, _⟩ := s4.own_at (by omega)
  have hle : b.length ≤ cap := by omega
  simp -implicitDefEqProofs [hle, addr0]
  exact lclose hcap (by simp [bytesV_len]) s4.swap.drop
theorem keptBytes_spec (b : List UInt8) (v v2 : Value) (w0 w : World) (A : Asn) (hb : b.length ≤ 1048576) (h : BR w0 A v2 b) (s : St w0 (A * lbA v b) w) :
    CallW Try.prog 14 [v, v2] (fun r w' => r = .bool true ∧ St w0 (A * lbA v b) w') w := by
  obtain ⟨g, cap, rfl, hc, hl, s1⟩ := lopen s
  refine callW_of_lift l14_ok (by simp [l14]) ?_
  simp -implicitDefEqProofs [l14]
  have w1 : IntKind.i64.wrap ((b.length : Int) + 2) = b.length + 2 := wrap64 (by omega) (by omega)
  have w2 : IntKind.i64.wrap ((b.length : Int) + 1) = b.length + 1 := wrap64 (by omega) (by omega)
  have e1 : (b.length : Int) + 2 ≤ cap := by omega
  have e2 : (0 : Int) ≤ (b.length : Int) + 2 := by omega
  have e3 : ((b.length : Int) + 2).toNat = b.length + 2 := by omega
  have e4 : ((b.length : Int) + 1).toNat = b.length + 1 := by omega
  simp -implicitDefEqProofs [w1, e1, e2, e3, addr0]
  refine eff_call ((bytes_spec b b _ _ w0 w _ (by omega) (len_row s) (h.mono fun w s => s.drop) s).mono ?_)
  rintro _ w3 ⟨rfl, s3⟩
  have cell : ∀ j u, (bytesV b ++ bmarks)[j]? = some u → w3.cell? ⟨g, j, none⟩ = some u := fun j u hu => by
    obtain ⟨g', cap', hv, _, _, s4⟩ := lopen s3
    cases hv
    obtain ⟨g2, _, hv, _, hcell⟩ := s4.own_at (by omega)
    cases hv
    exact hcell j u hu
  have e7 : (b.length : Int) < (b.length : Int) + 2 := by omega
  simp -implicitDefEqProofs [e7]
  refine eff_ldc (v := .int .u8 201) (cell b.length _ (by rw [List.getElem?_append_right (by simp [bytesV_len])]; simp [bytesV_len, bmarks])) ?_
  have e5 : ((b.length : Int) + 1) < (b.length : Int) + 2 := by omega
  have e6 : (0 : Int) ≤ (b.length : Int) + 1 := by omega
  simp -implicitDefEqProofs [w2, e4, e5, e6]
  refine eff_ldc (v := .int .u8 202) (cell (b.length + 1) _ (by rw [List.getElem?_append_right (by simp [bytesV_len])]; simp [bytesV_len, bmarks])) ?_
  simp -implicitDefEqProofs
  exact s3
theorem lentEntry_spec (e : PE) (v : Value) (w0 w : World) (A : Asn) (he : e.ws.length ≤ 1048576) (h : WR w0 A v e.ws) (s : St w0 A w) :
    CallW Try.prog 16 [.agg (e.cs v).toArray] (fun r w' => ∃ v', r = .agg (e.cs v').toArray ∧ St w0 (A * lwA v' e.ws) w') w := by
  have hwr := h
  obtain ⟨a, c, rfl⟩ := h.val
  refine callW_of_lift l16_ok (by simp [l16]) ?_
  simp -implicitDefEqProofs [l16, Instr.fill, Value.cells]
  refine eff_box s fun b w1 s1 => ?_
  simp -implicitDefEqProofs
  refine eff_new s1 fun d w2 s2 => ?_
  simp -implicitDefEqProofs [Instr.fill, Value.cells]
  have s2 : St w0 (A * pt d (.cells (PE.zero.cs (.slice none 0 0)).toArray 25 (0, 0)) * pt b (.cells (e.cs (.slice a e.ws.length c)).toArray 25 (0, 0))) w2 := s2.to (by simp only [PE.cs, PE.zero, Value.cells]; ac_rfl)
  have fb : ∀ {w : World} {Z : Asn}, St w0 (A * pt d (.cells (PE.zero.cs (.slice none 0 0)).toArray 25 (0, 0)) * pt b (.cells (e.cs (.slice a e.ws.length c)).toArray 25 (0, 0)) * Z) w → w.cell? ⟨b, 4, none⟩ = some (.slice a e.ws.length c) := fun h => by
    have := h.drop.row_cells 4 _ rfl; simpa using this
  have s3 := s2.own_nil 3 1
  refine eff_ldc (v := .slice a e.ws.length c) (fb s3) ?_
  simp -implicitDefEqProofs
  refine eff_ldc (v := .slice a e.ws.length c) (fb s3) ?_
  simp -implicitDefEqProofs
  refine eff_appR s3 (hwr.mono fun w s => s.drop.drop.drop) (by simp [ints, Value.oneCell']) (by decide) rfl (by unfold maxLen; omega) (by omega) fun v4 w4 s4 => ?_
  simp -implicitDefEqProofs
  refine eff_bsl1 s4 rfl fun k w5 s5 => ?_
  simp -implicitDefEqProofs
  refine eff_app (m := 1) (news := [.int .i64 (-71)]) s5.swap rfl (by simpa using s5.cells_look) (by simp [Value.oneCell']) (by decide) rfl (by unfold maxLen; omega) (by omega) fun v6 w6 s6 => ?_
  have s6 : St w0 (A * pt d (.cells (PE.zero.cs (.slice none 0 0)).toArray 25 (0, 0)) * pt b (.cells (e.cs (.slice a e.ws.length c)).toArray 25 (0, 0)) * own 3 1 v6 (e.ws.length + 1) (ints e.ws ++ [.int .i64 (-71)])) w6 := by have := s6.swap.drop; simpa using this
  obtain ⟨g, cap, rfl, hcap, _⟩ := s6.own_at (by omega)
  have hle : e.ws.length ≤ cap := by omega
  simp -implicitDefEqProofs [hle, addr0]
  have s7 : St w0 (A * pt d (.cells (PE.zero.cs (.slice none 0 0)).toArray 25 (0, 0)) * lwA (.slice (some ⟨g, 0, none⟩) e.ws.length cap) e.ws * pt b (.cells (e.cs (.slice a e.ws.length c)).toArray 25 (0, 0))) w6 := (lclose hcap (by simp) s6).swap
  refine eff_st1 s7 rfl (by simp [PE.cs]) fun w7 s8 => ?_
  simp -implicitDefEqProofs
  have s8 : St w0 (A * pt d (.cells (PE.zero.cs (.slice none 0 0)).toArray 25 (0, 0)) * lwA (.slice (some ⟨g, 0, none⟩) e.ws.length cap) e.ws * pt b (.cells (e.cs (.slice (some ⟨g, 0, none⟩) e.ws.length cap)).toArray 25 (0, 0))) w7 := by simpa [PE.cs] using s8
  refine eff_ldcs (vs := e.cs (.slice (some ⟨g, 0, none⟩) e.ws.length cap)) s8.row_cells rfl ?_
  simp -implicitDefEqProofs
  refine eff_stA (vs := e.cs (.slice (some ⟨g, 0, none⟩) e.ws.length cap)) s8.p3 rfl rfl (pe_one _ _ rfl) (by simp [PE.cs]) fun w9 s9 => ?_
  simp -implicitDefEqProofs
  have s9 : St w0 (A * lwA (.slice (some ⟨g, 0, none⟩) e.ws.length cap) e.ws * pt b (.cells (e.cs (.slice (some ⟨g, 0, none⟩) e.ws.length cap)).toArray 25 (0, 0)) * pt d (.cells (e.cs (.slice (some ⟨g, 0, none⟩) e.ws.length cap)).toArray 25 (0, 0))) w9 := St.to (by simpa [PE.cs] using s9) (by first | rfl | ac_rfl)
  refine rv_cellA rfl s9.row_cells rfl ?_
  simp -implicitDefEqProofs
  exact ⟨_, rfl, s9.drop.drop⟩
theorem mark_spec (e : PE) (v : Value) (w0 w : World) (A : Asn) (he : e.ws.length ≤ 1048576) (s : St w0 (A * lwA v e.ws) w) :
    CallW Try.prog 33 [.agg (e.cs v).toArray] (fun r w' => r = .bool true ∧ St w0 (A * lwA v e.ws) w') w := by
  obtain ⟨g, cap, rfl, hc, hl, _⟩ := lopen s
  refine callW_of_lift l33_ok (by simp [l33]) ?_
  simp -implicitDefEqProofs [l33, Instr.fill, Value.cells]
  refine eff_box s fun b w1 s1 => ?_
  simp -implicitDefEqProofs [Instr.fill, Value.cells]
  have s1 : St w0 (A * lwA (.slice (some ⟨g, 0, none⟩) e.ws.length cap) e.ws * pt b (.cells (e.cs (.slice (some ⟨g, 0, none⟩) e.ws.length cap)).toArray 25 (0, 0))) w1 := s1
  have fb : ∀ {w : World}, St w0 (A * lwA (.slice (some ⟨g, 0, none⟩) e.ws.length cap) e.ws * pt b (.cells (e.cs (.slice (some ⟨g, 0, none⟩) e.ws.length cap)).toArray 25 (0, 0))) w → w.cell? ⟨b, 4, none⟩ = some (.slice (some ⟨g, 0, none⟩) e.ws.length cap) := fun h => by
    have := h.row_cells 4 _ rfl; simpa using this
  have fm : ∀ {w : World}, St w0 (A * lwA (.slice (some ⟨g, 0, none⟩) e.ws.length cap) e.ws * pt b (.cells (e.cs (.slice (some ⟨g, 0, none⟩) e.ws.length cap)).toArray 25 (0, 0))) w → w.cell? ⟨g, e.ws.length, none⟩ = some (.int .i64 (-71)) := fun h => by
    obtain ⟨g', cap', hv, _, _, s4⟩ := lopen h.drop
    cases hv
    obtain ⟨g2, _, hv, _, hcell⟩ := s4.own_at (by omega)
    cases hv
    exact hcell _ _ (by rw [List.getElem?_append_right (by simp)]; simp)
  have w1 : IntKind.i64.wrap ((e.ws.length : Int) + 1) = e.ws.length + 1 := wrap64 (by omega) (by omega)
  have e1 : (e.ws.length : Int) + 1 ≤ cap := by omega
  have e2 : (0 : Int) ≤ (e.ws.length : Int) + 1 := by omega
  have e3 : ((e.ws.length : Int) + 1).toNat = e.ws.length + 1 := by omega
  refine regqI s1 ?_
  simp -implicitDefEqProofs
  refine effq_ldc (fun w h => fb h) ?_
  simp -implicitDefEqProofs
  refine effq_ldc (fun w h => fb h) ?_
  simp -implicitDefEqProofs [w1, e1, e2, e3]
  refine effq_ldc (fun w h => fb h) ?_
  have e4 : (e.ws.length : Int) < (e.ws.length : Int) + 1 := by omega
  simp -implicitDefEqProofs [addr0, w1, e1, e2, e3, e4]
  refine effq_ldc (fun w h => by have := fm h; simpa using this) ?_
  simp -implicitDefEqProofs
  exact fun w h => h.drop
end Go.HL.Sr

namespace Go.HL.Sr
open Go.HL Go.HL.Tl Go.Proofs
set_option maxRecDepth 4000
set_option linter.unusedSimpArgs false
set_option linter.unusedVariables false
attribute [local irreducible] EffW

def h4_0 : HC := (.seq (.reg (.eff (.ld true 24) (.cons (.inp 1) .nil) (.eff (.st 24) (.cons (.inp 2) (.cons (.bv 0) .nil)) (.done [] none)))) .ret)
@[simp] theorem h4_0_wp : type_of% (@wpH h4_0 _ h4_0.eq_1) := wpH h4_0.eq_1
def h4_1 : HC := (.seq (.reg (.chk none (.slL 5 false true false) (.cons (.inp 3) (.cons (.inp 4) .nil)) (.chk none (.fld 12) (.cons (.inp 1) .nil) (.chk none (.fld 10) (.cons (.op (.fld 12) (.cons (.inp 1) .nil)) .nil) (.eff (.st 1) (.cons (.op (.fld 10) (.cons (.op (.fld 12) (.cons (.inp 1) .nil)) .nil)) (.cons (.op (.slL 5 false true false) (.cons (.inp 3) (.cons (.inp 4) .nil))) .nil)) (.done [] none)))))) h4_0)
@[simp] theorem h4_1_wp : type_of% (@wpH h4_1 _ h4_1.eq_1) := wpH h4_1.eq_1
def h4_2 : HC := (.seq (.reg (.chk none (.build #[(.int .i64 0), (.int .i64 0), (.int .u64 0), (.int .u64 0), (.slice none 0 0)] [(0, 1), (1, 1), (2, 1), (3, 1), (4, 1)] [0]) (.cons (.cst (.int .i64 (-73))) .nil) (.eff (.bsl 25 1 5 #[(.int .i64 0), (.int .i64 0), (.int .u64 0), (.int .u64 0), (.slice none 0 0)] [0]) (.cons (.op (.build #[(.int .i64 0), (.int .i64 0), (.int .u64 0), (.int .u64 0), (.slice none 0 0)] [(0, 1), (1, 1), (2, 1), (3, 1), (4, 1)] [0]) (.cons (.cst (.int .i64 (-73))) .nil)) .nil) (.eff (.app 26 26 25 5 56 (.agg #[(.int .i64 0), (.int .i64 0), (.int .u64 0), (.int .u64 0), (.slice none 0 0)])) (.cons (.inp 3) (.cons (.bv 0) .nil)) (.done [(3, (.bv 1))] none))))) h4_1)
@[simp] theorem h4_2_wp : type_of% (@wpH h4_2 _ h4_2.eq_1) := wpH h4_2.eq_1
def h4_3 : HC := (.reg (.chk none (.bin .add) (.cons (.inp 5) (.cons (.cst (.int .i64 1)) .nil)) (.done [(5, (.op (.bin .add) (.cons (.inp 5) (.cons (.cst (.int .i64 1)) .nil))))] none)))
@[simp] theorem h4_3_wp : type_of% (@wpH h4_3 _ h4_3.eq_1) := wpH h4_3.eq_1
def h4_4 : HC := (.reg (.eff (.ld true 5) (.cons (.inp 6) .nil) (.eff (.bsl 25 1 5 #[(.int .i64 0), (.int .i64 0), (.int .u64 0), (.int .u64 0), (.slice none 0 0)] [0]) (.cons (.bv 0) .nil) (.eff (.app 26 26 25 5 56 (.agg #[(.int .i64 0), (.int .i64 0), (.int .u64 0), (.int .u64 0), (.slice none 0 0)])) (.cons (.inp 3) (.cons (.bv 1) .nil)) (.done [(3, (.bv 2))] none)))))
@[simp] theorem h4_4_wp : type_of% (@wpH h4_4 _ h4_4.eq_1) := wpH h4_4.eq_1
def h4_5 : HC := (.seq (.reg (.chk none (.fld 12) (.cons (.inp 1) .nil) (.chk none (.fld 10) (.cons (.op (.fld 12) (.cons (.inp 1) .nil)) .nil) (.eff (.ld false 1) (.cons (.op (.fld 10) (.cons (.op (.fld 12) (.cons (.inp 1) .nil)) .nil)) .nil) (.chk none (.idxL 5) (.cons (.bv 0) (.cons (.inp 5) .nil)) (.eff (.ld true 5) (.cons (.op (.idxL 5) (.cons (.bv 0) (.cons (.inp 5) .nil))) .nil) (.eff (.call 16) (.cons (.bv 1) .nil) (.eff (.new 25 (.agg #[(.int .i64 0), (.int .i64 0), (.int .u64 0), (.int .u64 0), (.slice none 0 0)])) .nil (.eff (.st 5) (.cons (.bv 3) (.cons (.bv 2) .nil)) (.done [(6, (.bv 3))] none)))))))))) h4_4)
@[simp] theorem h4_5_wp : type_of% (@wpH h4_5 _ h4_5.eq_1) := wpH h4_5.eq_1
def h4_6 : HC := (.seq (.block 1 h4_5) h4_3)
@[simp] theorem h4_6_wp : type_of% (@wpH h4_6 _ h4_6.eq_1) := wpH h4_6.eq_1
def h4_7 : HC := (.seq (.br (.chk none (.bin .lss) (.cons (.inp 5) (.cons (.inp 4) .nil)) (.done [] (some (.op (.bin .lss) (.cons (.inp 5) (.cons (.inp 4) .nil)))))) .skip (.exit 0)) h4_6)
@[simp] theorem h4_7_wp : type_of% (@wpH h4_7 _ h4_7.eq_1) := wpH h4_7.eq_1
def h4_8 : HC := (.loop h4_7)
@[simp] theorem h4_8_wp : type_of% (@wpH h4_8 _ h4_8.eq_1) := wpH h4_8.eq_1
def h4_9 : HC := (.seq (.block 0 h4_8) h4_2)
@[simp] theorem h4_9_wp : type_of% (@wpH h4_9 _ h4_9.eq_1) := wpH h4_9.eq_1
def h4_10 : HC := (.seq (.reg (.done [(5, (.cst (.int .i64 0)))] none)) h4_9)
@[simp] theorem h4_10_wp : type_of% (@wpH h4_10 _ h4_10.eq_1) := wpH h4_10.eq_1
def h4_11 : HC := (.seq (.reg (.chk none (.fld 12) (.cons (.inp 1) .nil) (.chk none (.fld 10) (.cons (.op (.fld 12) (.cons (.inp 1) .nil)) .nil) (.eff (.ld false 1) (.cons (.op (.fld 10) (.cons (.op (.fld 12) (.cons (.inp 1) .nil)) .nil)) .nil) (.chk none .lenL (.cons (.bv 0) .nil) (.done [(4, (.op .lenL (.cons (.bv 0) .nil)))] none)))))) h4_10)
@[simp] theorem h4_11_wp : type_of% (@wpH h4_11 _ h4_11.eq_1) := wpH h4_11.eq_1
def h4_12 : HC := (.seq (.reg (.done [(3, (.cst (.slice none 0 0)))] none)) h4_11)
@[simp] theorem h4_12_wp : type_of% (@wpH h4_12 _ h4_12.eq_1) := wpH h4_12.eq_1
def h4_13 : HC := (.seq (.reg (.chk none (.fld 7) (.cons (.inp 1) .nil) (.eff (.ld true 5) (.cons (.op (.fld 7) (.cons (.inp 1) .nil)) .nil) (.eff (.call 16) (.cons (.bv 0) .nil) (.chk none (.fld 7) (.cons (.inp 1) .nil) (.eff (.st 5) (.cons (.op (.fld 7) (.cons (.inp 1) .nil)) (.cons (.bv 1) .nil)) (.done [] none))))))) h4_12)
@[simp] theorem h4_13_wp : type_of% (@wpH h4_13 _ h4_13.eq_1) := wpH h4_13.eq_1
def l4 : Lifted := ⟨[0, 1, 2, 3, 4, 5, 6], 41, [.cell 2 true 24], (.seq (.reg (.eff (.box 30) (.cons (.inp 0) .nil) (.eff (.new 30 (.agg #[(.int .i64 0), (.string ⟨#[]⟩), (.int .i64 0), (.int .i64 0), (.int .u64 0), (.int .i64 0), (.int .i64 0), (.int .i64 0), (.int .i64 0), (.int .u64 0), (.int .u64 0), (.slice none 0 0), (.int .i64 0), (.int .i64 0), (.int .i64 0), (.int .i64 0), (.int .i64 0), (.int .i64 0), (.int .u64 0), (.int .u64 0), (.int .u64 0), (.int .i64 0), (.slice none 0 0), (.int .i64 0)])) .nil (.done [(1, (.bv 0)), (2, (.bv 1))] none)))) h4_13)⟩
theorem l4_ok : liftFn T0 4 400 = some l4 := by kernel_rfl

def h9_0 : HC := (.seq (.reg (.chk none (.fld 12) (.cons (.inp 2) .nil) (.chk none (.fld 10) (.cons (.op (.fld 12) (.cons (.inp 2) .nil)) .nil) (.eff (.ld false 1) (.cons (.op (.fld 10) (.cons (.op (.fld 12) (.cons (.inp 2) .nil)) .nil)) .nil) (.chk none (.bin .add) (.cons (.inp 6) (.cons (.cst (.int .i64 1)) .nil)) (.chk none (.slL 5 false true false) (.cons (.bv 0) (.cons (.op (.bin .add) (.cons (.inp 6) (.cons (.cst (.int .i64 1)) .nil))) .nil)) (.chk none (.idxL 5) (.cons (.op (.slL 5 false true false) (.cons (.bv 0) (.cons (.op (.bin .add) (.cons (.inp 6) (.cons (.cst (.int .i64 1)) .nil))) .nil))) (.cons (.inp 6) .nil)) (.chk none (.fld 0) (.cons (.op (.idxL 5) (.cons (.op (.slL 5 false true false) (.cons (.bv 0) (.cons (.op (.bin .add) (.cons (.inp 6) (.cons (.cst (.int .i64 1)) .nil))) .nil))) (.cons (.inp 6) .nil))) .nil) (.eff (.ld false 1) (.cons (.op (.fld 0) (.cons (.op (.idxL 5) (.cons (.op (.slL 5 false true false) (.cons (.bv 0) (.cons (.op (.bin .add) (.cons (.inp 6) (.cons (.cst (.int .i64 1)) .nil))) .nil))) (.cons (.inp 6) .nil))) .nil)) .nil) (.chk none (.bin .eql) (.cons (.bv 1) (.cons (.cst (.int .i64 (-73))) .nil)) (.done [(4, (.op (.bin .eql) (.cons (.bv 1) (.cons (.cst (.int .i64 (-73))) .nil))))] none))))))))))) .ret)
@[simp] theorem h9_0_wp : type_of% (@wpH h9_0 _ h9_0.eq_1) := wpH h9_0.eq_1
def h9_1 : HC := (.seq (.reg (.chk none (.fld 12) (.cons (.inp 2) .nil) (.chk none (.fld 10) (.cons (.op (.fld 12) (.cons (.inp 2) .nil)) .nil) (.eff (.ld false 1) (.cons (.op (.fld 10) (.cons (.op (.fld 12) (.cons (.inp 2) .nil)) .nil)) .nil) (.chk none .lenL (.cons (.bv 0) .nil) (.done [(6, (.op .lenL (.cons (.bv 0) .nil)))] none)))))) h9_0)
@[simp] theorem h9_1_wp : type_of% (@wpH h9_1 _ h9_1.eq_1) := wpH h9_1.eq_1
def h9_2 : HC := (.reg (.chk none (.bin .add) (.cons (.inp 5) (.cons (.cst (.int .i64 1)) .nil)) (.done [(5, (.op (.bin .add) (.cons (.inp 5) (.cons (.cst (.int .i64 1)) .nil))))] none)))
@[simp] theorem h9_2_wp : type_of% (@wpH h9_2 _ h9_2.eq_1) := wpH h9_2.eq_1
def h9_3 : HC := (.seq (.reg (.done [(4, (.cst (.bool false)))] none)) .ret)
@[simp] theorem h9_3_wp : type_of% (@wpH h9_3 _ h9_3.eq_1) := wpH h9_3.eq_1
def h9_4 : HC := (.br (.chk none (.fld 12) (.cons (.inp 2) .nil) (.chk none (.fld 10) (.cons (.op (.fld 12) (.cons (.inp 2) .nil)) .nil) (.eff (.ld false 1) (.cons (.op (.fld 10) (.cons (.op (.fld 12) (.cons (.inp 2) .nil)) .nil)) .nil) (.chk none (.idxL 5) (.cons (.bv 0) (.cons (.inp 5) .nil)) (.eff (.ld true 5) (.cons (.op (.idxL 5) (.cons (.bv 0) (.cons (.inp 5) .nil))) .nil) (.eff (.call 33) (.cons (.bv 1) .nil) (.chk none (.un .not) (.cons (.bv 2) .nil) (.done [] (some (.op (.un .not) (.cons (.bv 2) .nil))))))))))) h9_3 .skip)
@[simp] theorem h9_4_wp : type_of% (@wpH h9_4 _ h9_4.eq_1) := wpH h9_4.eq_1
def h9_5 : HC := (.seq (.block 1 h9_4) h9_2)
@[simp] theorem h9_5_wp : type_of% (@wpH h9_5 _ h9_5.eq_1) := wpH h9_5.eq_1
def h9_6 : HC := (.seq (.br (.chk none (.fld 12) (.cons (.inp 2) .nil) (.chk none (.fld 10) (.cons (.op (.fld 12) (.cons (.inp 2) .nil)) .nil) (.eff (.ld false 1) (.cons (.op (.fld 10) (.cons (.op (.fld 12) (.cons (.inp 2) .nil)) .nil)) .nil) (.chk none .lenL (.cons (.bv 0) .nil) (.chk none (.bin .lss) (.cons (.inp 5) (.cons (.op .lenL (.cons (.bv 0) .nil)) .nil)) (.done [] (some (.op (.bin .lss) (.cons (.inp 5) (.cons (.op .lenL (.cons (.bv 0) .nil)) .nil)))))))))) .skip (.exit 0)) h9_5)
@[simp] theorem h9_6_wp : type_of% (@wpH h9_6 _ h9_6.eq_1) := wpH h9_6.eq_1
def h9_7 : HC := (.loop h9_6)
@[simp] theorem h9_7_wp : type_of% (@wpH h9_7 _ h9_7.eq_1) := wpH h9_7.eq_1
def h9_8 : HC := (.seq (.block 0 h9_7) h9_1)
@[simp] theorem h9_8_wp : type_of% (@wpH h9_8 _ h9_8.eq_1) := wpH h9_8.eq_1
def h9_9 : HC := (.seq (.reg (.done [(5, (.cst (.int .i64 0)))] none)) h9_8)
@[simp] theorem h9_9_wp : type_of% (@wpH h9_9 _ h9_9.eq_1) := wpH h9_9.eq_1
def h9_10 : HC := (.seq (.reg (.done [(4, (.cst (.bool false)))] none)) .ret)
@[simp] theorem h9_10_wp : type_of% (@wpH h9_10 _ h9_10.eq_1) := wpH h9_10.eq_1
def h9_11 : HC := (.seq (.br (.eff (.ld true 24) (.cons (.inp 2) .nil) (.eff (.ld true 24) (.cons (.inp 3) .nil) (.eff (.call 13) (.cons (.bv 0) (.cons (.bv 1) .nil)) (.chk none (.un .not) (.cons (.bv 2) .nil) (.bnd (.op (.un .not) (.cons (.bv 2) .nil)) (.chk (some ((.bv 3), false)) (.fld 7) (.cons (.inp 2) .nil) (.ite (.bv 3) false (.eff (.ld true 5) (.cons (.ite (.bv 3) false (.op (.fld 7) (.cons (.inp 2) .nil)) (.cst (.tuple #[]))) .nil) (.eff (.call 33) (.cons (.bv 4) .nil) (.chk none (.un .not) (.cons (.bv 5) .nil) (.isb none (.bv 3) (.done [] (some (.op (.un .not) (.cons (.bv 5) .nil)))))))) (.isb none (.bv 3) (.done [] (some (.cst (.bool true)))))))))))) h9_10 .skip) h9_9)
@[simp] theorem h9_11_wp : type_of% (@wpH h9_11 _ h9_11.eq_1) := wpH h9_11.eq_1
def l9 : Lifted := ⟨[0, 1, 2, 3, 4, 5, 6], 48, [.slot 4], (.seq (.reg (.eff (.box 30) (.cons (.inp 0) .nil) (.eff (.box 30) (.cons (.inp 1) .nil) (.done [(2, (.bv 0)), (3, (.bv 1)), (4, (.cst (.bool false)))] none)))) h9_11)⟩
theorem l9_ok : liftFn T0 9 400 = some l9 := by kernel_rfl
abbrev rpt (b : Nat) (r : PR) (ev cv : Value) : Asn := pt b (.cells (r.cs ev cv).toArray 30 (0, 0))
abbrev lwL (l : List (PE × Value)) : Asn := allA (fun x => lwA x.2 x.1.ws) l
theorem rpt_at {w0 w : World} {A Z : Asn} {b : Nat} {r : PR} {ev cv : Value} (s : St w0 A w) (h : A = Z * rpt b r ev cv) : ∀ j u, (r.cs ev cv)[j]? = some u → w.cell? ⟨b, j, none⟩ = some u := fun j u hu => by
  have := (s.to h).row_cells j u hu; simpa using this
set_option maxHeartbeats 1000000 in
theorem lent_spec (r : PR) (ev cv : Value) (wvs : List Value) (w0 w : World) (A : Asn) (hr : r.ok) (h1 : WR w0 A ev r.en.ws) (h2 : CV w0 A cv wvs r.co.es) (s : St w0 A w) :
    CallW Try.prog 4 [.agg (r.cs ev cv).toArray] (fun x w' => ∃ ev' cv' l, x = .agg (r.cs ev' cv').toArray ∧ l.map (·.1) = r.co.es ∧ St w0 (A * lwA ev' r.en.ws * leA cv' l) w') w := by
  have hwr := h1
  have hcv := h2
  have hlen := hr.co.len
  have hwl := h2.len
  obtain ⟨ea, en, rfl⟩ := h1.val
  obtain ⟨ca, cn, rfl⟩ := h2.row.val
  refine callW_of_lift l4_ok (by simp [l4]) ?_
  simp -implicitDefEqProofs [l4, Instr.fill, Value.cells]
  refine eff_box s fun b w1 s1 => ?_
  simp -implicitDefEqProofs
  refine eff_new s1 fun d w2 s2 => ?_
  simp -implicitDefEqProofs [Instr.fill, Value.cells]
  have s2 : St w0 (A * rpt d PR.zero (.slice none 0 0) (.slice none 0 0) * rpt b r (.slice ea r.en.ws.length en) (.slice ca r.co.es.length cn)) w2 := s2.to (by simp only [PR.cs, PR.zero, PE.zero, PC.zero, Value.cells, mk]; ac_rfl)
  refine eff_ldcs (vs := r.en.cs (.slice ea r.en.ws.length en)) (fun j u hu => rpt_at s2 rfl _ _ (pr_entry hu)) rfl ?_
  simp -implicitDefEqProofs
  refine eff_call ((lentEntry_spec r.en _ w0 w2 _ hr.en.len (hwr.mono fun w s => s.drop.drop) s2).mono ?_)
  rintro _ w3 ⟨ev', rfl, s3⟩
  have hev : ev'.oneCell' = true := by obtain ⟨_, _, rfl, _⟩ := lopen s3; rfl
  simp -implicitDefEqProofs
  refine eff_stA (vs := r.en.cs ev') s3.swap rfl rfl (pe_one _ _ hev) (by simp [PR.cs]) fun w4 s4 => ?_
  simp -implicitDefEqProofs
  have s4 : St w0 (A * rpt d PR.zero (.slice none 0 0) (.slice none 0 0) * lwA ev' r.en.ws * rpt b r ev' (.slice ca r.co.es.length cn)) w4 := by simpa [rpt, PR.cs, PE.cs] using s4
  obtain ⟨D, hD⟩ : ∃ D, A * rpt d PR.zero (.slice none 0 0) (.slice none 0 0) * lwA ev' r.en.ws * rpt b r ev' (.slice ca r.co.es.length cn) = D := ⟨_, rfl⟩
  rw [hD] at s4
  have fb : ∀ {w : World}, St w0 D w → w.cell? ⟨b, 22, none⟩ = some (.slice ca r.co.es.length cn) := fun h => rpt_at h hD.symm 22 _ rfl
  have hDA : ∀ w, St w0 D w → St w0 A w := fun w h => by rw [← hD] at h; exact h.drop.drop.drop
  refine eff_ldc (v := .slice ca r.co.es.length cn) (fb s4) ?_
  simp -implicitDefEqProofs
  refine loopI (fun env w' => ∃ (i : Nat) (lv o6 : Value) (l : List (PE × Value)), env = [.agg (r.cs (.slice ea r.en.ws.length en) (.slice ca r.co.es.length cn)).toArray, .pointer (some ⟨b, 0, none⟩), .pointer (some ⟨d, 0, none⟩), lv, .int .i64 r.co.es.length, .int .i64 i, o6] ∧ i ≤ r.co.es.length ∧ l.map (·.1) = r.co.es.take i ∧ St w0 (D * lwL l * own 25 5 lv l.length (eflat l)) w')
    (fun env _ => r.co.es.length - slotN env 5) ⟨0, .slice none 0 0, _, [], rfl, by omega, rfl, ?_⟩ ?_
  · have h := s4.own_nil 25 5
    have e : lwL [] = emp := rfl
    rw [e, sep_emp]; exact h
  rintro LQ env w' ⟨i, lv, o6, l, rfl, hi, hl, t1⟩ hN hE hR
  have hll : l.length = i := by
    have := congrArg List.length hl
    simp at this; omega
  simp -implicitDefEqProofs
  refine cndI (fun h3 => ?_) (fun h3 => ?_)
  · simp at h3
    obtain ⟨g1, o1, c1', e1, k1⟩ := h2.row.at (by omega)
    cases e1
    have i1 : i < wvs.length := by omega
    have z1 : i < (r.co.es.zip wvs).length := by simp; omega
    have e1 := hcv.each i i1 h3
    obtain ⟨e, hee⟩ : ∃ e, r.co.es[i] = e := ⟨_, rfl⟩
    have hle := (hr.co.each e (by rw [← hee]; exact List.getElem_mem h3)).len
    rw [hee] at e1
    have y1 : (r.co.es.zip wvs)[i] = (e, wvs[i]) := by simp [hee]
    simp -implicitDefEqProofs [h3]
    refine eff_ldc (v := .slice (some ⟨g1, o1, none⟩) r.co.es.length cn) (fb t1.drop.drop) ?_
    simp -implicitDefEqProofs [h3]
    refine eff_ldcs (vs := e.cs wvs[i]) (fun j u hu => by rw [Nat.add_assoc]; exact k1 _ (hDA _ t1.drop.drop) _ _ (eflat_at z1 j u (by rw [y1]; exact hu))) rfl ?_
    simp -implicitDefEqProofs
    refine eff_call ((lentEntry_spec e _ w0 w' _ hle (e1.mono fun w s => hDA _ s.drop.drop) t1).mono ?_)
    rintro _ w5 ⟨v5, rfl, t2⟩
    have hv5 : v5.oneCell' = true := by obtain ⟨_, _, rfl, _⟩ := lopen t2; rfl
    simp -implicitDefEqProofs
    refine eff_new t2 fun k w6 t3 => ?_
    simp -implicitDefEqProofs
    refine eff_stA (vs := e.cs v5) t3 rfl rfl (pe_one _ _ hv5) (by simp) fun w7 t4 => ?_
    simp -implicitDefEqProofs
    have t4 : St w0 (D * lwL l * own 25 5 lv l.length (eflat l) * lwA v5 e.ws * pt k (.cells (e.cs v5).toArray 25 (0, 0))) w7 := by simpa [PE.cs] using t4
    refine eff_ldcs (vs := e.cs v5) t4.row_cells rfl ?_
    simp -implicitDefEqProofs
    refine eff_bslV (v := .agg (e.cs v5).toArray) t4 rfl fun k2 w8 t5 => ?_
    simp -implicitDefEqProofs
    refine eff_app (m := 1) (news := e.cs v5) (t5.to (B := D * lwL l * lwA v5 e.ws * pt k (.cells (e.cs v5).toArray 25 (0, 0)) * pt k2 (.cells (e.cs v5).toArray 25 (0, 0)) * own 25 5 lv l.length (eflat l)) (by simp only [Value.cells]; ac_rfl)) rfl (by simpa using t5.cells_look) (pe_one _ _ hv5) (by decide) rfl (by unfold maxLen; omega) (by omega) fun u w9 t6 => ?_
    simp -implicitDefEqProofs
    try simp (disch := omega) only [wrap64]
    refine hN _ _ ⟨i + 1, u, _, l ++ [(e, v5)], by simp; rfl, by omega, by rw [List.take_succ_eq_append_getElem h3, hee, ← hl]; simp, ?_⟩ (by simp [slotN]; omega)
    have ef : eflat (l ++ [(e, v5)]) = eflat l ++ e.cs v5 := by simp [eflat]
    have el : lwL (l ++ [(e, v5)]) = lwL l * lwA v5 e.ws := allA_snoc _ _ _
    rw [ef, el, List.length_append]
    refine t6.cut (pt k (.cells (e.cs v5).toArray 25 (0, 0)) * pt k2 (.cells (e.cs v5).toArray 25 (0, 0))) ?_
    simp only [List.length_singleton]
    ac_rfl
  · simp at h3
    simp -implicitDefEqProofs
    refine hE _ _ _ ?_
    obtain rfl : i = r.co.es.length := by omega
    rw [List.take_length] at hl
    simp -implicitDefEqProofs [Instr.fill, Value.cells]
    refine eff_bslV (v := .agg emark.toArray) t1 rfl fun k w5 t2 => ?_
    simp -implicitDefEqProofs
    refine eff_app (m := 1) (news := emark) (t2.to (B := D * lwL l * pt k (.cells emark.toArray 25 (0, 0)) * own 25 5 lv l.length (eflat l)) (by simp only [Value.cells]; ac_rfl)) rfl (by simpa using t2.cells_look) (by simp [emark, Value.oneCell']) (by decide) rfl (by unfold maxLen; omega) (by omega) fun u w6 t3 => ?_
    simp -implicitDefEqProofs
    obtain ⟨g, cap, rfl, hcap, _⟩ := t3.own_at (by omega)
    have hle : r.co.es.length ≤ cap := by omega
    have hle2 : (r.co.es.length : Int) ≤ cap := by omega
    simp -implicitDefEqProofs [hle, hle2, addr0]
    rw [← hD] at t3
    have t4 : St w0 (A * rpt d PR.zero (.slice none 0 0) (.slice none 0 0) * lwA ev' r.en.ws * rpt b r ev' (.slice ca r.co.es.length cn) * lwL l * pt k (.cells emark.toArray 25 (0, 0)) * lenA 25 5 (.slice (some ⟨g, 0, none⟩) l.length cap) l.length 1 (eflat l) emark) w6 := lclose hcap (eflat_len l) t3
    rw [hll] at t4
    refine eff_st1 (t4.to (B := A * rpt d PR.zero (.slice none 0 0) (.slice none 0 0) * lwA ev' r.en.ws * lwL l * pt k (.cells emark.toArray 25 (0, 0)) * lenA 25 5 (.slice (some ⟨g, 0, none⟩) r.co.es.length cap) r.co.es.length 1 (eflat l) emark * rpt b r ev' (.slice ca r.co.es.length cn)) (by ac_rfl)) rfl (by simp [PR.cs]) fun w7 t5 => ?_
    simp -implicitDefEqProofs
    have t5 : St w0 (A * rpt d PR.zero (.slice none 0 0) (.slice none 0 0) * lwA ev' r.en.ws * lwL l * pt k (.cells emark.toArray 25 (0, 0)) * lenA 25 5 (.slice (some ⟨g, 0, none⟩) r.co.es.length cap) r.co.es.length 1 (eflat l) emark * rpt b r ev' (.slice (some ⟨g, 0, none⟩) r.co.es.length cap)) w7 := by simpa [rpt, PR.cs] using t5
    refine eff_ldcs (vs := r.cs ev' (.slice (some ⟨g, 0, none⟩) r.co.es.length cap)) t5.row_cells rfl ?_
    simp -implicitDefEqProofs
    refine eff_stA (vs := r.cs ev' (.slice (some ⟨g, 0, none⟩) r.co.es.length cap)) (t5.to (B := A * lwA ev' r.en.ws * lwL l * pt k (.cells emark.toArray 25 (0, 0)) * lenA 25 5 (.slice (some ⟨g, 0, none⟩) r.co.es.length cap) r.co.es.length 1 (eflat l) emark * rpt b r ev' (.slice (some ⟨g, 0, none⟩) r.co.es.length cap) * rpt d PR.zero (.slice none 0 0) (.slice none 0 0)) (by ac_rfl)) rfl rfl (pr_one _ _ _ hev rfl) (by simp [PR.cs]) fun w8 t6 => ?_
    simp -implicitDefEqProofs
    have t6 : St w0 (A * lwA ev' r.en.ws * lwL l * pt k (.cells emark.toArray 25 (0, 0)) * lenA 25 5 (.slice (some ⟨g, 0, none⟩) r.co.es.length cap) r.co.es.length 1 (eflat l) emark * rpt b r ev' (.slice (some ⟨g, 0, none⟩) r.co.es.length cap) * rpt d r ev' (.slice (some ⟨g, 0, none⟩) r.co.es.length cap)) w8 := by simpa [rpt, PR.cs] using t6
    refine rv_cellA rfl t6.row_cells rfl ?_
    simp -implicitDefEqProofs
    refine ⟨ev', .slice (some ⟨g, 0, none⟩) r.co.es.length cap, rfl, l, hl, ?_⟩
    refine t6.cut (pt k (.cells emark.toArray 25 (0, 0)) * rpt b r ev' (.slice (some ⟨g, 0, none⟩) r.co.es.length cap) * rpt d r ev' (.slice (some ⟨g, 0, none⟩) r.co.es.length cap)) ?_
    simp only [leA, lwL, hll]
    ac_rfl
set_option maxHeartbeats 1000000 in
theorem kept_spec (r : PR) (ev cv ev' cv' : Value) (l : List (PE × Value)) (wvs : List Value) (w0 w : World) (A : Asn) (hr : r.ok) (hl : l.map (·.1) = r.co.es) (h1 : WR w0 A ev r.en.ws) (h2 : CV w0 A cv wvs r.co.es) (s : St w0 (A * lwA ev' r.en.ws * leA cv' l) w) :
    CallW Try.prog 9 [.agg (r.cs ev' cv').toArray, .agg (r.cs ev cv).toArray] (fun x w' => x = .bool true ∧ St w0 (A * lwA ev' r.en.ws * leA cv' l) w') w := by
  have hwr := h1
  have hcv := h2
  have hlen := hr.co.len
  have hll : l.length = r.co.es.length := by rw [← hl]; simp
  obtain ⟨ea, en, rfl⟩ := h1.val
  obtain ⟨ca, cn, rfl⟩ := h2.row.val
  obtain ⟨g, cap, rfl, hcap, _, _⟩ := lopen (s.to (B := A * lwA ev' r.en.ws * lwL l * lenA 25 5 cv' l.length 1 (eflat l) emark) (by simp only [leA, lwL]; ac_rfl))
  obtain ⟨ge, ce, rfl, _, _, _⟩ := lopen (s.to (B := A * leA (.slice (some ⟨g, 0, none⟩) l.length cap) l * lwA ev' r.en.ws) (by ac_rfl))
  refine callW_of_lift l9_ok (by simp [l9]) ?_
  simp -implicitDefEqProofs [l9, Instr.fill, Value.cells]
  refine eff_box s fun b w1 s1 => ?_
  simp -implicitDefEqProofs
  refine eff_box s1 fun d w2 s2 => ?_
  simp -implicitDefEqProofs [Instr.fill, Value.cells]
  obtain ⟨EV, hEV⟩ : ∃ EV, (Value.slice (some ⟨ge, 0, none⟩) r.en.ws.length ce) = EV := ⟨_, rfl⟩
  obtain ⟨CV', hCV⟩ : ∃ CV', (Value.slice (some ⟨g, 0, none⟩) l.length cap) = CV' := ⟨_, rfl⟩
  have s2 : St w0 (A * lwA (.slice (some ⟨ge, 0, none⟩) r.en.ws.length ce) r.en.ws * leA (.slice (some ⟨g, 0, none⟩) l.length cap) l * rpt b r (.slice (some ⟨ge, 0, none⟩) r.en.ws.length ce) (.slice (some ⟨g, 0, none⟩) l.length cap) * rpt d r (.slice ea r.en.ws.length en) (.slice ca r.co.es.length cn)) w2 := s2
  obtain ⟨D, hD⟩ : ∃ D, A * lwA (.slice (some ⟨ge, 0, none⟩) r.en.ws.length ce) r.en.ws * leA (.slice (some ⟨g, 0, none⟩) l.length cap) l * rpt b r (.slice (some ⟨ge, 0, none⟩) r.en.ws.length ce) (.slice (some ⟨g, 0, none⟩) l.length cap) * rpt d r (.slice ea r.en.ws.length en) (.slice ca r.co.es.length cn) = D := ⟨_, rfl⟩
  rw [hD] at s2
  have fb : ∀ {w : World}, St w0 D w → ∀ j u, (r.cs (.slice (some ⟨ge, 0, none⟩) r.en.ws.length ce) (.slice (some ⟨g, 0, none⟩) l.length cap))[j]? = some u → w.cell? ⟨b, j, none⟩ = some u := fun {w} h => rpt_at (Z := A * lwA (.slice (some ⟨ge, 0, none⟩) r.en.ws.length ce) r.en.ws * leA (.slice (some ⟨g, 0, none⟩) l.length cap) l * rpt d r (.slice ea r.en.ws.length en) (.slice ca r.co.es.length cn)) h (by rw [← hD]; ac_rfl)
  have fd : ∀ {w : World}, St w0 D w → ∀ j u, (r.cs (.slice ea r.en.ws.length en) (.slice ca r.co.es.length cn))[j]? = some u → w.cell? ⟨d, j, none⟩ = some u := fun {w} h => rpt_at h hD.symm
  have hDA : ∀ w, St w0 D w → St w0 A w := fun w h => by rw [← hD] at h; exact h.drop.drop.drop.drop
  have out : ∀ {w : World}, St w0 D w → St w0 (A * lwA (.slice (some ⟨ge, 0, none⟩) r.en.ws.length ce) r.en.ws * leA (.slice (some ⟨g, 0, none⟩) l.length cap) l) w := fun h => by rw [← hD] at h; exact h.drop.drop
  have hwl : WR w0 D (.slice (some ⟨ge, 0, none⟩) r.en.ws.length ce) r.en.ws := len_in (B := A * leA (.slice (some ⟨g, 0, none⟩) l.length cap) l * rpt b r (.slice (some ⟨ge, 0, none⟩) r.en.ws.length ce) (.slice (some ⟨g, 0, none⟩) l.length cap) * rpt d r (.slice ea r.en.ws.length en) (.slice ca r.co.es.length cn)) s2 (by rw [← hD]; simp only [lwA]; ac_rfl)
  have hcl : CV w0 D (.slice (some ⟨g, 0, none⟩) l.length cap) (l.map (·.2)) r.co.es := by
    have := le_seen (A := A * lwA (.slice (some ⟨ge, 0, none⟩) r.en.ws.length ce) r.en.ws * rpt b r (.slice (some ⟨ge, 0, none⟩) r.en.ws.length ce) (.slice (some ⟨g, 0, none⟩) l.length cap) * rpt d r (.slice ea r.en.ws.length en) (.slice ca r.co.es.length cn)) (cv := .slice (some ⟨g, 0, none⟩) l.length cap) (l := l) (s2.to (by rw [← hD]; ac_rfl))
    rw [hl] at this
    exact this.mono fun w s => s.to (by rw [← hD]; ac_rfl)
  refine eff_ldcs (vs := r.cs (.slice (some ⟨ge, 0, none⟩) r.en.ws.length ce) (.slice (some ⟨g, 0, none⟩) l.length cap)) (fun j u hu => by rw [Nat.zero_add]; exact fb s2 _ _ hu) rfl ?_
  simp -implicitDefEqProofs
  refine eff_ldcs (vs := r.cs (.slice ea r.en.ws.length en) (.slice ca r.co.es.length cn)) (fun j u hu => by rw [Nat.zero_add]; exact fd s2 _ _ hu) rfl ?_
  simp -implicitDefEqProofs
  refine eff_call ((lrecord_spec r _ _ _ _ _ wvs w0 w2 D hr hwl (hwr.mono hDA) hcl (hcv.mono hDA) s2).mono ?_)
  rintro _ w3 ⟨rfl, s3⟩
  simp -implicitDefEqProofs
  refine eff_ldcs (vs := r.en.cs (.slice (some ⟨ge, 0, none⟩) r.en.ws.length ce)) (fun j u hu => fb s3 _ _ (pr_entry hu)) rfl ?_
  simp -implicitDefEqProofs
  refine eff_call ((mark_spec r.en _ w0 w3 (A * leA (.slice (some ⟨g, 0, none⟩) l.length cap) l * rpt b r (.slice (some ⟨ge, 0, none⟩) r.en.ws.length ce) (.slice (some ⟨g, 0, none⟩) l.length cap) * rpt d r (.slice ea r.en.ws.length en) (.slice ca r.co.es.length cn)) hr.en.len (s3.to (by rw [← hD]; ac_rfl))).mono ?_)
  rintro _ w4 ⟨rfl, s4⟩
  have s4 : St w0 D w4 := s4.to (by rw [← hD]; ac_rfl)
  simp -implicitDefEqProofs
  refine loopI (fun env w' => ∃ (i : Nat), env = [.agg (r.cs (.slice (some ⟨ge, 0, none⟩) r.en.ws.length ce) (.slice (some ⟨g, 0, none⟩) l.length cap)).toArray, .agg (r.cs (.slice ea r.en.ws.length en) (.slice ca r.co.es.length cn)).toArray, .pointer (some ⟨b, 0, none⟩), .pointer (some ⟨d, 0, none⟩), .bool false, .int .i64 i, undef] ∧ i ≤ l.length ∧ St w0 D w')
    (fun env _ => l.length - slotN env 5) ⟨0, rfl, by omega, s4⟩ ?_
  rintro LQ env w' ⟨i, rfl, hi, t1⟩ hN hE hR
  have cell : ∀ {w : World}, St w0 D w → ∀ j u, (eflat l ++ emark)[j]? = some u → w.cell? ⟨g, j, none⟩ = some u := fun {w} h j u hu => by
    obtain ⟨g', cap', hv, _, _, s4⟩ := lopen (h.to (B := A * lwA (.slice (some ⟨ge, 0, none⟩) r.en.ws.length ce) r.en.ws * rpt b r (.slice (some ⟨ge, 0, none⟩) r.en.ws.length ce) (.slice (some ⟨g, 0, none⟩) l.length cap) * rpt d r (.slice ea r.en.ws.length en) (.slice ca r.co.es.length cn) * lwL l * lenA 25 5 (.slice (some ⟨g, 0, none⟩) l.length cap) l.length 1 (eflat l) emark) (by rw [← hD]; simp only [leA, lwL]; ac_rfl))
    cases hv
    obtain ⟨g2, _, hv, _, hcell⟩ := s4.own_at (by omega)
    cases hv
    exact hcell j u hu
  simp -implicitDefEqProofs
  refine eff_ldc (v := .slice (some ⟨g, 0, none⟩) l.length cap) (fb t1 22 _ rfl) ?_
  simp -implicitDefEqProofs
  refine cndI (fun h3 => ?_) (fun h3 => ?_)
  · simp at h3
    simp -implicitDefEqProofs
    refine eff_ldc (v := .slice (some ⟨g, 0, none⟩) l.length cap) (fb t1 22 _ rfl) ?_
    simp -implicitDefEqProofs [h3]
    have hle : l[i].1.ws.length ≤ 1048576 := (hr.co.each _ (by rw [← hl]; exact List.mem_map_of_mem (List.getElem_mem h3))).len
    refine eff_ldcs (vs := l[i].1.cs l[i].2) (fun j u hu => by
      have hj : j < 5 := (List.getElem?_eq_some_iff.1 hu).1
      have h2 := eflat_at h3 j u hu
      have h5 := cell t1 (i * 5 + j) u (by
        have := (List.getElem?_eq_some_iff.1 h2).1
        rw [List.getElem?_append_left this]; exact h2)
      simpa using h5) rfl ?_
    simp -implicitDefEqProofs
    obtain ⟨R, hR2⟩ := allA_at (fun x : PE × Value => lwA x.2 x.1.ws) l i h3
    have t2 : St w0 (A * lwA (.slice (some ⟨ge, 0, none⟩) r.en.ws.length ce) r.en.ws * rpt b r (.slice (some ⟨ge, 0, none⟩) r.en.ws.length ce) (.slice (some ⟨g, 0, none⟩) l.length cap) * rpt d r (.slice ea r.en.ws.length en) (.slice ca r.co.es.length cn) * lenA 25 5 (.slice (some ⟨g, 0, none⟩) l.length cap) l.length 1 (eflat l) emark * R * lwA l[i].2 l[i].1.ws) w' := t1.to (by rw [← hD]; simp only [leA, hR2]; ac_rfl)
    refine eff_call ((mark_spec l[i].1 _ w0 w' _ hle t2).mono ?_)
    rintro _ w5 ⟨rfl, t3⟩
    simp -implicitDefEqProofs
    try simp (disch := omega) only [wrap64]
    exact hN _ _ ⟨i + 1, by simp, by omega, t3.to (by rw [← hD]; simp only [leA, hR2]; ac_rfl)⟩ (by simp [slotN]; omega)
  · simp at h3
    simp -implicitDefEqProofs
    refine hE _ _ _ ?_
    simp -implicitDefEqProofs
    refine eff_ldc (v := .slice (some ⟨g, 0, none⟩) l.length cap) (fb t1 22 _ rfl) ?_
    simp -implicitDefEqProofs
    refine eff_ldc (v := .slice (some ⟨g, 0, none⟩) l.length cap) (fb t1 22 _ rfl) ?_
    have x1 : IntKind.i64.wrap ((l.length : Int) + 1) = l.length + 1 := wrap64 (by omega) (by omega)
    have x2 : (l.length : Int) + 1 ≤ cap := by omega
    have x3 : (0 : Int) ≤ (l.length : Int) + 1 := by omega
    have x4 : ((l.length : Int) + 1).toNat = l.length + 1 := by omega
    have x5 : (l.length : Int) < (l.length : Int) + 1 := by omega
    simp -implicitDefEqProofs [x1, x2, x3, x4, x5, addr0]
    refine eff_ldc (v := .int .i64 (-73)) (by
      have := cell t1 (l.length * 5) (.int .i64 (-73)) (by rw [List.getElem?_append_right (by rw [eflat_len]; exact Nat.le_refl _), eflat_len]; simp [emark])
      simpa using this) ?_
    simp -implicitDefEqProofs
    exact out t1
end Go.HL.Sr

namespace Go.HL.Sr
open Go.HL Go.HL.Tl Go.Proofs
set_option maxRecDepth 4000
set_option linter.unusedSimpArgs false
set_option linter.unusedVariables false
attribute [local irreducible] EffW
def PS : PE := ⟨-76, 9, 9, 0, []⟩
def spl (i : Nat) (l : List (PE × Value)) : List (PE × Value) := List.replicate i (PS, .slice none 0 0) ++ l.drop i
theorem spl_len {i : Nat} {l : List (PE × Value)} (h : i ≤ l.length) : (spl i l).length = l.length := by simp [spl]; omega
theorem spl_at {i : Nat} {l : List (PE × Value)} (h : i < l.length) : (spl i l)[i]'(by rw [spl_len (by omega)]; exact h) = l[i] := by
  simp only [spl]
  rw [List.getElem_append_right (by simp)]
  simp
theorem spl_set {i : Nat} {l : List (PE × Value)} (h : i < l.length) : (spl i l).set i (PS, .slice none 0 0) = spl (i + 1) l := by
  simp only [spl]
  rw [List.set_append_right _ _ (by simp)]
  simp only [List.length_replicate, Nat.sub_self]
  rw [List.drop_eq_getElem_cons h, List.set_cons_zero, List.replicate_succ', List.append_assoc]
  rfl
theorem esA_drop {i : Nat} {l : List (PE × Value)} (h : i < l.length) : esA (l.drop i) = esA (l.drop (i + 1)) * own 3 1 l[i].2 l[i].1.ws.length (ints l[i].1.ws) := by
  rw [List.drop_eq_getElem_cons h, sep_comm]; rfl

def h52_0 : HC := (.reg (.chk none (.bin .add) (.cons (.inp 7) (.cons (.cst (.int .i64 1)) .nil)) (.done [(7, (.op (.bin .add) (.cons (.inp 7) (.cons (.cst (.int .i64 1)) .nil))))] none)))
@[simp] theorem h52_0_wp : type_of% (@wpH h52_0 _ h52_0.eq_1) := wpH h52_0.eq_1
def h52_1 : HC := (.reg (.chk none (.build #[(.int .i64 0), (.int .i64 0), (.int .u64 0), (.int .u64 0), (.slice none 0 0)] [(0, 1), (1, 1), (2, 1), (3, 1), (4, 1)] [0]) (.cons (.cst (.int .i64 (-77))) .nil) (.eff (.bsl 25 1 5 #[(.int .i64 0), (.int .i64 0), (.int .u64 0), (.int .u64 0), (.slice none 0 0)] [0]) (.cons (.op (.build #[(.int .i64 0), (.int .i64 0), (.int .u64 0), (.int .u64 0), (.slice none 0 0)] [(0, 1), (1, 1), (2, 1), (3, 1), (4, 1)] [0]) (.cons (.cst (.int .i64 (-77))) .nil)) .nil) (.eff (.app 26 26 25 5 56 (.agg #[(.int .i64 0), (.int .i64 0), (.int .u64 0), (.int .u64 0), (.slice none 0 0)])) (.cons (.inp 6) (.cons (.bv 0) .nil)) (.done [(6, (.bv 1))] none)))))
@[simp] theorem h52_1_wp : type_of% (@wpH h52_1 _ h52_1.eq_1) := wpH h52_1.eq_1
def h52_2 : HC := (.seq (.block 7 h52_1) h52_0)
@[simp] theorem h52_2_wp : type_of% (@wpH h52_2 _ h52_2.eq_1) := wpH h52_2.eq_1
def h52_3 : HC := (.seq (.br (.chk none (.bin .lss) (.cons (.inp 7) (.cons (.cst (.int .i64 20)) .nil)) (.done [] (some (.op (.bin .lss) (.cons (.inp 7) (.cons (.cst (.int .i64 20)) .nil)))))) .skip (.exit 6)) h52_2)
@[simp] theorem h52_3_wp : type_of% (@wpH h52_3 _ h52_3.eq_1) := wpH h52_3.eq_1
def h52_4 : HC := (.loop h52_3)
@[simp] theorem h52_4_wp : type_of% (@wpH h52_4 _ h52_4.eq_1) := wpH h52_4.eq_1
def h52_5 : HC := (.block 6 h52_4)
@[simp] theorem h52_5_wp : type_of% (@wpH h52_5 _ h52_5.eq_1) := wpH h52_5.eq_1
def h52_6 : HC := (.seq (.reg (.done [(7, (.cst (.int .i64 0)))] none)) h52_5)
@[simp] theorem h52_6_wp : type_of% (@wpH h52_6 _ h52_6.eq_1) := wpH h52_6.eq_1
def h52_7 : HC := (.seq (.reg (.chk none (.fld 10) (.cons (.inp 1) .nil) (.eff (.ld false 1) (.cons (.op (.fld 10) (.cons (.inp 1) .nil)) .nil) (.done [(6, (.bv 0))] none)))) h52_6)
@[simp] theorem h52_7_wp : type_of% (@wpH h52_7 _ h52_7.eq_1) := wpH h52_7.eq_1
def h52_8 : HC := (.reg (.chk none (.bin .add) (.cons (.inp 2) (.cons (.cst (.int .i64 1)) .nil)) (.done [(2, (.op (.bin .add) (.cons (.inp 2) (.cons (.cst (.int .i64 1)) .nil))))] none)))
@[simp] theorem h52_8_wp : type_of% (@wpH h52_8 _ h52_8.eq_1) := wpH h52_8.eq_1
def h52_9 : HC := (.reg (.chk none (.fld 10) (.cons (.inp 1) .nil) (.eff (.ld false 1) (.cons (.op (.fld 10) (.cons (.inp 1) .nil)) .nil) (.chk none (.build #[(.int .i64 0), (.int .i64 0), (.int .u64 0), (.int .u64 0), (.slice none 0 0)] [(0, 1), (1, 1), (2, 1), (3, 1), (4, 1)] [0, 1, 2]) (.cons (.cst (.int .i64 (-76))) (.cons (.cst (.int .i64 9)) (.cons (.cst (.int .u64 9)) .nil))) (.chk none (.idxL 5) (.cons (.bv 0) (.cons (.inp 2) .nil)) (.eff (.st 5) (.cons (.op (.idxL 5) (.cons (.bv 0) (.cons (.inp 2) .nil))) (.cons (.op (.build #[(.int .i64 0), (.int .i64 0), (.int .u64 0), (.int .u64 0), (.slice none 0 0)] [(0, 1), (1, 1), (2, 1), (3, 1), (4, 1)] [0, 1, 2]) (.cons (.cst (.int .i64 (-76))) (.cons (.cst (.int .i64 9)) (.cons (.cst (.int .u64 9)) .nil)))) .nil)) (.done [] none)))))))
@[simp] theorem h52_9_wp : type_of% (@wpH h52_9 _ h52_9.eq_1) := wpH h52_9.eq_1
def h52_10 : HC := (.reg (.chk none (.bin .add) (.cons (.inp 5) (.cons (.cst (.int .i64 1)) .nil)) (.done [(5, (.op (.bin .add) (.cons (.inp 5) (.cons (.cst (.int .i64 1)) .nil))))] none)))
@[simp] theorem h52_10_wp : type_of% (@wpH h52_10 _ h52_10.eq_1) := wpH h52_10.eq_1
def h52_11 : HC := (.reg (.eff (.bsl 3 1 1 #[(.int .i64 0)] [0]) (.cons (.cst (.int .i64 (-74))) .nil) (.eff (.app 23 23 3 1 8 (.int .i64 0)) (.cons (.inp 4) (.cons (.bv 0) .nil)) (.done [(4, (.bv 1))] none))))
@[simp] theorem h52_11_wp : type_of% (@wpH h52_11 _ h52_11.eq_1) := wpH h52_11.eq_1
def h52_12 : HC := (.seq (.block 5 h52_11) h52_10)
@[simp] theorem h52_12_wp : type_of% (@wpH h52_12 _ h52_12.eq_1) := wpH h52_12.eq_1
def h52_13 : HC := (.seq (.br (.chk none (.bin .lss) (.cons (.inp 5) (.cons (.cst (.int .i64 20)) .nil)) (.done [] (some (.op (.bin .lss) (.cons (.inp 5) (.cons (.cst (.int .i64 20)) .nil)))))) .skip (.exit 4)) h52_12)
@[simp] theorem h52_13_wp : type_of% (@wpH h52_13 _ h52_13.eq_1) := wpH h52_13.eq_1
def h52_14 : HC := (.loop h52_13)
@[simp] theorem h52_14_wp : type_of% (@wpH h52_14 _ h52_14.eq_1) := wpH h52_14.eq_1
def h52_15 : HC := (.seq (.block 4 h52_14) h52_9)
@[simp] theorem h52_15_wp : type_of% (@wpH h52_15 _ h52_15.eq_1) := wpH h52_15.eq_1
def h52_16 : HC := (.seq (.reg (.done [(5, (.cst (.int .i64 0)))] none)) h52_15)
@[simp] theorem h52_16_wp : type_of% (@wpH h52_16 _ h52_16.eq_1) := wpH h52_16.eq_1
def h52_17 : HC := (.seq (.reg (.chk none (.fld 10) (.cons (.inp 1) .nil) (.eff (.ld false 1) (.cons (.op (.fld 10) (.cons (.inp 1) .nil)) .nil) (.chk none (.idxL 5) (.cons (.bv 0) (.cons (.inp 2) .nil)) (.chk none (.fld 4) (.cons (.op (.idxL 5) (.cons (.bv 0) (.cons (.inp 2) .nil))) .nil) (.eff (.ld false 1) (.cons (.op (.fld 4) (.cons (.op (.idxL 5) (.cons (.bv 0) (.cons (.inp 2) .nil))) .nil)) .nil) (.done [(4, (.bv 1))] none))))))) h52_16)
@[simp] theorem h52_17_wp : type_of% (@wpH h52_17 _ h52_17.eq_1) := wpH h52_17.eq_1
def h52_18 : HC := (.reg (.chk none (.bin .add) (.cons (.inp 3) (.cons (.cst (.int .i64 1)) .nil)) (.done [(3, (.op (.bin .add) (.cons (.inp 3) (.cons (.cst (.int .i64 1)) .nil))))] none)))
@[simp] theorem h52_18_wp : type_of% (@wpH h52_18 _ h52_18.eq_1) := wpH h52_18.eq_1
def h52_19 : HC := (.reg (.chk none (.fld 10) (.cons (.inp 1) .nil) (.eff (.ld false 1) (.cons (.op (.fld 10) (.cons (.inp 1) .nil)) .nil) (.chk none (.idxL 5) (.cons (.bv 0) (.cons (.inp 2) .nil)) (.chk none (.fld 4) (.cons (.op (.idxL 5) (.cons (.bv 0) (.cons (.inp 2) .nil))) .nil) (.eff (.ld false 1) (.cons (.op (.fld 4) (.cons (.op (.idxL 5) (.cons (.bv 0) (.cons (.inp 2) .nil))) .nil)) .nil) (.chk none (.idxL 1) (.cons (.bv 1) (.cons (.inp 3) .nil)) (.eff (.st 1) (.cons (.op (.idxL 1) (.cons (.bv 1) (.cons (.inp 3) .nil))) (.cons (.cst (.int .i64 (-75))) .nil)) (.done [] none)))))))))
@[simp] theorem h52_19_wp : type_of% (@wpH h52_19 _ h52_19.eq_1) := wpH h52_19.eq_1
def h52_20 : HC := (.seq (.block 3 h52_19) h52_18)
@[simp] theorem h52_20_wp : type_of% (@wpH h52_20 _ h52_20.eq_1) := wpH h52_20.eq_1
def h52_21 : HC := (.seq (.br (.chk none (.fld 10) (.cons (.inp 1) .nil) (.eff (.ld false 1) (.cons (.op (.fld 10) (.cons (.inp 1) .nil)) .nil) (.chk none (.idxL 5) (.cons (.bv 0) (.cons (.inp 2) .nil)) (.chk none (.fld 4) (.cons (.op (.idxL 5) (.cons (.bv 0) (.cons (.inp 2) .nil))) .nil) (.eff (.ld false 1) (.cons (.op (.fld 4) (.cons (.op (.idxL 5) (.cons (.bv 0) (.cons (.inp 2) .nil))) .nil)) .nil) (.chk none .lenL (.cons (.bv 1) .nil) (.chk none (.bin .lss) (.cons (.inp 3) (.cons (.op .lenL (.cons (.bv 1) .nil)) .nil)) (.done [] (some (.op (.bin .lss) (.cons (.inp 3) (.cons (.op .lenL (.cons (.bv 1) .nil)) .nil)))))))))))) .skip (.exit 2)) h52_20)
@[simp] theorem h52_21_wp : type_of% (@wpH h52_21 _ h52_21.eq_1) := wpH h52_21.eq_1
def h52_22 : HC := (.loop h52_21)
@[simp] theorem h52_22_wp : type_of% (@wpH h52_22 _ h52_22.eq_1) := wpH h52_22.eq_1
def h52_23 : HC := (.seq (.block 2 h52_22) h52_17)
@[simp] theorem h52_23_wp : type_of% (@wpH h52_23 _ h52_23.eq_1) := wpH h52_23.eq_1
def h52_24 : HC := (.seq (.reg (.done [(3, (.cst (.int .i64 0)))] none)) h52_23)
@[simp] theorem h52_24_wp : type_of% (@wpH h52_24 _ h52_24.eq_1) := wpH h52_24.eq_1
def h52_25 : HC := (.seq (.block 1 h52_24) h52_8)
@[simp] theorem h52_25_wp : type_of% (@wpH h52_25 _ h52_25.eq_1) := wpH h52_25.eq_1
def h52_26 : HC := (.seq (.br (.chk none (.fld 10) (.cons (.inp 1) .nil) (.eff (.ld false 1) (.cons (.op (.fld 10) (.cons (.inp 1) .nil)) .nil) (.chk none .lenL (.cons (.bv 0) .nil) (.chk none (.bin .lss) (.cons (.inp 2) (.cons (.op .lenL (.cons (.bv 0) .nil)) .nil)) (.done [] (some (.op (.bin .lss) (.cons (.inp 2) (.cons (.op .lenL (.cons (.bv 0) .nil)) .nil))))))))) .skip (.exit 0)) h52_25)
@[simp] theorem h52_26_wp : type_of% (@wpH h52_26 _ h52_26.eq_1) := wpH h52_26.eq_1
def h52_27 : HC := (.loop h52_26)
@[simp] theorem h52_27_wp : type_of% (@wpH h52_27 _ h52_27.eq_1) := wpH h52_27.eq_1
def h52_28 : HC := (.seq (.block 0 h52_27) h52_7)
@[simp] theorem h52_28_wp : type_of% (@wpH h52_28 _ h52_28.eq_1) := wpH h52_28.eq_1
def h52_29 : HC := (.seq (.reg (.done [(2, (.cst (.int .i64 0)))] none)) h52_28)
@[simp] theorem h52_29_wp : type_of% (@wpH h52_29 _ h52_29.eq_1) := wpH h52_29.eq_1
def l52 : Lifted := ⟨[0, 1, 2, 3, 4, 5, 6, 7], 62, [], (.seq (.reg (.eff (.box 28) (.cons (.inp 0) .nil) (.done [(1, (.bv 0))] none))) h52_29)⟩
theorem l52_ok : liftFn T0 52 400 = some l52 := by kernel_rfl

def h15_0 : HC := (.reg (.chk none (.fld 12) (.cons (.inp 1) .nil) (.eff (.ld true 11) (.cons (.op (.fld 12) (.cons (.inp 1) .nil)) .nil) (.eff (.call 52) (.cons (.bv 0) .nil) (.done [] none)))))
@[simp] theorem h15_0_wp : type_of% (@wpH h15_0 _ h15_0.eq_1) := wpH h15_0.eq_1
def h15_1 : HC := (.reg (.chk none (.bin .add) (.cons (.inp 2) (.cons (.cst (.int .i64 1)) .nil)) (.done [(2, (.op (.bin .add) (.cons (.inp 2) (.cons (.cst (.int .i64 1)) .nil))))] none)))
@[simp] theorem h15_1_wp : type_of% (@wpH h15_1 _ h15_1.eq_1) := wpH h15_1.eq_1
def h15_2 : HC := (.reg (.chk none (.fld 7) (.cons (.inp 1) .nil) (.chk none (.fld 4) (.cons (.op (.fld 7) (.cons (.inp 1) .nil)) .nil) (.eff (.ld false 1) (.cons (.op (.fld 4) (.cons (.op (.fld 7) (.cons (.inp 1) .nil)) .nil)) .nil) (.chk none (.idxL 1) (.cons (.bv 0) (.cons (.inp 2) .nil)) (.eff (.st 1) (.cons (.op (.idxL 1) (.cons (.bv 0) (.cons (.inp 2) .nil))) (.cons (.cst (.int .i64 (-78))) .nil)) (.done [] none)))))))
@[simp] theorem h15_2_wp : type_of% (@wpH h15_2 _ h15_2.eq_1) := wpH h15_2.eq_1
def h15_3 : HC := (.seq (.block 1 h15_2) h15_1)
@[simp] theorem h15_3_wp : type_of% (@wpH h15_3 _ h15_3.eq_1) := wpH h15_3.eq_1
def h15_4 : HC := (.seq (.br (.chk none (.fld 7) (.cons (.inp 1) .nil) (.chk none (.fld 4) (.cons (.op (.fld 7) (.cons (.inp 1) .nil)) .nil) (.eff (.ld false 1) (.cons (.op (.fld 4) (.cons (.op (.fld 7) (.cons (.inp 1) .nil)) .nil)) .nil) (.chk none .lenL (.cons (.bv 0) .nil) (.chk none (.bin .lss) (.cons (.inp 2) (.cons (.op .lenL (.cons (.bv 0) .nil)) .nil)) (.done [] (some (.op (.bin .lss) (.cons (.inp 2) (.cons (.op .lenL (.cons (.bv 0) .nil)) .nil)))))))))) .skip (.exit 0)) h15_3)
@[simp] theorem h15_4_wp : type_of% (@wpH h15_4 _ h15_4.eq_1) := wpH h15_4.eq_1
def h15_5 : HC := (.loop h15_4)
@[simp] theorem h15_5_wp : type_of% (@wpH h15_5 _ h15_5.eq_1) := wpH h15_5.eq_1
def h15_6 : HC := (.seq (.block 0 h15_5) h15_0)
@[simp] theorem h15_6_wp : type_of% (@wpH h15_6 _ h15_6.eq_1) := wpH h15_6.eq_1
def h15_7 : HC := (.seq (.reg (.done [(2, (.cst (.int .i64 0)))] none)) h15_6)
@[simp] theorem h15_7_wp : type_of% (@wpH h15_7 _ h15_7.eq_1) := wpH h15_7.eq_1
def l15 : Lifted := ⟨[0, 1, 2], 19, [], (.seq (.reg (.eff (.box 30) (.cons (.inp 0) .nil) (.done [(1, (.bv 0))] none))) h15_7)⟩
theorem l15_ok : liftFn T0 15 400 = some l15 := by kernel_rfl
set_option maxHeartbeats 1000000 in
theorem spoil_spec (c : PC) (cv : Value) (l : List (PE × Value)) (w0 w : World) (A : Asn) (hl : l.map (·.1) = c.es) (hc : c.es.length ≤ 1048576) (he : ∀ e ∈ c.es, e.ws.length ≤ 1048576) (s : St w0 (A * esO cv l) w) :
    CallW Try.prog 52 [.agg (c.cs cv).toArray] (fun x w' => St w0 A w') w := by
  have hll : l.length = c.es.length := by rw [← hl]; simp
  have hle : ∀ x ∈ l, x.1.ws.length ≤ 1048576 := fun x hx => he _ (by rw [← hl]; exact List.mem_map_of_mem hx)
  obtain ⟨ca, cn, rfl, _, _⟩ := (s.to (B := A * esA l * own 25 5 cv l.length (eflat l)) (by simp only [esO]; ac_rfl)).own_val
  refine callW_of_lift l52_ok (by simp [l52]) ?_
  simp -implicitDefEqProofs [l52, Instr.fill, Value.cells]
  refine eff_box s fun b w1 s1 => ?_
  simp -implicitDefEqProofs [Instr.fill, Value.cells]
  obtain ⟨D, hD⟩ : ∃ D, A * pt b (.cells (c.cs (.slice ca l.length cn)).toArray 28 (0, 0)) = D := ⟨_, rfl⟩
  have hDA : ∀ w, St w0 D w → St w0 A w := fun w h => by rw [← hD] at h; exact h.drop
  have fb : ∀ {w : World} {Z : Asn}, St w0 (D * Z) w → w.cell? ⟨b, 10, none⟩ = some (.slice ca l.length cn) := fun h => by
    have h := h.drop
    rw [← hD] at h
    have := h.row_cells 10 _ rfl; simpa using this
  have s1 : St w0 (D * esA (l.drop 0) * own 25 5 (.slice ca l.length cn) l.length (eflat (spl 0 l))) w1 := s1.to (by rw [← hD]; simp only [esO, cells_agg, spl, List.drop_zero, List.replicate_zero, List.nil_append]; ac_rfl)
  refine loopI (fun env w' => ∃ (i : Nat) (o3 o4 o5 : Value), env = [.agg (c.cs (.slice ca l.length cn)).toArray, .pointer (some ⟨b, 0, none⟩), .int .i64 i, o3, o4, o5, undef, undef] ∧ i ≤ l.length ∧ St w0 (D * esA (l.drop i) * own 25 5 (.slice ca l.length cn) l.length (eflat (spl i l))) w')
    (fun env _ => l.length - slotN env 2) ⟨0, _, _, _, rfl, by omega, s1⟩ ?_
  rintro LQ env w' ⟨i, o3, o4, o5, rfl, hi, t1⟩ hN hE hR
  simp -implicitDefEqProofs
  refine eff_ldc (v := .slice ca l.length cn) (fb (t1.to (sep_assoc _ _ _))) ?_
  simp -implicitDefEqProofs
  refine cndI (fun h3 => ?_) (fun h3 => ?_)
  · simp at h3
    obtain ⟨x, hx⟩ : ∃ x, l[i] = x := ⟨_, rfl⟩
    have hxl := hle x (by rw [← hx]; exact List.getElem_mem h3)
    rw [esA_drop h3, hx] at t1
    obtain ⟨g, cap, hv, hcap, _⟩ := t1.own_at (by omega)
    cases hv
    obtain ⟨E, hE⟩ : ∃ E, D * esA (l.drop (i + 1)) = E := ⟨_, rfl⟩
    have t2 : St w0 (E * own 25 5 (.slice (some ⟨g, 0, none⟩) l.length cn) l.length (eflat (spl i l)) * own 3 1 x.2 x.1.ws.length (ints x.1.ws)) w' := t1.to (by rw [← hE]; ac_rfl)
    have fE : ∀ {w : World} {Z : Asn}, St w0 (E * own 25 5 (.slice (some ⟨g, 0, none⟩) l.length cn) l.length (eflat (spl i l)) * Z) w → w.cell? ⟨b, 10, none⟩ = some (.slice (some ⟨g, 0, none⟩) l.length cn) ∧ w.cell? ⟨g, i * 5 + 4, none⟩ = some x.2 := fun {w Z} h => by
      refine ⟨fb (Z := esA (l.drop (i + 1)) * own 25 5 (.slice (some ⟨g, 0, none⟩) l.length cn) l.length (eflat (spl i l)) * Z) (h.to (by rw [← hE]; ac_rfl)), ?_⟩
      obtain ⟨g2, _, hv, _, hcell⟩ := h.drop.own_at (by omega)
      cases hv
      refine hcell _ _ ?_
      have hs : i < (spl i l).length := by rw [spl_len (by omega)]; exact h3
      have := eflat_at hs 4 x.2 (by rw [spl_at h3, hx]; rfl)
      exact this
    simp -implicitDefEqProofs
    refine loopI (fun env w' => ∃ (k : Nat) (xs : List Value), env = [.agg (c.cs (.slice (some ⟨g, 0, none⟩) l.length cn)).toArray, .pointer (some ⟨b, 0, none⟩), .int .i64 i, .int .i64 k, o4, o5, undef, undef] ∧ k ≤ x.1.ws.length ∧ xs.length = x.1.ws.length ∧ St w0 (E * own 25 5 (.slice (some ⟨g, 0, none⟩) l.length cn) l.length (eflat (spl i l)) * own 3 1 x.2 x.1.ws.length xs) w')
      (fun env _ => x.1.ws.length - slotN env 3) ⟨0, _, rfl, by omega, by simp, t2⟩ ?_
    rintro LQ2 env w2 ⟨k, xs, rfl, hk, hxs, t3⟩ hN2 hE2 hR2
    obtain ⟨wa, wc, hwv, _, _⟩ := t3.own_val
    simp -implicitDefEqProofs
    refine eff_ldc (v := .slice (some ⟨g, 0, none⟩) l.length cn) (fE t3).1 ?_
    simp -implicitDefEqProofs [h3]
    refine eff_ldc (v := .slice wa x.1.ws.length wc) (by rw [← hwv]; exact (fE t3).2) ?_
    simp -implicitDefEqProofs
    refine cndI (fun h4 => ?_) (fun h4 => ?_)
    · simp at h4
      rw [hwv] at t3
      obtain ⟨g3, c3, hv, _⟩ := t3.own_at (by omega)
      cases hv
      simp -implicitDefEqProofs
      refine eff_ldc (v := .slice (some ⟨g, 0, none⟩) l.length cn) (fE t3).1 ?_
      simp -implicitDefEqProofs [h3]
      refine eff_ldc (v := .slice (some ⟨g3, 0, none⟩) x.1.ws.length wc) (by rw [← hwv]; exact (fE t3).2) ?_
      simp -implicitDefEqProofs [h4]
      refine eff_stC (j := k) (u := .int .i64 (-75)) t3 (by omega) rfl fun w3 t4 => ?_
      simp -implicitDefEqProofs
      try simp (disch := omega) only [wrap64]
      exact hN2 _ _ ⟨k + 1, xs.set k (.int .i64 (-75)), by simp, by omega, by simpa using hxs, by rw [hwv]; exact t4⟩ (by simp [slotN]; omega)
    simp at h4
    simp -implicitDefEqProofs
    refine hE2 _ _ _ ?_
    simp -implicitDefEqProofs
    refine eff_ldc (v := .slice (some ⟨g, 0, none⟩) l.length cn) (fE t3).1 ?_
    simp -implicitDefEqProofs [h3]
    refine eff_ldc (v := .slice wa x.1.ws.length wc) (by rw [← hwv]; exact (fE t3).2) ?_
    simp -implicitDefEqProofs
    refine loopI (fun env w' => ∃ (j : Nat) (v : Value) (ys : List Value), env = [.agg (c.cs (.slice (some ⟨g, 0, none⟩) l.length cn)).toArray, .pointer (some ⟨b, 0, none⟩), .int .i64 i, .int .i64 k, v, .int .i64 j, undef, undef] ∧ j ≤ 20 ∧ St w0 (E * own 25 5 (.slice (some ⟨g, 0, none⟩) l.length cn) l.length (eflat (spl i l)) * own 3 1 v (x.1.ws.length + j) ys) w')
      (fun env _ => 20 - slotN env 5) ⟨0, _, xs, rfl, by omega, by rw [hwv] at t3; exact t3⟩ ?_
    rintro LQ3 env w3 ⟨j, v, ys, rfl, hj, t4⟩ hN3 hE3 hR3
    simp -implicitDefEqProofs
    refine cndI (fun h5 => ?_) (fun h5 => ?_)
    · simp at h5
      simp -implicitDefEqProofs
      refine eff_bsl1 t4 rfl fun d w5 t5 => ?_
      simp -implicitDefEqProofs
      refine eff_app (m := 1) (news := [.int .i64 (-74)]) t5.swap rfl (by simpa using t5.cells_look) (by simp [Value.oneCell']) (by decide) rfl (by unfold maxLen; omega) (by omega) fun v6 w6 t6 => ?_
      simp -implicitDefEqProofs
      try simp (disch := omega) only [wrap64]
      exact hN3 _ _ ⟨j + 1, v6, _, by simp, by omega, t6.swap.drop⟩ (by simp [slotN]; omega)
    simp at h5
    simp -implicitDefEqProofs
    refine hE3 _ _ _ ?_
    simp -implicitDefEqProofs
    refine eff_ldc (v := .slice (some ⟨g, 0, none⟩) l.length cn) (fE t4).1 ?_
    simp -implicitDefEqProofs [h3, Instr.fill, Value.cells]
    refine eff_stR (j := i * 5) (m := 5) (vs := PS.cs (.slice none 0 0)) t4.drop rfl rfl (pe_one _ _ rfl) (by rw [eflat_len, spl_len (by omega)]; omega) fun w7 t7 => ?_
    have ef : (eflat (spl i l)).take (i * 5) ++ PS.cs (.slice none 0 0) ++ (eflat (spl i l)).drop (i * 5 + 5) = eflat (spl (i + 1) l) := by
      rw [← spl_set h3]
      exact flat_set (fun y : PE × Value => y.1.cs y.2) 5 (fun _ => rfl) (PS, .slice none 0 0) (spl i l) i (by rw [spl_len (by omega)]; exact h3)
    rw [ef] at t7
    simp -implicitDefEqProofs
    try simp (disch := omega) only [wrap64]
    exact hN _ _ ⟨i + 1, _, _, _, by simp; exact ⟨rfl, rfl, rfl⟩, by omega, t7.to (by rw [← hE])⟩ (by simp [slotN]; omega)
  · simp at h3
    simp -implicitDefEqProofs
    refine hE _ _ _ ?_
    simp -implicitDefEqProofs
    refine eff_ldc (v := .slice ca l.length cn) (fb (t1.to (sep_assoc _ _ _))) ?_
    simp -implicitDefEqProofs
    refine loopI (fun env w' => ∃ (j : Nat) (v : Value) (ys : List Value), env = [.agg (c.cs (.slice ca l.length cn)).toArray, .pointer (some ⟨b, 0, none⟩), .int .i64 i, o3, o4, o5, v, .int .i64 j] ∧ j ≤ 20 ∧ St w0 (D * own 25 5 v (l.length + j) ys) w')
      (fun env _ => 20 - slotN env 7) ⟨0, _, _, rfl, by omega, t1.swap.drop⟩ ?_
    rintro LQ3 env w3 ⟨j, v, ys, rfl, hj, t4⟩ hN3 hE3 hR3
    simp -implicitDefEqProofs
    refine cndI (fun h5 => ?_) (fun h5 => ?_)
    · simp at h5
      simp -implicitDefEqProofs [Instr.fill, Value.cells]
      refine eff_bslV (v := .agg (({ PS with acc := -77, item := 0, coins := 0 } : PE).cs (.slice none 0 0)).toArray) t4 rfl fun d w5 t5 => ?_
      simp -implicitDefEqProofs
      refine eff_app (m := 1) (news := ({ PS with acc := -77, item := 0, coins := 0 } : PE).cs (.slice none 0 0)) t5.swap rfl (by simpa using t5.cells_look) (pe_one _ _ rfl) (by decide) rfl (by unfold maxLen; omega) (by omega) fun v6 w6 t6 => ?_
      simp -implicitDefEqProofs
      try simp (disch := omega) only [wrap64]
      exact hN3 _ _ ⟨j + 1, v6, _, by simp, by omega, t6.swap.drop⟩ (by simp [slotN]; omega)
    simp at h5
    simp -implicitDefEqProofs
    refine hE3 _ _ _ ?_
    simp -implicitDefEqProofs
    exact hDA _ t4.drop
set_option maxHeartbeats 1000000 in
theorem spoilRecord_spec (r : PR) (ev cv : Value) (l : List (PE × Value)) (w0 w : World) (A : Asn) (hr : r.ok) (hl : l.map (·.1) = r.co.es) (s : St w0 (A * own 3 1 ev r.en.ws.length (ints r.en.ws) * esO cv l) w) :
    CallW Try.prog 15 [.agg (r.cs ev cv).toArray] (fun x w' => St w0 A w') w := by
  have hle := hr.en.len
  obtain ⟨ea, en, rfl, _, _⟩ := (s.swap).own_val
  refine callW_of_lift l15_ok (by simp [l15]) ?_
  simp -implicitDefEqProofs [l15, Instr.fill, Value.cells]
  refine eff_box s fun b w1 s1 => ?_
  simp -implicitDefEqProofs [Instr.fill, Value.cells]
  obtain ⟨D, hD⟩ : ∃ D, A * esO cv l * rpt b r (.slice ea r.en.ws.length en) cv = D := ⟨_, rfl⟩
  have fb : ∀ {w : World} {Z : Asn}, St w0 (D * Z) w → ∀ j u, (r.cs (.slice ea r.en.ws.length en) cv)[j]? = some u → w.cell? ⟨b, j, none⟩ = some u := fun h => rpt_at h.drop hD.symm
  have s1 : St w0 (D * own 3 1 (.slice ea r.en.ws.length en) r.en.ws.length (ints r.en.ws)) w1 := s1.to (by rw [← hD]; simp only [rpt, cells_agg]; ac_rfl)
  refine loopI (fun env w' => ∃ (k : Nat) (xs : List Value), env = [.agg (r.cs (.slice ea r.en.ws.length en) cv).toArray, .pointer (some ⟨b, 0, none⟩), .int .i64 k] ∧ k ≤ r.en.ws.length ∧ xs.length = r.en.ws.length ∧ St w0 (D * own 3 1 (.slice ea r.en.ws.length en) r.en.ws.length xs) w')
    (fun env _ => r.en.ws.length - slotN env 2) ⟨0, _, rfl, by omega, by simp, s1⟩ ?_
  rintro LQ env w' ⟨k, xs, rfl, hk, hxs, t1⟩ hN hE hR
  simp -implicitDefEqProofs
  refine eff_ldc (v := .slice ea r.en.ws.length en) (fb t1 11 _ rfl) ?_
  simp -implicitDefEqProofs
  refine cndI (fun h4 => ?_) (fun h4 => ?_)
  · simp at h4
    obtain ⟨g3, c3, hv, _⟩ := t1.own_at (by omega)
    cases hv
    simp -implicitDefEqProofs
    refine eff_ldc (v := .slice (some ⟨g3, 0, none⟩) r.en.ws.length en) (fb t1 11 _ rfl) ?_
    simp -implicitDefEqProofs [h4]
    refine eff_stC (j := k) (u := .int .i64 (-78)) t1 (by omega) rfl fun w3 t4 => ?_
    simp -implicitDefEqProofs
    try simp (disch := omega) only [wrap64]
    exact hN _ _ ⟨k + 1, xs.set k (.int .i64 (-78)), by simp, by omega, by simpa using hxs, t4⟩ (by simp [slotN]; omega)
  · simp at h4
    simp -implicitDefEqProofs
    refine hE _ _ _ ?_
    simp -implicitDefEqProofs
    refine eff_ldcs (vs := r.co.cs cv) (fun j u hu => fb t1 _ _ (pr_contract hu)) rfl ?_
    simp -implicitDefEqProofs
    have t2 := t1.drop
    rw [← hD] at t2
    refine eff_call ((spoil_spec r.co cv l w0 w' (A * rpt b r (.slice ea r.en.ws.length en) cv) hl hr.co.len (fun e h => (hr.co.each e h).len) t2.swap).mono fun _ w5 t5 => ?_)
    simp -implicitDefEqProofs
    exact t5.drop
end Go.HL.Sr

namespace Go.HL.Sr
open Go.HL Go.HL.Tl Go.Proofs
set_option maxRecDepth 4000
set_option linter.unusedSimpArgs false
set_option linter.unusedVariables false
attribute [local irreducible] EffW

def h3_0 : HC := (.seq (.reg (.eff (.ld true 24) (.cons (.inp 17) .nil) (.eff (.ld true 24) (.cons (.inp 13) .nil) (.eff (.call 13) (.cons (.bv 0) (.cons (.bv 1) .nil)) (.done [(3, (.bv 2))] none))))) .ret)
@[simp] theorem h3_0_wp : type_of% (@wpH h3_0 _ h3_0.eq_1) := wpH h3_0.eq_1
def h3_1 : HC := (.seq (.reg (.eff (.ld true 24) (.cons (.inp 15) .nil) (.eff (.call 15) (.cons (.bv 0) .nil) (.done [] none)))) h3_0)
@[simp] theorem h3_1_wp : type_of% (@wpH h3_1 _ h3_1.eq_1) := wpH h3_1.eq_1
def h3_2 : HC := (.reg (.chk none (.bin .add) (.cons (.inp 19) (.cons (.cst (.int .i64 1)) .nil)) (.done [(19, (.op (.bin .add) (.cons (.inp 19) (.cons (.cst (.int .i64 1)) .nil))))] none)))
@[simp] theorem h3_2_wp : type_of% (@wpH h3_2 _ h3_2.eq_1) := wpH h3_2.eq_1
def h3_3 : HC := (.reg (.chk none (.idxL 1) (.cons (.inp 12) (.cons (.inp 19) .nil)) (.eff (.st 1) (.cons (.op (.idxL 1) (.cons (.inp 12) (.cons (.inp 19) .nil))) (.cons (.cst (.int .u8 0)) .nil)) (.done [] none))))
@[simp] theorem h3_3_wp : type_of% (@wpH h3_3 _ h3_3.eq_1) := wpH h3_3.eq_1
def h3_4 : HC := (.seq (.block 3 h3_3) h3_2)
@[simp] theorem h3_4_wp : type_of% (@wpH h3_4 _ h3_4.eq_1) := wpH h3_4.eq_1
def h3_5 : HC := (.seq (.br (.chk none .lenL (.cons (.inp 12) .nil) (.chk none (.bin .lss) (.cons (.inp 19) (.cons (.op .lenL (.cons (.inp 12) .nil)) .nil)) (.done [] (some (.op (.bin .lss) (.cons (.inp 19) (.cons (.op .lenL (.cons (.inp 12) .nil)) .nil))))))) .skip (.exit 2)) h3_4)
@[simp] theorem h3_5_wp : type_of% (@wpH h3_5 _ h3_5.eq_1) := wpH h3_5.eq_1
def h3_6 : HC := (.loop h3_5)
@[simp] theorem h3_6_wp : type_of% (@wpH h3_6 _ h3_6.eq_1) := wpH h3_6.eq_1
def h3_7 : HC := (.seq (.block 2 h3_6) h3_1)
@[simp] theorem h3_7_wp : type_of% (@wpH h3_7 _ h3_7.eq_1) := wpH h3_7.eq_1
def h3_8 : HC := (.seq (.reg (.done [(19, (.cst (.int .i64 0)))] none)) h3_7)
@[simp] theorem h3_8_wp : type_of% (@wpH h3_8 _ h3_8.eq_1) := wpH h3_8.eq_1
def h3_9 : HC := (.seq (.reg (.done [(3, (.cst (.bool false)))] none)) .ret)
@[simp] theorem h3_9_wp : type_of% (@wpH h3_9 _ h3_9.eq_1) := wpH h3_9.eq_1
def r3_0 : RT := (.eff (.ld true 24) (.cons (.inp 15) .nil) (.eff (.ld true 24) (.cons (.inp 13) .nil) (.eff (.call 13) (.cons (.bv 4) (.cons (.bv 5) .nil)) (.chk none (.un .not) (.cons (.bv 6) .nil) (.isb none (.bv 3) (.bnd (.op (.un .not) (.cons (.bv 6) .nil)) (.ite (.bv 7) false (.eff (.ld true 24) (.cons (.inp 17) .nil) (.eff (.ld true 24) (.cons (.inp 13) .nil) (.eff (.call 13) (.cons (.bv 8) (.cons (.bv 9) .nil)) (.chk none (.un .not) (.cons (.bv 10) .nil) (.isb none (.bv 7) (.bnd (.op (.un .not) (.cons (.bv 10) .nil)) (.ite (.bv 11) false (.eff (.call 14) (.cons (.ite (.bv 11) false (.inp 12) (.cst (.tuple #[]))) (.cons (.ite (.bv 11) false (.inp 1) (.cst (.tuple #[]))) .nil)) (.chk none (.un .not) (.cons (.bv 12) .nil) (.isb none (.bv 11) (.bnd (.op (.un .not) (.cons (.bv 12) .nil)) (.ite (.bv 13) false (.eff (.call 8) (.cons (.ite (.bv 13) false (.inp 9) (.cst (.tuple #[]))) (.cons (.ite (.bv 13) false (.inp 5) (.cst (.tuple #[]))) .nil)) (.chk none (.un .not) (.cons (.bv 14) .nil) (.isb none (.bv 13) (.done [] (some (.op (.un .not) (.cons (.bv 14) .nil))))))) (.isb none (.bv 13) (.done [] (some (.cst (.bool true)))))))))) (.isb none (.bv 11) (.isb none (.cst (.bool true)) (.done [] (some (.cst (.bool true))))))))))))) (.isb none (.bv 7) (.isb none (.cst (.bool true)) (.isb none (.cst (.bool true)) (.done [] (some (.cst (.bool true))))))))))))))
@[simp] theorem r3_0_wp : type_of% (@wpR r3_0 _ r3_0.eq_1) := wpR r3_0.eq_1
@[simp] theorem r3_0_wpq : type_of% (@wpRq r3_0 _ r3_0.eq_1) := wpRq r3_0.eq_1
@[simp] theorem r3_0_wpm : type_of% (@wpRm r3_0 _ r3_0.eq_1) := wpRm r3_0.eq_1
def r3_1 : RT := (.chk none (.bin .neq) (.cons (.bv 2) (.cons (.inp 14) .nil)) (.isb none (.bv 1) (.bnd (.op (.bin .neq) (.cons (.bv 2) (.cons (.inp 14) .nil))) (.ite (.bv 3) false r3_0 (.isb none (.bv 3) (.isb none (.cst (.bool true)) (.isb none (.cst (.bool true)) (.isb none (.cst (.bool true)) (.done [] (some (.cst (.bool true))))))))))))
@[simp] theorem r3_1_wp : type_of% (@wpR r3_1 _ r3_1.eq_1) := wpR r3_1.eq_1
@[simp] theorem r3_1_wpq : type_of% (@wpRq r3_1 _ r3_1.eq_1) := wpRq r3_1.eq_1
@[simp] theorem r3_1_wpm : type_of% (@wpRm r3_1 _ r3_1.eq_1) := wpRm r3_1.eq_1
def r3_2 : RT := (.eff (.call 7) (.cons (.ite (.bv 1) false (.inp 18) (.cst (.tuple #[]))) .nil) r3_1)
@[simp] theorem r3_2_wp : type_of% (@wpR r3_2 _ r3_2.eq_1) := wpR r3_2.eq_1
@[simp] theorem r3_2_wpq : type_of% (@wpRq r3_2 _ r3_2.eq_1) := wpRq r3_2.eq_1
@[simp] theorem r3_2_wpm : type_of% (@wpRm r3_2 _ r3_2.eq_1) := wpRm r3_2.eq_1
def r3_3 : RT := (.chk none (.bin .neq) (.cons (.bv 0) (.cons (.inp 14) .nil)) (.bnd (.op (.bin .neq) (.cons (.bv 0) (.cons (.inp 14) .nil))) (.ite (.bv 1) false r3_2 (.isb none (.bv 1) (.isb none (.cst (.bool true)) (.isb none (.cst (.bool true)) (.isb none (.cst (.bool true)) (.isb none (.cst (.bool true)) (.done [] (some (.cst (.bool true))))))))))))
@[simp] theorem r3_3_wp : type_of% (@wpR r3_3 _ r3_3.eq_1) := wpR r3_3.eq_1
@[simp] theorem r3_3_wpq : type_of% (@wpRq r3_3 _ r3_3.eq_1) := wpRq r3_3.eq_1
@[simp] theorem r3_3_wpm : type_of% (@wpRm r3_3 _ r3_3.eq_1) := wpRm r3_3.eq_1
def h3_10 : HC := (.seq (.br (.eff (.call 7) (.cons (.inp 16) .nil) r3_3) h3_9 .skip) h3_8)
@[simp] theorem h3_10_wp : type_of% (@wpH h3_10 _ h3_10.eq_1) := wpH h3_10.eq_1
def h3_11 : HC := (.seq (.reg (.eff (.call 12) (.cons (.inp 12) .nil) (.chk none (.ext 0) (.cons (.bv 0) .nil) (.chk none (.ext 1) (.cons (.bv 0) .nil) (.eff (.new 30 (.agg #[(.int .i64 0), (.string ⟨#[]⟩), (.int .i64 0), (.int .i64 0), (.int .u64 0), (.int .i64 0), (.int .i64 0), (.int .i64 0), (.int .i64 0), (.int .u64 0), (.int .u64 0), (.slice none 0 0), (.int .i64 0), (.int .i64 0), (.int .i64 0), (.int .i64 0), (.int .i64 0), (.int .i64 0), (.int .u64 0), (.int .u64 0), (.int .u64 0), (.int .i64 0), (.slice none 0 0), (.int .i64 0)])) .nil (.eff (.st 24) (.cons (.bv 1) (.cons (.op (.ext 0) (.cons (.bv 0) .nil)) .nil)) (.done [(17, (.bv 1)), (18, (.op (.ext 1) (.cons (.bv 0) .nil)))] none))))))) h3_10)
@[simp] theorem h3_11_wp : type_of% (@wpH h3_11 _ h3_11.eq_1) := wpH h3_11.eq_1
def h3_12 : HC := (.seq (.reg (.eff (.call 12) (.cons (.inp 12) .nil) (.chk none (.ext 0) (.cons (.bv 0) .nil) (.chk none (.ext 1) (.cons (.bv 0) .nil) (.eff (.new 30 (.agg #[(.int .i64 0), (.string ⟨#[]⟩), (.int .i64 0), (.int .i64 0), (.int .u64 0), (.int .i64 0), (.int .i64 0), (.int .i64 0), (.int .i64 0), (.int .u64 0), (.int .u64 0), (.slice none 0 0), (.int .i64 0), (.int .i64 0), (.int .i64 0), (.int .i64 0), (.int .i64 0), (.int .i64 0), (.int .u64 0), (.int .u64 0), (.int .u64 0), (.int .i64 0), (.slice none 0 0), (.int .i64 0)])) .nil (.eff (.st 24) (.cons (.bv 1) (.cons (.op (.ext 0) (.cons (.bv 0) .nil)) .nil)) (.done [(15, (.bv 1)), (16, (.op (.ext 1) (.cons (.bv 0) .nil)))] none))))))) h3_11)
@[simp] theorem h3_12_wp : type_of% (@wpH h3_12 _ h3_12.eq_1) := wpH h3_12.eq_1
def h3_13 : HC := (.seq (.reg (.eff (.call 11) (.cons (.inp 1) .nil) (.chk none (.ext 0) (.cons (.bv 0) .nil) (.chk none (.ext 1) (.cons (.bv 0) .nil) (.eff (.new 30 (.agg #[(.int .i64 0), (.string ⟨#[]⟩), (.int .i64 0), (.int .i64 0), (.int .u64 0), (.int .i64 0), (.int .i64 0), (.int .i64 0), (.int .i64 0), (.int .u64 0), (.int .u64 0), (.slice none 0 0), (.int .i64 0), (.int .i64 0), (.int .i64 0), (.int .i64 0), (.int .i64 0), (.int .i64 0), (.int .u64 0), (.int .u64 0), (.int .u64 0), (.int .i64 0), (.slice none 0 0), (.int .i64 0)])) .nil (.eff (.st 24) (.cons (.bv 1) (.cons (.op (.ext 0) (.cons (.bv 0) .nil)) .nil)) (.done [(13, (.bv 1)), (14, (.op (.ext 1) (.cons (.bv 0) .nil)))] none))))))) h3_12)
@[simp] theorem h3_13_wp : type_of% (@wpH h3_13 _ h3_13.eq_1) := wpH h3_13.eq_1
def h3_14 : HC := (.seq (.reg (.eff (.call 10) (.cons (.inp 1) .nil) (.done [(12, (.bv 0))] none))) h3_13)
@[simp] theorem h3_14_wp : type_of% (@wpH h3_14 _ h3_14.eq_1) := wpH h3_14.eq_1
def h3_15 : HC := (.reg (.chk none (.bin .add) (.cons (.inp 11) (.cons (.cst (.int .i64 1)) .nil)) (.done [(11, (.op (.bin .add) (.cons (.inp 11) (.cons (.cst (.int .i64 1)) .nil))))] none)))
@[simp] theorem h3_15_wp : type_of% (@wpH h3_15 _ h3_15.eq_1) := wpH h3_15.eq_1
def h3_16 : HC := (.reg (.chk none (.idxL 1) (.cons (.inp 7) (.cons (.inp 11) .nil)) (.eff (.st 1) (.cons (.op (.idxL 1) (.cons (.inp 7) (.cons (.inp 11) .nil))) (.cons (.cst (.int .u8 9)) .nil)) (.done [] none))))
@[simp] theorem h3_16_wp : type_of% (@wpH h3_16 _ h3_16.eq_1) := wpH h3_16.eq_1
def h3_17 : HC := (.seq (.block 1 h3_16) h3_15)
@[simp] theorem h3_17_wp : type_of% (@wpH h3_17 _ h3_17.eq_1) := wpH h3_17.eq_1
def h3_18 : HC := (.seq (.br (.chk none .lenL (.cons (.inp 7) .nil) (.chk none (.bin .lss) (.cons (.inp 11) (.cons (.op .lenL (.cons (.inp 7) .nil)) .nil)) (.done [] (some (.op (.bin .lss) (.cons (.inp 11) (.cons (.op .lenL (.cons (.inp 7) .nil)) .nil))))))) .skip (.exit 0)) h3_17)
@[simp] theorem h3_18_wp : type_of% (@wpH h3_18 _ h3_18.eq_1) := wpH h3_18.eq_1
def h3_19 : HC := (.loop h3_18)
@[simp] theorem h3_19_wp : type_of% (@wpH h3_19 _ h3_19.eq_1) := wpH h3_19.eq_1
def h3_20 : HC := (.seq (.block 0 h3_19) h3_14)
@[simp] theorem h3_20_wp : type_of% (@wpH h3_20 _ h3_20.eq_1) := wpH h3_20.eq_1
def h3_21 : HC := (.seq (.reg (.done [(11, (.cst (.int .i64 0)))] none)) h3_20)
@[simp] theorem h3_21_wp : type_of% (@wpH h3_21 _ h3_21.eq_1) := wpH h3_21.eq_1
def h3_22 : HC := (.seq (.reg (.done [(3, (.cst (.bool false)))] none)) .ret)
@[simp] theorem h3_22_wp : type_of% (@wpH h3_22 _ h3_22.eq_1) := wpH h3_22.eq_1
def r3_4 : RT := (.chk none (.bin .neq) (.cons (.bv 0) (.cons (.inp 6) .nil)) (.bnd (.op (.bin .neq) (.cons (.bv 0) (.cons (.inp 6) .nil))) (.ite (.bv 1) false (.eff (.call 7) (.cons (.ite (.bv 1) false (.inp 10) (.cst (.tuple #[]))) .nil) (.chk none (.bin .neq) (.cons (.bv 2) (.cons (.inp 6) .nil)) (.isb none (.bv 1) (.bnd (.op (.bin .neq) (.cons (.bv 2) (.cons (.inp 6) .nil))) (.ite (.bv 3) false (.eff (.call 8) (.cons (.ite (.bv 3) false (.inp 7) (.cst (.tuple #[]))) (.cons (.ite (.bv 3) false (.inp 5) (.cst (.tuple #[]))) .nil)) (.chk none (.un .not) (.cons (.bv 4) .nil) (.isb none (.bv 3) (.bnd (.op (.un .not) (.cons (.bv 4) .nil)) (.ite (.bv 5) false (.eff (.call 8) (.cons (.ite (.bv 5) false (.inp 9) (.cst (.tuple #[]))) (.cons (.ite (.bv 5) false (.inp 5) (.cst (.tuple #[]))) .nil)) (.chk none (.un .not) (.cons (.bv 6) .nil) (.isb none (.bv 5) (.bnd (.op (.un .not) (.cons (.bv 6) .nil)) (.ite (.bv 7) false (.eff (.ld true 24) (.cons (.inp 4) .nil) (.eff (.ld true 24) (.cons (.inp 2) .nil) (.eff (.call 9) (.cons (.bv 8) (.cons (.bv 9) .nil)) (.chk none (.un .not) (.cons (.bv 10) .nil) (.isb none (.bv 7) (.done [] (some (.op (.un .not) (.cons (.bv 10) .nil))))))))) (.isb none (.bv 7) (.done [] (some (.cst (.bool true)))))))))) (.isb none (.bv 5) (.isb none (.cst (.bool true)) (.done [] (some (.cst (.bool true))))))))))) (.isb none (.bv 3) (.isb none (.cst (.bool true)) (.isb none (.cst (.bool true)) (.done [] (some (.cst (.bool true)))))))))))) (.isb none (.bv 1) (.isb none (.cst (.bool true)) (.isb none (.cst (.bool true)) (.isb none (.cst (.bool true)) (.done [] (some (.cst (.bool true)))))))))))
@[simp] theorem r3_4_wp : type_of% (@wpR r3_4 _ r3_4.eq_1) := wpR r3_4.eq_1
@[simp] theorem r3_4_wpq : type_of% (@wpRq r3_4 _ r3_4.eq_1) := wpRq r3_4.eq_1
@[simp] theorem r3_4_wpm : type_of% (@wpRm r3_4 _ r3_4.eq_1) := wpRm r3_4.eq_1
def h3_23 : HC := (.seq (.br (.eff (.call 7) (.cons (.inp 8) .nil) r3_4) h3_22 .skip) h3_21)
@[simp] theorem h3_23_wp : type_of% (@wpH h3_23 _ h3_23.eq_1) := wpH h3_23.eq_1
def h3_24 : HC := (.seq (.reg (.eff (.ld true 24) (.cons (.inp 4) .nil) (.eff (.call 6) (.cons (.bv 0) .nil) (.chk none (.ext 0) (.cons (.bv 1) .nil) (.chk none (.ext 1) (.cons (.bv 1) .nil) (.done [(9, (.op (.ext 0) (.cons (.bv 1) .nil))), (10, (.op (.ext 1) (.cons (.bv 1) .nil)))] none)))))) h3_23)
@[simp] theorem h3_24_wp : type_of% (@wpH h3_24 _ h3_24.eq_1) := wpH h3_24.eq_1
def h3_25 : HC := (.seq (.reg (.eff (.ld true 24) (.cons (.inp 4) .nil) (.eff (.call 6) (.cons (.bv 0) .nil) (.chk none (.ext 0) (.cons (.bv 1) .nil) (.chk none (.ext 1) (.cons (.bv 1) .nil) (.done [(7, (.op (.ext 0) (.cons (.bv 1) .nil))), (8, (.op (.ext 1) (.cons (.bv 1) .nil)))] none)))))) h3_24)
@[simp] theorem h3_25_wp : type_of% (@wpH h3_25 _ h3_25.eq_1) := wpH h3_25.eq_1
def h3_26 : HC := (.seq (.reg (.eff (.ld true 24) (.cons (.inp 2) .nil) (.eff (.call 5) (.cons (.bv 0) .nil) (.chk none (.ext 0) (.cons (.bv 1) .nil) (.chk none (.ext 1) (.cons (.bv 1) .nil) (.done [(5, (.op (.ext 0) (.cons (.bv 1) .nil))), (6, (.op (.ext 1) (.cons (.bv 1) .nil)))] none)))))) h3_25)
@[simp] theorem h3_26_wp : type_of% (@wpH h3_26 _ h3_26.eq_1) := wpH h3_26.eq_1
def h3_27 : HC := (.seq (.reg (.eff (.ld true 24) (.cons (.inp 2) .nil) (.eff (.call 4) (.cons (.bv 0) .nil) (.eff (.new 30 (.agg #[(.int .i64 0), (.string ⟨#[]⟩), (.int .i64 0), (.int .i64 0), (.int .u64 0), (.int .i64 0), (.int .i64 0), (.int .i64 0), (.int .i64 0), (.int .u64 0), (.int .u64 0), (.slice none 0 0), (.int .i64 0), (.int .i64 0), (.int .i64 0), (.int .i64 0), (.int .i64 0), (.int .i64 0), (.int .u64 0), (.int .u64 0), (.int .u64 0), (.int .i64 0), (.slice none 0 0), (.int .i64 0)])) .nil (.eff (.st 24) (.cons (.bv 2) (.cons (.bv 1) .nil)) (.done [(4, (.bv 2))] none)))))) h3_26)
@[simp] theorem h3_27_wp : type_of% (@wpH h3_27 _ h3_27.eq_1) := wpH h3_27.eq_1
def l3 : Lifted := ⟨[0, 1, 2, 4, 5, 6, 7, 8, 9, 10, 11, 12, 13, 14, 15, 16, 17, 18, 19, 20], 140, [.slot 3], (.seq (.reg (.eff (.box 30) (.cons (.inp 0) .nil) (.done [(2, (.bv 0)), (3, (.cst (.bool false)))] none))) h3_27)⟩
theorem l3_ok : liftFn T0 3 400 = some l3 := by kernel_rfl
set_option maxHeartbeats 4000000 in
theorem records_walk (r : PR) (ev cv : Value) (wvs : List Value) (b : List UInt8) (bv : Value) (w0 w : World) (A : Asn) (hr : r.ok) (h1 : WR w0 A ev r.en.ws) (h2 : CV w0 A cv wvs r.co.es) (hb : b.length ≤ 1048576) (h3 : BR w0 A bv b) (s : St w0 A w) :
    CallW Try.prog 3 [.agg (r.cs ev cv).toArray, bv] (fun x w' => x = .bool true ∧ St w0 A w') w := by
  have hwr := h1
  have hcv := h2
  have hbr := h3
  obtain ⟨ea, en, rfl⟩ := h1.val
  obtain ⟨ca, cn, rfl⟩ := h2.row.val
  obtain ⟨ba, bn, rfl⟩ := h3.val
  refine callW_of_lift l3_ok (by simp [l3]) ?_
  simp -implicitDefEqProofs [l3, Instr.fill, Value.cells]
  refine eff_box s fun c w1 s1 => ?_
  simp -implicitDefEqProofs [Instr.fill, Value.cells]
  have s1 : St w0 (A * rpt c r (.slice ea r.en.ws.length en) (.slice ca r.co.es.length cn)) w1 := s1
  have hcA : ∀ {w : World} {Z : Asn}, St w0 (A * rpt c r (.slice ea r.en.ws.length en) (.slice ca r.co.es.length cn) * Z) w → ∀ j u, (r.cs (.slice ea r.en.ws.length en) (.slice ca r.co.es.length cn))[j]? = some u → w.cell? ⟨c, 0 + j, none⟩ = some u := fun h => h.drop.row_cells
  refine eff_ldcs (vs := r.cs (.slice ea r.en.ws.length en) (.slice ca r.co.es.length cn)) s1.row_cells rfl ?_
  simp -implicitDefEqProofs
  refine eff_call ((lent_spec r _ _ wvs w0 w1 _ hr (hwr.mono fun w s => s.drop) (hcv.mono fun w s => s.drop) s1).mono ?_)
  rintro _ w2 ⟨ev', cv', l, rfl, hl, s2⟩
  have hev : ev'.oneCell' = true := by obtain ⟨_, _, rfl, _⟩ := lopen s2.swap; rfl
  have hcv1 : cv'.oneCell' = true := by obtain ⟨_, _, rfl, _⟩ := lopen (s2.to (B := A * rpt c r (.slice ea r.en.ws.length en) (.slice ca r.co.es.length cn) * lwA ev' r.en.ws * lwL l * lenA 25 5 cv' l.length 1 (eflat l) emark) (by simp only [leA, lwL]; ac_rfl)); rfl
  simp -implicitDefEqProofs
  refine eff_new s2 fun d w3 s3 => ?_
  simp -implicitDefEqProofs
  refine eff_stA (vs := r.cs ev' cv') s3 rfl rfl (pr_one _ _ _ hev hcv1) (by simp) fun w4 s4 => ?_
  simp -implicitDefEqProofs
  have s4 : St w0 (A * rpt c r (.slice ea r.en.ws.length en) (.slice ca r.co.es.length cn) * lwA ev' r.en.ws * leA cv' l * rpt d r ev' cv') w4 := by simpa [rpt, PR.cs] using s4
  obtain ⟨D, hD⟩ : ∃ D, A * rpt c r (.slice ea r.en.ws.length en) (.slice ca r.co.es.length cn) * lwA ev' r.en.ws * leA cv' l * rpt d r ev' cv' = D := ⟨_, rfl⟩
  rw [hD] at s4
  have hDA : ∀ w, St w0 D w → St w0 A w := fun w h => by rw [← hD] at h; exact h.drop.drop.drop.drop
  have fc : ∀ {w : World}, St w0 D w → ∀ j u, (r.cs (.slice ea r.en.ws.length en) (.slice ca r.co.es.length cn))[j]? = some u → w.cell? ⟨c, 0 + j, none⟩ = some u := fun h j u hu => by
    rw [← hD] at h; exact h.drop.drop.drop.row_cells j u hu
  have fd : ∀ {w : World}, St w0 D w → ∀ j u, (r.cs ev' cv')[j]? = some u → w.cell? ⟨d, 0 + j, none⟩ = some u := fun h j u hu => by
    rw [← hD] at h; exact h.row_cells j u hu
  have hw' : WR w0 D ev' r.en.ws := len_in (B := A * rpt c r (.slice ea r.en.ws.length en) (.slice ca r.co.es.length cn) * leA cv' l * rpt d r ev' cv') s4 (by rw [← hD]; simp only [lwA]; ac_rfl)
  have hc' : CV w0 D cv' (l.map (·.2)) r.co.es := by
    have := le_seen (A := A * rpt c r (.slice ea r.en.ws.length en) (.slice ca r.co.es.length cn) * lwA ev' r.en.ws * rpt d r ev' cv') (cv := cv') (l := l) (s4.to (by rw [← hD]; ac_rfl))
    rw [hl] at this
    exact this.mono fun w s => s.to (by rw [← hD]; ac_rfl)
  obtain ⟨X, hX⟩ : ∃ X, encB r = X := ⟨_, rfl⟩
  have hXl : X.length ≤ 1048576 := by rw [← hX]; exact encB_len r
  refine eff_ldcs (vs := r.cs (.slice ea r.en.ws.length en) (.slice ca r.co.es.length cn)) (fc s4) rfl ?_
  simp -implicitDefEqProofs
  refine eff_call ((rEncode_spec r _ _ wvs w0 w4 D hr (hwr.mono hDA) (hcv.mono hDA) s4).mono ?_)
  rintro _ w5 ⟨p0, rfl, s5⟩
  rw [hX] at s5
  simp -implicitDefEqProofs
  refine eff_ldcs (vs := r.cs ev' cv') (fd s5.drop) rfl ?_
  simp -implicitDefEqProofs
  refine eff_call ((Encode_spec r ev' cv' _ w0 w5 _ hr (hw'.mono fun w s => s.drop) (hc'.mono fun w s => s.drop) s5).mono ?_)
  rintro _ w6 ⟨p1, rfl, s6⟩
  rw [hX] at s6
  simp -implicitDefEqProofs
  refine eff_ldcs (vs := r.cs ev' cv') (fd s6.drop.drop) rfl ?_
  simp -implicitDefEqProofs
  refine eff_call ((Encode_spec r ev' cv' _ w0 w6 _ hr (hw'.mono fun w s => s.drop.drop) (hc'.mono fun w s => s.drop.drop) s6).mono ?_)
  rintro _ w7 ⟨p2, rfl, s7⟩
  rw [hX] at s7
  simp -implicitDefEqProofs
  refine eff_call ((num_spec _ w7).mono ?_)
  rintro _ w7 ⟨rfl, rfl⟩
  simp -implicitDefEqProofs
  refine eff_call ((num_spec _ w7).mono ?_)
  rintro _ w7 ⟨rfl, rfl⟩
  simp -implicitDefEqProofs
  have r0 : ∀ {w : World}, St w0 (D * byA p0 X * byA p1 X * byA p2 X) w → BR w0 (D * byA p0 X * byA p1 X * byA p2 X) p0 X := fun h => row_in (e := 5) (B := D * byA p1 X * byA p2 X) h (by simp only [byA]; ac_rfl)
  refine eff_call ((bytes_spec X X p1 p0 w0 w7 _ (by omega) (row_in (e := 5) (B := D * byA p0 X * byA p2 X) s7 (by simp only [byA]; ac_rfl)) (r0 s7) s7).mono ?_)
  rintro _ w8 ⟨rfl, s8⟩
  simp -implicitDefEqProofs
  refine eff_call ((bytes_spec X X p2 p0 w0 w8 _ (by omega) (row_own s8) (r0 s8) s8).mono ?_)
  rintro _ w9 ⟨rfl, s9⟩
  simp -implicitDefEqProofs
  refine eff_ldcs (vs := r.cs ev' cv') (fd s9.drop.drop.drop) rfl ?_
  simp -implicitDefEqProofs
  refine eff_ldcs (vs := r.cs (.slice ea r.en.ws.length en) (.slice ca r.co.es.length cn)) (fc s9.drop.drop.drop) rfl ?_
  simp -implicitDefEqProofs
  refine eff_call ((kept_spec r _ _ ev' cv' l wvs w0 w9 (A * rpt c r (.slice ea r.en.ws.length en) (.slice ca r.co.es.length cn) * rpt d r ev' cv' * byA p0 X * byA p1 X * byA p2 X) hr hl (hwr.mono fun w s => s.drop.drop.drop.drop.drop) (hcv.mono fun w s => s.drop.drop.drop.drop.drop) (s9.to (by rw [← hD]; simp only [byA]; ac_rfl))).mono ?_)
  rintro _ w10 ⟨rfl, s10⟩
  have s10 : St w0 (A * byA p0 X * byA p2 X * byA p1 X) w10 := s10.cut (rpt c r (.slice ea r.en.ws.length en) (.slice ca r.co.es.length cn) * rpt d r ev' cv' * lwA ev' r.en.ws * leA cv' l) (by simp only [byA]; ac_rfl)
  clear s9 s8 s7 s6 s5 s4 s3 s2 s1 fc fd hw' hc' hDA hcA r0
  simp -implicitDefEqProofs
  obtain ⟨pa, pc, rfl, _, _⟩ := s10.own_val
  refine loopI (fun env w' => ∃ (k : Nat) (xs : List Value), env = [.agg (r.cs (.slice ea r.en.ws.length en) (.slice ca r.co.es.length cn)).toArray, .slice ba b.length bn, .pointer (some ⟨c, 0, none⟩), .bool false, .pointer (some ⟨d, 0, none⟩), p0, .int .i64 (encE r), .slice pa X.length pc, .int .i64 (encE r), p2, .int .i64 (encE r), .int .i64 k, undef, undef, undef, undef, undef, undef, undef, undef] ∧ k ≤ X.length ∧ xs.length = X.length ∧ St w0 (A * byA p0 X * byA p2 X * own 5 1 (.slice pa X.length pc) X.length xs) w')
    (fun env _ => X.length - slotN env 11) ⟨0, _, rfl, by omega, by simp [bytesV_len], s10⟩ ?_
  clear s10
  rintro LQ env w' ⟨k, xs, rfl, hk, hxs, t1⟩ hN hE hR
  simp -implicitDefEqProofs
  refine cndI (fun h4 => ?_) (fun h4 => ?_)
  · simp at h4
    obtain ⟨g3, c3, hv, _⟩ := t1.own_at (by omega)
    cases hv
    simp -implicitDefEqProofs [h4]
    refine eff_stC (j := k) (u := .int .u8 9) t1 (by omega) rfl fun w3 t4 => ?_
    simp -implicitDefEqProofs
    try simp (disch := omega) only [wrap64]
    exact hN _ _ ⟨k + 1, xs.set k (.int .u8 9), by simp, by omega, by simpa using hxs, t4⟩ (by simp [slotN]; omega)
  simp at h4
  simp -implicitDefEqProofs
  refine hE _ _ _ ?_
  simp -implicitDefEqProofs
  have t2 := t1.drop
  clear t1 hN hE hR
  refine eff_call ((lentBytes_spec b _ w0 w' _ hb (hbr.mono fun w s => s.drop.drop) t2).mono fun bv' w11 u1 => ?_)
  simp -implicitDefEqProofs
  refine eff_call ((rDecode_spec b _ w0 w11 _ (hbr.mono fun w s => s.drop.drop.drop) u1).mono ?_)
  rintro _ w12 ⟨e1, c1, l1, rfl, hl1, u2⟩
  obtain ⟨y, hy⟩ : ∃ y, decR b = y := ⟨_, rfl⟩
  have hyo : y.1.ok := by
    rw [← hy]; unfold decR
    have z : PR.zero.ok := ⟨by decide, by decide, ⟨by decide, by decide, by decide⟩, ⟨by decide, by decide, by decide, by decide, by intro e he; cases he⟩⟩
    split
    · exact z
    split
    · exact z
    · exact decX_ok b
  rw [hy] at u2 hl1 ⊢
  obtain ⟨Y, hYY⟩ : ∃ Y, y.1 = Y := ⟨_, rfl⟩
  rw [hYY] at u2 hl1 hyo ⊢
  obtain ⟨G, hG⟩ : ∃ G, A * byA p0 X * byA p2 X = G := ⟨_, rfl⟩
  have hGA : ∀ w, St w0 G w → St w0 A w := fun w h => by rw [← hG] at h; exact h.drop.drop
  rw [hG] at u2
  obtain ⟨_, _, he1, _⟩ := (u2.to (B := G * lbA bv' b * esO c1 l1 * own 3 1 e1 Y.en.ws.length (ints Y.en.ws)) (by ac_rfl)).own_val
  have he1 : e1.oneCell' = true := by rw [he1]; rfl
  obtain ⟨_, _, hc1, _⟩ := (u2.to (B := G * lbA bv' b * own 3 1 e1 Y.en.ws.length (ints Y.en.ws) * esA l1 * own 25 5 c1 l1.length (eflat l1)) (by simp only [esO]; ac_rfl)).own_val
  have hc1 : c1.oneCell' = true := by rw [hc1]; rfl
  simp -implicitDefEqProofs
  refine eff_new u2 fun k1 w13 u3 => ?_
  simp -implicitDefEqProofs
  refine eff_stA (vs := Y.cs e1 c1) u3 rfl rfl (pr_one _ _ _ he1 hc1) (by simp) fun w14 u4 => ?_
  simp -implicitDefEqProofs
  have u4 : St w0 (G * lbA bv' b * own 3 1 e1 Y.en.ws.length (ints Y.en.ws) * esO c1 l1 * rpt k1 Y e1 c1) w14 := by simpa [rpt, PR.cs] using u4
  obtain ⟨H, hH⟩ : ∃ H, G * own 3 1 e1 Y.en.ws.length (ints Y.en.ws) * esO c1 l1 * rpt k1 Y e1 c1 = H := ⟨_, rfl⟩
  have hHA : ∀ w, St w0 H w → St w0 A w := fun w h => by rw [← hH] at h; exact hGA _ h.drop.drop.drop
  have u5 : St w0 (H * lbA bv' b) w14 := u4.to (by rw [← hH]; ac_rfl)
  have fk1 : ∀ {w : World} {Z : Asn}, St w0 (H * Z) w → ∀ j u, (Y.cs e1 c1)[j]? = some u → w.cell? ⟨k1, 0 + j, none⟩ = some u := fun h j u hu => by
    have h := h.drop; rw [← hH] at h; exact h.row_cells j u hu
  have hw1 : WR w0 H e1 Y.en.ws := row_in (e := 3) (B := G * esO c1 l1 * rpt k1 Y e1 c1) u5.drop (by rw [← hH]; ac_rfl)
  have hv1 : CV w0 H c1 (l1.map (·.2)) Y.co.es := by
    have := es_seen (A := G * own 3 1 e1 Y.en.ws.length (ints Y.en.ws) * rpt k1 Y e1 c1) (cv := c1) (l := l1) (u5.drop.to (by rw [← hH]; ac_rfl))
    rw [hl1] at this
    exact this.mono fun w s => s.to (by rw [← hH]; ac_rfl)
  refine eff_call ((Decode_spec b _ w0 w14 _ (len_row u5) u5).mono ?_)
  rintro _ w15 ⟨e2, c2, l2, rfl, hl2, u6⟩
  rw [hy, hYY] at u6 hl2 ⊢
  obtain ⟨_, _, he2, _⟩ := (u6.to (B := H * lbA bv' b * esO c2 l2 * own 3 1 e2 Y.en.ws.length (ints Y.en.ws)) (by simp only [lbA]; ac_rfl)).own_val
  have he2 : e2.oneCell' = true := by rw [he2]; rfl
  obtain ⟨_, _, hc2, _⟩ := (u6.to (B := H * lbA bv' b * own 3 1 e2 Y.en.ws.length (ints Y.en.ws) * esA l2 * own 25 5 c2 l2.length (eflat l2)) (by simp only [esO, lbA]; ac_rfl)).own_val
  have hc2 : c2.oneCell' = true := by rw [hc2]; rfl
  simp -implicitDefEqProofs
  refine eff_new u6 fun k2 w16 u7 => ?_
  simp -implicitDefEqProofs
  refine eff_stA (vs := Y.cs e2 c2) u7 rfl rfl (pr_one _ _ _ he2 hc2) (by simp) fun w17 u8 => ?_
  simp -implicitDefEqProofs
  have u8 : St w0 (H * lbA bv' b * own 3 1 e2 Y.en.ws.length (ints Y.en.ws) * esO c2 l2 * rpt k2 Y e2 c2) w17 := by simpa [rpt, PR.cs] using u8
  obtain ⟨I, hI⟩ : ∃ I, own 3 1 e2 Y.en.ws.length (ints Y.en.ws) * esO c2 l2 * rpt k2 Y e2 c2 = I := ⟨_, rfl⟩
  have u9 : St w0 (H * I * lbA bv' b) w17 := u8.to (by rw [← hI]; ac_rfl)
  refine eff_call ((Decode_spec b _ w0 w17 _ (len_row u9) u9).mono ?_)
  rintro _ w18 ⟨e3, c3, l3, rfl, hl3, u10⟩
  rw [hy, hYY] at u10 hl3 ⊢
  obtain ⟨_, _, he3, _⟩ := (u10.to (B := H * I * lbA bv' b * esO c3 l3 * own 3 1 e3 Y.en.ws.length (ints Y.en.ws)) (by simp only [lbA]; ac_rfl)).own_val
  have he3 : e3.oneCell' = true := by rw [he3]; rfl
  obtain ⟨_, _, hc3, _⟩ := (u10.to (B := H * I * lbA bv' b * own 3 1 e3 Y.en.ws.length (ints Y.en.ws) * esA l3 * own 25 5 c3 l3.length (eflat l3)) (by simp only [esO, lbA]; ac_rfl)).own_val
  have hc3 : c3.oneCell' = true := by rw [hc3]; rfl
  simp -implicitDefEqProofs
  refine eff_new u10 fun k3 w19 u11 => ?_
  simp -implicitDefEqProofs
  refine eff_stA (vs := Y.cs e3 c3) u11 rfl rfl (pr_one _ _ _ he3 hc3) (by simp) fun w20 u12 => ?_
  simp -implicitDefEqProofs
  have u12 : St w0 (H * I * lbA bv' b * own 3 1 e3 Y.en.ws.length (ints Y.en.ws) * esO c3 l3 * rpt k3 Y e3 c3) w20 := by simpa [rpt, PR.cs] using u12
  obtain ⟨J, hJ⟩ : ∃ J, own 3 1 e3 Y.en.ws.length (ints Y.en.ws) * esO c3 l3 * rpt k3 Y e3 c3 = J := ⟨_, rfl⟩
  have u13 : St w0 (H * I * J * lbA bv' b) w20 := u12.to (by rw [← hJ]; ac_rfl)
  have fk2 : ∀ {w : World} {Z : Asn}, St w0 (H * I * Z) w → ∀ j u, (Y.cs e2 c2)[j]? = some u → w.cell? ⟨k2, 0 + j, none⟩ = some u := fun h j u hu => by
    have h := h.drop; rw [← hI, ← sep_assoc, ← sep_assoc] at h; exact h.row_cells j u hu
  have fk3 : ∀ {w : World} {Z : Asn}, St w0 (H * J * Z) w → ∀ j u, (Y.cs e3 c3)[j]? = some u → w.cell? ⟨k3, 0 + j, none⟩ = some u := fun h j u hu => by
    have h := h.drop; rw [← hJ, ← sep_assoc, ← sep_assoc] at h; exact h.row_cells j u hu
  have hw2 : ∀ {w : World}, St w0 (H * I) w → WR w0 (H * I) e2 Y.en.ws := fun h => row_in (e := 3) (B := H * esO c2 l2 * rpt k2 Y e2 c2) h (by rw [← hI]; ac_rfl)
  have hv2 : ∀ {w : World}, St w0 (H * I) w → CV w0 (H * I) c2 (l2.map (·.2)) Y.co.es := fun h => by
    have := es_seen (A := H * own 3 1 e2 Y.en.ws.length (ints Y.en.ws) * rpt k2 Y e2 c2) (cv := c2) (l := l2) (h.to (by rw [← hI]; ac_rfl))
    rw [hl2] at this
    exact this.mono fun w s => s.to (by rw [← hI]; ac_rfl)
  have hw3 : ∀ {w : World}, St w0 (H * J) w → WR w0 (H * J) e3 Y.en.ws := fun h => row_in (e := 3) (B := H * esO c3 l3 * rpt k3 Y e3 c3) h (by rw [← hJ]; ac_rfl)
  have hv3 : ∀ {w : World}, St w0 (H * J) w → CV w0 (H * J) c3 (l3.map (·.2)) Y.co.es := fun h => by
    have := es_seen (A := H * own 3 1 e3 Y.en.ws.length (ints Y.en.ws) * rpt k3 Y e3 c3) (cv := c3) (l := l3) (h.to (by rw [← hJ]; ac_rfl))
    rw [hl3] at this
    exact this.mono fun w s => s.to (by rw [← hJ]; ac_rfl)
  refine eff_call ((num_spec _ w20).mono ?_)
  rintro _ w20 ⟨rfl, rfl⟩
  simp -implicitDefEqProofs
  refine eff_call ((num_spec _ w20).mono ?_)
  rintro _ w20 ⟨rfl, rfl⟩
  simp -implicitDefEqProofs
  have toHI : ∀ {w : World}, St w0 (H * I * J * lbA bv' b) w → St w0 (H * I) w := fun h => h.drop.drop
  have toHJ : ∀ {w : World}, St w0 (H * I * J * lbA bv' b) w → St w0 (H * J) w := fun h => (h.drop.swap).drop
  refine eff_ldcs (vs := Y.cs e2 c2) (fk2 u13.drop) rfl ?_
  simp -implicitDefEqProofs
  refine eff_ldcs (vs := Y.cs e1 c1) (fk1 u13.drop.drop) rfl ?_
  simp -implicitDefEqProofs
  refine eff_call ((lrecord_spec Y e2 e1 c2 c1 _ _ w0 w20 _ hyo ((hw2 (toHI u13)).mono fun w s => toHI s) (hw1.mono fun w s => (toHI s).drop) ((hv2 (toHI u13)).mono fun w s => toHI s) (hv1.mono fun w s => (toHI s).drop) u13).mono ?_)
  rintro _ w21 ⟨rfl, u14⟩
  simp -implicitDefEqProofs
  refine eff_ldcs (vs := Y.cs e3 c3) (fk3 (u14.drop.to (B := H * J * I) (by ac_rfl))) rfl ?_
  simp -implicitDefEqProofs
  refine eff_ldcs (vs := Y.cs e1 c1) (fk1 u14.drop.drop) rfl ?_
  simp -implicitDefEqProofs
  refine eff_call ((lrecord_spec Y e3 e1 c3 c1 _ _ w0 w21 _ hyo ((hw3 (toHJ u14)).mono fun w s => toHJ s) (hw1.mono fun w s => (toHI s).drop) ((hv3 (toHJ u14)).mono fun w s => toHJ s) (hv1.mono fun w s => (toHI s).drop) u14).mono ?_)
  rintro _ w22 ⟨rfl, u15⟩
  simp -implicitDefEqProofs
  refine eff_call ((keptBytes_spec b bv' _ w0 w22 _ hb (hbr.mono fun w s => hHA _ s.drop.drop) u15).mono ?_)
  rintro _ w23 ⟨rfl, u16⟩
  simp -implicitDefEqProofs
  have rp : ∀ (p : Value) (B : Asn) {w : World}, G = B * byA p X → St w0 (H * I * J * lbA bv' b) w → BR w0 (H * I * J * lbA bv' b) p X := fun p B {w} e h => row_in (e := 5) (B := B * own 3 1 e1 Y.en.ws.length (ints Y.en.ws) * esO c1 l1 * rpt k1 Y e1 c1 * I * J * lbA bv' b) h (by rw [← hH, e]; simp only [byA]; ac_rfl)
  refine eff_call ((bytes_spec X X p2 p0 w0 w23 _ (by omega) (rp p2 (A * byA p0 X) hG.symm u16) (rp p0 (A * byA p2 X) (by rw [← hG]; ac_rfl) u16) u16).mono ?_)
  rintro _ w24 ⟨rfl, u17⟩
  simp -implicitDefEqProofs
  clear u16 u15 u14 u13 u12 u11 u10 u9 u8 u7 u6 u4 u3 u2 u1
  obtain ⟨g, cap, rfl, hcap, _, u18⟩ := lopen u17
  refine loopI (fun env w' => ∃ (k5 : Nat) (xs : List Value), env = [.agg (r.cs (.slice ea r.en.ws.length en) (.slice ca r.co.es.length cn)).toArray, .slice ba b.length bn, .pointer (some ⟨c, 0, none⟩), .bool false, .pointer (some ⟨d, 0, none⟩), p0, .int .i64 (encE r), .slice pa X.length pc, .int .i64 (encE r), p2, .int .i64 (encE r), .int .i64 k, .slice (some ⟨g, 0, none⟩) b.length cap, .pointer (some ⟨k1, 0, none⟩), .int .i64 y.2, .pointer (some ⟨k2, 0, none⟩), .int .i64 y.2, .pointer (some ⟨k3, 0, none⟩), .int .i64 y.2, .int .i64 k5] ∧ k5 ≤ b.length ∧ xs.length = b.length + 2 ∧ St w0 (H * I * J * own 5 1 (.slice (some ⟨g, 0, none⟩) (b.length + 2) cap) (b.length + 2) xs) w')
    (fun env _ => b.length - slotN env 19) ⟨0, _, rfl, by omega, by simp [bytesV_len, bmarks], u18⟩ ?_
  clear u17 u18
  rintro LQ env w' ⟨k5, xs, rfl, hk5, hxs, t1⟩ hN hE hR
  simp -implicitDefEqProofs
  refine cndI (fun h4 => ?_) (fun h4 => ?_)
  · simp at h4
    simp -implicitDefEqProofs [h4]
    refine eff_stC (j := k5) (u := .int .u8 0) t1 (by omega) rfl fun w3 t4 => ?_
    simp -implicitDefEqProofs
    try simp (disch := omega) only [wrap64]
    exact hN _ _ ⟨k5 + 1, xs.set k5 (.int .u8 0), by simp, by omega, by simpa using hxs, t4⟩ (by simp [slotN]; omega)
  simp at h4
  simp -implicitDefEqProofs
  refine hE _ _ _ ?_
  simp -implicitDefEqProofs
  have t2 := t1.drop
  clear t1 hN hE hR
  refine eff_ldcs (vs := Y.cs e2 c2) (fk2 t2) rfl ?_
  simp -implicitDefEqProofs
  refine eff_call ((spoilRecord_spec Y e2 c2 l2 w0 w' (H * J) hyo hl2 (t2.cut (rpt k2 Y e2 c2) (by rw [← hI]; ac_rfl))).mono fun _ w25 t3 => ?_)
  simp -implicitDefEqProofs
  have t4 : St w0 (H * J * emp) w25 := by rw [sep_emp]; exact t3
  refine eff_ldcs (vs := Y.cs e3 c3) (fk3 t4) rfl ?_
  simp -implicitDefEqProofs
  refine eff_ldcs (vs := Y.cs e1 c1) (fk1 t3) rfl ?_
  simp -implicitDefEqProofs
  refine eff_call ((lrecord_spec Y e3 e1 c3 c1 _ _ w0 w25 _ hyo (hw3 t3) (hw1.mono fun w s => s.drop) (hv3 t3) (hv1.mono fun w s => s.drop) t3).mono ?_)
  rintro _ w26 ⟨rfl, t5⟩
  simp -implicitDefEqProofs
  exact hHA _ t5.drop
end Go.HL.Sr

namespace Go.HL.Sr
open Go.HL Go.HL.Tl Go.Proofs Go.Deep
set_option maxRecDepth 4000
set_option linter.unusedSimpArgs false
set_option linter.unusedVariables false
theorem open_u64 {m : Int} (w : (Lit.int .u64 m).wf = true) : 0 ≤ m ∧ m ≤ 18446744073709551615 := by
  simpa [Lit.wf, IntKind.min, IntKind.max, IntKind.signed, IntKind.bits] using w
theorem open_u8 {m : Int} (w : (Lit.int .u8 m).wf = true) : 0 ≤ m ∧ m ≤ 255 := by
  simpa [Lit.wf, IntKind.min, IntKind.max, IntKind.signed, IntKind.bits] using w
section
variable {H : Type} {enc : TypeId × Value → H} {W : World} {base : Nat} {spare : Nat → Bool} {held : Bool} {fuel : Nat} {cs : List Value} {x : DataW H × List MemPlace}
theorem open_ints (h : DataW.trod enc Try.prog W base spare held fuel 23 cs = some x) : ∃ (v : Value) (l : List Int), cs = [v] ∧ v.oneCell' = true ∧ Row W (old W) v l.length 1 (ints l) ∧ l.length ≤ Go.Proofs.Ytnpobdapojomnaa.Rows.uptoBulk x.1 := by
  obtain ⟨v, l, h1, h2, h3, h4, h5, h6⟩ := open_erows (α := Int) (fun x => [Value.int .i64 x]) 1 (fun _ => True) (fun _ => 0) Try.underlying23 (by kernel_rfl) (by decide) (fun _ => rfl) (fun n cs x hx => by
    obtain ⟨m, e, _, _⟩ := DataW.trod_int Try.underlying3 hx
    exact ⟨m, e, trivial, Nat.zero_le _⟩) h
  refine ⟨v, l, h1, h2, ?_, h5⟩
  have : l.flatMap (fun x => [Value.int .i64 x]) = ints l := by
    clear h4 h3 h5 h6
    induction l with
    | nil => rfl
    | cons a l ih => simp [ints, List.flatMap_cons, ih]
  rw [this] at h4
  exact h4
theorem open_bytes (h : DataW.trod enc Try.prog W base spare held fuel 31 cs = some x) : ∃ (v : Value) (l : List UInt8), cs = [v] ∧ Row W (old W) v l.length 1 (bytesV l) ∧ l.length ≤ Go.Proofs.Ytnpobdapojomnaa.Rows.uptoBulk x.1 := by
  obtain ⟨v, l, h1, h2, h3, h4, h5, h6⟩ := open_erows (α := UInt8) (fun x => [Value.int .u8 x.toNat]) 1 (fun _ => True) (fun _ => 0) Try.underlying31 (by kernel_rfl) (by decide) (fun _ => rfl) (fun n cs x hx => by
    obtain ⟨m, e, _, w⟩ := DataW.trod_int Try.underlying5 hx
    have hw := open_u8 w
    refine ⟨UInt8.ofNat m.toNat, ?_, trivial, Nat.zero_le _⟩
    have e2 : ((UInt8.ofNat m.toNat).toNat : Int) = m := by
      rw [UInt8.toNat_ofNat']
      omega
    rw [e, e2]) h
  refine ⟨v, l, h1, ?_, h5⟩
  have : l.flatMap (fun x => [Value.int .u8 x.toNat]) = bytesV l := by
    clear h4 h3 h5 h6
    induction l with
    | nil => rfl
    | cons a l ih => simp [bytesV, List.flatMap_cons] at ih ⊢; exact ih
  rw [this] at h4
  exact h4
theorem open_entry (h : DataW.trod enc Try.prog W base spare held fuel 25 cs = some x) :
    ∃ (e : PE) (v : Value), cs = e.cs v ∧ v.oneCell' = true ∧ WR W (old W) v e.ws ∧ (0 ≤ e.coins ∧ e.coins < 18446744073709551616) ∧ (0 ≤ e.price ∧ e.price < 18446744073709551616) ∧ e.ws.length ≤ Go.Proofs.Ytnpobdapojomnaa.Rows.uptoBulk x.1 := by
  obtain ⟨hl, n', hf⟩ := open_field Try.underlying25 h
  have hl2 : cs.length = 5 := hl.trans (by kernel_rfl)
  match cs, hl2 with
  | [c0, c1, c2, c3, c4], _ =>
    obtain ⟨y0, k0, _⟩ := hf 0 _ rfl
    obtain ⟨y1, k1, _⟩ := hf 1 _ rfl
    obtain ⟨y2, k2, _⟩ := hf 2 _ rfl
    obtain ⟨y3, k3, _⟩ := hf 3 _ rfl
    obtain ⟨y4, k4, b4⟩ := hf 4 _ rfl
    obtain ⟨m0, e0, x0, w0⟩ := DataW.trod_int Try.underlying3 k0
    obtain ⟨m1, e1, x1, w1⟩ := DataW.trod_int Try.underlying3 k1
    obtain ⟨m2, e2, x2, w2⟩ := DataW.trod_int Try.underlying22 k2
    obtain ⟨m3, e3, x3, w3⟩ := DataW.trod_int Try.underlying22 k3
    obtain ⟨wv, l, e4, o4, r4, l4⟩ := open_ints k4
    have f0 : [c0] = [Value.int .i64 m0] := e0
    have f1 : [c1] = [Value.int .i64 m1] := e1
    have f2 : [c2] = [Value.int .u64 m2] := e2
    have f3 : [c3] = [Value.int .u64 m3] := e3
    have f4 : [c4] = [wv] := e4
    cases f0; cases f1; cases f2; cases f3; cases f4
    have h2 := open_u64 w2
    have h3 := open_u64 w3
    exact ⟨⟨m0, m1, m2, m3, l⟩, c4, rfl, o4, r4, ⟨h2.1, by simp only; omega⟩, ⟨h3.1, by simp only; omega⟩, Nat.le_trans l4 b4⟩
theorem open_ents (hx : Go.Proofs.Ytnpobdapojomnaa.Rows.uptoBulk x.1 ≤ 1048576) (h : DataW.trod enc Try.prog W base spare held fuel 26 cs = some x) :
    ∃ (v : Value) (l : List (PE × Value)), cs = [v] ∧ v.oneCell' = true ∧ CV W (old W) v (l.map (·.2)) (l.map (·.1)) ∧ l.length ≤ 1048576 ∧ ∀ y ∈ l, y.1.ok := by
  obtain ⟨v, l, h1, h2, h3, h4, h5, h6⟩ := open_erows (α := PE × Value) (fun y => y.1.cs y.2) 5 (fun y => WR W (old W) y.2 y.1.ws ∧ (0 ≤ y.1.coins ∧ y.1.coins < 18446744073709551616) ∧ (0 ≤ y.1.price ∧ y.1.price < 18446744073709551616)) (fun y => y.1.ws.length) Try.underlying26 (by kernel_rfl) (by decide) (fun _ => rfl) (fun n cs x hx => by
    obtain ⟨e, v, h1, h2, h3, h4, h5, h6⟩ := open_entry hx
    exact ⟨(e, v), h1, ⟨h3, h4, h5⟩, h6⟩) h
  refine ⟨v, l, h1, h2, ⟨by simp, ?_, fun i h7 h8 => ?_⟩, by omega, fun y hy => ?_⟩
  · rw [zip_parts, List.length_map]; exact h4
  · have hi : i < l.length := by simpa using h7
    have := (h3 l[i] (List.getElem_mem hi)).1
    simpa using this
  · have := h3 y hy
    exact ⟨this.2.1, this.2.2, by have := h6 y hy; omega⟩
theorem open_contract (hx : Go.Proofs.Ytnpobdapojomnaa.Rows.uptoBulk x.1 ≤ 1048576) (h : DataW.trod enc Try.prog W base spare held fuel 28 cs = some x) :
    ∃ (c : PC) (v : Value) (wvs : List Value), cs = c.cs v ∧ v.oneCell' = true ∧ CV W (old W) v wvs c.es ∧ c.ok := by
  obtain ⟨hl, n', hf⟩ := open_field Try.underlying28 h
  have hl2 : cs.length = 11 := hl.trans (by kernel_rfl)
  match cs, hl2 with
  | [c0, c1, c2, c3, c4, c5, c6, c7, c8, c9, c10], _ =>
    obtain ⟨y0, k0, _⟩ := hf 0 _ rfl
    obtain ⟨y1, k1, _⟩ := hf 1 _ rfl
    obtain ⟨y2, k2, _⟩ := hf 2 _ rfl
    obtain ⟨y3, k3, _⟩ := hf 3 _ rfl
    obtain ⟨y4, k4, _⟩ := hf 4 _ rfl
    obtain ⟨y5, k5, _⟩ := hf 5 _ rfl
    obtain ⟨y6, k6, _⟩ := hf 6 _ rfl
    obtain ⟨y7, k7, _⟩ := hf 7 _ rfl
    obtain ⟨y8, k8, _⟩ := hf 8 _ rfl
    obtain ⟨y9, k9, _⟩ := hf 9 _ rfl
    obtain ⟨y10, k10, b10⟩ := hf 10 _ rfl
    obtain ⟨m0, e0, x0, w0⟩ := DataW.trod_int Try.underlying3 k0
    obtain ⟨m1, e1, x1, w1⟩ := DataW.trod_int Try.underlying3 k1
    obtain ⟨m2, e2, x2, w2⟩ := DataW.trod_int Try.underlying3 k2
    obtain ⟨m3, e3, x3, w3⟩ := DataW.trod_int Try.underlying3 k3
    obtain ⟨m4, e4, x4, w4⟩ := DataW.trod_int Try.underlying3 k4
    obtain ⟨m5, e5, x5, w5⟩ := DataW.trod_int Try.underlying3 k5
    obtain ⟨m6, e6, x6, w6⟩ := DataW.trod_int Try.underlying22 k6
    obtain ⟨m7, e7, x7, w7⟩ := DataW.trod_int Try.underlying22 k7
    obtain ⟨m8, e8, x8, w8⟩ := DataW.trod_int Try.underlying22 k8
    obtain ⟨m9, e9, x9, w9⟩ := DataW.trod_int Try.underlying3 k9
    obtain ⟨v, l, e10, o10, r10, l10, p10⟩ := open_ents (Nat.le_trans b10 hx) k10
    have f0 : [c0] = [Value.int .i64 m0] := e0
    have f1 : [c1] = [Value.int .i64 m1] := e1
    have f2 : [c2] = [Value.int .i64 m2] := e2
    have f3 : [c3] = [Value.int .i64 m3] := e3
    have f4 : [c4] = [Value.int .i64 m4] := e4
    have f5 : [c5] = [Value.int .i64 m5] := e5
    have f6 : [c6] = [Value.int .u64 m6] := e6
    have f7 : [c7] = [Value.int .u64 m7] := e7
    have f8 : [c8] = [Value.int .u64 m8] := e8
    have f9 : [c9] = [Value.int .i64 m9] := e9
    have f10 : [c10] = [v] := e10
    cases f0; cases f1; cases f2; cases f3; cases f4; cases f5; cases f6; cases f7; cases f8; cases f9; cases f10
    have h6 := open_u64 w6
    have h7 := open_u64 w7
    have h8 := open_u64 w8
    refine ⟨⟨m0, m1, m2, m3, m4, m5, m6, m7, m8, m9, l.map (·.1)⟩, c10, l.map (·.2), rfl, o10, r10, ⟨⟨h6.1, by simp only; omega⟩, ⟨h7.1, by simp only; omega⟩, ⟨h8.1, by simp only; omega⟩, by simpa using l10, fun e he => ?_⟩⟩
    obtain ⟨y, hy, rfl⟩ := List.mem_map.1 he
    exact p10 y hy
theorem open_recordF (hx : Go.Proofs.Ytnpobdapojomnaa.Rows.uptoBulk x.1 ≤ 1048576) (h : DataW.trod enc Try.prog W base spare held fuel 30 cs = some x) :
    ∃ (r : PR) (ev cv : Value) (wvs : List Value), cs = r.cs ev cv ∧ ev.oneCell' = true ∧ cv.oneCell' = true ∧ WR W (old W) ev r.en.ws ∧ CV W (old W) cv wvs r.co.es ∧ r.ok := by
  obtain ⟨hl, n', hf⟩ := open_field Try.underlying30 h
  have hl2 : cs.length = 24 := hl.trans (by kernel_rfl)
  match cs, hl2 with
  | [c0, c1, c2, c3, c4, c5, c6, d0, d1, d2, d3, d4, g0, g1, g2, g3, g4, g5, g6, g7, g8, g9, g10, c9], _ =>
    obtain ⟨y0, k0, _⟩ := hf 0 _ rfl
    obtain ⟨y1, k1, b1⟩ := hf 1 _ rfl
    obtain ⟨y2, k2, _⟩ := hf 2 _ rfl
    obtain ⟨y3, k3, _⟩ := hf 3 _ rfl
    obtain ⟨y4, k4, _⟩ := hf 4 _ rfl
    obtain ⟨y5, k5, _⟩ := hf 5 _ rfl
    obtain ⟨y6, k6, _⟩ := hf 6 _ rfl
    obtain ⟨y7, k7, b7⟩ := hf 7 _ rfl
    obtain ⟨y8, k8, b8⟩ := hf 8 _ rfl
    obtain ⟨y9, k9, _⟩ := hf 9 _ rfl
    obtain ⟨m0, e0, x0, w0⟩ := DataW.trod_int Try.underlying3 k0
    obtain ⟨m1, e1, x1, _⟩ := DataW.trod_string Try.underlying9 k1
    obtain ⟨m2, e2, x2, w2⟩ := DataW.trod_int Try.underlying3 k2
    obtain ⟨m3, e3, x3, w3⟩ := DataW.trod_int Try.underlying3 k3
    obtain ⟨m4, e4, x4, w4⟩ := DataW.trod_int Try.underlying22 k4
    obtain ⟨m5, e5, x5, w5⟩ := DataW.trod_int Try.underlying3 k5
    obtain ⟨m6, e6, x6, w6⟩ := DataW.trod_int Try.underlying3 k6
    obtain ⟨en, ev, e7, o7, r7, p7, q7, l7⟩ := open_entry k7
    obtain ⟨co, cv, wvs, e8, o8, r8, p8⟩ := open_contract (Nat.le_trans b8 hx) k8
    obtain ⟨m9, e9, x9, w9⟩ := DataW.trod_int Try.underlying3 k9
    have f0 : [c0] = [Value.int .i64 m0] := e0
    have f1 : [c1] = [Value.string m1] := e1
    have f2 : [c2] = [Value.int .i64 m2] := e2
    have f3 : [c3] = [Value.int .i64 m3] := e3
    have f4 : [c4] = [Value.int .u64 m4] := e4
    have f5 : [c5] = [Value.int .i64 m5] := e5
    have f6 : [c6] = [Value.int .i64 m6] := e6
    have f7 : [d0, d1, d2, d3, d4] = en.cs ev := e7
    have f8 : [g0, g1, g2, g3, g4, g5, g6, g7, g8, g9, g10] = co.cs cv := e8
    have f9 : [c9] = [Value.int .i64 m9] := e9
    have hnm : m1.data.toList.length ≤ 1048576 := by
      rw [x1] at b1
      have : m1.data.toList.length ≤ Go.Proofs.Ytnpobdapojomnaa.Rows.uptoBulk (DataW.lit (H := H) (.string m1.data.toList)) := by rw [bulk_string]; omega
      exact Nat.le_trans (Nat.le_trans this b1) hx
    cases f0; cases f1; cases f2; cases f3; cases f4; cases f5; cases f6; cases f7; cases f8; cases f9
    have h4 := open_u64 w4
    refine ⟨⟨m0, m1.data.toList, m2, m3, m4, m5, m6, en, co, m9⟩, d4, g10, wvs, ?_, o7, o8, r7, r8, ⟨⟨h4.1, by simp only; omega⟩, hnm, ⟨p7, q7, Nat.le_trans l7 (Nat.le_trans b7 hx)⟩, p8⟩⟩
    simp only [PR.cs]
    rw [← mk_eta]
end
theorem open_record {H : Type} {enc : TypeId × Value → H} {W : World} {spare : Nat → Bool} {v : Value} {d : DataW H} {ps : List MemPlace} (h : DataW.Trod enc Try.prog W 0 spare true 30 v d ps) {base : Nat} (hval : Value.okWide Try.prog W .any base 30 v)
    (hb : Go.Proofs.Ytnpobdapojomnaa.Rows.uptoBulk d ≤ 1048576) : ∃ (r : PR) (ev cv : Value) (wvs : List Value), v = .agg (r.cs ev cv).toArray ∧ WR W (old W) ev r.en.ws ∧ CV W (old W) cv wvs r.co.es ∧ r.ok := by
  obtain ⟨cs, rfl, _⟩ := Go.WideShapes.okWide_struct Try.underlying30 hval
  obtain ⟨n, h⟩ := h
  obtain ⟨r, ev, cv, wvs, h1, _, _, h2, h3, h4⟩ := open_recordF hb h
  exact ⟨r, ev, cv, wvs, by rw [← h1]; simp, h2, h3, h4⟩
theorem open_bslice {H : Type} {enc : TypeId × Value → H} {W : World} {spare : Nat → Bool} {v : Value} {d : DataW H} {ps : List MemPlace} (h : DataW.Trod enc Try.prog W 0 spare true 31 v d ps) {base : Nat} (hval : Value.okWide Try.prog W .any base 31 v) :
    ∃ l : List UInt8, BR W (old W) v l ∧ l.length ≤ Go.Proofs.Ytnpobdapojomnaa.Rows.uptoBulk d := by
  obtain ⟨va, vl, vc, rfl⟩ := Go.WideShapes.okWide_slice Try.underlying31 hval
  obtain ⟨n, h⟩ := h
  obtain ⟨v, l, h1, h2, h3⟩ := open_bytes h
  have h1 : [Value.slice va vl vc] = [v] := by simpa [Value.cells] using h1
  cases h1
  exact ⟨l, h2, h3⟩
end Go.HL.Sr

namespace Go.Proofs.Ytnpobdapojomnaa.stateRecords
open Go.ChangeShapes Go.WideShapes Go.ChangeAt Go.RowKit Go.WideMaps Go.WideElems
open Go.ChangeMaps (open_string shut_string)
set_option linter.unusedVariables false
theorem own : ownKnob Try.prog.godebug = none := by kernel_rfl
theorem keeps : Go.HL.keepB Try.prog [30, 3, 9, 22, 25, 23, 28, 26, 31, 5] = true := by kernel_rfl
set_option maxRecDepth 10000 in
theorem contract (H : Type) (enc : TypeId × Value → H) (W : World) (base : Nat) (args : Array Value) (ds gs : List (DataW H)) (before : List MemPlace)
    (hval : ∀ (j : Nat) t v, Try.f3.params[j]? = some t → args[j]? = some v → Value.okWide Try.prog W .any base t v)
    (hW : DataW.Whole enc Try.prog Try.f3.params.toList Rows.stateRecordsSpec.vars false W args.toList ds gs before) (hk : Rows.uptoSmall H (ds ++ gs) = true) :
    Calls Try.prog 3 args W fun e W' => ∃ v, e = .returned v ∧ Rows.stateRecordsSpec.post enc Try.prog Try.f3 false true false false W args v W' := by
  have hW' := hW
  have hlt := hW.lt
  obtain ⟨p, q, hA0, hV, rfl, hfz, hnd⟩ := hW
  have hA : DataW.TrodAll enc Try.prog W 0 (fun _ => true) true Try.f3.params.toList args.toList ds p := hA0
  have hA1 := hA
  rw [Try.params3] at hA hval
  obtain ⟨v0, vs0, d0, ds0, p0, q0, hargs, rfl, rfl, h0, r0⟩ := trodAll_cons hA
  obtain ⟨v1, vs1, d1, ds1, p1, q1, rfl, rfl, rfl, h1, r1⟩ := trodAll_cons r0
  obtain ⟨rfl, rfl, rfl⟩ := trodAll_nil r1
  obtain rfl : args = #[v0, v1] := by cases args; simp_all
  obtain ⟨rfl, rfl⟩ := trodVars_none hV
  simp only [List.append_nil, List.nil_append] at hW' hlt hA1
  have hb := Go.HL.bulk_bound hk
  simp only [List.append_nil, Rows.uptoBulkAll, Go.HL.bulk_string, Go.HL.bulk_int] at hb
  obtain ⟨a0, e0, c0, x0, rfl, wr0, cv0, ok0⟩ := Go.HL.Sr.open_record h0 (hval 0 30 v0 rfl rfl) (by omega)
  obtain ⟨a1, br1, bl1⟩ := Go.HL.Sr.open_bslice h1 (hval 1 31 v1 rfl rfl)
  have hwalk := Go.HL.Sr.records_walk a0 e0 c0 x0 a1 v1 W W (Go.HL.old W) ok0 wr0 cv0 (by omega) br1 (Go.HL.St.start W)
  refine Calls.mono hwalk fun e W' ⟨v, he, hv, hst⟩ => ?_
  subst hv
  refine ⟨_, he, Go.HL.post_of_old hst (pv := []) hW' (fun _ _ _ => (trodAll_cons_mk (shut_bool Try.underlying4 _) trodAll_mk0))
    (fun sp hsp => Go.HL.trodAll_keep keeps (by decide) hA1 (fun x hx => hst.same (hlt x hx)) hsp) (fun _ _ => rfl) (by simp)
    (ok_one (by kernel_rfl) rfl (okWide_bool_mk Try.underlying4 _))⟩
set_option maxRecDepth 100000 in
theorem lifted (os : Os) (started : os.Started) (H : Type) (enc : TypeId × Value → H) (F : Stop.Interp) :
    ReturnsInHanded {} Try.checked os 3 .any ((Rows.OpenSpec.upto Rows.stateRecordsSpec).pre6 enc Try.prog Try.f3 Rows.stateRecordsUptoRow.domain false) (((Rows.OpenSpec.upto Rows.stateRecordsSpec).at F).post enc Try.prog Try.f3 false true false false) := by
  refine returnsInHanded_of_cond (C := Try.checked) (s := Rows.OpenSpec.upto Rows.stateRecordsSpec) (k := Rows.uptoSmall) rfl own started (by kernel_rfl) Try.func3
    (OpenSpec.witness (enc := enc) (C := Try.checked) (s := Rows.OpenSpec.upto Rows.stateRecordsSpec) (k := Rows.uptoSmall) rfl false ⟨#[], #[.agg #[.int .i64 0, .string ⟨#[]⟩, .int .i64 0, .int .i64 0, .int .u64 0, .int .i64 0, .int .i64 0, .int .i64 0, .int .i64 0, .int .u64 0, .int .u64 0, .slice none 0 0, .int .i64 0, .int .i64 0, .int .i64 0, .int .i64 0, .int .i64 0, .int .i64 0, .int .u64 0, .int .u64 0, .int .u64 0, .int .i64 0, .slice none 0 0, .int .i64 0], .slice none 0 0], []⟩ 8 (by kernel_rfl) (by kernel_rfl) (by kernel_rfl)
      (x := ([.agg [.lit (.int .i64 0), .lit (.string []), .lit (.int .i64 0), .lit (.int .i64 0), .lit (.int .u64 0), .lit (.int .i64 0), .lit (.int .i64 0), .agg [.lit (.int .i64 0), .lit (.int .i64 0), .lit (.int .u64 0), .lit (.int .u64 0), .nil], .agg [.lit (.int .i64 0), .lit (.int .i64 0), .lit (.int .i64 0), .lit (.int .i64 0), .lit (.int .i64 0), .lit (.int .i64 0), .lit (.int .u64 0), .lit (.int .u64 0), .lit (.int .u64 0), .lit (.int .i64 0), .nil], .lit (.int .i64 0)], .nil], [], [])) (by kernel_rfl) rfl (by kernel_rfl)) ?_
  intro W base args ds gs before hval hW _ hk _
  exact contract H enc W base args ds gs before hval hW hk
theorem over : Rows.stateRecordsUptoRow.holds Try.pinned (Rows.OpenSpec.upto Rows.stateRecordsSpec) :=
  OpenClaim.holds_of_cond 3 Try.f3 rfl rfl rfl rfl rfl rfl rfl ⟨rfl, rfl, rfl, rfl, rfl⟩ rfl rfl rfl rfl rfl (by kernel_rfl) Try.func3 (by kernel_rfl)
    (of_decide_eq_true (by kernel_rfl)) (by unfold Func.isWrapper; first | (rw [if_pos (by decide +kernel)]; kernel_rfl) | (rw [if_neg (by decide +kernel)]; exact ⟨rfl, rfl⟩))
    (fun os started H enc _ F => lifted os started H enc F)
theorem proved : Rows.StateRecordsUptoSaid :=
  over
end Go.Proofs.Ytnpobdapojomnaa.stateRecords
