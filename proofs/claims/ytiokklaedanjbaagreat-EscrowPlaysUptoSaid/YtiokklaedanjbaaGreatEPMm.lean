/-
  What the claim leans on, part 13 of 18. Conditions: as each theorem says.
-/
import Derived.Test.YtiokklaedanjbaaGreatEPMl
namespace Go.HL.Gd
open Go.HL Go.Proofs
set_option maxRecDepth 4000
set_option linter.unusedSimpArgs false
set_option linter.unusedVariables false

def h28_0 : HC := (.seq (.reg (.chk none .chkp (.cons (.inp 0) .nil) (.chk none (.fld 1) (.cons (.op .chkp (.cons (.inp 0) .nil)) .nil) (.eff (.ld false 1) (.cons (.op (.fld 1) (.cons (.op .chkp (.cons (.inp 0) .nil)) .nil)) .nil) (.chk none (.bin .sub) (.cons (.inp 1) (.cons (.cst (.int .i64 1)) .nil)) (.chk none (.idxL 4) (.cons (.bv 0) (.cons (.op (.bin .sub) (.cons (.inp 1) (.cons (.cst (.int .i64 1)) .nil))) .nil)) (.chk none (.fld 0) (.cons (.op (.idxL 4) (.cons (.bv 0) (.cons (.op (.bin .sub) (.cons (.inp 1) (.cons (.cst (.int .i64 1)) .nil))) .nil))) .nil) (.eff (.ld true 4) (.cons (.op (.fld 0) (.cons (.op (.idxL 4) (.cons (.bv 0) (.cons (.op (.bin .sub) (.cons (.inp 1) (.cons (.cst (.int .i64 1)) .nil))) .nil))) .nil)) .nil) (.eff (.st 4) (.cons (.inp 2) (.cons (.bv 1) .nil)) (.done [(3, (.cst (.int .i64 0)))] none)))))))))) .ret)
@[simp] theorem h28_0_wp : type_of% (@wpH h28_0 _ h28_0.eq_1) := wpH h28_0.eq_1
def h28_1 : HC := (.seq (.reg (.chk none (.build #[(.int .i64 0), (.int .i64 0), (.int .i64 0), (.int .i64 0)] [(0, 1), (1, 1), (2, 1), (3, 1)] []) .nil (.eff (.st 4) (.cons (.inp 2) (.cons (.op (.build #[(.int .i64 0), (.int .i64 0), (.int .i64 0), (.int .i64 0)] [(0, 1), (1, 1), (2, 1), (3, 1)] []) .nil) .nil)) (.done [(3, (.cst (.int .i64 1)))] none)))) .ret)
@[simp] theorem h28_1_wp : type_of% (@wpH h28_1 _ h28_1.eq_1) := wpH h28_1.eq_1
def h28_2 : HC := (.seq (.reg (.chk none (.build #[(.int .i64 0), (.int .i64 0), (.int .i64 0), (.int .i64 0)] [(0, 1), (1, 1), (2, 1), (3, 1)] []) .nil (.eff (.st 4) (.cons (.inp 2) (.cons (.op (.build #[(.int .i64 0), (.int .i64 0), (.int .i64 0), (.int .i64 0)] [(0, 1), (1, 1), (2, 1), (3, 1)] []) .nil) .nil)) (.done [(3, (.cst (.int .i64 151)))] none)))) .ret)
@[simp] theorem h28_2_wp : type_of% (@wpH h28_2 _ h28_2.eq_1) := wpH h28_2.eq_1
def h28_3 : HC := (.br (.chk none (.bin .lss) (.cons (.inp 1) (.cons (.cst (.int .i64 1)) .nil)) (.bnd (.op (.bin .lss) (.cons (.inp 1) (.cons (.cst (.int .i64 1)) .nil))) (.chk (some ((.bv 0), false)) .chkp (.cons (.inp 0) .nil) (.chk (some ((.bv 0), false)) (.fld 1) (.cons (.op .chkp (.cons (.inp 0) .nil)) .nil) (.ite (.bv 0) false (.eff (.ld false 1) (.cons (.ite (.bv 0) false (.op (.fld 1) (.cons (.op .chkp (.cons (.inp 0) .nil)) .nil)) (.cst (.tuple #[]))) .nil) (.chk none .lenL (.cons (.bv 1) .nil) (.chk none (.bin .gtr) (.cons (.ite (.bv 0) false (.inp 1) (.cst (.tuple #[]))) (.cons (.op .lenL (.cons (.bv 1) .nil)) .nil)) (.isb none (.bv 0) (.done [] (some (.op (.bin .gtr) (.cons (.ite (.bv 0) false (.inp 1) (.cst (.tuple #[]))) (.cons (.op .lenL (.cons (.bv 1) .nil)) .nil))))))))) (.isb none (.bv 0) (.done [] (some (.cst (.bool true)))))))))) h28_2 .skip)
@[simp] theorem h28_3_wp : type_of% (@wpH h28_3 _ h28_3.eq_1) := wpH h28_3.eq_1
def h28_4 : HC := (.br (.chk none (.eqNil false (.pointer 92) (.pointer none)) (.cons (.inp 0) .nil) (.done [] (some (.op (.eqNil false (.pointer 92) (.pointer none)) (.cons (.inp 0) .nil))))) h28_1 h28_3)
@[simp] theorem h28_4_wp : type_of% (@wpH h28_4 _ h28_4.eq_1) := wpH h28_4.eq_1
def h28_5 : HC := (.seq (.block 0 h28_4) h28_0)
@[simp] theorem h28_5_wp : type_of% (@wpH h28_5 _ h28_5.eq_1) := wpH h28_5.eq_1
def l28 : Lifted := ⟨[0, 1, 4, 5], 32, [.cell 2 true 4, .slot 3], (.seq (.reg (.eff (.new 60 (.agg #[(.int .i64 0), (.int .i64 0), (.int .i64 0), (.int .i64 0)])) .nil (.done [(2, (.bv 0)), (3, (.cst (.int .i64 0)))] none))) h28_5)⟩
theorem l28_ok : liftFn G1 28 400 = some l28 := by kernel_rfl

def h12_0 : HC := (.seq (.reg (.done [(1, (.inp 2))] none)) .ret)
@[simp] theorem h12_0_wp : type_of% (@wpH h12_0 _ h12_0.eq_1) := wpH h12_0.eq_1
def h12_1 : HC := (.reg (.chk none (.bin .add) (.cons (.inp 6) (.cons (.cst (.int .i64 1)) .nil)) (.done [(6, (.op (.bin .add) (.cons (.inp 6) (.cons (.cst (.int .i64 1)) .nil))))] none)))
@[simp] theorem h12_1_wp : type_of% (@wpH h12_1 _ h12_1.eq_1) := wpH h12_1.eq_1
def h12_2 : HC := (.reg (.chk none (.fld 0) (.cons (.inp 3) .nil) (.eff (.ld true 4) (.cons (.op (.fld 0) (.cons (.inp 3) .nil)) .nil) (.eff (.bsl 60 1 4 #[(.int .i64 0), (.int .i64 0), (.int .i64 0), (.int .i64 0)] [0]) (.cons (.bv 0) .nil) (.eff (.app 24 24 60 4 32 (.agg #[(.int .i64 0), (.int .i64 0), (.int .i64 0), (.int .i64 0)])) (.cons (.inp 2) (.cons (.bv 1) .nil)) (.done [(2, (.bv 2))] none))))))
@[simp] theorem h12_2_wp : type_of% (@wpH h12_2 _ h12_2.eq_1) := wpH h12_2.eq_1
def h12_3 : HC := (.seq (.reg (.chk none (.idxL 4) (.cons (.inp 4) (.cons (.inp 6) .nil)) (.eff (.ld true 4) (.cons (.op (.idxL 4) (.cons (.inp 4) (.cons (.inp 6) .nil))) .nil) (.eff (.new 88 (.agg #[(.int .i64 0), (.int .i64 0), (.int .i64 0), (.int .i64 0)])) .nil (.eff (.st 4) (.cons (.bv 1) (.cons (.bv 0) .nil)) (.done [(3, (.bv 1))] none)))))) h12_2)
@[simp] theorem h12_3_wp : type_of% (@wpH h12_3 _ h12_3.eq_1) := wpH h12_3.eq_1
def h12_4 : HC := (.seq (.block 1 h12_3) h12_1)
@[simp] theorem h12_4_wp : type_of% (@wpH h12_4 _ h12_4.eq_1) := wpH h12_4.eq_1
def h12_5 : HC := (.seq (.br (.chk none (.bin .lss) (.cons (.inp 6) (.cons (.inp 5) .nil)) (.done [] (some (.op (.bin .lss) (.cons (.inp 6) (.cons (.inp 5) .nil)))))) .skip (.exit 0)) h12_4)
@[simp] theorem h12_5_wp : type_of% (@wpH h12_5 _ h12_5.eq_1) := wpH h12_5.eq_1
def h12_6 : HC := (.loop h12_5)
@[simp] theorem h12_6_wp : type_of% (@wpH h12_6 _ h12_6.eq_1) := wpH h12_6.eq_1
def h12_7 : HC := (.seq (.block 0 h12_6) h12_0)
@[simp] theorem h12_7_wp : type_of% (@wpH h12_7 _ h12_7.eq_1) := wpH h12_7.eq_1
def h12_8 : HC := (.seq (.reg (.chk none .chkp (.cons (.inp 0) .nil) (.chk none (.fld 1) (.cons (.op .chkp (.cons (.inp 0) .nil)) .nil) (.eff (.ld false 1) (.cons (.op (.fld 1) (.cons (.op .chkp (.cons (.inp 0) .nil)) .nil)) .nil) (.chk none .lenL (.cons (.bv 0) .nil) (.done [(4, (.bv 0)), (5, (.op .lenL (.cons (.bv 0) .nil))), (6, (.cst (.int .i64 0)))] none)))))) h12_7)
@[simp] theorem h12_8_wp : type_of% (@wpH h12_8 _ h12_8.eq_1) := wpH h12_8.eq_1
def h12_9 : HC := (.seq (.reg (.done [(2, (.cst (.slice none 0 0)))] none)) h12_8)
@[simp] theorem h12_9_wp : type_of% (@wpH h12_9 _ h12_9.eq_1) := wpH h12_9.eq_1
def h12_10 : HC := (.seq (.reg (.done [(1, (.cst (.slice none 0 0)))] none)) .ret)
@[simp] theorem h12_10_wp : type_of% (@wpH h12_10 _ h12_10.eq_1) := wpH h12_10.eq_1
def h12_11 : HC := (.seq (.br (.chk none (.eqNil false (.pointer 92) (.pointer none)) (.cons (.inp 0) .nil) (.done [] (some (.op (.eqNil false (.pointer 92) (.pointer none)) (.cons (.inp 0) .nil))))) h12_10 .skip) h12_9)
@[simp] theorem h12_11_wp : type_of% (@wpH h12_11 _ h12_11.eq_1) := wpH h12_11.eq_1
def l12 : Lifted := ⟨[0, 2, 3, 5, 11, 12, 13], 24, [.slot 1], (.seq (.reg (.done [(1, (.cst (.slice none 0 0)))] none)) h12_11)⟩
theorem l12_ok : liftFn G1 12 400 = some l12 := by kernel_rfl

def h86_0 : HC := (.seq (.reg (.done [(2, (.inp 3))] none)) .ret)
@[simp] theorem h86_0_wp : type_of% (@wpH h86_0 _ h86_0.eq_1) := wpH h86_0.eq_1
def h86_1 : HC := (.reg (.chk none (.bin .add) (.cons (.inp 7) (.cons (.cst (.int .i64 1)) .nil)) (.done [(7, (.op (.bin .add) (.cons (.inp 7) (.cons (.cst (.int .i64 1)) .nil))))] none)))
@[simp] theorem h86_1_wp : type_of% (@wpH h86_1 _ h86_1.eq_1) := wpH h86_1.eq_1
def h86_2 : HC := (.reg (.chk none (.fld 0) (.cons (.inp 4) .nil) (.chk none (.fld 0) (.cons (.op (.fld 0) (.cons (.inp 4) .nil)) .nil) (.eff (.ld false 1) (.cons (.op (.fld 0) (.cons (.op (.fld 0) (.cons (.inp 4) .nil)) .nil)) .nil) (.eff (.bsl 3 1 1 #[(.int .i64 0)] [0]) (.cons (.bv 0) .nil) (.eff (.app 44 44 3 1 8 (.int .i64 0)) (.cons (.inp 3) (.cons (.bv 1) .nil)) (.done [(3, (.bv 2))] none)))))))
@[simp] theorem h86_2_wp : type_of% (@wpH h86_2 _ h86_2.eq_1) := wpH h86_2.eq_1
def h86_3 : HC := (.br (.eff (.ld true 4) (.cons (.inp 4) .nil) (.eff .callv (.cons (.inp 1) (.cons (.bv 0) .nil)) (.done [] (some (.bv 1))))) h86_2 .skip)
@[simp] theorem h86_3_wp : type_of% (@wpH h86_3 _ h86_3.eq_1) := wpH h86_3.eq_1
def h86_4 : HC := (.seq (.reg (.chk none (.idxL 4) (.cons (.inp 5) (.cons (.inp 7) .nil)) (.eff (.ld true 4) (.cons (.op (.idxL 4) (.cons (.inp 5) (.cons (.inp 7) .nil))) .nil) (.eff (.new 88 (.agg #[(.int .i64 0), (.int .i64 0), (.int .i64 0), (.int .i64 0)])) .nil (.eff (.st 4) (.cons (.bv 1) (.cons (.bv 0) .nil)) (.done [(4, (.bv 1))] none)))))) h86_3)
@[simp] theorem h86_4_wp : type_of% (@wpH h86_4 _ h86_4.eq_1) := wpH h86_4.eq_1
def h86_5 : HC := (.seq (.block 1 h86_4) h86_1)
@[simp] theorem h86_5_wp : type_of% (@wpH h86_5 _ h86_5.eq_1) := wpH h86_5.eq_1
def h86_6 : HC := (.seq (.br (.chk none (.bin .lss) (.cons (.inp 7) (.cons (.inp 6) .nil)) (.done [] (some (.op (.bin .lss) (.cons (.inp 7) (.cons (.inp 6) .nil)))))) .skip (.exit 0)) h86_5)
@[simp] theorem h86_6_wp : type_of% (@wpH h86_6 _ h86_6.eq_1) := wpH h86_6.eq_1
def h86_7 : HC := (.loop h86_6)
@[simp] theorem h86_7_wp : type_of% (@wpH h86_7 _ h86_7.eq_1) := wpH h86_7.eq_1
def h86_8 : HC := (.seq (.block 0 h86_7) h86_0)
@[simp] theorem h86_8_wp : type_of% (@wpH h86_8 _ h86_8.eq_1) := wpH h86_8.eq_1
def h86_9 : HC := (.seq (.reg (.chk none .chkp (.cons (.inp 0) .nil) (.chk none (.fld 1) (.cons (.op .chkp (.cons (.inp 0) .nil)) .nil) (.eff (.ld false 1) (.cons (.op (.fld 1) (.cons (.op .chkp (.cons (.inp 0) .nil)) .nil)) .nil) (.chk none .lenL (.cons (.bv 0) .nil) (.done [(5, (.bv 0)), (6, (.op .lenL (.cons (.bv 0) .nil))), (7, (.cst (.int .i64 0)))] none)))))) h86_8)
@[simp] theorem h86_9_wp : type_of% (@wpH h86_9 _ h86_9.eq_1) := wpH h86_9.eq_1
def h86_10 : HC := (.seq (.reg (.done [(3, (.cst (.slice none 0 0)))] none)) h86_9)
@[simp] theorem h86_10_wp : type_of% (@wpH h86_10 _ h86_10.eq_1) := wpH h86_10.eq_1
def h86_11 : HC := (.seq (.reg (.done [(2, (.cst (.slice none 0 0)))] none)) .ret)
@[simp] theorem h86_11_wp : type_of% (@wpH h86_11 _ h86_11.eq_1) := wpH h86_11.eq_1
def h86_12 : HC := (.seq (.br (.chk none (.eqNil false (.pointer 92) (.pointer none)) (.cons (.inp 0) .nil) (.done [] (some (.op (.eqNil false (.pointer 92) (.pointer none)) (.cons (.inp 0) .nil))))) h86_11 .skip) h86_10)
@[simp] theorem h86_12_wp : type_of% (@wpH h86_12 _ h86_12.eq_1) := wpH h86_12.eq_1
def l86 : Lifted := ⟨[0, 1, 4, 5, 7, 13, 14, 15], 30, [.slot 2], (.seq (.reg (.done [(2, (.cst (.slice none 0 0)))] none)) h86_12)⟩
theorem l86_ok : liftFn G1 86 400 = some l86 := by kernel_rfl

def h87_0 : HC := (.seq (.reg (.eff (.ld true 4) (.cons (.inp 2) .nil) (.eff (.call 35) (.cons (.bv 0) .nil) (.chk (some ((.bv 1), true)) (.fld 0) (.cons (.inp 2) .nil) (.chk (some ((.bv 1), true)) (.fld 3) (.cons (.op (.fld 0) (.cons (.inp 2) .nil)) .nil) (.ite (.bv 1) true (.eff (.ld false 1) (.cons (.ite (.bv 1) true (.op (.fld 3) (.cons (.op (.fld 0) (.cons (.inp 2) .nil)) .nil)) (.cst (.tuple #[]))) .nil) (.eff (.ld false 1) (.cons (.inp 1) .nil) (.chk none (.bin .eql) (.cons (.bv 2) (.cons (.bv 3) .nil)) (.isb none (.bv 1) (.done [(3, (.op (.bin .eql) (.cons (.bv 2) (.cons (.bv 3) .nil))))] none))))) (.isb none (.bv 1) (.done [(3, (.cst (.bool false)))] none)))))))) .ret)
@[simp] theorem h87_0_wp : type_of% (@wpH h87_0 _ h87_0.eq_1) := wpH h87_0.eq_1
def l87 : Lifted := ⟨[0, 1, 2, 3], 13, [.slot 3], (.seq (.reg (.eff (.box 88) (.cons (.inp 0) .nil) (.done [(2, (.bv 0)), (3, (.cst (.bool false)))] none))) h87_0)⟩
theorem l87_ok : liftFn G1 87 400 = some l87 := by kernel_rfl

def h45_0 : HC := (.seq (.reg (.chk none (.mkf (.func 87) 0) (.cons (.inp 2) .nil) (.eff (.call 86) (.cons (.inp 0) (.cons (.op (.mkf (.func 87) 0) (.cons (.inp 2) .nil)) .nil)) (.done [(3, (.bv 0))] none)))) .ret)
@[simp] theorem h45_0_wp : type_of% (@wpH h45_0 _ h45_0.eq_1) := wpH h45_0.eq_1
def l45 : Lifted := ⟨[0, 1, 3, 4], 8, [.slot 3], (.seq (.reg (.eff (.box 3) (.cons (.inp 1) .nil) (.done [(2, (.bv 0)), (3, (.cst (.slice none 0 0)))] none))) h45_0)⟩
theorem l45_ok : liftFn G1 45 400 = some l45 := by kernel_rfl
def getF (its : List It) (n : Int) : It × Int := if 1 ≤ n ∧ n ≤ its.length then (its.getD (n.toNat - 1) ⟨0, 0, 0, 0⟩, 0) else (⟨0, 0, 0, 0⟩, 151)
theorem Get_spec (p : Nat) (lim : Int) (its : List It) (n : Int) (w0 w : World) (A : Asn) (hl : its.length ≤ 1048576) (s : St w0 (A * gds p lim its) w) :
    CallW Tryz.prog 28 [.pointer (some ⟨p, 0, none⟩), .int .i64 n]
      (fun r w' => r = .tuple #[.agg (getF its n).1.cs.toArray, .int .i64 (getF its n).2] ∧ St w0 (A * gds p lim its) w') w := by
  refine callW_of_lift l28_ok (by simp [l28]) ?_
  simp [l28]
  refine eff_new s ?_
  intro b w1 s1
  simp
  obtain ⟨v, s2⟩ := gopen s1.swap
  obtain ⟨a, cap, rfl, _⟩ := s2.own_val
  by_cases h1 : n < 1
  · have hg : getF its n = (⟨0, 0, 0, 0⟩, 151) := by unfold getF; rw [if_neg (by omega)]
    simp [h1, hg, Instr.fill, Value.cells]
    refine eff_stA (vs := It.cs ⟨0, 0, 0, 0⟩) s1 rfl rfl (cs_one _) (by simp) ?_
    intro w2 s3
    simp
    have s4 : St w0 (A * gds p lim its * pt b (.cells (It.cs ⟨0, 0, 0, 0⟩).toArray 60 (0, 0))) w2 := by simpa using s3
    refine rv_cellA (vs := It.cs ⟨0, 0, 0, 0⟩) rfl s4.row_cells rfl ?_
    simp
    exact s4.drop
  simp [h1]
  refine eff_ldc (v := .slice a its.length cap) (by rw [cell_of s2.swap.look]; rfl) ?_
  by_cases h2 : its.length < n
  · have hg : getF its n = (⟨0, 0, 0, 0⟩, 151) := by unfold getF; rw [if_neg (by omega)]
    simp [h2, hg, Instr.fill, Value.cells]
    refine eff_stA (vs := It.cs ⟨0, 0, 0, 0⟩) s1 rfl rfl (cs_one _) (by simp) ?_
    intro w2 s3
    simp
    have s4 : St w0 (A * gds p lim its * pt b (.cells (It.cs ⟨0, 0, 0, 0⟩).toArray 60 (0, 0))) w2 := by simpa using s3
    refine rv_cellA (vs := It.cs ⟨0, 0, 0, 0⟩) rfl s4.row_cells rfl ?_
    simp
    exact s4.drop
  simp [h2]
  obtain ⟨i, rfl⟩ : ∃ i : Nat, n = i + 1 := ⟨n.toNat - 1, by omega⟩
  have hi : i < its.length := by omega
  obtain ⟨g, cap', hv, _, hc⟩ := s2.own_at (by omega)
  cases hv
  refine eff_ldc (v := .slice (some ⟨g, 0, none⟩) its.length cap) (by rw [cell_of s2.swap.look]; rfl) ?_
  have hw : IntKind.i64.wrap (i : Int) = i := wrap64 (by omega) (by omega)
  simp [hw, hi]
  refine eff_ldcs (vs := its[i].cs) (fun j u hu => hc _ _ (flat_at hi j u hu)) rfl ?_
  simp
  have hg : getF its (i + 1) = (its[i], 0) := by
    unfold getF
    rw [if_pos (by omega)]
    have : ((i : Int) + 1).toNat - 1 = i := by omega
    simp [this, hi]
  refine eff_stA (vs := its[i].cs) s1 rfl rfl (cs_one _) (by simp) ?_
  intro w3 s3
  simp [hg]
  have s4 : St w0 (A * gds p lim its * pt b (.cells its[i].cs.toArray 60 (0, 0))) w3 := by simpa using s3
  refine rv_cellA (vs := its[i].cs) rfl s4.row_cells rfl ?_
  simp
  exact s4.drop
theorem Rows_spec (p : Nat) (lim : Int) (its : List It) (w0 w : World) (A : Asn) (hl : its.length ≤ 1048576) (s : St w0 (A * gds p lim its) w) :
    CallW Tryz.prog 12 [.pointer (some ⟨p, 0, none⟩)]
      (fun r w' => St w0 (A * gds p lim its * own 60 4 r its.length (flat its)) w') w := by
  refine callW_of_lift l12_ok (by simp [l12]) ?_
  simp [l12]
  obtain ⟨v, s2⟩ := gopen s
  obtain ⟨a, cap, rfl, _⟩ := s2.own_val
  refine eff_ldc (v := .slice a its.length cap) (by rw [cell_of s2.swap.look]; rfl) ?_
  simp
  refine loopI (fun env w' => ∃ (i : Nat) (v o : Value), env = [.pointer (some ⟨p, 0, none⟩), .slice none 0 0, v, o, .slice a its.length cap, .int .i64 its.length, .int .i64 i] ∧ i ≤ its.length ∧
      St w0 (A * pt p (.cells #[.int .i64 lim, .slice a its.length cap] 92 (0, 0)) * own 88 4 (.slice a its.length cap) its.length (flat its) * own 60 4 v i (flat (its.take i))) w')
    (fun env _ => its.length - slotN env 6) ⟨0, _, _, rfl, by omega, s2.own_nil _ _⟩ ?_
  rintro LQ env w' ⟨i, v, o, rfl, hi, s'⟩ hN hE hR
  simp
  refine cndI (fun h => ?_) (fun h => ?_)
  · simp at h
    obtain ⟨g, cap', hv, _, hc⟩ := s'.swap.own_at (by omega)
    cases hv
    simp [h]
    refine eff_ldcs (vs := its[i].cs) (fun j u hu => hc _ _ (flat_at h j u hu)) rfl ?_
    simp
    refine eff_new s' ?_
    intro b w1 s1
    simp
    refine eff_stA (vs := its[i].cs) s1 rfl rfl (cs_one _) (by simp) ?_
    intro w2 s2
    simp
    have s3 : St w0 (A * pt p (.cells #[.int .i64 lim, .slice (some ⟨g, 0, none⟩) its.length cap] 92 (0, 0)) * own 88 4 (.slice (some ⟨g, 0, none⟩) its.length cap) its.length (flat its) * own 60 4 v i (flat (its.take i)) * pt b (.cells its[i].cs.toArray 88 (0, 0))) w2 := by simpa using s2
    refine eff_ldcs (vs := its[i].cs) s3.row_cells rfl ?_
    simp
    refine eff_bslV s3 rfl ?_
    intro c w4 s4
    simp
    refine eff_app (m := 1) (news := its[i].cs) s4.p3 rfl s4.cells_look (cs_one _) (by decide) rfl (by unfold maxLen; omega) (by omega) ?_
    intro v' w5 s5
    simp
    try simp (disch := omega) only [wrap64]
    refine hN _ _ ⟨i + 1, v', _, by simp; exact rfl, by omega, ?_⟩ (by simp [slotN]; omega)
    have e : flat (its.take i) ++ its[i].cs = flat (its.take (i + 1)) := by rw [List.take_succ_eq_append_getElem h]; simp only [flat, List.flatMap_append, List.flatMap_cons, List.flatMap_nil, List.append_nil]
    rw [e] at s5
    exact s5.swap.drop.swap.drop
  · simp at h
    simp
    refine hE _ _ _ ?_
    simp
    have : i = its.length := by omega
    subst this
    rw [List.take_length] at s'
    exact (gclose s'.p3.p3).swap
theorem In1_spec (x : It) (q : Nat) (a : Int) (w0 w : World) (A : Asn) (s : St w0 (A * pt q (.cells #[.int .i64 a] 3 (0, 0))) w) :
    CallW Tryz.prog 87 [.agg x.cs.toArray, .pointer (some ⟨q, 0, none⟩)] (fun r w' => r = .bool (decide (0 < x.con) && decide (x.con = a)) ∧ St w0 (A * pt q (.cells #[.int .i64 a] 3 (0, 0))) w') w := by
  refine callW_of_lift l87_ok (by simp [l87]) ?_
  simp [l87]
  refine eff_box s ?_
  intro b w1 s1
  simp
  have hc : ∀ j u, x.cs[j]? = some u → w1.cell? ⟨b, 0 + j, none⟩ = some u := fun j u hu => by rw [cell_of s1.look]; simpa using hu
  refine eff_ldcs (vs := x.cs) hc rfl ?_
  simp
  refine eff_call ((held_spec x w0 w1 _ s1).mono ?_)
  rintro r w2 ⟨rfl, s2⟩
  have hc2 : w2.cell? ⟨b, 3, none⟩ = some (.int .i64 x.con) := by rw [cell_of s2.look]; rfl
  have hc3 : w2.cell? ⟨q, 0, none⟩ = some (.int .i64 a) := by rw [cell_of s2.swap.look]; rfl
  by_cases h : 0 < x.con
  · simp [h]
    refine eff_ldc hc2 ?_
    simp
    refine eff_ldc hc3 ?_
    simp
    exact s2.drop
  · simp [h]
    exact s2.drop
def ofF (its : List It) (a : Int) : List Int := (its.filter fun x => !decide (0 < x.con) && decide (x.acc = a)).map It.num
def inF (its : List It) (c : Int) : List Int := (its.filter fun x => decide (0 < x.con) && decide (x.con = c)).map It.num
def ints (l : List Int) : List Value := l.map (Value.int .i64)
theorem where_spec (p : Nat) (lim : Int) (its : List It) (f : FuncId) (q : Nat) (a : Int) (pred : It → Bool) (hb : hasBody Tryz.prog f = true)
    (hf : ∀ (x : It) (w0 w : World) (A : Asn), St w0 (A * pt q (.cells #[.int .i64 a] 3 (0, 0))) w → CallW Tryz.prog f [.agg x.cs.toArray, .pointer (some ⟨q, 0, none⟩)] (fun r w' => r = .bool (pred x) ∧ St w0 (A * pt q (.cells #[.int .i64 a] 3 (0, 0))) w') w)
    (w0 w : World) (A : Asn) (hl : its.length ≤ 1048576) (s : St w0 (A * gds p lim its * pt q (.cells #[.int .i64 a] 3 (0, 0))) w) :
    CallW Tryz.prog 86 [.pointer (some ⟨p, 0, none⟩), .func (.func f) #[] #[.pointer (some ⟨q, 0, none⟩)]]
      (fun r w' => St w0 (A * gds p lim its * own 3 1 r ((its.filter pred).map It.num).length (ints ((its.filter pred).map It.num))) w') w := by
  refine callW_of_lift l86_ok (by simp [l86]) ?_
  simp [l86]
  obtain ⟨v, s2⟩ := gopen s.swap
  obtain ⟨c, cap, rfl, _⟩ := s2.own_val
  refine eff_ldc (v := .slice c its.length cap) (by rw [cell_of s2.swap.look]; rfl) ?_
  simp
  refine loopI (fun env w' => ∃ (i : Nat) (v o : Value), env = [.pointer (some ⟨p, 0, none⟩), .func (.func f) #[] #[.pointer (some ⟨q, 0, none⟩)], .slice none 0 0, v, o, .slice c its.length cap, .int .i64 its.length, .int .i64 i] ∧ i ≤ its.length ∧
      St w0 (A * pt p (.cells #[.int .i64 lim, .slice c its.length cap] 92 (0, 0)) * own 88 4 (.slice c its.length cap) its.length (flat its) * own 3 1 v (((its.take i).filter pred).map It.num).length (ints (((its.take i).filter pred).map It.num)) * pt q (.cells #[.int .i64 a] 3 (0, 0))) w')
    (fun env _ => its.length - slotN env 7) ⟨0, _, _, rfl, by omega, ?_⟩ ?_
  · exact (s2.own_nil _ _).to (by simp [ints]; ac_rfl)
  rintro LQ env w' ⟨i, v, o, rfl, hi, s'⟩ hN hE hR
  simp
  refine cndI (fun h => ?_) (fun h => ?_)
  · simp at h
    obtain ⟨g, cap', hv, _, hc⟩ := s'.swap.drop.swap.own_at (by omega)
    cases hv
    simp [h]
    refine eff_ldcs (vs := its[i].cs) (fun j u hu => hc _ _ (flat_at h j u hu)) rfl ?_
    simp
    refine eff_new s' ?_
    intro b w1 s1
    simp
    refine eff_stA (vs := its[i].cs) s1 rfl rfl (cs_one _) (by simp) ?_
    intro w2 s2
    simp
    have s3 : St w0 (A * pt p (.cells #[.int .i64 lim, .slice (some ⟨g, 0, none⟩) its.length cap] 92 (0, 0)) * own 88 4 (.slice (some ⟨g, 0, none⟩) its.length cap) its.length (flat its) * own 3 1 v (((its.take i).filter pred).map It.num).length (ints (((its.take i).filter pred).map It.num)) * pt b (.cells its[i].cs.toArray 88 (0, 0)) * pt q (.cells #[.int .i64 a] 3 (0, 0))) w2 := by simpa using s2.swap
    refine eff_ldcs (vs := its[i].cs) s3.swap.row_cells rfl ?_
    simp
    refine eff_callv hb ((hf its[i] w0 w2 _ s3).mono ?_)
    rintro r w3 ⟨rfl, s4⟩
    have htake : its.take (i + 1) = its.take i ++ [its[i]] := List.take_succ_eq_append_getElem h
    simp
    refine cndI (fun hp => ?_) (fun hp => ?_)
    · have hp0 := hp
      simp
      refine eff_ldc (v := .int .i64 its[i].num) (by rw [cell_of s4.swap.look]; rfl) ?_
      simp
      refine eff_bsl1 s4 rfl ?_
      intro c1 w4 s5
      simp
      refine eff_app (m := 1) (news := [.int .i64 its[i].num]) (F := A * pt p (.cells #[.int .i64 lim, .slice (some ⟨g, 0, none⟩) its.length cap] 92 (0, 0)) * own 88 4 (.slice (some ⟨g, 0, none⟩) its.length cap) its.length (flat its) * pt b (.cells its[i].cs.toArray 88 (0, 0)) * pt q (.cells #[.int .i64 a] 3 (0, 0)) * pt c1 (.cells #[.int .i64 its[i].num] 3 (0, 0))) (s5.to (by ac_rfl)) rfl s5.cells_look (by simp [Value.oneCell']) (by decide) rfl ?_ ?_ ?_
      · have := List.length_filter_le pred (its.take i)
        simp only [List.length_map, List.length_take] at this ⊢
        unfold maxLen; omega
      · have := List.length_filter_le pred (its.take i)
        simp only [List.length_map, List.length_take] at this ⊢
        omega
      intro v' w5 s6
      simp
      try simp (disch := omega) only [wrap64]
      refine hN _ _ ⟨i + 1, v', _, by simp; exact rfl, by omega, ?_⟩ (by simp [slotN]; omega)
      refine St.cut (pt b (.cells its[i].cs.toArray 88 (0, 0)) * pt c1 (.cells #[.int .i64 its[i].num] 3 (0, 0))) s6 ?_
      rw [htake]
      simp only [List.filter_append, List.map_append, hp0, List.filter_cons_of_pos, List.filter_nil, List.map_cons, List.map_nil, ints, List.length_append, List.length_map, List.length_cons, List.length_nil]
      ac_rfl
    · have hp0 := hp
      simp
      try simp (disch := omega) only [wrap64]
      refine hN _ _ ⟨i + 1, v, _, by simp; exact rfl, by omega, ?_⟩ (by simp [slotN]; omega)
      refine St.cut (pt b (.cells its[i].cs.toArray 88 (0, 0))) s4 ?_
      rw [htake, List.filter_append, List.filter_cons_of_neg (by simp [hp0]), List.filter_nil, List.append_nil]
      ac_rfl
  · simp at h
    simp
    refine hE _ _ _ ?_
    simp
    have : i = its.length := by omega
    subst this
    rw [List.take_length] at s'
    exact ((gclose (A := A * own 3 1 v ((its.filter pred).map It.num).length (ints ((its.filter pred).map It.num))) (s'.drop.to (by ac_rfl))).swap).to (by simp)
theorem In_spec (p : Nat) (lim : Int) (its : List It) (a : Int) (w0 w : World) (A : Asn) (hl : its.length ≤ 1048576) (s : St w0 (A * gds p lim its) w) :
    CallW Tryz.prog 45 [.pointer (some ⟨p, 0, none⟩), .int .i64 a]
      (fun r w' => St w0 (A * gds p lim its * own 3 1 r (inF its a).length (ints (inF its a))) w') w := by
  refine callW_of_lift l45_ok (by simp [l45]) ?_
  simp [l45]
  refine eff_box s ?_
  intro q w1 s1
  simp
  refine eff_call ((where_spec p lim its 87 q a _ (by kernel_rfl) (fun x w0 w A s => In1_spec x q a w0 w A s) w0 w1 A hl s1).mono ?_)
  intro r w2 s2
  simp
  exact s2
end Go.HL.Gd

namespace Go.HL.Gd
open Go.HL Go.Proofs
set_option maxRecDepth 4000
set_option linter.unusedSimpArgs false
set_option linter.unusedVariables false
structure WF (its : List It) : Prop where
  num : ∀ (i : Nat) (h : i < its.length), its[i].num = i + 1
  kind : ∀ x ∈ its, 0 ≤ x.kind ∧ x.kind < 16
def ofP (a : Int) (x : It) : Bool := !decide (0 < x.con) && decide (x.acc = a)
def tally (l : List It) : List Int := (List.range 16).map fun (k : Nat) => ((l.filter fun x => decide (x.kind = (k : Int))).length : Int)
end Go.HL.Gd

namespace Go.HL.Gd
open Go.HL Go.Proofs
set_option maxRecDepth 4000
set_option linter.unusedSimpArgs false
set_option linter.unusedVariables false
theorem ints_at {l : List Int} {i : Nat} (h : i < l.length) : (ints l)[i]? = some (.int .i64 l[i]) := by simp [ints, h]
theorem itemT : IntStruct Tryz.prog 60 4 := ⟨by kernel_rfl, by kernel_rfl, by kernel_rfl, by kernel_rfl, by kernel_rfl⟩
theorem It.cs_holds (x : It) : holdsInts x.cs.toArray 0 [x.num, x.kind, x.acc, x.con] := by
  intro j u hu
  rw [Nat.zero_add]
  match j with
  | 0 => simpa [It.cs] using hu
  | 1 => simpa [It.cs] using hu
  | 2 => simpa [It.cs] using hu
  | 3 => simpa [It.cs] using hu
  | j + 4 => simp at hu
theorem It.list_eq (x y : It) : ([x.num, x.kind, x.acc, x.con] == [y.num, y.kind, y.acc, y.con]) = decide (x = y) := by
  cases x; cases y
  simp
  rw [Bool.eq_iff_iff]
  simp
end Go.HL.Gd

namespace Go.HL.Gd
open Go.HL Go.Proofs
set_option maxRecDepth 4000
set_option linter.unusedSimpArgs false
set_option linter.unusedVariables false
theorem flat_one (l : List It) : ∀ u ∈ flat l, u.oneCell' = true := by
  intro u hu
  obtain ⟨x, _, hx⟩ := List.mem_flatMap.1 hu
  exact cs_one x u hx
structure Ac where
  kind : Int
  a : Int
  b : Int
def Ac.cs (x : Ac) : List Value := [.int .i64 x.kind, .int .i64 x.a, .int .i64 x.b]
def actF (lim : Int) (its : List It) (x : Ac) : Int × List It :=
  if x.kind = 1 then (makeF lim its x.a x.b).2 else if x.kind = 2 then moveF its x.a x.b else if x.kind = 3 then holdF its x.a x.b else if x.kind = 4 then freeF its x.a x.b else (0, its)
def wantF (was : List It) (x : Ac) : Option (List It) :=
  if x.kind = 1 then some (was ++ [⟨was.length + 1, x.a, x.b, 0⟩])
  else if x.kind = 2 ∨ x.kind = 3 ∨ x.kind = 4 then
    if 1 ≤ x.a ∧ x.a ≤ was.length then
      if decide ((was.getD (x.a.toNat - 1) ⟨0, 0, 0, 0⟩).con ≠ 0) = decide (x.kind = 4) then
        some (was.set (x.a.toNat - 1) ⟨(was.getD (x.a.toNat - 1) ⟨0, 0, 0, 0⟩).num, (was.getD (x.a.toNat - 1) ⟨0, 0, 0, 0⟩).kind, if x.kind = 3 then -1 else x.b, if x.kind = 3 then x.b else 0⟩)
      else none
    else none
  else some was
def movedF (was now : List It) (x : Ac) : Bool := match wantF was x with
  | some l => now == l
  | none => false
end Go.HL.Gd

namespace Go.HL.Gd
open Go.HL Go.Proofs
set_option maxRecDepth 4000
set_option linter.unusedSimpArgs false
set_option linter.unusedVariables false
structure GI (lim : Int) (its : List It) : Prop extends WF its where
  len : (its.length : Int) ≤ lim
  lim : lim ≤ 512
  place : ∀ x ∈ its, (x.con = 0 ∧ 0 ≤ x.acc ∧ x.acc < 64) ∨ (0 < x.con ∧ x.acc = -1)
def seenF (its : List It) (n : Int) : Nat := (its.filter fun x => !decide (0 < x.con) && (decide (0 ≤ x.acc) && decide (x.acc < n))).length
def heldN (its : List It) : Nat := (its.filter fun x => decide (x.con ≠ 0)).length
theorem get_at {its : List It} {k : Nat} (h : k < its.length) : getF its ((k : Int) + 1) = (its[k], 0) := by
  unfold getF
  rw [if_pos (by omega)]
  have : ((k : Int) + 1).toNat - 1 = k := by omega
  simp [this, h]
end Go.HL.Gd

namespace Go.HL.Gd
open Go.HL Go.Proofs
set_option maxRecDepth 4000
set_option linter.unusedSimpArgs false
set_option linter.unusedVariables false
theorem gi_make {lim : Int} {its : List It} (hg : GI lim its) {k a : Int} (ha : accF a = true) (hk : kindF k = true) (hl : ¬ lim ≤ its.length) : GI lim (its ++ [⟨its.length + 1, k, a, 0⟩]) where
  num i h := by
    by_cases e : i < its.length
    · rw [List.getElem_append_left e]; exact hg.num i e
    · have : i = its.length := by simp at h; omega
      subst this
      simp
  kind x h := by
    rcases List.mem_append.1 h with h | h
    · exact hg.kind x h
    · have : x = ⟨its.length + 1, k, a, 0⟩ := by simpa using h
      subst this
      simpa [kindF] using hk
  len := by simp; omega
  lim := hg.lim
  place x h := by
    rcases List.mem_append.1 h with h | h
    · exact hg.place x h
    · have : x = ⟨its.length + 1, k, a, 0⟩ := by simpa using h
      subst this
      left
      simpa [accF] using ha
theorem gi_put {lim : Int} {its : List It} (hg : GI lim its) {item : Int} {held : Bool} {a c : Int} (hp : (c = 0 ∧ 0 ≤ a ∧ a < 64) ∨ (0 < c ∧ a = -1)) : GI lim (putF its item held a c).2 := by
  unfold putF
  split
  · rename_i hi
    split
    · have hlt : item.toNat - 1 < its.length := by omega
      have hgd : its.getD (item.toNat - 1) ⟨0, 0, 0, 0⟩ = its[item.toNat - 1] := by simp [hlt]
      rw [hgd]
      refine ⟨⟨fun i h => ?_, fun x hx => ?_⟩, by rw [List.length_set]; exact hg.len, hg.lim, fun x hx => ?_⟩
      · rw [List.length_set] at h
        rw [List.getElem_set]
        split
        · rename_i e; subst e; exact hg.num _ h
        · exact hg.num i h
      · rcases List.mem_or_eq_of_mem_set hx with h | rfl
        · exact hg.kind x h
        · exact hg.kind its[item.toNat - 1] (List.getElem_mem hlt)
      · rcases List.mem_or_eq_of_mem_set hx with h | rfl
        · exact hg.place x h
        · exact hp
    · exact hg
  · exact hg
theorem acc_iff (a : Int) : accF a = true ↔ 0 ≤ a ∧ a < 64 := by simp [accF]
theorem gi_act {lim : Int} {its : List It} (hg : GI lim its) (x : Ac) : GI lim (actF lim its x).2 := by
  unfold actF
  split
  · unfold makeF
    split
    · exact hg
    split
    · exact hg
    split
    · exact hg
    · rename_i h1 h2 h3
      exact gi_make hg (by simpa using h1) (by simpa using h2) h3
  split
  · unfold moveF
    split
    · rename_i h; exact gi_put hg (.inl ⟨rfl, (acc_iff _).1 h⟩)
    · exact hg
  split
  · unfold holdF
    split
    · exact hg
    · rename_i h; exact gi_put hg (.inr ⟨by omega, rfl⟩)
  split
  · unfold freeF
    split
    · rename_i h; exact gi_put hg (.inl ⟨rfl, (acc_iff _).1 h⟩)
    · exact hg
  · exact hg
def acs (l : List Ac) : List Value := l.flatMap Ac.cs
end Go.HL.Gd

namespace Go.HL.Gd
open Go.HL Go.Proofs
set_option maxRecDepth 4000
set_option linter.unusedSimpArgs false
set_option linter.unusedVariables false

def h100_0 : HC := (.seq (.reg (.eff (.bsl 88 0 4 #[] []) .nil (.eff (.app 90 90 88 4 32 (.agg #[(.int .i64 0), (.int .i64 0), (.int .i64 0), (.int .i64 0)])) (.cons (.bv 0) (.cons (.inp 0) .nil)) (.done [(1, (.bv 1))] none)))) .ret)
@[simp] theorem h100_0_wp : type_of% (@wpH h100_0 _ h100_0.eq_1) := wpH h100_0.eq_1
def h100_1 : HC := (.seq (.reg (.done [(1, (.cst (.slice none 0 0)))] none)) .ret)
@[simp] theorem h100_1_wp : type_of% (@wpH h100_1 _ h100_1.eq_1) := wpH h100_1.eq_1
def h100_2 : HC := (.seq (.br (.chk none (.eqNil false (.slice 88) (.slice none 0 0)) (.cons (.inp 0) .nil) (.done [] (some (.op (.eqNil false (.slice 88) (.slice none 0 0)) (.cons (.inp 0) .nil))))) h100_1 .skip) h100_0)
@[simp] theorem h100_2_wp : type_of% (@wpH h100_2 _ h100_2.eq_1) := wpH h100_2.eq_1
def l100 : Lifted := ⟨[0, 2], 8, [.slot 1], (.seq (.reg (.done [(1, (.cst (.slice none 0 0)))] none)) h100_2)⟩
theorem l100_ok : liftFn G1 100 400 = some l100 := by kernel_rfl

def h63_0 : HC := (.seq (.regq (some 2) (.chk none .chkp (.cons (.inp 0) .nil) (.chk none (.fld 0) (.cons (.op .chkp (.cons (.inp 0) .nil)) .nil) (.eff (.ld false 1) (.cons (.op (.fld 0) (.cons (.op .chkp (.cons (.inp 0) .nil)) .nil)) .nil) (.chk none .chkp (.cons (.inp 0) .nil) (.chk none (.fld 1) (.cons (.op .chkp (.cons (.inp 0) .nil)) .nil) (.eff (.ld false 1) (.cons (.op (.fld 1) (.cons (.op .chkp (.cons (.inp 0) .nil)) .nil)) .nil) (.eff (.call 100) (.cons (.bv 1) .nil) (.chk none (.build #[(.int .i64 0), (.slice none 0 0)] [(0, 1), (1, 1)] [0, 1]) (.cons (.bv 0) (.cons (.bv 2) .nil)) (.eff (.box 92) (.cons (.op (.build #[(.int .i64 0), (.slice none 0 0)] [(0, 1), (1, 1)] [0, 1]) (.cons (.bv 0) (.cons (.bv 2) .nil))) .nil) (.done [(1, (.bv 3))] none))))))))))) .ret)
@[simp] theorem h63_0_wp : type_of% (@wpH h63_0 _ h63_0.eq_1) := wpH h63_0.eq_1
def h63_1 : HC := (.seq (.reg (.done [(1, (.cst (.pointer none)))] none)) .ret)
@[simp] theorem h63_1_wp : type_of% (@wpH h63_1 _ h63_1.eq_1) := wpH h63_1.eq_1
def h63_2 : HC := (.seq (.br (.chk none (.eqNil false (.pointer 92) (.pointer none)) (.cons (.inp 0) .nil) (.done [] (some (.op (.eqNil false (.pointer 92) (.pointer none)) (.cons (.inp 0) .nil))))) h63_1 .skip) h63_0)
@[simp] theorem h63_2_wp : type_of% (@wpH h63_2 _ h63_2.eq_1) := wpH h63_2.eq_1
def l63 : Lifted := ⟨[0, 2], 16, [.slot 1], (.seq (.reg (.done [(1, (.cst (.pointer none)))] none)) h63_2)⟩
theorem l63_ok : liftFn G1 63 400 = some l63 := by kernel_rfl

def h7_0 : HC := (.seq (.reg (.done [(2, (.inp 4)), (3, (.cst (.int .i64 0)))] none)) .ret)
@[simp] theorem h7_0_wp : type_of% (@wpH h7_0 _ h7_0.eq_1) := wpH h7_0.eq_1
def h7_1 : HC := (.reg (.chk none (.bin .add) (.cons (.inp 11) (.cons (.cst (.int .i64 1)) .nil)) (.done [(11, (.op (.bin .add) (.cons (.inp 11) (.cons (.cst (.int .i64 1)) .nil))))] none)))
@[simp] theorem h7_1_wp : type_of% (@wpH h7_1 _ h7_1.eq_1) := wpH h7_1.eq_1
def h7_2 : HC := (.regq (some 2) (.chk none .chkp (.cons (.inp 4) .nil) (.chk none (.fld 1) (.cons (.op .chkp (.cons (.inp 4) .nil)) .nil) (.eff (.ld false 1) (.cons (.op (.fld 1) (.cons (.op .chkp (.cons (.inp 4) .nil)) .nil)) .nil) (.eff (.ld true 4) (.cons (.inp 8) .nil) (.eff (.bsl 88 1 4 #[(.int .i64 0), (.int .i64 0), (.int .i64 0), (.int .i64 0)] [0]) (.cons (.bv 1) .nil) (.eff (.app 90 90 88 4 32 (.agg #[(.int .i64 0), (.int .i64 0), (.int .i64 0), (.int .i64 0)])) (.cons (.bv 0) (.cons (.bv 2) .nil)) (.chk none .chkp (.cons (.inp 4) .nil) (.chk none (.fld 1) (.cons (.op .chkp (.cons (.inp 4) .nil)) .nil) (.eff (.st 1) (.cons (.op (.fld 1) (.cons (.op .chkp (.cons (.inp 4) .nil)) .nil)) (.cons (.bv 3) .nil)) (.done [] none)))))))))))
@[simp] theorem h7_2_wp : type_of% (@wpH h7_2 _ h7_2.eq_1) := wpH h7_2.eq_1
def h7_3 : HC := (.seq (.reg (.done [(2, (.cst (.pointer none))), (3, (.cst (.int .i64 151)))] none)) .ret)
@[simp] theorem h7_3_wp : type_of% (@wpH h7_3 _ h7_3.eq_1) := wpH h7_3.eq_1
def h7_4 : HC := (.seq (.reg (.done [(2, (.cst (.pointer none))), (3, (.cst (.int .i64 152)))] none)) .ret)
@[simp] theorem h7_4_wp : type_of% (@wpH h7_4 _ h7_4.eq_1) := wpH h7_4.eq_1
def h7_5 : HC := (.seq (.reg (.done [(2, (.cst (.pointer none))), (3, (.cst (.int .i64 2)))] none)) .ret)
@[simp] theorem h7_5_wp : type_of% (@wpH h7_5 _ h7_5.eq_1) := wpH h7_5.eq_1
def h7_6 : HC := (.cnd 12 h7_5 .skip)
@[simp] theorem h7_6_wp : type_of% (@wpH h7_6 _ h7_6.eq_1) := wpH h7_6.eq_1
def h7_7 : HC := (.reg (.eff (.ld true 4) (.cons (.inp 8) .nil) (.eff (.call 35) (.cons (.bv 0) .nil) (.chk none (.un .not) (.cons (.bv 1) .nil) (.bnd (.op (.un .not) (.cons (.bv 1) .nil)) (.chk (some ((.bv 2), true)) (.fld 0) (.cons (.inp 8) .nil) (.chk (some ((.bv 2), true)) (.fld 2) (.cons (.op (.fld 0) (.cons (.inp 8) .nil)) .nil) (.ite (.bv 2) true (.eff (.ld false 1) (.cons (.ite (.bv 2) true (.op (.fld 2) (.cons (.op (.fld 0) (.cons (.inp 8) .nil)) .nil)) (.cst (.tuple #[]))) .nil) (.chk none (.cal 36) (.cons (.bv 3) .nil) (.chk none (.un .not) (.cons (.op (.cal 36) (.cons (.bv 3) .nil)) .nil) (.isb none (.bv 2) (.done [(12, (.op (.un .not) (.cons (.op (.cal 36) (.cons (.bv 3) .nil)) .nil)))] none))))) (.isb none (.bv 2) (.done [(12, (.cst (.bool false)))] none))))))))))
@[simp] theorem h7_7_wp : type_of% (@wpH h7_7 _ h7_7.eq_1) := wpH h7_7.eq_1
def h7_8 : HC := (.cnd 12 .skip h7_7)
@[simp] theorem h7_8_wp : type_of% (@wpH h7_8 _ h7_8.eq_1) := wpH h7_8.eq_1
def h7_9 : HC := (.seq (.reg (.eff (.ld true 4) (.cons (.inp 8) .nil) (.eff (.call 35) (.cons (.bv 0) .nil) (.chk (some ((.bv 1), true)) (.fld 0) (.cons (.inp 8) .nil) (.chk (some ((.bv 1), true)) (.fld 2) (.cons (.op (.fld 0) (.cons (.inp 8) .nil)) .nil) (.ite (.bv 1) true (.eff (.ld false 1) (.cons (.ite (.bv 1) true (.op (.fld 2) (.cons (.op (.fld 0) (.cons (.inp 8) .nil)) .nil)) (.cst (.tuple #[]))) .nil) (.chk none (.bin .neq) (.cons (.bv 2) (.cons (.cst (.int .i64 (-1))) .nil)) (.isb none (.bv 1) (.done [(12, (.op (.bin .neq) (.cons (.bv 2) (.cons (.cst (.int .i64 (-1))) .nil))))] none)))) (.isb none (.bv 1) (.done [(12, (.cst (.bool false)))] none)))))))) h7_8)
@[simp] theorem h7_9_wp : type_of% (@wpH h7_9 _ h7_9.eq_1) := wpH h7_9.eq_1
def h7_10 : HC := (.seq (.cnd 12 .skip h7_9) h7_6)
@[simp] theorem h7_10_wp : type_of% (@wpH h7_10 _ h7_10.eq_1) := wpH h7_10.eq_1
def h7_11 : HC := (.seq (.reg (.chk none (.fld 0) (.cons (.inp 8) .nil) (.chk none (.fld 3) (.cons (.op (.fld 0) (.cons (.inp 8) .nil)) .nil) (.eff (.ld false 1) (.cons (.op (.fld 3) (.cons (.op (.fld 0) (.cons (.inp 8) .nil)) .nil)) .nil) (.chk none (.bin .lss) (.cons (.bv 0) (.cons (.cst (.int .i64 0)) .nil)) (.done [(12, (.op (.bin .lss) (.cons (.bv 0) (.cons (.cst (.int .i64 0)) .nil))))] none)))))) h7_10)
@[simp] theorem h7_11_wp : type_of% (@wpH h7_11 _ h7_11.eq_1) := wpH h7_11.eq_1
def h7_12 : HC := (.br (.chk none (.fld 0) (.cons (.inp 8) .nil) (.chk none (.fld 1) (.cons (.op (.fld 0) (.cons (.inp 8) .nil)) .nil) (.eff (.ld false 1) (.cons (.op (.fld 1) (.cons (.op (.fld 0) (.cons (.inp 8) .nil)) .nil)) .nil) (.chk none (.cal 34) (.cons (.bv 0) .nil) (.chk none (.un .not) (.cons (.op (.cal 34) (.cons (.bv 0) .nil)) .nil) (.done [] (some (.op (.un .not) (.cons (.op (.cal 34) (.cons (.bv 0) .nil)) .nil))))))))) h7_4 h7_11)
@[simp] theorem h7_12_wp : type_of% (@wpH h7_12 _ h7_12.eq_1) := wpH h7_12.eq_1
def h7_13 : HC := (.br (.chk none (.fld 0) (.cons (.inp 8) .nil) (.chk none (.fld 0) (.cons (.op (.fld 0) (.cons (.inp 8) .nil)) .nil) (.eff (.ld false 1) (.cons (.op (.fld 0) (.cons (.op (.fld 0) (.cons (.inp 8) .nil)) .nil)) .nil) (.chk none (.bin .add) (.cons (.inp 6) (.cons (.cst (.int .i64 1)) .nil)) (.chk none (.bin .neq) (.cons (.bv 0) (.cons (.op (.bin .add) (.cons (.inp 6) (.cons (.cst (.int .i64 1)) .nil))) .nil)) (.done [] (some (.op (.bin .neq) (.cons (.bv 0) (.cons (.op (.bin .add) (.cons (.inp 6) (.cons (.cst (.int .i64 1)) .nil))) .nil)))))))))) h7_3 h7_12)
@[simp] theorem h7_13_wp : type_of% (@wpH h7_13 _ h7_13.eq_1) := wpH h7_13.eq_1
def h7_14 : HC := (.seq (.block 2 h7_13) h7_2)
@[simp] theorem h7_14_wp : type_of% (@wpH h7_14 _ h7_14.eq_1) := wpH h7_14.eq_1
def h7_15 : HC := (.seq (.reg (.eff (.ld true 4) (.cons (.inp 7) .nil) (.chk none (.build #[(.int .i64 0), (.int .i64 0), (.int .i64 0), (.int .i64 0)] [(0, 4)] [0]) (.cons (.bv 0) .nil) (.eff (.new 88 (.agg #[(.int .i64 0), (.int .i64 0), (.int .i64 0), (.int .i64 0)])) .nil (.eff (.st 4) (.cons (.bv 1) (.cons (.op (.build #[(.int .i64 0), (.int .i64 0), (.int .i64 0), (.int .i64 0)] [(0, 4)] [0]) (.cons (.bv 0) .nil)) .nil)) (.done [(8, (.bv 1))] none)))))) h7_14)
@[simp] theorem h7_15_wp : type_of% (@wpH h7_15 _ h7_15.eq_1) := wpH h7_15.eq_1
def h7_16 : HC := (.seq (.reg (.chk none (.idxL 4) (.cons (.inp 9) (.cons (.inp 11) .nil)) (.eff (.ld true 4) (.cons (.op (.idxL 4) (.cons (.inp 9) (.cons (.inp 11) .nil))) .nil) (.eff (.new 60 (.agg #[(.int .i64 0), (.int .i64 0), (.int .i64 0), (.int .i64 0)])) .nil (.eff (.st 4) (.cons (.bv 1) (.cons (.bv 0) .nil)) (.done [(6, (.inp 11)), (7, (.bv 1))] none)))))) h7_15)
@[simp] theorem h7_16_wp : type_of% (@wpH h7_16 _ h7_16.eq_1) := wpH h7_16.eq_1
def h7_17 : HC := (.seq (.block 1 h7_16) h7_1)
@[simp] theorem h7_17_wp : type_of% (@wpH h7_17 _ h7_17.eq_1) := wpH h7_17.eq_1
def h7_18 : HC := (.seq (.br (.chk none (.bin .lss) (.cons (.inp 11) (.cons (.inp 10) .nil)) (.done [] (some (.op (.bin .lss) (.cons (.inp 11) (.cons (.inp 10) .nil)))))) .skip (.exit 0)) h7_17)
@[simp] theorem h7_18_wp : type_of% (@wpH h7_18 _ h7_18.eq_1) := wpH h7_18.eq_1
def h7_19 : HC := (.loop h7_18)
@[simp] theorem h7_19_wp : type_of% (@wpH h7_19 _ h7_19.eq_1) := wpH h7_19.eq_1
def h7_20 : HC := (.seq (.block 0 h7_19) h7_0)
@[simp] theorem h7_20_wp : type_of% (@wpH h7_20 _ h7_20.eq_1) := wpH h7_20.eq_1
def h7_21 : HC := (.seq (.reg (.chk none .lenL (.cons (.inp 1) .nil) (.done [(9, (.inp 1)), (10, (.op .lenL (.cons (.inp 1) .nil))), (11, (.cst (.int .i64 0)))] none))) h7_20)
@[simp] theorem h7_21_wp : type_of% (@wpH h7_21 _ h7_21.eq_1) := wpH h7_21.eq_1
def h7_22 : HC := (.seq (.reg (.done [(2, (.cst (.pointer none))), (3, (.cst (.int .i64 150)))] none)) .ret)
@[simp] theorem h7_22_wp : type_of% (@wpH h7_22 _ h7_22.eq_1) := wpH h7_22.eq_1
def h7_23 : HC := (.seq (.br (.chk none .lenL (.cons (.inp 1) .nil) (.chk none (.bin .gtr) (.cons (.op .lenL (.cons (.inp 1) .nil)) (.cons (.inp 0) .nil)) (.done [] (some (.op (.bin .gtr) (.cons (.op .lenL (.cons (.inp 1) .nil)) (.cons (.inp 0) .nil))))))) h7_22 .skip) h7_21)
@[simp] theorem h7_23_wp : type_of% (@wpH h7_23 _ h7_23.eq_1) := wpH h7_23.eq_1
def h7_24 : HC := (.seq (.reg (.done [(2, (.cst (.pointer none))), (3, (.inp 5))] none)) .ret)
@[simp] theorem h7_24_wp : type_of% (@wpH h7_24 _ h7_24.eq_1) := wpH h7_24.eq_1
def h7_25 : HC := (.seq (.br (.chk none (.bin .neq) (.cons (.inp 5) (.cons (.cst (.int .i64 0)) .nil)) (.done [] (some (.op (.bin .neq) (.cons (.inp 5) (.cons (.cst (.int .i64 0)) .nil)))))) h7_24 .skip) h7_23)
@[simp] theorem h7_25_wp : type_of% (@wpH h7_25 _ h7_25.eq_1) := wpH h7_25.eq_1
def h7_26 : HC := (.seq (.reg (.eff (.call 33) (.cons (.inp 0) .nil) (.chk none (.ext 0) (.cons (.bv 0) .nil) (.chk none (.ext 1) (.cons (.bv 0) .nil) (.done [(4, (.op (.ext 0) (.cons (.bv 0) .nil))), (5, (.op (.ext 1) (.cons (.bv 0) .nil)))] none))))) h7_25)
@[simp] theorem h7_26_wp : type_of% (@wpH h7_26 _ h7_26.eq_1) := wpH h7_26.eq_1
def l7 : Lifted := ⟨[0, 1, 4, 5, 6, 7, 8, 9, 10, 23, 24, 25, 45], 80, [.slot 2, .slot 3], (.seq (.reg (.done [(2, (.cst (.pointer none))), (3, (.cst (.int .i64 0)))] none)) h7_26)⟩
theorem l7_ok : liftFn G1 7 400 = some l7 := by kernel_rfl
theorem Clone_spec (v : Value) (its : List It) (w0 w : World) (A : Asn) (hl : its.length ≤ 1048576) (s : St w0 (A * own 88 4 v its.length (flat its)) w) :
    CallW Tryz.prog 100 [v] (fun r w' => St w0 (A * own 88 4 v its.length (flat its) * own 88 4 r its.length (flat its)) w') w := by
  obtain ⟨a, cap, rfl, hcap, _⟩ := s.own_val
  refine callW_of_lift l100_ok (by simp [l100]) ?_
  simp [l100]
  cases a with
  | none =>
    simp
    rcases s.own.2 with ⟨h, h0, _⟩ | ⟨_, _, _, h, _⟩
    · have hi : its = [] := List.eq_nil_of_length_eq_zero h0
      subst hi
      exact s.own_nil _ _
    · cases h
  | some a =>
    simp
    refine eff_bsl0 s ?_
    intro v0 w1 s1
    simp
    have hr : Row w0 (A * own 88 4 (.slice (some a) its.length cap) its.length (flat its) * own 88 4 v0 0 []) (.slice (some a) its.length cap) its.length 4 (flat its) := (row_own s).mono fun w s => s.drop
    refine eff_appR s1 hr (flat_one _) (by decide) rfl (by unfold maxLen; omega) (by omega) ?_
    intro v' w2 s2
    simp
    simpa using s2
theorem Copy_spec (p : Nat) (lim : Int) (its : List It) (w0 w : World) (A : Asn) (hl : its.length ≤ 1048576) (s : St w0 (A * gds p lim its) w) :
    CallW Tryz.prog 63 [.pointer (some ⟨p, 0, none⟩)] (fun r w' => ∃ q, r = .pointer (some ⟨q, 0, none⟩) ∧ St w0 (A * gds p lim its * gds q lim its) w') w := by
  refine callW_of_lift l63_ok (by simp [l63]) ?_
  simp [l63]
  obtain ⟨v, s1⟩ := gopen s
  obtain ⟨a, cap, rfl, _⟩ := s1.own_val
  have L : ∀ {B : Asn} {w : World}, St w0 (A * pt p (.cells #[.int .i64 lim, .slice a its.length cap] 92 (0, 0)) * B) w → w.cell? ⟨p, 0, none⟩ = some (.int .i64 lim) ∧ w.cell? ⟨p, 1, none⟩ = some (.slice a its.length cap) :=
    fun s => ⟨by rw [cell_of s.swap.look]; rfl, by rw [cell_of s.swap.look]; rfl⟩
  refine regmI (fun vs w => match vs with
    | [] => St w0 (A * pt p (.cells #[.int .i64 lim, .slice a its.length cap] 92 (0, 0)) * own 88 4 (.slice a its.length cap) its.length (flat its)) w
    | [r] => St w0 (A * pt p (.cells #[.int .i64 lim, .slice a its.length cap] 92 (0, 0)) * own 88 4 (.slice a its.length cap) its.length (flat its) * own 88 4 r its.length (flat its)) w
    | [r, q] => ∃ qb, q = .pointer (some ⟨qb, 0, none⟩) ∧ St w0 (A * pt p (.cells #[.int .i64 lim, .slice a its.length cap] 92 (0, 0)) * own 88 4 (.slice a its.length cap) its.length (flat its) * own 88 4 r its.length (flat its) * pt qb (.cells #[.int .i64 lim, r] 92 (0, 0))) w
    | _ => False) s1.drew ?_
  simp
  refine effm_ldc (v := .int .i64 lim) (fun vs' w he hw => ?_) ?_
  · match vs', hw with
    | [], hw => exact (L hw).1
    | [_], hw => exact (L hw.drop).1
    | [_, _], hw => simp [era] at he
  simp
  refine effm_ldc (v := .slice a its.length cap) (fun vs' w he hw => ?_) ?_
  · match vs', hw with
    | [], hw => exact (L hw).2
    | [_], hw => exact (L hw.drop).2
    | [_, _], hw => simp [era] at he
  simp
  refine effm_mv rfl (fun w hw => eff_call (Clone_spec _ its w0 w _ hl hw)) (fun r hr => ?_)
  simp
  obtain ⟨w5, hr⟩ := hr
  obtain ⟨ra, rcap, rfl, _⟩ := St.own_val hr
  simp [Instr.fill, Value.cells]
  refine effm_mv rfl (fun w hw => eff_box hw fun qb w' h => ⟨qb, rfl, h⟩) (fun q hq => ?_)
  simp
  rintro w6 x rfl h7
  refine ⟨x, rfl, ?_⟩
  have t1 := gclose (A := A * own 88 4 (.slice ra its.length rcap) its.length (flat its) * pt x (.cells #[.int .i64 lim, .slice ra its.length rcap] 92 (0, 0))) (lim := lim) (p := p) (its := its) (v := .slice a its.length cap) (h7.to (by ac_rfl))
  exact gclose (A := A * gds p lim its) (lim := lim) (p := x) (its := its) (v := .slice ra its.length rcap) (t1.to (by ac_rfl))
theorem fill_thing (x : It) : Instr.fill (fun i => ([(0, 4)] : List (Nat × Nat))[i]?) #[.int .i64 0, .int .i64 0, .int .i64 0, .int .i64 0] [(0, .agg x.cs.toArray)] = some x.cs.toArray := by
  cases x
  simp [Instr.fill, It.cs, Value.cells]
def itemE (i : Nat) (x : It) : Int := if x.num ≠ (i : Int) + 1 then 151 else if kindF x.kind = false then 152 else if x.con < 0 ∨ (0 < x.con ∧ x.acc ≠ -1) ∨ (¬ 0 < x.con ∧ accF x.acc = false) then 2 else 0
def scanE : Nat → List It → Int
  | _, [] => 0
  | i, x :: l => if itemE i x = 0 then scanE (i + 1) l else itemE i x
def loadE (lim : Int) (rows : List It) : Int := if 0 ≤ lim ∧ lim ≤ 512 then (if lim < rows.length then 150 else scanE 0 rows) else 2
theorem Load_spec (lim : Int) (rows : List It) (v : Value) (w0 w : World) (A : Asn) (hl : rows.length ≤ 1048576) (hrow : Row w0 A v rows.length 4 (flat rows)) (s : St w0 A w) :
    CallW Tryz.prog 7 [.int .i64 lim, v] (fun r w' => if loadE lim rows = 0 then ∃ p, r = .tuple #[.pointer (some ⟨p, 0, none⟩), .int .i64 0] ∧ St w0 (A * gds p lim rows) w' else r = .tuple #[.pointer none, .int .i64 (loadE lim rows)] ∧ St w0 A w') w := by
  obtain ⟨a, cap, rfl⟩ := hrow.val
  refine callW_of_lift l7_ok (by simp [l7]) ?_
  simp [l7]
  refine eff_call ((New_spec lim w0 w A s).mono ?_)
  intro r w1 h1
  by_cases h0 : 0 ≤ lim ∧ lim ≤ 512
  · rw [if_pos h0] at h1
    obtain ⟨p, rfl, s1⟩ := h1
    simp
    refine cndI (fun h2 => ?_) (fun h2 => ?_)
    · simp at h2
      have e : loadE lim rows = 150 := by unfold loadE; rw [if_pos h0, if_pos h2]
      simp [e]
      exact s1.drop
    simp at h2
    have e : loadE lim rows = scanE 0 rows := by unfold loadE; rw [if_pos h0, if_neg (by omega)]
    rw [e]
    simp
    have e0 : scanE 0 rows = scanE 0 (rows.drop 0) := rfl
    rw [e0]
    refine loopI (fun env w' => ∃ (i : Nat) (o6 o7 o8 o12 : Value), env = [.int .i64 lim, .slice a rows.length cap, .pointer none, .int .i64 0, .pointer (some ⟨p, 0, none⟩), .int .i64 0, o6, o7, o8, .slice a rows.length cap, .int .i64 rows.length, .int .i64 i, o12] ∧ i ≤ rows.length ∧ scanE 0 (rows.drop 0) = scanE i (rows.drop i) ∧
        St w0 (A * gds p lim (rows.take i)) w')
      (fun env _ => rows.length - slotN env 11) ⟨0, _, _, _, _, rfl, by omega, rfl, s1⟩ ?_
    rintro LQ env w' ⟨i, o6, o7, o8, o12, rfl, hi, hsc, s'⟩ hN hE hR
    simp
    refine cndI (fun h => ?_) (fun h => ?_)
    · simp at h
      have hcur : scanE i (rows.drop i) = if itemE i rows[i] = 0 then scanE (i + 1) (rows.drop (i + 1)) else itemE i rows[i] := by rw [List.drop_eq_getElem_cons h]; rfl
      obtain ⟨g, o, cap', hv, hc⟩ := hrow.at (by omega)
      cases hv
      simp [h]
      refine eff_ldcs (vs := rows[i].cs) (fun j u hu => by rw [Nat.add_assoc]; exact hc _ s'.drop _ _ (flat_at h j u hu)) rfl ?_
      simp
      refine eff_new s' ?_
      intro rb w2 s2
      simp
      refine eff_stA (vs := rows[i].cs) s2 rfl rfl (cs_one _) (by simp) ?_
      intro w3 s3
      simp
      have s4 : St w0 (A * gds p lim (rows.take i) * pt rb (.cells rows[i].cs.toArray 60 (0, 0))) w3 := by simpa using s3
      refine eff_ldcs (vs := rows[i].cs) s4.row_cells rfl ?_
      simp [fill_thing]
      refine eff_new s4 ?_
      intro tb w4 s5
      simp [fill_thing]
      refine eff_stA (vs := rows[i].cs) s5 rfl rfl (cs_one _) (by simp) ?_
      intro w5 s6
      simp
      have s7 : St w0 (A * gds p lim (rows.take i) * pt rb (.cells rows[i].cs.toArray 60 (0, 0)) * pt tb (.cells rows[i].cs.toArray 88 (0, 0))) w5 := by simpa using s6
      have c0 : ∀ {B : Asn} {w : World}, St w0 (B * pt tb (.cells rows[i].cs.toArray 88 (0, 0))) w → w.cell? ⟨tb, 0, none⟩ = some (.int .i64 rows[i].num) ∧ w.cell? ⟨tb, 1, none⟩ = some (.int .i64 rows[i].kind) ∧ w.cell? ⟨tb, 2, none⟩ = some (.int .i64 rows[i].acc) ∧ w.cell? ⟨tb, 3, none⟩ = some (.int .i64 rows[i].con) :=
        fun s => ⟨by rw [cell_of s.look]; rfl, by rw [cell_of s.look]; rfl, by rw [cell_of s.look]; rfl, by rw [cell_of s.look]; rfl⟩
      have hw1 : IntKind.i64.wrap ((i : Int) + 1) = (i : Int) + 1 := wrap64 (by omega) (by omega)
      refine eff_ldc (c0 s7).1 ?_
      simp [hw1]
      refine cndI (fun e1 => ?_) (fun e1 => ?_)
      · simp at e1
        have hE1 : itemE i rows[i] = 151 := by unfold itemE; rw [if_pos e1]
        simp
        refine hR _ _ ?_
        rw [hsc, hcur, hE1]
        simp
        exact s7.drop.drop.drop
      simp at e1
      simp
      refine eff_ldc (c0 s7).2.1 ?_
      simp
      refine cndI (fun e2 => ?_) (fun e2 => ?_)
      · simp at e2
        have hE1 : itemE i rows[i] = 152 := by unfold itemE; rw [if_neg (by omega), if_pos e2]
        simp
        refine hR _ _ ?_
        rw [hsc, hcur, hE1]
        simp
        exact s7.drop.drop.drop
      simp at e2
      simp
      refine eff_ldc (c0 s7).2.2.2 ?_
      simp
      have bad : ∀ w, St w0 (A * gds p lim (rows.take i) * pt rb (.cells rows[i].cs.toArray 60 (0, 0)) * pt tb (.cells rows[i].cs.toArray 88 (0, 0))) w → itemE i rows[i] = 2 →
          HC.wp G1 h7_6 (blockQ 2 (seqQ G1 h7_2 (blockQ 1 (seqQ G1 h7_1 LQ))))
            [.int .i64 lim, .slice (some ⟨g, o, none⟩) rows.length cap, .pointer none, .int .i64 0, .pointer (some ⟨p, 0, none⟩), .int .i64 0, .int .i64 i, .pointer (some ⟨rb, 0, none⟩), .pointer (some ⟨tb, 0, none⟩), .slice (some ⟨g, o, none⟩) rows.length cap, .int .i64 rows.length, .int .i64 i, .bool true] w := by
        intro w s hE1
        simp
        refine hR _ _ ?_
        rw [hsc, hcur, hE1]
        simp
        exact s.drop.drop.drop
      have good : ∀ w, St w0 (A * gds p lim (rows.take i) * pt rb (.cells rows[i].cs.toArray 60 (0, 0)) * pt tb (.cells rows[i].cs.toArray 88 (0, 0))) w → itemE i rows[i] = 0 →
          HC.wp G1 h7_6 (blockQ 2 (seqQ G1 h7_2 (blockQ 1 (seqQ G1 h7_1 LQ))))
            [.int .i64 lim, .slice (some ⟨g, o, none⟩) rows.length cap, .pointer none, .int .i64 0, .pointer (some ⟨p, 0, none⟩), .int .i64 0, .int .i64 i, .pointer (some ⟨rb, 0, none⟩), .pointer (some ⟨tb, 0, none⟩), .slice (some ⟨g, o, none⟩) rows.length cap, .int .i64 rows.length, .int .i64 i, .bool false] w := by
        intro w s hE1
        simp
        obtain ⟨v0, t⟩ := gopen (s.to (B := A * pt rb (.cells rows[i].cs.toArray 60 (0, 0)) * pt tb (.cells rows[i].cs.toArray 88 (0, 0)) * gds p lim (rows.take i)) (by ac_rfl))
        obtain ⟨va, vc, rfl, _⟩ := t.own_val
        have hti : (rows.take i).length = i := by rw [List.length_take]; omega
        generalize hT : rows.take i = T at t hti
        refine regmI (fun vs w => match vs with
          | [] => St w0 (A * pt rb (.cells rows[i].cs.toArray 60 (0, 0)) * pt tb (.cells rows[i].cs.toArray 88 (0, 0)) * pt p (.cells #[.int .i64 lim, .slice va T.length vc] 92 (0, 0)) * own 88 4 (.slice va T.length vc) T.length (flat T)) w
          | [sl] => ∃ c, sl = .slice (some ⟨c, 0, none⟩) 1 1 ∧ St w0 (A * pt rb (.cells rows[i].cs.toArray 60 (0, 0)) * pt tb (.cells rows[i].cs.toArray 88 (0, 0)) * pt p (.cells #[.int .i64 lim, .slice va T.length vc] 92 (0, 0)) * own 88 4 (.slice va T.length vc) T.length (flat T) * pt c (.cells rows[i].cs.toArray 88 (0, 0))) w
          | [sl, v'] => ∃ c, sl = .slice (some ⟨c, 0, none⟩) 1 1 ∧ St w0 (A * pt rb (.cells rows[i].cs.toArray 60 (0, 0)) * pt tb (.cells rows[i].cs.toArray 88 (0, 0)) * pt p (.cells #[.int .i64 lim, .slice va T.length vc] 92 (0, 0)) * pt c (.cells rows[i].cs.toArray 88 (0, 0)) * own 88 4 v' (T.length + 1) (flat T ++ rows[i].cs)) w
          | _ :: v' :: _ => ∃ c, St w0 (A * pt rb (.cells rows[i].cs.toArray 60 (0, 0)) * pt tb (.cells rows[i].cs.toArray 88 (0, 0)) * pt c (.cells rows[i].cs.toArray 88 (0, 0)) * own 88 4 v' (T.length + 1) (flat T ++ rows[i].cs) * pt p (.cells #[.int .i64 lim, v'] 92 (0, 0))) w) t.drew ?_
        simp
        refine effm_ldc (v := .slice va T.length vc) (fun vs' w he hw => ?_) ?_
        · match vs', hw with
          | [], hw => rw [cell_of (St.swap hw).look]; rfl
          | [_], ⟨c, _, hw⟩ => rw [cell_of (St.swap hw.drop).look]; rfl
          | [_, _], ⟨c, _, hw⟩ => rw [cell_of hw.drop.drop.look]; rfl
          | _ :: _ :: _ :: _, hw => simp [era] at he
        simp
        refine effm_ldcs (us := rows[i].cs) (off := 0) (fun vs' w he hw => ?_) rfl ?_
        · match vs', hw with
          | [], hw => exact (St.drop (St.drop hw)).row_cells
          | [_], ⟨c, _, hw⟩ => exact hw.drop.drop.drop.row_cells
          | [_, _], ⟨c, _, hw⟩ => exact hw.drop.drop.drop.row_cells
          | _ :: _ :: _ :: _, hw => simp [era] at he
        simp
        refine effm_mv rfl (fun w hw => eff_bslV hw rfl fun c w' h => ⟨c, rfl, h⟩) (fun sl hsl => ?_)
        obtain ⟨w7, c, rfl, _⟩ := hsl
        simp
        refine effm_mv rfl (fun w hw => ?_) (fun v' hv' => ?_)
        · obtain ⟨c', e, hw⟩ := hw
          cases e
          have hw' := hw.to (B := A * pt rb (.cells rows[i].cs.toArray 60 (0, 0)) * pt tb (.cells rows[i].cs.toArray 88 (0, 0)) * pt p (.cells #[.int .i64 lim, .slice va T.length vc] 92 (0, 0)) * pt c (.cells rows[i].cs.toArray 88 (0, 0)) * own 88 4 (.slice va T.length vc) T.length (flat T)) (by ac_rfl)
          exact eff_app (m := 1) (news := rows[i].cs) hw' rfl hw.cells_look (cs_one _) (by decide) rfl (by unfold maxLen; omega) (by omega) fun v'' w' h => ⟨c, rfl, h⟩
        obtain ⟨w8, c', _, hv'⟩ := hv'
        obtain ⟨na, nc, rfl, _⟩ := hv'.own_val
        simp
        refine effm_mv rfl (fun w hw => ?_) (fun u _ => ?_)
        · obtain ⟨c', e, hw⟩ := hw
          have hw' := hw.to (B := A * pt rb (.cells rows[i].cs.toArray 60 (0, 0)) * pt tb (.cells rows[i].cs.toArray 88 (0, 0)) * pt c' (.cells rows[i].cs.toArray 88 (0, 0)) * own 88 4 (.slice na (T.length + 1) nc) (T.length + 1) (flat T ++ rows[i].cs) * pt p (.cells #[.int .i64 lim, .slice va T.length vc] 92 (0, 0))) (by ac_rfl)
          exact eff_st1 hw' rfl (by simp) fun w' h => ⟨c', by simpa using h⟩
        simp
        intro w9 c9 h9
        try simp (disch := omega) only [wrap64]
        refine hN _ _ ⟨i + 1, _, _, _, _, by simp; exact ⟨rfl, rfl, rfl, rfl⟩, by omega, ?_, ?_⟩ (by simp [slotN]; omega)
        · rw [hsc, hcur, if_pos hE1]
        · have htake : rows.take (i + 1) = T ++ [rows[i]] := by rw [← hT]; exact List.take_succ_eq_append_getElem h
          have e9 : flat T ++ rows[i].cs = flat (rows.take (i + 1)) := by rw [htake]; simp only [flat, List.flatMap_append, List.flatMap_cons, List.flatMap_nil, List.append_nil]
          have hl9 : T.length + 1 = (rows.take (i + 1)).length := by rw [htake]; simp
          rw [e9, hl9] at h9
          refine gclose (v := .slice na (rows.take (i + 1)).length nc) ?_
          exact St.cut (pt rb (.cells rows[i].cs.toArray 60 (0, 0)) * pt tb (.cells rows[i].cs.toArray 88 (0, 0)) * pt c9 (.cells rows[i].cs.toArray 88 (0, 0))) h9 (by ac_rfl)
      refine cndI (fun e3 => ?_) (fun e3 => ?_)
      · simp at e3
        have hE1 : itemE i rows[i] = 2 := by unfold itemE; rw [if_neg (by omega), if_neg (by simp [e2]), if_pos (.inl e3)]
        have := bad w5 s7 hE1
        simp at this
        simpa [e3] using this
      simp at e3
      simp
      refine eff_ldcs (vs := rows[i].cs) s7.row_cells rfl ?_
      simp
      refine eff_call ((held_spec rows[i] w0 w5 _ s7).mono ?_)
      rintro r w6 ⟨rfl, s8⟩
      simp
      by_cases hc0 : 0 < rows[i].con
      · simp [hc0]
        refine eff_ldc (c0 s8).2.2.1 ?_
        simp
        refine cndI (fun e4 => ?_) (fun e4 => ?_)
        · simp at e4
          have hE1 : itemE i rows[i] = 2 := by unfold itemE; rw [if_neg (by omega), if_neg (by simp [e2]), if_pos (.inr (.inl ⟨hc0, e4⟩))]
          have := bad w6 s8 hE1
          simp at this
          simpa [e4] using this
        · simp at e4
          have hE1 : itemE i rows[i] = 0 := by
            unfold itemE; rw [if_neg (by omega), if_neg (by simp [e2]), if_neg]
            rintro (h' | ⟨_, h'⟩ | ⟨h', _⟩) <;> omega
          simp
          refine eff_ldcs (vs := rows[i].cs) s8.row_cells rfl ?_
          simp
          refine eff_call ((held_spec rows[i] w0 w6 _ s8).mono ?_)
          rintro r w7 ⟨rfl, s9⟩
          simp [hc0]
          have := good w7 s9 hE1
          simp at this
          simpa using this
      · simp [hc0]
        refine eff_ldcs (vs := rows[i].cs) s8.row_cells rfl ?_
        simp
        refine eff_call ((held_spec rows[i] w0 w6 _ s8).mono ?_)
        rintro r w7 ⟨rfl, s9⟩
        simp [hc0]
        refine eff_ldc (c0 s9).2.2.1 ?_
        cases hac : accF rows[i].acc with
        | true =>
          have hE1 : itemE i rows[i] = 0 := by
            unfold itemE; rw [if_neg (by omega), if_neg (by simp [e2]), if_neg]
            rintro (h' | ⟨h', _⟩ | ⟨_, h'⟩)
            · omega
            · omega
            · rw [hac] at h'; cases h'
          simp [hac]
          have := good w7 s9 hE1
          simp at this
          simpa using this
        | false =>
          have hE1 : itemE i rows[i] = 2 := by
            unfold itemE; rw [if_neg (by omega), if_neg (by simp [e2]), if_pos (.inr (.inr ⟨hc0, hac⟩))]
          simp [hac]
          have := bad w7 s9 hE1
          simp at this
          simpa using this
    · simp at h
      simp
      refine hE _ _ _ ?_
      have e : i = rows.length := by omega
      subst e
      rw [hsc]
      simp [scanE]
      rw [List.take_length] at s'
      exact s'
  · rw [if_neg h0] at h1
    obtain ⟨rfl, s1⟩ := h1
    have e : loadE lim rows = 2 := by unfold loadE; rw [if_neg h0]
    simp [e]
    exact s1
end Go.HL.Gd
