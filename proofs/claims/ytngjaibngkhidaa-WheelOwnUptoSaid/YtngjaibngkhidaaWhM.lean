/-
  Wheel: find, Place, When. No condition.
-/
import Derived.Test.YtngjaibngkhidaaWhL
namespace Go.HL.Wh
open Go.HL Go.Proofs
set_option maxRecDepth 4000
set_option linter.unusedSimpArgs false
set_option linter.unusedVariables false
-- (*bazaar/wheel.Wheel).find
def h35_0 : HC := (.seq (.reg (.chk none .chkp (.cons (.inp 0) .nil) (.chk none (.fld 2) (.cons (.op .chkp (.cons (.inp 0) .nil)) .nil) (.eff (.ld false 1) (.cons (.op (.fld 2) (.cons (.op .chkp (.cons (.inp 0) .nil)) .nil)) .nil) (.eff (.look 72 false) (.cons (.bv 0) (.cons (.inp 1) .nil)) (.chk none .chkp (.cons (.bv 1) .nil) (.eff (.ld true 4) (.cons (.op .chkp (.cons (.bv 1) .nil)) .nil) (.eff (.st 4) (.cons (.inp 2) (.cons (.bv 2) .nil)) (.done [(3, (.cst (.int .i64 0)))] none))))))))) .ret)
@[simp] theorem h35_0_wp {P : Program} {F : PF P} {Q : EX → List Value → World → Prop} {env : List Value} {w : World} : h35_0.wp F Q env w = HC.wp F (.seq (.reg (.chk none .chkp (.cons (.inp 0) .nil) (.chk none (.fld 2) (.cons (.op .chkp (.cons (.inp 0) .nil)) .nil) (.eff (.ld false 1) (.cons (.op (.fld 2) (.cons (.op .chkp (.cons (.inp 0) .nil)) .nil)) .nil) (.eff (.look 72 false) (.cons (.bv 0) (.cons (.inp 1) .nil)) (.chk none .chkp (.cons (.bv 1) .nil) (.eff (.ld true 4) (.cons (.op .chkp (.cons (.bv 1) .nil)) .nil) (.eff (.st 4) (.cons (.inp 2) (.cons (.bv 2) .nil)) (.done [(3, (.cst (.int .i64 0)))] none))))))))) .ret) Q env w := rfl
def h35_1 : HC := (.seq (.reg (.chk none (.build #[(.int .i64 0), (.int .i64 0), (.int .i64 0), (.int .i64 0)] [(0, 2), (2, 1), (3, 1)] []) .nil (.eff (.st 4) (.cons (.inp 2) (.cons (.op (.build #[(.int .i64 0), (.int .i64 0), (.int .i64 0), (.int .i64 0)] [(0, 2), (2, 1), (3, 1)] []) .nil) .nil)) (.done [(3, (.cst (.int .i64 1)))] none)))) .ret)
@[simp] theorem h35_1_wp {P : Program} {F : PF P} {Q : EX → List Value → World → Prop} {env : List Value} {w : World} : h35_1.wp F Q env w = HC.wp F (.seq (.reg (.chk none (.build #[(.int .i64 0), (.int .i64 0), (.int .i64 0), (.int .i64 0)] [(0, 2), (2, 1), (3, 1)] []) .nil (.eff (.st 4) (.cons (.inp 2) (.cons (.op (.build #[(.int .i64 0), (.int .i64 0), (.int .i64 0), (.int .i64 0)] [(0, 2), (2, 1), (3, 1)] []) .nil) .nil)) (.done [(3, (.cst (.int .i64 1)))] none)))) .ret) Q env w := rfl
def h35_2 : HC := (.seq (.reg (.chk none (.build #[(.int .i64 0), (.int .i64 0), (.int .i64 0), (.int .i64 0)] [(0, 2), (2, 1), (3, 1)] []) .nil (.eff (.st 4) (.cons (.inp 2) (.cons (.op (.build #[(.int .i64 0), (.int .i64 0), (.int .i64 0), (.int .i64 0)] [(0, 2), (2, 1), (3, 1)] []) .nil) .nil)) (.done [(3, (.cst (.int .i64 93)))] none)))) .ret)
@[simp] theorem h35_2_wp {P : Program} {F : PF P} {Q : EX → List Value → World → Prop} {env : List Value} {w : World} : h35_2.wp F Q env w = HC.wp F (.seq (.reg (.chk none (.build #[(.int .i64 0), (.int .i64 0), (.int .i64 0), (.int .i64 0)] [(0, 2), (2, 1), (3, 1)] []) .nil (.eff (.st 4) (.cons (.inp 2) (.cons (.op (.build #[(.int .i64 0), (.int .i64 0), (.int .i64 0), (.int .i64 0)] [(0, 2), (2, 1), (3, 1)] []) .nil) .nil)) (.done [(3, (.cst (.int .i64 93)))] none)))) .ret) Q env w := rfl
def h35_3 : HC := (.br (.chk none .chkp (.cons (.inp 0) .nil) (.chk none (.fld 2) (.cons (.op .chkp (.cons (.inp 0) .nil)) .nil) (.eff (.ld false 1) (.cons (.op (.fld 2) (.cons (.op .chkp (.cons (.inp 0) .nil)) .nil)) .nil) (.eff (.look 72 false) (.cons (.bv 0) (.cons (.inp 1) .nil)) (.chk none (.eqNil false (.pointer 79) (.pointer none)) (.cons (.bv 1) .nil) (.done [] (some (.op (.eqNil false (.pointer 79) (.pointer none)) (.cons (.bv 1) .nil))))))))) h35_2 .skip)
@[simp] theorem h35_3_wp {P : Program} {F : PF P} {Q : EX → List Value → World → Prop} {env : List Value} {w : World} : h35_3.wp F Q env w = HC.wp F (.br (.chk none .chkp (.cons (.inp 0) .nil) (.chk none (.fld 2) (.cons (.op .chkp (.cons (.inp 0) .nil)) .nil) (.eff (.ld false 1) (.cons (.op (.fld 2) (.cons (.op .chkp (.cons (.inp 0) .nil)) .nil)) .nil) (.eff (.look 72 false) (.cons (.bv 0) (.cons (.inp 1) .nil)) (.chk none (.eqNil false (.pointer 79) (.pointer none)) (.cons (.bv 1) .nil) (.done [] (some (.op (.eqNil false (.pointer 79) (.pointer none)) (.cons (.bv 1) .nil))))))))) h35_2 .skip) Q env w := rfl
def h35_4 : HC := (.br (.chk none (.eqNil false (.pointer 76) (.pointer none)) (.cons (.inp 0) .nil) (.done [] (some (.op (.eqNil false (.pointer 76) (.pointer none)) (.cons (.inp 0) .nil))))) h35_1 h35_3)
@[simp] theorem h35_4_wp {P : Program} {F : PF P} {Q : EX → List Value → World → Prop} {env : List Value} {w : World} : h35_4.wp F Q env w = HC.wp F (.br (.chk none (.eqNil false (.pointer 76) (.pointer none)) (.cons (.inp 0) .nil) (.done [] (some (.op (.eqNil false (.pointer 76) (.pointer none)) (.cons (.inp 0) .nil))))) h35_1 h35_3) Q env w := rfl
def h35_5 : HC := (.seq (.block 0 h35_4) h35_0)
@[simp] theorem h35_5_wp {P : Program} {F : PF P} {Q : EX → List Value → World → Prop} {env : List Value} {w : World} : h35_5.wp F Q env w = HC.wp F (.seq (.block 0 h35_4) h35_0) Q env w := rfl
def l35 : Lifted := ⟨[0, 1, 4, 5], 27, [.cell 2 true 4, .slot 3], (.seq (.reg (.eff (.new 79 (.agg #[(.int .i64 0), (.int .i64 0), (.int .i64 0), (.int .i64 0)])) .nil (.done [(2, (.bv 0)), (3, (.cst (.int .i64 0)))] none))) h35_5)⟩
theorem l35_ok : liftFn U2 35 400 = some l35 := by kernel_rfl

-- (*bazaar/wheel.Wheel).Place
def h25_0 : HC := (.seq (.regq (some 0) (.chk none (.fld 2) (.cons (.inp 5) .nil) (.eff (.ld false 1) (.cons (.op (.fld 2) (.cons (.inp 5) .nil)) .nil) (.chk none (.fld 3) (.cons (.inp 5) .nil) (.eff (.ld false 1) (.cons (.op (.fld 3) (.cons (.inp 5) .nil)) .nil) (.done [(2, (.bv 0)), (3, (.bv 1)), (4, (.inp 6))] none)))))) .ret)
@[simp] theorem h25_0_wp {P : Program} {F : PF P} {Q : EX → List Value → World → Prop} {env : List Value} {w : World} : h25_0.wp F Q env w = HC.wp F (.seq (.regq (some 0) (.chk none (.fld 2) (.cons (.inp 5) .nil) (.eff (.ld false 1) (.cons (.op (.fld 2) (.cons (.inp 5) .nil)) .nil) (.chk none (.fld 3) (.cons (.inp 5) .nil) (.eff (.ld false 1) (.cons (.op (.fld 3) (.cons (.inp 5) .nil)) .nil) (.done [(2, (.bv 0)), (3, (.bv 1)), (4, (.inp 6))] none)))))) .ret) Q env w := rfl
def h25_1 : HC := (.seq (.reg (.eff (.call 35) (.cons (.inp 0) (.cons (.inp 1) .nil)) (.chk none (.ext 0) (.cons (.bv 0) .nil) (.chk none (.ext 1) (.cons (.bv 0) .nil) (.eff (.new 79 (.agg #[(.int .i64 0), (.int .i64 0), (.int .i64 0), (.int .i64 0)])) .nil (.eff (.st 4) (.cons (.bv 1) (.cons (.op (.ext 0) (.cons (.bv 0) .nil)) .nil)) (.done [(5, (.bv 1)), (6, (.op (.ext 1) (.cons (.bv 0) .nil)))] none))))))) h25_0)
@[simp] theorem h25_1_wp {P : Program} {F : PF P} {Q : EX → List Value → World → Prop} {env : List Value} {w : World} : h25_1.wp F Q env w = HC.wp F (.seq (.reg (.eff (.call 35) (.cons (.inp 0) (.cons (.inp 1) .nil)) (.chk none (.ext 0) (.cons (.bv 0) .nil) (.chk none (.ext 1) (.cons (.bv 0) .nil) (.eff (.new 79 (.agg #[(.int .i64 0), (.int .i64 0), (.int .i64 0), (.int .i64 0)])) .nil (.eff (.st 4) (.cons (.bv 1) (.cons (.op (.ext 0) (.cons (.bv 0) .nil)) .nil)) (.done [(5, (.bv 1)), (6, (.op (.ext 1) (.cons (.bv 0) .nil)))] none))))))) h25_0) Q env w := rfl
def l25 : Lifted := ⟨[0, 1, 4, 5, 6, 7, 8], 20, [.slot 2, .slot 3, .slot 4], (.seq (.reg (.done [(2, (.cst (.int .i64 0))), (3, (.cst (.int .i64 0))), (4, (.cst (.int .i64 0)))] none)) h25_1)⟩
theorem l25_ok : liftFn U2 25 400 = some l25 := by kernel_rfl

-- (*bazaar/wheel.Wheel).When
def h42_0 : HC := (.seq (.reg (.chk none (.fld 0) (.cons (.inp 4) .nil) (.chk none (.fld 1) (.cons (.op (.fld 0) (.cons (.inp 4) .nil)) .nil) (.eff (.ld false 1) (.cons (.op (.fld 1) (.cons (.op (.fld 0) (.cons (.inp 4) .nil)) .nil)) .nil) (.done [(2, (.bv 0)), (3, (.inp 5))] none))))) .ret)
@[simp] theorem h42_0_wp {P : Program} {F : PF P} {Q : EX → List Value → World → Prop} {env : List Value} {w : World} : h42_0.wp F Q env w = HC.wp F (.seq (.reg (.chk none (.fld 0) (.cons (.inp 4) .nil) (.chk none (.fld 1) (.cons (.op (.fld 0) (.cons (.inp 4) .nil)) .nil) (.eff (.ld false 1) (.cons (.op (.fld 1) (.cons (.op (.fld 0) (.cons (.inp 4) .nil)) .nil)) .nil) (.done [(2, (.bv 0)), (3, (.inp 5))] none))))) .ret) Q env w := rfl
def h42_1 : HC := (.seq (.reg (.eff (.call 35) (.cons (.inp 0) (.cons (.inp 1) .nil)) (.chk none (.ext 0) (.cons (.bv 0) .nil) (.chk none (.ext 1) (.cons (.bv 0) .nil) (.eff (.new 79 (.agg #[(.int .i64 0), (.int .i64 0), (.int .i64 0), (.int .i64 0)])) .nil (.eff (.st 4) (.cons (.bv 1) (.cons (.op (.ext 0) (.cons (.bv 0) .nil)) .nil)) (.done [(4, (.bv 1)), (5, (.op (.ext 1) (.cons (.bv 0) .nil)))] none))))))) h42_0)
@[simp] theorem h42_1_wp {P : Program} {F : PF P} {Q : EX → List Value → World → Prop} {env : List Value} {w : World} : h42_1.wp F Q env w = HC.wp F (.seq (.reg (.eff (.call 35) (.cons (.inp 0) (.cons (.inp 1) .nil)) (.chk none (.ext 0) (.cons (.bv 0) .nil) (.chk none (.ext 1) (.cons (.bv 0) .nil) (.eff (.new 79 (.agg #[(.int .i64 0), (.int .i64 0), (.int .i64 0), (.int .i64 0)])) .nil (.eff (.st 4) (.cons (.bv 1) (.cons (.op (.ext 0) (.cons (.bv 0) .nil)) .nil)) (.done [(4, (.bv 1)), (5, (.op (.ext 1) (.cons (.bv 0) .nil)))] none))))))) h42_0) Q env w := rfl
def l42 : Lifted := ⟨[0, 1, 4, 5, 6, 7], 18, [.slot 2, .slot 3], (.seq (.reg (.done [(2, (.cst (.int .i64 0))), (3, (.cst (.int .i64 0)))] none)) h42_1)⟩
theorem l42_ok : liftFn U2 42 400 = some l42 := by kernel_rfl


def fnd (ts : List Tm) (n : Int) : Option Tm := ts.find? fun t => decide (t.n = n)
def fcs : Option Tm → List Value
  | none => [.int .i64 0, .int .i64 0, .int .i64 0, .int .i64 0]
  | some t => t.cs
def fer : Option Tm → Int
  | none => 93
  | some _ => 0
theorem fcs_one (o : Option Tm) : ∀ u ∈ fcs o, u.oneCell' = true := fun u hu => by
  cases o with
  | none => simp [fcs] at hu; subst hu; rfl
  | some t => simp [fcs] at hu; rcases hu with rfl | rfl | rfl | rfl <;> rfl
theorem fcs_len (o : Option Tm) : (fcs o).length = 4 := by cases o <;> rfl
theorem find_spec (p now mv : Nat) (ts : List Tm) (n : Int) (w0 w : World) (A : Asn) (s : St w0 (A * whl p now mv ts) w) :
    CallW Try.prog 35 [.pointer (some ⟨p, 0, none⟩), .int .i64 n] (fun r w' => r = .tuple #[.agg (fcs (fnd ts n)).toArray, .int .i64 (fer (fnd ts n))] ∧ St w0 (A * whl p now mv ts) w') w := by
  refine callW_of_lift l35_ok (by simp [l35]) ?_
  simp [l35]
  refine eff_new s ?_
  intro b w1 s1
  simp
  obtain ⟨am, aes, ac, Y, hok, t1⟩ := wopen s1.swap
  refine eff_ldc (v := .map (some am)) (t1.row_cells 2 _ rfl) ?_
  simp
  refine eff_lookI hungI t1.drop.look ?_
  rw [getI_alls hok.alls, show (ts.find? fun t => decide (t.n = n)) = fnd ts n from rfl]
  have one : ∀ o : Option Tm, ∀ u ∈ fcs o, u.oneCell' = true := fun o u hu => by
    cases o with
    | none => simp [fcs] at hu; subst hu; rfl
    | some t => simp [fcs] at hu; rcases hu with rfl | rfl | rfl | rfl <;> rfl
  cases hf : fnd ts n with
  | none =>
    simp [Instr.fill, Value.cells]
    refine eff_stA (vs := fcs none) s1 rfl rfl (one none) (by simp) ?_
    intro w2 s3
    simp
    have s4 : St w0 (A * whl p now mv ts * pt b (.cells (fcs none).toArray 79 (0, 0))) w2 := by simpa [fcs] using s3
    refine rv_cellA (vs := fcs none) rfl s4.row_cells rfl ?_
    simp [fer]
    exact s4.drop
  | some t =>
    simp
    refine eff_ldc (v := .map (some am)) (t1.row_cells 2 _ rfl) ?_
    simp
    refine eff_lookI hungI t1.drop.look ?_
    rw [getI_alls hok.alls, show (ts.find? fun t => decide (t.n = n)) = fnd ts n from rfl, hf]
    simp
    have ht : t ∈ ts := List.mem_of_find?_eq_some hf
    have t2 := t1
    rw [hungA_off hok.num ht] at t2
    have t3 : St w0 (A * pt b _ * hungA (offT ts t.n) * bigA slA Y 257 * imap am aes ac * wc p now mv am Y * tmA t) w1 := t2.to (by ac_rfl)
    refine eff_ldcs (vs := t.cs) (fun j u hu => t3.row_cells j u hu) rfl ?_
    simp
    refine eff_stA (vs := fcs (some t)) s1 rfl rfl (one (some t)) (by simp) ?_
    intro w2 s3
    simp
    have s4 : St w0 (A * whl p now mv ts * pt b (.cells (fcs (some t)).toArray 79 (0, 0))) w2 := by simpa [fcs] using s3
    refine rv_cellA (vs := fcs (some t)) rfl s4.row_cells rfl ?_
    simp [fer]
    exact s4.drop
def fat : Option Tm → Nat
  | none => 0
  | some t => t.a
def fpl : Option Tm → Nat × Nat
  | none => (0, 0)
  | some t => (t.l, t.s)
theorem When_spec (p now mv : Nat) (ts : List Tm) (n : Int) (w0 w : World) (A : Asn) (s : St w0 (A * whl p now mv ts) w) :
    CallW Try.prog 42 [.pointer (some ⟨p, 0, none⟩), .int .i64 n] (fun r w' => r = .tuple #[.int .i64 (fat (fnd ts n)), .int .i64 (fer (fnd ts n))] ∧ St w0 (A * whl p now mv ts) w') w := by
  refine callW_of_lift l42_ok (by simp [l42]) ?_
  simp [l42]
  refine eff_call ((find_spec p now mv ts n w0 w A s).mono ?_)
  rintro r w1 ⟨rfl, s1⟩
  simp
  refine eff_new s1 ?_
  intro b w2 s2
  simp
  refine eff_stA (vs := fcs (fnd ts n)) s2 rfl (fcs_len _) (fcs_one _) (by simp) ?_
  intro w3 s3
  have s4 : St w0 (A * whl p now mv ts * pt b (.cells (fcs (fnd ts n)).toArray 79 (0, 0))) w3 := by simpa [fcs_len] using s3
  simp
  have h1 : (fcs (fnd ts n))[1]? = some (.int .i64 (fat (fnd ts n))) := by cases fnd ts n <;> rfl
  refine eff_ldc (v := .int .i64 (fat (fnd ts n))) (by have := s4.row_cells 1 _ h1; exact this) ?_
  simp
  exact s4.drop
theorem Place_spec (p now mv : Nat) (ts : List Tm) (n : Int) (w0 w : World) (A : Asn) (s : St w0 (A * whl p now mv ts) w) :
    CallW Try.prog 25 [.pointer (some ⟨p, 0, none⟩), .int .i64 n] (fun r w' => r = .tuple #[.int .i64 (fpl (fnd ts n)).1, .int .i64 (fpl (fnd ts n)).2, .int .i64 (fer (fnd ts n))] ∧ St w0 (A * whl p now mv ts) w') w := by
  refine callW_of_lift l25_ok (by simp [l25]) ?_
  simp [l25]
  refine eff_call ((find_spec p now mv ts n w0 w A s).mono ?_)
  rintro r w1 ⟨rfl, s1⟩
  simp
  refine eff_new s1 ?_
  intro b w2 s2
  simp
  refine eff_stA (vs := fcs (fnd ts n)) s2 rfl (fcs_len _) (fcs_one _) (by simp) ?_
  intro w3 s3
  have s4 : St w0 (A * whl p now mv ts * pt b (.cells (fcs (fnd ts n)).toArray 79 (0, 0))) w3 := by simpa [fcs_len] using s3
  simp
  have h2 : (fcs (fnd ts n))[2]? = some (.int .i64 ((fpl (fnd ts n)).1 : Nat)) := by cases fnd ts n <;> rfl
  have h3 : (fcs (fnd ts n))[3]? = some (.int .i64 ((fpl (fnd ts n)).2 : Nat)) := by cases fnd ts n <;> rfl
  refine regqI s4 ?_
  simp
  refine effq_ldc (v := .int .i64 ((fpl (fnd ts n)).1 : Nat)) (fun w h => by have := h.row_cells 2 _ h2; exact this) ?_
  simp
  refine effq_ldc (v := .int .i64 ((fpl (fnd ts n)).2 : Nat)) (fun w h => by have := h.row_cells 3 _ h3; exact this) ?_
  simp
  intro w5 s5
  exact s5.drop
end Go.HL.Wh
