/-
  What the claim leans on, part 17 of 18. Conditions: as each theorem says.
-/
import Derived.Test.YtiokklaedanjbaaGreatEPMp
namespace Go.HL.Es
open Go.HL Go.Proofs
set_option maxRecDepth 4000
set_option linter.unusedSimpArgs false
set_option linter.unusedVariables false
noncomputable abbrev R1 : PF Tryz.prog := (PF.none _).quiet [123, 124]

def h122_0 : HC := (.seq (.reg (.done [(4, (.cst (.int .i64 0)))] none)) .ret)
@[simp] theorem h122_0_wp : type_of% (@wpH h122_0 _ h122_0.eq_1) := wpH h122_0.eq_1
def h122_1 : HC := (.seq (.regq (some 2) (.eff (.call 56) (.cons (.inp 0) (.cons (.inp 1) .nil)) (.chk none (.fld 2) (.cons (.inp 3) .nil) (.eff (.ld false 1) (.cons (.op (.fld 2) (.cons (.inp 3) .nil)) .nil) (.chk none (.bin .sub) (.cons (.bv 0) (.cons (.bv 1) .nil)) (.eff (.call 127) (.cons (.inp 0) (.cons (.inp 1) (.cons (.op (.bin .sub) (.cons (.bv 0) (.cons (.bv 1) .nil))) .nil))) (.done [] none))))))) h122_0)
@[simp] theorem h122_1_wp : type_of% (@wpH h122_1 _ h122_1.eq_1) := wpH h122_1.eq_1
def h122_2 : HC := (.seq (.regq (some 1) (.chk none .chkp (.cons (.inp 0) .nil) (.chk none (.fld 0) (.cons (.op .chkp (.cons (.inp 0) .nil)) .nil) (.eff (.ld false 1) (.cons (.op (.fld 0) (.cons (.op .chkp (.cons (.inp 0) .nil)) .nil)) .nil) (.chk none (.fld 0) (.cons (.inp 3) .nil) (.eff (.ld false 1) (.cons (.op (.fld 0) (.cons (.inp 3) .nil)) .nil) (.chk none (.fld 2) (.cons (.inp 3) .nil) (.eff (.ld false 1) (.cons (.op (.fld 2) (.cons (.inp 3) .nil)) .nil) (.eff (.call 156) (.cons (.bv 0) (.cons (.bv 1) (.cons (.bv 2) .nil))) (.done [] none)))))))))) h122_1)
@[simp] theorem h122_2_wp : type_of% (@wpH h122_2 _ h122_2.eq_1) := wpH h122_2.eq_1
def h122_3 : HC := (.regq (some 1) (.chk none .chkp (.cons (.inp 0) .nil) (.chk none (.fld 1) (.cons (.op .chkp (.cons (.inp 0) .nil)) .nil) (.eff (.ld false 1) (.cons (.op (.fld 1) (.cons (.op .chkp (.cons (.inp 0) .nil)) .nil)) .nil) (.chk none (.fld 1) (.cons (.inp 3) .nil) (.eff (.ld false 1) (.cons (.op (.fld 1) (.cons (.inp 3) .nil)) .nil) (.chk none (.fld 0) (.cons (.inp 3) .nil) (.eff (.ld false 1) (.cons (.op (.fld 0) (.cons (.inp 3) .nil)) .nil) (.eff (.call 155) (.cons (.bv 0) (.cons (.bv 1) (.cons (.bv 2) .nil))) (.done [] none))))))))))
@[simp] theorem h122_3_wp : type_of% (@wpH h122_3 _ h122_3.eq_1) := wpH h122_3.eq_1
def h122_4 : HC := (.seq (.br (.chk none (.fld 1) (.cons (.inp 3) .nil) (.eff (.ld false 1) (.cons (.op (.fld 1) (.cons (.inp 3) .nil)) .nil) (.chk none (.bin .neq) (.cons (.bv 0) (.cons (.cst (.int .i64 0)) .nil)) (.done [] (some (.op (.bin .neq) (.cons (.bv 0) (.cons (.cst (.int .i64 0)) .nil)))))))) h122_3 .skip) h122_2)
@[simp] theorem h122_4_wp : type_of% (@wpH h122_4 _ h122_4.eq_1) := wpH h122_4.eq_1
def h122_5 : HC := (.seq (.reg (.done [(4, (.cst (.int .i64 170)))] none)) .ret)
@[simp] theorem h122_5_wp : type_of% (@wpH h122_5 _ h122_5.eq_1) := wpH h122_5.eq_1
def h122_6 : HC := (.seq (.brq (some 2) (.chk none (.fld 2) (.cons (.inp 3) .nil) (.eff (.ld false 1) (.cons (.op (.fld 2) (.cons (.inp 3) .nil)) .nil) (.eff (.call 56) (.cons (.inp 0) (.cons (.inp 1) .nil)) (.chk none (.bin .gtr) (.cons (.bv 0) (.cons (.bv 1) .nil)) (.done [] (some (.op (.bin .gtr) (.cons (.bv 0) (.cons (.bv 1) .nil))))))))) h122_5 .skip) h122_4)
@[simp] theorem h122_6_wp : type_of% (@wpH h122_6 _ h122_6.eq_1) := wpH h122_6.eq_1
def h122_7 : HC := (.seq (.reg (.done [(4, (.cst (.int .i64 170)))] none)) .ret)
@[simp] theorem h122_7_wp : type_of% (@wpH h122_7 _ h122_7.eq_1) := wpH h122_7.eq_1
def h122_8 : HC := (.br (.chk none (.bin .neq) (.cons (.inp 7) (.cons (.cst (.int .i64 0)) .nil)) (.bnd (.op (.bin .neq) (.cons (.inp 7) (.cons (.cst (.int .i64 0)) .nil))) (.chk (some ((.bv 0), false)) (.fld 3) (.cons (.inp 6) .nil) (.ite (.bv 0) false (.eff (.ld false 1) (.cons (.ite (.bv 0) false (.op (.fld 3) (.cons (.inp 6) .nil)) (.cst (.tuple #[]))) .nil) (.chk none (.bin .neq) (.cons (.bv 1) (.cons (.inp 1) .nil)) (.isb none (.bv 0) (.done [] (some (.op (.bin .neq) (.cons (.bv 1) (.cons (.inp 1) .nil)))))))) (.isb none (.bv 0) (.done [] (some (.cst (.bool true))))))))) h122_7 .skip)
@[simp] theorem h122_8_wp : type_of% (@wpH h122_8 _ h122_8.eq_1) := wpH h122_8.eq_1
def h122_9 : HC := (.seq (.regq (some 2) (.chk none .chkp (.cons (.inp 0) .nil) (.chk none (.fld 1) (.cons (.op .chkp (.cons (.inp 0) .nil)) .nil) (.eff (.ld false 1) (.cons (.op (.fld 1) (.cons (.op .chkp (.cons (.inp 0) .nil)) .nil)) .nil) (.chk none (.fld 1) (.cons (.inp 3) .nil) (.eff (.ld false 1) (.cons (.op (.fld 1) (.cons (.inp 3) .nil)) .nil) (.eff (.call 124) (.cons (.bv 0) (.cons (.bv 1) .nil)) (.chk none (.ext 0) (.cons (.bv 2) .nil) (.chk none (.ext 1) (.cons (.bv 2) .nil) (.eff (.new 60 (.agg #[(.int .i64 0), (.int .i64 0), (.int .i64 0), (.int .i64 0)])) .nil (.eff (.st 4) (.cons (.bv 3) (.cons (.op (.ext 0) (.cons (.bv 2) .nil)) .nil)) (.done [(6, (.bv 3)), (7, (.op (.ext 1) (.cons (.bv 2) .nil)))] none)))))))))))) h122_8)
@[simp] theorem h122_9_wp : type_of% (@wpH h122_9 _ h122_9.eq_1) := wpH h122_9.eq_1
def h122_10 : HC := (.seq (.br (.chk none (.fld 1) (.cons (.inp 3) .nil) (.eff (.ld false 1) (.cons (.op (.fld 1) (.cons (.inp 3) .nil)) .nil) (.chk none (.bin .neq) (.cons (.bv 0) (.cons (.cst (.int .i64 0)) .nil)) (.done [] (some (.op (.bin .neq) (.cons (.bv 0) (.cons (.cst (.int .i64 0)) .nil)))))))) h122_9 .skip) h122_6)
@[simp] theorem h122_10_wp : type_of% (@wpH h122_10 _ h122_10.eq_1) := wpH h122_10.eq_1
def h122_11 : HC := (.seq (.reg (.done [(4, (.inp 5))] none)) .ret)
@[simp] theorem h122_11_wp : type_of% (@wpH h122_11 _ h122_11.eq_1) := wpH h122_11.eq_1
def h122_12 : HC := (.seq (.br (.chk none (.bin .neq) (.cons (.inp 5) (.cons (.cst (.int .i64 0)) .nil)) (.done [] (some (.op (.bin .neq) (.cons (.inp 5) (.cons (.cst (.int .i64 0)) .nil)))))) h122_11 .skip) h122_10)
@[simp] theorem h122_12_wp : type_of% (@wpH h122_12 _ h122_12.eq_1) := wpH h122_12.eq_1
def h122_13 : HC := (.seq (.regq (some 2) (.chk none .chkp (.cons (.inp 0) .nil) (.chk none (.fld 0) (.cons (.op .chkp (.cons (.inp 0) .nil)) .nil) (.eff (.ld false 1) (.cons (.op (.fld 0) (.cons (.op .chkp (.cons (.inp 0) .nil)) .nil)) .nil) (.chk none (.fld 0) (.cons (.inp 3) .nil) (.eff (.ld false 1) (.cons (.op (.fld 0) (.cons (.inp 3) .nil)) .nil) (.eff (.call 123) (.cons (.bv 0) (.cons (.bv 1) .nil)) (.chk none (.ext 0) (.cons (.bv 2) .nil) (.chk none (.ext 1) (.cons (.bv 2) .nil) (.eff (.new 58 (.agg #[(.string ⟨#[]⟩), (.int .u64 0)])) .nil (.eff (.st 2) (.cons (.bv 3) (.cons (.op (.ext 0) (.cons (.bv 2) .nil)) .nil)) (.done [(5, (.op (.ext 1) (.cons (.bv 2) .nil)))] none)))))))))))) h122_12)
@[simp] theorem h122_13_wp : type_of% (@wpH h122_13 _ h122_13.eq_1) := wpH h122_13.eq_1
def l122 : Lifted := ⟨[0, 1, 2, 5, 6, 8, 9, 10], 81, [.slot 4], (.seq (.reg (.eff (.box 110) (.cons (.inp 2) .nil) (.done [(3, (.bv 0)), (4, (.cst (.int .i64 0)))] none))) h122_13)⟩
theorem l122_ok : liftFn R1 122 400 = some l122 := by kernel_rfl

def h94_0 : HC := (.seq (.reg (.done [(4, (.cst (.int .i64 0)))] none)) .ret)
@[simp] theorem h94_0_wp : type_of% (@wpH h94_0 _ h94_0.eq_1) := wpH h94_0.eq_1
def h94_1 : HC := (.seq (.regq (some 2) (.eff (.call 56) (.cons (.inp 0) (.cons (.inp 1) .nil)) (.chk none (.fld 2) (.cons (.inp 3) .nil) (.eff (.ld false 1) (.cons (.op (.fld 2) (.cons (.inp 3) .nil)) .nil) (.chk none (.bin .add) (.cons (.bv 0) (.cons (.bv 1) .nil)) (.eff (.call 127) (.cons (.inp 0) (.cons (.inp 1) (.cons (.op (.bin .add) (.cons (.bv 0) (.cons (.bv 1) .nil))) .nil))) (.done [] none))))))) h94_0)
@[simp] theorem h94_1_wp : type_of% (@wpH h94_1 _ h94_1.eq_1) := wpH h94_1.eq_1
def h94_2 : HC := (.regq (some 1) (.chk none .chkp (.cons (.inp 0) .nil) (.chk none (.fld 1) (.cons (.op .chkp (.cons (.inp 0) .nil)) .nil) (.eff (.ld false 1) (.cons (.op (.fld 1) (.cons (.op .chkp (.cons (.inp 0) .nil)) .nil)) .nil) (.chk none (.fld 1) (.cons (.inp 3) .nil) (.eff (.ld false 1) (.cons (.op (.fld 1) (.cons (.inp 3) .nil)) .nil) (.eff (.call 126) (.cons (.bv 0) (.cons (.bv 1) (.cons (.inp 1) .nil))) (.done [] none))))))))
@[simp] theorem h94_2_wp : type_of% (@wpH h94_2 _ h94_2.eq_1) := wpH h94_2.eq_1
def h94_3 : HC := (.seq (.br (.chk none (.fld 1) (.cons (.inp 3) .nil) (.eff (.ld false 1) (.cons (.op (.fld 1) (.cons (.inp 3) .nil)) .nil) (.chk none (.bin .neq) (.cons (.bv 0) (.cons (.cst (.int .i64 0)) .nil)) (.done [] (some (.op (.bin .neq) (.cons (.bv 0) (.cons (.cst (.int .i64 0)) .nil)))))))) h94_2 .skip) h94_1)
@[simp] theorem h94_3_wp : type_of% (@wpH h94_3 _ h94_3.eq_1) := wpH h94_3.eq_1
def h94_4 : HC := (.seq (.reg (.done [(4, (.inp 8))] none)) .ret)
@[simp] theorem h94_4_wp : type_of% (@wpH h94_4 _ h94_4.eq_1) := wpH h94_4.eq_1
def h94_5 : HC := (.seq (.br (.chk none (.bin .neq) (.cons (.inp 8) (.cons (.cst (.int .i64 0)) .nil)) (.done [] (some (.op (.bin .neq) (.cons (.inp 8) (.cons (.cst (.int .i64 0)) .nil)))))) h94_4 .skip) h94_3)
@[simp] theorem h94_5_wp : type_of% (@wpH h94_5 _ h94_5.eq_1) := wpH h94_5.eq_1
def h94_6 : HC := (.seq (.regq (some 1) (.chk none .chkp (.cons (.inp 0) .nil) (.chk none (.fld 0) (.cons (.op .chkp (.cons (.inp 0) .nil)) .nil) (.eff (.ld false 1) (.cons (.op (.fld 0) (.cons (.op .chkp (.cons (.inp 0) .nil)) .nil)) .nil) (.chk none (.fld 0) (.cons (.inp 3) .nil) (.eff (.ld false 1) (.cons (.op (.fld 0) (.cons (.inp 3) .nil)) .nil) (.chk none (.fld 2) (.cons (.inp 3) .nil) (.eff (.ld false 1) (.cons (.op (.fld 2) (.cons (.inp 3) .nil)) .nil) (.eff (.call 125) (.cons (.bv 0) (.cons (.bv 1) (.cons (.bv 2) .nil))) (.done [(8, (.bv 3))] none)))))))))) h94_5)
@[simp] theorem h94_6_wp : type_of% (@wpH h94_6 _ h94_6.eq_1) := wpH h94_6.eq_1
def h94_7 : HC := (.seq (.reg (.done [(4, (.cst (.int .i64 151)))] none)) .ret)
@[simp] theorem h94_7_wp : type_of% (@wpH h94_7 _ h94_7.eq_1) := wpH h94_7.eq_1
def h94_8 : HC := (.br (.chk none (.bin .neq) (.cons (.inp 7) (.cons (.cst (.int .i64 0)) .nil)) (.bnd (.op (.bin .neq) (.cons (.inp 7) (.cons (.cst (.int .i64 0)) .nil))) (.chk (some ((.bv 0), false)) (.fld 3) (.cons (.inp 6) .nil) (.ite (.bv 0) false (.eff (.ld false 1) (.cons (.ite (.bv 0) false (.op (.fld 3) (.cons (.inp 6) .nil)) (.cst (.tuple #[]))) .nil) (.chk none (.bin .neq) (.cons (.bv 1) (.cons (.cst (.int .i64 0)) .nil)) (.isb none (.bv 0) (.bnd (.op (.bin .neq) (.cons (.bv 1) (.cons (.cst (.int .i64 0)) .nil))) (.chk (some ((.bv 2), false)) (.fld 2) (.cons (.inp 6) .nil) (.ite (.bv 2) false (.eff (.ld false 1) (.cons (.ite (.bv 2) false (.op (.fld 2) (.cons (.inp 6) .nil)) (.cst (.tuple #[]))) .nil) (.chk none (.fld 0) (.cons (.inp 3) .nil) (.eff (.ld false 1) (.cons (.op (.fld 0) (.cons (.inp 3) .nil)) .nil) (.chk none (.bin .neq) (.cons (.bv 3) (.cons (.bv 4) .nil)) (.isb none (.bv 2) (.done [] (some (.op (.bin .neq) (.cons (.bv 3) (.cons (.bv 4) .nil)))))))))) (.isb none (.bv 2) (.done [] (some (.cst (.bool true))))))))))) (.isb none (.bv 0) (.isb none (.cst (.bool true)) (.done [] (some (.cst (.bool true)))))))))) h94_7 .skip)
@[simp] theorem h94_8_wp : type_of% (@wpH h94_8 _ h94_8.eq_1) := wpH h94_8.eq_1
def h94_9 : HC := (.seq (.regq (some 2) (.chk none .chkp (.cons (.inp 0) .nil) (.chk none (.fld 1) (.cons (.op .chkp (.cons (.inp 0) .nil)) .nil) (.eff (.ld false 1) (.cons (.op (.fld 1) (.cons (.op .chkp (.cons (.inp 0) .nil)) .nil)) .nil) (.chk none (.fld 1) (.cons (.inp 3) .nil) (.eff (.ld false 1) (.cons (.op (.fld 1) (.cons (.inp 3) .nil)) .nil) (.eff (.call 124) (.cons (.bv 0) (.cons (.bv 1) .nil)) (.chk none (.ext 0) (.cons (.bv 2) .nil) (.chk none (.ext 1) (.cons (.bv 2) .nil) (.eff (.new 60 (.agg #[(.int .i64 0), (.int .i64 0), (.int .i64 0), (.int .i64 0)])) .nil (.eff (.st 4) (.cons (.bv 3) (.cons (.op (.ext 0) (.cons (.bv 2) .nil)) .nil)) (.done [(6, (.bv 3)), (7, (.op (.ext 1) (.cons (.bv 2) .nil)))] none)))))))))))) h94_8)
@[simp] theorem h94_9_wp : type_of% (@wpH h94_9 _ h94_9.eq_1) := wpH h94_9.eq_1
def h94_10 : HC := (.seq (.br (.chk none (.fld 1) (.cons (.inp 3) .nil) (.eff (.ld false 1) (.cons (.op (.fld 1) (.cons (.inp 3) .nil)) .nil) (.chk none (.bin .neq) (.cons (.bv 0) (.cons (.cst (.int .i64 0)) .nil)) (.done [] (some (.op (.bin .neq) (.cons (.bv 0) (.cons (.cst (.int .i64 0)) .nil)))))))) h94_9 .skip) h94_6)
@[simp] theorem h94_10_wp : type_of% (@wpH h94_10 _ h94_10.eq_1) := wpH h94_10.eq_1
def h94_11 : HC := (.seq (.reg (.done [(4, (.inp 5))] none)) .ret)
@[simp] theorem h94_11_wp : type_of% (@wpH h94_11 _ h94_11.eq_1) := wpH h94_11.eq_1
def h94_12 : HC := (.seq (.br (.chk none (.bin .neq) (.cons (.inp 5) (.cons (.cst (.int .i64 0)) .nil)) (.done [] (some (.op (.bin .neq) (.cons (.inp 5) (.cons (.cst (.int .i64 0)) .nil)))))) h94_11 .skip) h94_10)
@[simp] theorem h94_12_wp : type_of% (@wpH h94_12 _ h94_12.eq_1) := wpH h94_12.eq_1
def h94_13 : HC := (.seq (.regq (some 2) (.chk none .chkp (.cons (.inp 0) .nil) (.chk none (.fld 0) (.cons (.op .chkp (.cons (.inp 0) .nil)) .nil) (.eff (.ld false 1) (.cons (.op (.fld 0) (.cons (.op .chkp (.cons (.inp 0) .nil)) .nil)) .nil) (.chk none (.fld 0) (.cons (.inp 3) .nil) (.eff (.ld false 1) (.cons (.op (.fld 0) (.cons (.inp 3) .nil)) .nil) (.eff (.call 123) (.cons (.bv 0) (.cons (.bv 1) .nil)) (.chk none (.ext 0) (.cons (.bv 2) .nil) (.chk none (.ext 1) (.cons (.bv 2) .nil) (.eff (.new 58 (.agg #[(.string ⟨#[]⟩), (.int .u64 0)])) .nil (.eff (.st 2) (.cons (.bv 3) (.cons (.op (.ext 0) (.cons (.bv 2) .nil)) .nil)) (.done [(5, (.op (.ext 1) (.cons (.bv 2) .nil)))] none)))))))))))) h94_12)
@[simp] theorem h94_13_wp : type_of% (@wpH h94_13 _ h94_13.eq_1) := wpH h94_13.eq_1
def l94 : Lifted := ⟨[0, 1, 2, 5, 6, 8, 9, 10, 11], 84, [.slot 4], (.seq (.reg (.eff (.box 46) (.cons (.inp 2) .nil) (.done [(3, (.bv 0)), (4, (.cst (.int .i64 0)))] none))) h94_13)⟩
theorem l94_ok : liftFn R1 94 400 = some l94 := by kernel_rfl
abbrev rgA (A : Asn) (q g s : Nat) (lg : Int) (b : Nat) (x : Gf) (E : Eco) : Asn := A * pt b (.cells x.cs.toArray 110 (0, 0)) * Gd.rgs g lg E.its * Pu.rpur q E.P * resc s q g E.l
section
variable {w0 w : World} {A Z : Asn} {q g s b : Nat} {lg c : Int} {x : Gf} {E : Eco}
theorem rgfacts (h : St w0 (rgA A q g s lg b x E) w) : w.cell? ⟨b, 0, none⟩ = some (.int .i64 x.to) ∧ w.cell? ⟨b, 1, none⟩ = some (.int .i64 x.item) ∧ w.cell? ⟨b, 2, none⟩ = some (.int .u64 x.coins) ∧
    w.cell? ⟨s, 0, none⟩ = some (.pointer (some ⟨q, 0, none⟩)) ∧ w.cell? ⟨s, 1, none⟩ = some (.pointer (some ⟨g, 0, none⟩)) := by
  have a := h.drop.drop.drop
  exact ⟨(cell_of a.look).trans rfl, (cell_of a.look).trans rfl, (cell_of a.look).trans rfl, (resc_cells h).1, (resc_cells h).2⟩
theorem rgA_in (h : St w0 (rgA A q g s lg b x E * Z) w) : St w0 (rgA (A * Z) q g s lg b x E) w := h.to (by simp only [rgA]; ac_rfl)
theorem rgA_out (h : St w0 (rgA (A * Z) q g s lg b x E) w) : St w0 (rgA A q g s lg b x E * Z) w := h.to (by simp only [rgA]; ac_rfl)
theorem rgget {lp : Int} (hE : EI lp lg E) (n : Int) (h : St w0 (rgA A q g s lg b x E) w) : CallW Tryz.prog 123 [.pointer (some ⟨q, 0, none⟩), .int .i64 n]
    (fun r w' => r = .tuple #[.agg (Pu.getF E.P n).1.cs.toArray, .int .i64 (Pu.getF E.P n).2] ∧ St w0 (rgA A q g s lg b x E) w') w := by
  have hl := hE.P.len
  have hm := hE.P.lims
  exact (Pu.rGet_spec q E.P n w0 w (A * pt b (.cells x.cs.toArray 110 (0, 0)) * Gd.rgs g lg E.its * resc s q g E.l) (by omega) (h.to (by simp only [rgA]; ac_rfl))).mono fun r w' ⟨e, h⟩ => ⟨e, h.to (by simp only [rgA]; ac_rfl)⟩
theorem rgitm {lp : Int} (hE : EI lp lg E) (n : Int) (h : St w0 (rgA A q g s lg b x E) w) : CallW Tryz.prog 124 [.pointer (some ⟨g, 0, none⟩), .int .i64 n]
    (fun r w' => r = .tuple #[.agg (Gd.getF E.its n).1.cs.toArray, .int .i64 (Gd.getF E.its n).2] ∧ St w0 (rgA A q g s lg b x E) w') w := by
  have hl := hE.G.len
  have hm := hE.G.lim
  exact (Gd.rGet_spec g lg E.its n w0 w (A * pt b (.cells x.cs.toArray 110 (0, 0)) * Pu.rpur q E.P * resc s q g E.l) hE.G.toWF (by omega) (h.to (by simp only [rgA]; ac_rfl))).mono fun r w' ⟨e, h⟩ => ⟨e, h.to (by simp only [rgA]; ac_rfl)⟩
end
theorem rgive_end (q g s b : Nat) (lp lg c : Int) (x : Gf) (E : Eco) (its' : List Gd.It) (w0 w : World) (A : Asn) (o2 o5 o6 o7 : Value) (K : Value → World → Prop) (hE : EI lp lg E) (hl : E.l.length ≤ 2097152) (hx : 0 ≤ x.coins ∧ x.coins < 18446744073709551616) (hle : x.coins ≤ cns E.l c)
    (h : St w0 (rgA A q g s lg b x ⟨E.P, its', E.l⟩) w)
    (hK : ∀ w', St w0 (A * recoA q g s lg ⟨(Pu.putF E.P x.to x.coins).2, its', setR c (cns E.l c - x.coins) E.l⟩) w' → K (.int .i64 0) w') :
    HC.wp R1 h122_2 (endQ Tryz.prog [.slot 4] K) [.pointer (some ⟨s, 0, none⟩), .int .i64 c, o2, .pointer (some ⟨b, 0, none⟩), .int .i64 0, o5, o6, o7] w := by
  have hb := hE.cns_bd c
  simp
  refine regmI (Pu.cls1 (St w0 (rgA A q g s lg b x ⟨E.P, its', E.l⟩)) (St w0 (rgA A q g s lg b x ⟨(Pu.putF E.P x.to x.coins).2, its', E.l⟩))) h.drew ?_
  simp
  refine effm_ldc (v := .pointer (some ⟨q, 0, none⟩)) (fun vs' w he hw => Pu.cls1_low (fun h => (rgfacts h).2.2.2.1) (fun h => (rgfacts h).2.2.2.1) hw) ?_
  simp
  refine effm_ldc (v := .int .i64 x.to) (fun vs' w he hw => Pu.cls1_low (fun h => (rgfacts h).1) (fun h => (rgfacts h).1) hw) ?_
  simp
  refine effm_ldc (v := .int .u64 x.coins) (fun vs' w he hw => Pu.cls1_low (fun h => (rgfacts h).2.2.1) (fun h => (rgfacts h).2.2.1) hw) ?_
  simp
  refine effm_mv (by rfl) (fun w hw => ?_) (fun r hr => ?_)
  · rw [Pu.cls1_nil] at hw
    refine eff_call ((Pu.rPut_spec q lp E.P x.to x.coins w0 w (A * pt b (.cells x.cs.toArray 110 (0, 0)) * Gd.rgs g lg its' * resc s q g E.l) hE.P hx (hw.to (by simp only [rgA]; ac_rfl))).mono ?_)
    rintro r w' ⟨_, h⟩
    exact h.to (by simp only [rgA]; ac_rfl)
  simp
  intro w2 h2
  refine regmI (fun vs w => match vs with
    | [] => St w0 (rgA A q g s lg b x ⟨(Pu.putF E.P x.to x.coins).2, its', E.l⟩) w
    | [r] => r = .int .u64 (cns E.l c) ∧ St w0 (rgA A q g s lg b x ⟨(Pu.putF E.P x.to x.coins).2, its', E.l⟩) w
    | _ :: _ :: _ => St w0 (rgA A q g s lg b x ⟨(Pu.putF E.P x.to x.coins).2, its', setR c (cns E.l c - x.coins) E.l⟩) w) (St.drew h2) ?_
  simp
  refine effm_mv (by rfl) (fun w hw => eff_call (rCoins_spec s q g E.l c w0 w _ (by omega) hw)) (fun r hr => ?_)
  obtain ⟨_, rfl, _⟩ := hr
  simp
  refine effm_ldc (v := .int .u64 x.coins) (fun vs' w he hw => ?_) ?_
  · match vs', hw with
    | [], hw => exact (rgfacts hw).2.2.1
    | [_], hw => exact (rgfacts hw.2).2.2.1
    | _ :: _ :: _, hw => simp [era] at he
  simp
  have ew : IntKind.u64.wrap (cns E.l c - x.coins) = cns E.l c - x.coins := by rw [wrapU]; omega
  rw [ew]
  refine effm_mv (by rfl) (fun w hw => eff_call ((rset_spec s q g E.l c (cns E.l c - x.coins) w0 w _ hE.R hl hw.2).mono fun r w' h => h)) (fun r hr => ?_)
  simp
  intro w3 h3
  exact hK w3 (St.cut (pt b (.cells x.cs.toArray 110 (0, 0))) h3 (by simp only [rgA, recoA]; ac_rfl))
theorem rgive_tail (q g s b : Nat) (lp lg c : Int) (x : Gf) (E : Eco) (w0 w : World) (A : Asn) (o2 o5 o6 o7 : Value) (K : Value → World → Prop) (hE : EI lp lg E) (hl : E.l.length ≤ 2097152) (hx : 0 ≤ x.coins ∧ x.coins < 18446744073709551616)
    (h1 : ¬ (Pu.getF E.P x.to).2 ≠ 0) (h2 : ¬ (x.item ≠ 0 ∧ ((Gd.getF E.its x.item).2 ≠ 0 ∨ (Gd.getF E.its x.item).1.con ≠ c)))
    (h : St w0 (rgA A q g s lg b x E) w)
    (hK : ∀ r w', r = .int .i64 (giveF c x E).1 ∧ St w0 (A * recoA q g s lg (giveF c x E).2) w' → K r w') :
    HC.wp R1 h122_6 (endQ Tryz.prog [.slot 4] K) [.pointer (some ⟨s, 0, none⟩), .int .i64 c, o2, .pointer (some ⟨b, 0, none⟩), .int .i64 0, o5, o6, o7] w := by
  have hb := hE.cns_bd c
  simp
  refine brmI (fun vs w => match vs with
    | [] => St w0 (rgA A q g s lg b x E) w
    | r :: _ => r = .int .u64 (cns E.l c) ∧ St w0 (rgA A q g s lg b x E) w) h.drew ?_
  simp
  refine effm_ldc (v := .int .u64 x.coins) (fun vs' w he hw => ?_) ?_
  · match vs', hw with
    | [], hw => exact (rgfacts hw).2.2.1
    | _ :: _, hw => exact (rgfacts hw.2).2.2.1
  simp
  refine effm_mv (by rfl) (fun w hw => eff_call (rCoins_spec s q g E.l c w0 w _ (by omega) hw)) (fun r hr => ?_)
  obtain ⟨_, rfl, _⟩ := hr
  simp
  intro w2 s2
  refine cndI (fun hc => ?_) (fun hc => ?_)
  · simp at hc
    simp
    have e : giveF c x E = (170, E) := by unfold giveF; rw [if_neg h1, if_neg h2, if_pos hc]
    rw [e] at hK
    exact hK _ _ ⟨rfl, s2.cut (pt b (.cells x.cs.toArray 110 (0, 0))) (by simp only [rgA, recoA]; ac_rfl)⟩
  simp at hc
  have e : giveF c x E = (0, ⟨(Pu.putF E.P x.to x.coins).2, if x.item ≠ 0 then (Gd.freeF E.its x.item x.to).2 else E.its, setR c (cns E.l c - x.coins) E.l⟩) := by unfold giveF; rw [if_neg h1, if_neg h2, if_neg (by omega)]
  rw [e] at hK
  simp
  refine eff_ldc (v := .int .i64 x.item) (rgfacts s2).2.1 ?_
  simp
  refine cndI (fun hi => ?_) (fun hi => ?_)
  · simp at hi
    rw [if_pos hi] at hK
    simp
    refine regmI (Pu.cls1 (St w0 (rgA A q g s lg b x E)) (St w0 (rgA A q g s lg b x ⟨E.P, (Gd.freeF E.its x.item x.to).2, E.l⟩))) s2.drew ?_
    simp
    refine effm_ldc (v := .pointer (some ⟨g, 0, none⟩)) (fun vs' w he hw => Pu.cls1_low (fun h => (rgfacts h).2.2.2.2) (fun h => (rgfacts h).2.2.2.2) hw) ?_
    simp
    refine effm_ldc (v := .int .i64 x.item) (fun vs' w he hw => Pu.cls1_low (fun h => (rgfacts h).2.1) (fun h => (rgfacts h).2.1) hw) ?_
    simp
    refine effm_ldc (v := .int .i64 x.to) (fun vs' w he hw => Pu.cls1_low (fun h => (rgfacts h).1) (fun h => (rgfacts h).1) hw) ?_
    simp
    refine effm_mv (by rfl) (fun w hw => ?_) (fun r hr => ?_)
    · rw [Pu.cls1_nil] at hw
      refine eff_call ((Gd.rFree_spec g lg E.its x.item x.to w0 w (A * pt b (.cells x.cs.toArray 110 (0, 0)) * Pu.rpur q E.P * resc s q g E.l) hE.G (hw.to (by simp only [rgA]; ac_rfl))).mono ?_)
      rintro r w' ⟨_, h⟩
      exact h.to (by simp only [rgA]; ac_rfl)
    simp
    intro w3 s3
    have := rgive_end q g s b lp lg c x E (Gd.freeF E.its x.item x.to).2 w0 w3 A o2 o5 o6 o7 K hE hl hx hc s3 (fun w' h => hK _ w' ⟨rfl, h⟩)
    simpa using this
  · simp at hi
    rw [if_neg (by simp [hi])] at hK
    simp
    have := rgive_end q g s b lp lg c x E E.its w0 w2 A o2 o5 o6 o7 K hE hl hx hc s2 (fun w' h => hK _ w' ⟨rfl, h⟩)
    simpa using this
theorem rgive_spec (q g s : Nat) (lp lg c : Int) (x : Gf) (E : Eco) (w0 w : World) (A : Asn) (hE : EI lp lg E) (hl : E.l.length ≤ 2097152) (hx : 0 ≤ x.coins ∧ x.coins < 18446744073709551616) (h : St w0 (A * recoA q g s lg E) w) :
    CallW Tryz.prog 122 [.pointer (some ⟨s, 0, none⟩), .int .i64 c, .agg x.cs.toArray] (fun r w' => r = .int .i64 (giveF c x E).1 ∧ St w0 (A * recoA q g s lg (giveF c x E).2) w') w := by
  refine callW_of_lift l122_ok (by simp [l122]) ?_
  simp [l122]
  refine eff_box h fun b w3 h3 => ?_
  simp
  have h4 : St w0 (rgA A q g s lg b x E) w3 := h3.to (by simp only [rgA, recoA, cells_agg, Value.cells]; ac_rfl)
  clear h h3
  refine regmQ (clsN (St w0 (rgA A q g s lg b x E)) (fun b' => St w0 (rgA A q g s lg b x E * pt b' (.cells (Pu.Ac.cs ⟨[], 0⟩).toArray 58 (0, 0))))
    (fun b' => St w0 (rgA A q g s lg b x E * pt b' (.cells (Pu.getF E.P x.to).1.cs.toArray 58 (0, 0))))) (fun _ _ => .tuple #[.agg (Pu.getF E.P x.to).1.cs.toArray, .int .i64 (Pu.getF E.P x.to).2]) h4.drew ?_
  simp
  refine effm_ldc (v := .pointer (some ⟨q, 0, none⟩)) (fun vs' w he hw => clsN_low (fun h => (rgfacts h).2.2.2.1) (fun b h => (rgfacts h.drop).2.2.2.1) (fun b h => (rgfacts h.drop).2.2.2.1) hw) ?_
  simp
  refine effm_ldc (v := .int .i64 x.to) (fun vs' w he hw => clsN_low (fun h => (rgfacts h).1) (fun b h => (rgfacts h.drop).1) (fun b h => (rgfacts h.drop).1) hw) ?_
  simp
  refine effm_qc (by kernel_rfl) (by rfl) (by intro h; cases h) (fun vs' w he hw => clsN_call (fun h => rgget hE x.to h) (fun b h => (rgget hE x.to (rgA_in h)).mono fun r w' ⟨e, h⟩ => ⟨e, rgA_out h⟩) (fun b h => (rgget hE x.to (rgA_in h)).mono fun r w' ⟨e, h⟩ => ⟨e, rgA_out h⟩) hw) ?_
  simp
  refine effm_mv (by rfl) (fun w hw => eff_new (z := .agg (Pu.Ac.cs ⟨[], 0⟩).toArray) hw fun b w' h => ⟨b, rfl, h⟩) (fun r hr => ?_)
  obtain ⟨_, b7, rfl, _⟩ := hr
  simp
  refine effm_mv (by rfl) (fun w hw => ?_) (fun r hr => ?_)
  · obtain ⟨b, e, hw⟩ := hw
    cases e
    exact eff_stA (vs := (Pu.getF E.P x.to).1.cs) hw rfl rfl (Pu.cs_one _) (by simp [Pu.Ac.cs]) fun w' h => ⟨b7, rfl, by simpa [Pu.Ac.cs] using h⟩
  simp
  rintro w4 ⟨b', e, h5⟩
  cases e
  have h6 := h5.drop
  have cutb : ∀ {w : World}, St w0 (rgA A q g s lg b x E) w → St w0 (A * recoA q g s lg E) w := fun h => h.cut (pt b (.cells x.cs.toArray 110 (0, 0))) (by simp only [rgA, recoA]; ac_rfl)
  refine cndI (fun hg => ?_) (fun hg => ?_)
  · simp at hg
    have hg2 := (get_or E.P x.to).resolve_left hg
    have e : giveF c x E = (142, E) := by unfold giveF; rw [if_pos hg]
    rw [e]
    simp
    rw [hg2]
    exact ⟨rfl, cutb h6⟩
  simp at hg
  simp
  refine eff_ldc (rgfacts h6).2.1 ?_
  simp
  refine cndI (fun hi => ?_) (fun hi => ?_)
  · simp at hi
    simp
    refine regmQ (clsN (St w0 (rgA A q g s lg b x E)) (fun b' => St w0 (rgA A q g s lg b x E * pt b' (.cells (Gd.It.cs ⟨0, 0, 0, 0⟩).toArray 60 (0, 0))))
      (fun b' => St w0 (rgA A q g s lg b x E * pt b' (.cells (Gd.getF E.its x.item).1.cs.toArray 60 (0, 0))))) (fun _ _ => .tuple #[.agg (Gd.getF E.its x.item).1.cs.toArray, .int .i64 (Gd.getF E.its x.item).2]) h6.drew ?_
    simp
    refine effm_ldc (v := .pointer (some ⟨g, 0, none⟩)) (fun vs' w he hw => clsN_low (fun h => (rgfacts h).2.2.2.2) (fun b h => (rgfacts h.drop).2.2.2.2) (fun b h => (rgfacts h.drop).2.2.2.2) hw) ?_
    simp
    refine effm_ldc (v := .int .i64 x.item) (fun vs' w he hw => clsN_low (fun h => (rgfacts h).2.1) (fun b h => (rgfacts h.drop).2.1) (fun b h => (rgfacts h.drop).2.1) hw) ?_
    simp
    refine effm_qc (by kernel_rfl) (by rfl) (by intro h; cases h) (fun vs' w he hw => clsN_call (fun h => rgitm hE x.item h) (fun b h => (rgitm hE x.item (rgA_in h)).mono fun r w' ⟨e, h⟩ => ⟨e, rgA_out h⟩) (fun b h => (rgitm hE x.item (rgA_in h)).mono fun r w' ⟨e, h⟩ => ⟨e, rgA_out h⟩) hw) ?_
    simp
    refine effm_mv (by rfl) (fun w hw => eff_new (z := .agg (Gd.It.cs ⟨0, 0, 0, 0⟩).toArray) hw fun b w' h => ⟨b, rfl, h⟩) (fun r hr => ?_)
    obtain ⟨_, b8, rfl, _⟩ := hr
    simp
    refine effm_mv (by rfl) (fun w hw => ?_) (fun r hr => ?_)
    · obtain ⟨b, e, hw⟩ := hw
      cases e
      exact eff_stA (vs := (Gd.getF E.its x.item).1.cs) hw rfl rfl (Gd.cs_one _) (by simp [Gd.It.cs]) fun w' h => ⟨b8, rfl, by simpa [Gd.It.cs] using h⟩
    simp
    rintro w5 ⟨b', e, h7⟩
    cases e
    have bad : (Gd.getF E.its x.item).2 ≠ 0 ∨ (Gd.getF E.its x.item).1.con ≠ c → giveF c x E = (170, E) := fun hb => by unfold giveF; rw [if_neg (by simpa using hg), if_pos ⟨hi, hb⟩]
    rcases get_item E.its x.item with e1 | e1
    · simp [e1]
      refine eff_ldc (v := .int .i64 (Gd.getF E.its x.item).1.con) ((cell_of h7.look).trans rfl) ?_
      simp
      refine cndI (fun hcn => ?_) (fun hcn => ?_)
      · simp at hcn
        rw [bad (.inr hcn)]
        simp
        exact cutb h7.drop
      · simp at hcn
        simp
        have := rgive_tail q g s b lp lg c x E w0 w5 A (.agg x.cs.toArray) (.int .i64 (Pu.getF E.P x.to).2) (.pointer (some ⟨b8, 0, none⟩)) (.int .i64 0) _ hE hl hx (by simpa using hg) (by simp [e1, hcn]) h7.drop (fun r w' h => h)
        simpa using this
    · rw [bad (.inl (by omega))]
      simp [e1]
      exact cutb h7.drop
  · simp at hi
    simp
    have := rgive_tail q g s b lp lg c x E w0 w4 A (.agg x.cs.toArray) (.int .i64 (Pu.getF E.P x.to).2) undef undef _ hE hl hx (by simpa using hg) (by simp [hi]) h6 (fun r w' h => h)
    simpa using this
end Go.HL.Es

namespace Go.HL.Es
open Go.HL Go.Proofs
set_option maxRecDepth 4000
set_option linter.unusedSimpArgs false
set_option linter.unusedVariables false
abbrev rpA (A : Asn) (p g s : Nat) (lim : Int) (b : Nat) (x : Et) (pr : Int) (wv : Value) (E : Eco) : Asn := A * pt b (.cells (x.cs pr wv).toArray 46 (0, 0)) * Gd.rgs g lim E.its * Pu.rpur p E.P * resc s p g E.l
section
variable {w0 w : World} {A Z : Asn} {p g s b : Nat} {lim pr : Int} {x : Et} {wv : Value} {E : Eco}
theorem rpfacts (h : St w0 (rpA A p g s lim b x pr wv E) w) : w.cell? ⟨b, 0, none⟩ = some (.int .i64 x.acc) ∧ w.cell? ⟨b, 1, none⟩ = some (.int .i64 x.item) ∧ w.cell? ⟨b, 2, none⟩ = some (.int .u64 x.coins) ∧
    w.cell? ⟨s, 0, none⟩ = some (.pointer (some ⟨p, 0, none⟩)) ∧ w.cell? ⟨s, 1, none⟩ = some (.pointer (some ⟨g, 0, none⟩)) := by
  have a := h.drop.drop.drop
  exact ⟨(cell_of a.look).trans rfl, (cell_of a.look).trans rfl, (cell_of a.look).trans rfl, (resc_cells h).1, (resc_cells h).2⟩
theorem rpA_in (h : St w0 (rpA A p g s lim b x pr wv E * Z) w) : St w0 (rpA (A * Z) p g s lim b x pr wv E) w := h.to (by simp only [rpA]; ac_rfl)
theorem rpA_out (h : St w0 (rpA (A * Z) p g s lim b x pr wv E) w) : St w0 (rpA A p g s lim b x pr wv E * Z) w := h.to (by simp only [rpA]; ac_rfl)
theorem rpA_eco (h : St w0 (rpA A p g s lim b x pr wv E) w) : St w0 (A * recoA p g s lim E) w := h.cut (pt b (.cells (x.cs pr wv).toArray 46 (0, 0))) (by simp only [rpA, recoA]; ac_rfl)
theorem rpget {lp lg : Int} (hE : EI lp lg E) (n : Int) (h : St w0 (rpA A p g s lim b x pr wv E) w) : CallW Tryz.prog 123 [.pointer (some ⟨p, 0, none⟩), .int .i64 n]
    (fun r w' => r = .tuple #[.agg (Pu.getF E.P n).1.cs.toArray, .int .i64 (Pu.getF E.P n).2] ∧ St w0 (rpA A p g s lim b x pr wv E) w') w := by
  have hl := hE.P.len
  have hm := hE.P.lims
  exact (Pu.rGet_spec p E.P n w0 w (A * pt b (.cells (x.cs pr wv).toArray 46 (0, 0)) * Gd.rgs g lim E.its * resc s p g E.l) (by omega) (h.to (by simp only [rpA]; ac_rfl))).mono fun r w' ⟨e, h⟩ => ⟨e, h.to (by simp only [rpA]; ac_rfl)⟩
theorem rpitm {lp lg : Int} (hE : EI lp lg E) (n : Int) (h : St w0 (rpA A p g s lim b x pr wv E) w) : CallW Tryz.prog 124 [.pointer (some ⟨g, 0, none⟩), .int .i64 n]
    (fun r w' => r = .tuple #[.agg (Gd.getF E.its n).1.cs.toArray, .int .i64 (Gd.getF E.its n).2] ∧ St w0 (rpA A p g s lim b x pr wv E) w') w := by
  have hl := hE.G.len
  have hm := hE.G.lim
  exact (Gd.rGet_spec g lim E.its n w0 w (A * pt b (.cells (x.cs pr wv).toArray 46 (0, 0)) * Pu.rpur p E.P * resc s p g E.l) hE.G.toWF (by omega) (h.to (by simp only [rpA]; ac_rfl))).mono fun r w' ⟨e, h⟩ => ⟨e, h.to (by simp only [rpA]; ac_rfl)⟩
end
def RPutPost (w0 : World) (A : Asn) (p g s : Nat) (lg c : Int) (x : Et) (E : Eco) (r : Value) (w' : World) : Prop :=
  r = .int .i64 (putE c x E).1 ∧ St w0 (A * recoA p g s lg (putE c x E).2) w'
section
variable (p g s b : Nat) (lp lg c pr : Int) (x : Et) (wv : Value) (E : Eco) (w0 w : World) (A : Asn) (a0 a1 a2 a5 a6 a7 a8 : Value)
    (hE : EI lp lg E) (hx : 0 ≤ x.coins ∧ x.coins < 18446744073709551616) (hl : E.l.length ≤ 2097152)
include hE hx hl
theorem rput_end (P : Pu.Ps) (its : List Gd.It) (hP : (Pu.takeF E.P x.acc x.coins).1 = 0) (hput : putE c x E = (0, ⟨P, its, setR c (cns E.l c + x.coins) E.l⟩)) (h : St w0 (rpA A p g s lg b x pr wv ⟨P, its, E.l⟩) w) :
    HC.wp R1 h94_1 (endQ Tryz.prog [.slot 4] (RPutPost w0 A p g s lg c x E)) [.pointer (some ⟨s, 0, none⟩), .int .i64 c, a2, .pointer (some ⟨b, 0, none⟩), .int .i64 0, a5, a6, a7, a8] w := by
  have hbd := hE.cns_bd c
  have hcl : x.coins ≤ 4611686018427387904 := by
    unfold Pu.takeF at hP
    split at hP
    · rename_i ha
      split at hP
      · cases hP
      · rename_i hlt
        obtain ⟨i, hi, hil⟩ := Pu.acc_in ha
        have e0 : x.acc.toNat = i := by omega
        rw [e0] at hlt
        have := Pu.coin_bd hE.P.bd hil
        omega
    · cases hP
  simp
  refine regmI (fun vs w => match vs with
    | [] => St w0 (rpA A p g s lg b x pr wv ⟨P, its, E.l⟩) w
    | [r] => r = .int .u64 (cns E.l c) ∧ St w0 (rpA A p g s lg b x pr wv ⟨P, its, E.l⟩) w
    | _ :: _ :: _ => St w0 (rpA A p g s lg b x pr wv ⟨P, its, setR c (cns E.l c + x.coins) E.l⟩) w) h.drew ?_
  simp
  refine effm_mv (by rfl) (fun w hw => eff_call (rCoins_spec s p g E.l c w0 w _ (by omega) hw)) (fun r hr => ?_)
  obtain ⟨_, rfl, _⟩ := hr
  simp
  refine effm_ldc (v := .int .u64 x.coins) (fun vs' w he hw => ?_) ?_
  · match vs', hw with
    | [], hw => exact (rpfacts hw).2.2.1
    | [_], hw => exact (rpfacts hw.2).2.2.1
    | _ :: _ :: _, hw => simp [era] at he
  simp
  have ew : IntKind.u64.wrap (cns E.l c + x.coins) = cns E.l c + x.coins := by rw [wrapU]; omega
  rw [ew]
  refine effm_mv (by rfl) (fun w hw => eff_call ((rset_spec s p g E.l c (cns E.l c + x.coins) w0 w _ hE.R hl hw.2).mono fun r w' h => h)) (fun r hr => ?_)
  simp
  intro w3 h3
  unfold RPutPost
  rw [hput]
  exact ⟨rfl, rpA_eco (E := ⟨P, its, setR c (cns E.l c + x.coins) E.l⟩) h3⟩
theorem rput_mid (ha : (Pu.getF E.P x.acc).2 = 0) (hit : x.item ≠ 0 → (Gd.getF E.its x.item).2 = 0 ∧ (Gd.getF E.its x.item).1.con = 0 ∧ (Gd.getF E.its x.item).1.acc = x.acc)
    (h : St w0 (rpA A p g s lg b x pr wv E) w) :
    HC.wp R1 h94_6 (endQ Tryz.prog [.slot 4] (RPutPost w0 A p g s lg c x E)) [.pointer (some ⟨s, 0, none⟩), .int .i64 c, a2, .pointer (some ⟨b, 0, none⟩), .int .i64 0, a5, a6, a7, a8] w := by
  have hlen : E.its.length ≤ 1048576 := by have := hE.G.len; have := hE.G.lim; omega
  have n1 : ¬ ((Pu.getF E.P x.acc).2 ≠ 0) := by simp [ha]
  have n2 : ¬ (x.item ≠ 0 ∧ ((Gd.getF E.its x.item).2 ≠ 0 ∨ (Gd.getF E.its x.item).1.con ≠ 0 ∨ (Gd.getF E.its x.item).1.acc ≠ x.acc)) := by
    rintro ⟨hi, h | h | h⟩
    · exact h (hit hi).1
    · exact h (hit hi).2.1
    · exact h (hit hi).2.2
  have hf := fun {P : Pu.Ps} {w : World} (h : St w0 (rpA A p g s lg b x pr wv ⟨P, E.its, E.l⟩) w) => rpfacts h
  simp
  refine regmI (clsR (St w0 (rpA A p g s lg b x pr wv E)) (.int .i64 (Pu.takeF E.P x.acc x.coins).1) (St w0 (rpA A p g s lg b x pr wv ⟨(Pu.takeF E.P x.acc x.coins).2, E.its, E.l⟩))) h.drew ?_
  simp
  refine effm_ldc (v := .pointer (some ⟨p, 0, none⟩)) (fun vs' w he hw => (rpfacts (clsR_pre he hw)).2.2.2.1) ?_
  simp
  refine effm_ldc (v := .int .i64 x.acc) (fun vs' w he hw => (rpfacts (clsR_pre he hw)).1) ?_
  simp
  refine effm_ldc (v := .int .u64 x.coins) (fun vs' w he hw => (rpfacts (clsR_pre he hw)).2.2.1) ?_
  simp
  refine effm_mv (by rfl) (fun w hw => eff_call ((Pu.rTake_spec p lp E.P x.acc x.coins w0 w (A * pt b (.cells (x.cs pr wv).toArray 46 (0, 0)) * Gd.rgs g lg E.its * resc s p g E.l) hE.P hx (hw.to (by simp only [rpA]; ac_rfl))).mono ?_)) (fun r hr => ?_)
  · rintro r w' ⟨e, h⟩
    exact ⟨e, h.to (by simp only [rpA]; ac_rfl)⟩
  obtain ⟨_, rfl, _⟩ := hr
  simp
  rintro w2 ⟨_, h2⟩
  refine cndI (fun ht => ?_) (fun ht => ?_)
  · simp at ht
    have hk : putE c x E = ((Pu.takeF E.P x.acc x.coins).1, E) := by
      unfold putE; rw [if_neg n1, if_neg n2, if_pos ht]
    have hsame : (Pu.takeF E.P x.acc x.coins).2 = E.P := by
      unfold Pu.takeF at ht ⊢
      split at ht
      · rename_i e1
        split at ht
        · rename_i e2; rw [if_pos e1, if_pos e2]
        · exact absurd rfl ht
      · rename_i e1; rw [if_neg e1]
    simp
    unfold RPutPost
    rw [hk]
    rw [hsame] at h2
    exact ⟨rfl, rpA_eco h2⟩
  simp at ht
  have hk : putE c x E = (0, ⟨(Pu.takeF E.P x.acc x.coins).2, if x.item ≠ 0 then (Gd.holdF E.its x.item c).2 else E.its, setR c (cns E.l c + x.coins) E.l⟩) := by
    unfold putE; rw [if_neg n1, if_neg n2, if_neg (by simp [ht])]
  simp
  refine eff_ldc (hf h2).2.1 ?_
  simp
  refine cndI (fun hi => ?_) (fun hi => ?_)
  · simp at hi
    rw [if_pos hi] at hk
    simp
    refine regmI (Pu.cls1 (St w0 (rpA A p g s lg b x pr wv ⟨(Pu.takeF E.P x.acc x.coins).2, E.its, E.l⟩)) (St w0 (rpA A p g s lg b x pr wv ⟨(Pu.takeF E.P x.acc x.coins).2, (Gd.holdF E.its x.item c).2, E.l⟩))) h2.drew ?_
    simp
    refine effm_ldc (v := .pointer (some ⟨g, 0, none⟩)) (fun vs' w he hw => (hf (cls1_pre he hw)).2.2.2.2) ?_
    simp
    refine effm_ldc (v := .int .i64 x.item) (fun vs' w he hw => (hf (cls1_pre he hw)).2.1) ?_
    simp
    refine effm_mv (by rfl) (fun w hw => eff_call ((Gd.rHold_spec g lg E.its x.item c w0 w (A * pt b (.cells (x.cs pr wv).toArray 46 (0, 0)) * Pu.rpur p (Pu.takeF E.P x.acc x.coins).2 * resc s p g E.l) hE.G (St.to hw (by simp only [rpA]; ac_rfl))).mono ?_)) (fun r hr => ?_)
    · rintro r w' ⟨e, h⟩
      exact h.to (by simp only [rpA]; ac_rfl)
    simp
    intro w3 h3
    have := rput_end p g s b lp lg c pr x wv E w0 w3 A a2 a5 a6 a7 (.int .i64 (Pu.takeF E.P x.acc x.coins).1) hE hx hl _ _ ht hk h3
    simpa using this
  · simp at hi
    rw [if_neg (by simp [hi])] at hk
    simp
    have := rput_end p g s b lp lg c pr x wv E w0 w2 A a2 a5 a6 a7 (.int .i64 (Pu.takeF E.P x.acc x.coins).1) hE hx hl _ _ ht hk h2
    simpa using this
end
theorem rput_spec (p g s : Nat) (lp lg c pr : Int) (x : Et) (wv : Value) (E : Eco) (w0 w : World) (A : Asn)
    (hE : EI lp lg E) (hl : E.l.length ≤ 2097152) (hx : 0 ≤ x.coins ∧ x.coins < 18446744073709551616) (h : St w0 (A * recoA p g s lg E) w) :
    CallW Tryz.prog 94 [.pointer (some ⟨s, 0, none⟩), .int .i64 c, .agg (x.cs pr wv).toArray]
      (fun r w' => r = .int .i64 (putE c x E).1 ∧ St w0 (A * recoA p g s lg (putE c x E).2) w') w := by
  refine callW_of_lift l94_ok (by simp [l94]) ?_
  simp [l94]
  refine eff_box h fun b w1 h1 => ?_
  simp
  have h4 : St w0 (rpA A p g s lg b x pr wv E) w1 := h1.to (by simp only [rpA, recoA, cells_agg]; ac_rfl)
  clear h h1
  refine regmQ (clsN (St w0 (rpA A p g s lg b x pr wv E)) (fun q => St w0 (rpA A p g s lg b x pr wv E * pt q (.cells (Pu.Ac.cs ⟨[], 0⟩).toArray 58 (0, 0))))
    (fun q => St w0 (rpA A p g s lg b x pr wv E * pt q (.cells (Pu.getF E.P x.acc).1.cs.toArray 58 (0, 0))))) (fun _ _ => .tuple #[.agg (Pu.getF E.P x.acc).1.cs.toArray, .int .i64 (Pu.getF E.P x.acc).2]) h4.drew ?_
  simp
  refine effm_ldc (v := .pointer (some ⟨p, 0, none⟩)) (fun vs' w he hw => clsN_low (fun h => (rpfacts h).2.2.2.1) (fun b h => (rpfacts h.drop).2.2.2.1) (fun b h => (rpfacts h.drop).2.2.2.1) hw) ?_
  simp
  refine effm_ldc (v := .int .i64 x.acc) (fun vs' w he hw => clsN_low (fun h => (rpfacts h).1) (fun b h => (rpfacts h.drop).1) (fun b h => (rpfacts h.drop).1) hw) ?_
  simp
  refine effm_qc (by kernel_rfl) (by rfl) (by intro h; cases h) (fun vs' w he hw => clsN_call (fun h => rpget hE x.acc h) (fun b h => (rpget hE x.acc (rpA_in h)).mono fun r w' ⟨e, h⟩ => ⟨e, rpA_out h⟩) (fun b h => (rpget hE x.acc (rpA_in h)).mono fun r w' ⟨e, h⟩ => ⟨e, rpA_out h⟩) hw) ?_
  simp
  refine effm_mv (by rfl) (fun w hw => eff_new (z := .agg (Pu.Ac.cs ⟨[], 0⟩).toArray) hw fun b w' h => ⟨b, rfl, h⟩) (fun r hr => ?_)
  obtain ⟨_, b7, rfl, _⟩ := hr
  simp
  refine effm_mv (by rfl) (fun w hw => ?_) (fun r hr => ?_)
  · obtain ⟨b, e, hw⟩ := hw
    cases e
    exact eff_stA (vs := (Pu.getF E.P x.acc).1.cs) hw rfl rfl (Pu.cs_one _) (by simp [Pu.Ac.cs]) fun w' h => ⟨b7, rfl, by simpa [Pu.Ac.cs] using h⟩
  simp
  rintro w4 ⟨_, e, h5⟩
  cases e
  have h6 := h5.drop
  have fin : RPutPost w0 A p g s lg c x E = (fun r w' => r = .int .i64 (putE c x E).1 ∧ St w0 (A * recoA p g s lg (putE c x E).2) w') := rfl
  refine cndI (fun hg => ?_) (fun hg => ?_)
  · simp at hg
    have hg2 := (get_or E.P x.acc).resolve_left hg
    have hk : putE c x E = (142, E) := by unfold putE; rw [if_pos hg]
    simp
    rw [hg2, hk]
    exact ⟨rfl, rpA_eco h6⟩
  simp at hg
  simp
  refine eff_ldc (rpfacts h6).2.1 ?_
  simp
  refine cndI (fun hi => ?_) (fun hi => ?_)
  · simp at hi
    simp
    refine regmQ (clsN (St w0 (rpA A p g s lg b x pr wv E)) (fun q => St w0 (rpA A p g s lg b x pr wv E * pt q (.cells (Gd.It.cs ⟨0, 0, 0, 0⟩).toArray 60 (0, 0))))
      (fun q => St w0 (rpA A p g s lg b x pr wv E * pt q (.cells (Gd.getF E.its x.item).1.cs.toArray 60 (0, 0))))) (fun _ _ => .tuple #[.agg (Gd.getF E.its x.item).1.cs.toArray, .int .i64 (Gd.getF E.its x.item).2]) h6.drew ?_
    simp
    refine effm_ldc (v := .pointer (some ⟨g, 0, none⟩)) (fun vs' w he hw => clsN_low (fun h => (rpfacts h).2.2.2.2) (fun b h => (rpfacts h.drop).2.2.2.2) (fun b h => (rpfacts h.drop).2.2.2.2) hw) ?_
    simp
    refine effm_ldc (v := .int .i64 x.item) (fun vs' w he hw => clsN_low (fun h => (rpfacts h).2.1) (fun b h => (rpfacts h.drop).2.1) (fun b h => (rpfacts h.drop).2.1) hw) ?_
    simp
    refine effm_qc (by kernel_rfl) (by rfl) (by intro h; cases h) (fun vs' w he hw => clsN_call (fun h => rpitm hE x.item h) (fun b h => (rpitm hE x.item (rpA_in h)).mono fun r w' ⟨e, h⟩ => ⟨e, rpA_out h⟩) (fun b h => (rpitm hE x.item (rpA_in h)).mono fun r w' ⟨e, h⟩ => ⟨e, rpA_out h⟩) hw) ?_
    simp
    refine effm_mv (by rfl) (fun w hw => eff_new (z := .agg (Gd.It.cs ⟨0, 0, 0, 0⟩).toArray) hw fun b w' h => ⟨b, rfl, h⟩) (fun r hr => ?_)
    obtain ⟨_, b8, rfl, _⟩ := hr
    simp
    refine effm_mv (by rfl) (fun w hw => ?_) (fun r hr => ?_)
    · obtain ⟨b, e, hw⟩ := hw
      cases e
      exact eff_stA (vs := (Gd.getF E.its x.item).1.cs) hw rfl rfl (Gd.cs_one _) (by simp [Gd.It.cs]) fun w' h => ⟨b8, rfl, by simpa [Gd.It.cs] using h⟩
    simp
    rintro w5 ⟨_, e, h7⟩
    cases e
    have bad : ((Gd.getF E.its x.item).2 ≠ 0 ∨ (Gd.getF E.its x.item).1.con ≠ 0 ∨ (Gd.getF E.its x.item).1.acc ≠ x.acc) → (.int .i64 151 = Value.int .i64 (putE c x E).1) ∧ St w0 (A * recoA p g s lg (putE c x E).2) w5 := fun hb => by
      have hk : putE c x E = (151, E) := by unfold putE; rw [if_neg (by simpa using hg), if_pos ⟨hi, hb⟩]
      rw [hk]
      exact ⟨rfl, rpA_eco h7.drop⟩
    rcases get_item E.its x.item with e1 | e1
    · simp [e1]
      refine eff_ldc (v := .int .i64 (Gd.getF E.its x.item).1.con) ((cell_of h7.look).trans rfl) ?_
      simp
      by_cases e2 : (Gd.getF E.its x.item).1.con = 0
      · simp [e2]
        refine eff_ldc (v := .int .i64 (Gd.getF E.its x.item).1.acc) ((cell_of h7.look).trans rfl) ?_
        simp
        refine eff_ldc (rpfacts h7.drop).1 ?_
        simp
        refine cndI (fun hcn => ?_) (fun hcn => ?_)
        · simp at hcn
          simp
          simpa using bad (.inr (.inr hcn))
        · simp at hcn
          simp
          have := rput_mid p g s b lp lg c pr x wv E w0 w5 A (.agg (x.cs pr wv).toArray) (.int .i64 (Pu.getF E.P x.acc).2) (.pointer (some ⟨b8, 0, none⟩)) (.int .i64 0) undef hE hx hl hg (fun _ => ⟨e1, e2, hcn⟩) h7.drop
          rw [fin] at this
          simpa using this
      · simp [e2]
        simpa using bad (.inr (.inl e2))
    · simp [e1]
      simpa using bad (.inl (by omega))
  · simp at hi
    simp
    have := rput_mid p g s b lp lg c pr x wv E w0 w4 A (.agg (x.cs pr wv).toArray) (.int .i64 (Pu.getF E.P x.acc).2) undef undef undef hE hx hl hg (fun h => absurd hi h) h6
    rw [fin] at this
    simpa using this
end Go.HL.Es

namespace Go.HL.Es
open Go.HL Go.Proofs
set_option maxRecDepth 4000
set_option linter.unusedSimpArgs false
set_option linter.unusedVariables false
theorem giveF_del (c : Int) (x : Gf) (E : Eco) : del c (giveF c x E).2.l = del c E.l := by
  unfold giveF
  split
  · rfl
  split
  · rfl
  split
  · rfl
  · exact del_setR _ _ _
theorem len_del {lp lg c : Int} {E E' : Eco} (h : del c E'.l = del c E.l) (hE : EI lp lg E') : E'.l.length ≤ E.l.length + 1 := by
  have h1 := rows_len (c := c) hE.R
  rw [h] at h1
  have h2 : (del c E.l).length ≤ E.l.length := List.length_filter_le _ _
  omega
theorem rgifts_spec (q g s : Nat) (lp lg c : Int) (gs : List Gf) (gv : Value) (E : Eco) (w0 w : World) (A : Asn) (hE : EI lp lg E) (hc : 1 ≤ c ∧ c < 9223372036854775808) (hl : E.l.length ≤ 2000000)
    (hx : ∀ x ∈ gs, 0 ≤ x.coins ∧ x.coins < 18446744073709551616) (hn : gs.length ≤ 4194304) (hr : Row w0 A gv gs.length 3 (gflat gs)) (h : St w0 (A * recoA q g s lg E) w) :
    CallW Tryz.prog 93 [.pointer (some ⟨s, 0, none⟩), .int .i64 c, gv] (fun r w' => if (giveL c gs E).1 = 0 then ∃ q' g' s', r = .tuple #[.pointer (some ⟨s', 0, none⟩), .int .i64 0] ∧ St w0 (A * recoA q g s lg E * recoA q' g' s' lg (giveL c gs E).2) w'
      else r = .tuple #[.pointer none, .int .i64 (giveL c gs E).1] ∧ St w0 (A * recoA q g s lg E) w') w := by
  obtain ⟨ga, gcap, rfl⟩ := hr.val
  refine callW_of_lift l93_ok (by simp [l93]) ?_
  simp [l93]
  refine eff_call ((rCopy_spec q g s lp lg E w0 w A hE (by omega) h).mono ?_)
  rintro r w1 ⟨q', g', s', rfl, h1⟩
  clear h
  simp
  refine loopI (fun env w' => ∃ (i : Nat) (Ei : Eco) (o7 : Value), env = [.pointer (some ⟨s, 0, none⟩), .int .i64 c, .slice ga gs.length gcap, .pointer none, .int .i64 0, .pointer (some ⟨s', 0, none⟩), .int .i64 i, o7] ∧ i ≤ gs.length ∧ EI lp lg Ei ∧ del c Ei.l = del c E.l ∧
      giveL c gs E = giveL c (gs.drop i) Ei ∧ St w0 (A * recoA q g s lg E * recoA q' g' s' lg Ei) w')
    (fun env _ => gs.length - slotN env 6) ⟨0, E, _, rfl, by omega, hE, rfl, rfl, h1⟩ ?_
  clear h1
  rintro LQ env w' ⟨i, Ei, o7, rfl, hi, hEi, hd, hG, s1⟩ hN hX hR
  simp
  refine cndI (fun hlt => ?_) (fun hlt => ?_)
  · simp at hlt
    obtain ⟨gg, go, gc', hv, hcell⟩ := hr.at (by omega)
    cases hv
    have hdr : gs.drop i = gs[i] :: gs.drop (i + 1) := List.drop_eq_getElem_cons hlt
    have hll := len_del hd hEi
    simp [hlt]
    refine eff_ldcs (vs := gs[i].cs) (fun j u hu => by rw [Nat.add_assoc]; exact hcell _ s1.drop.drop _ _ (gflat_at hlt j u hu)) rfl ?_
    simp
    refine eff_call ((rgive_spec q' g' s' lp lg c gs[i] Ei w0 w' (A * recoA q g s lg E) hEi (by omega) (hx _ (List.getElem_mem hlt)) s1).mono ?_)
    rintro r w2 ⟨rfl, s2⟩
    simp
    rw [hdr] at hG
    by_cases h0 : (giveF c gs[i] Ei).1 = 0
    · simp [h0]
      try simp (disch := omega) only [wrap64]
      refine hN _ _ ⟨i + 1, (giveF c gs[i] Ei).2, _, by simp; rfl, by omega, give_ei hEi hc (hx _ (List.getElem_mem hlt)).1, (giveF_del _ _ _).trans hd, ?_, s2⟩ (by simp [slotN]; omega)
      rw [hG]
      simp [giveL, h0]
    · simp [h0]
      refine hR _ _ ?_
      have e : (giveL c gs E).1 = (giveF c gs[i] Ei).1 := by rw [hG]; simp [giveL, h0]
      simp [e, h0]
      exact s2.drop
  · simp at hlt
    simp
    refine hX _ _ _ ?_
    have : i = gs.length := by omega
    subst this
    rw [List.drop_length] at hG
    rw [hG]
    simp [giveL]
    exact ⟨q', g', s1⟩
theorem rTurn_spec (q g s : Nat) (lp lg c pr : Int) (gs : List Gf) (gv : Value) (x : Et) (wv : Value) (E : Eco) (w0 w : World) (A : Asn) (hE : EI lp lg E) (hc : c < 9223372036854775808) (hl : E.l.length ≤ 2000000)
    (hx : ∀ x ∈ gs, 0 ≤ x.coins ∧ x.coins < 18446744073709551616) (hxc : 0 ≤ x.coins ∧ x.coins < 18446744073709551616) (hn : gs.length ≤ 4194304) (hr : Row w0 A gv gs.length 3 (gflat gs)) (h : St w0 (A * recoA q g s lg E) w) :
    CallW Tryz.prog 52 [.pointer (some ⟨s, 0, none⟩), .int .i64 c, gv, .agg (x.cs pr wv).toArray] (fun r w' => r = .int .i64 (turnF c gs (putE c x) E).1 ∧ St w0 (A * recoA q g s lg (turnF c gs (putE c x) E).2) w') w := by
  refine callW_of_lift l52_ok (by simp [l52]) ?_
  simp [l52]
  refine eff_box h fun b w1 h1 => ?_
  simp
  have h2 : St w0 (A * pt b (.cells (x.cs pr wv).toArray 46 (0, 0)) * recoA q g s lg E) w1 := h1.swap
  have cut : ∀ {E' : Eco} {w : World}, St w0 (A * pt b (.cells (x.cs pr wv).toArray 46 (0, 0)) * recoA q g s lg E') w → St w0 (A * recoA q g s lg E') w := fun h => h.swap.drop
  refine eff_call ((rasked_spec s c w0 w1 _ h2).mono ?_)
  rintro r w2 ⟨rfl, h3⟩
  clear h h1 h2
  by_cases hc1 : c < 1
  · simp [hc1]
    have e : turnF c gs (putE c x) E = (2, E) := by unfold turnF; rw [if_pos hc1]
    rw [e]
    exact ⟨rfl, cut h3⟩
  have hcc : 1 ≤ c ∧ c < 9223372036854775808 := ⟨by omega, hc⟩
  simp [hc1]
  refine eff_call ((rgifts_spec q g s lp lg c gs gv E w0 w2 (A * pt b (.cells (x.cs pr wv).toArray 46 (0, 0))) hE hcc hl hx hn (hr.mono fun w s => s.drop) h3).mono ?_)
  intro r w3 h4
  by_cases hg : (giveL c gs E).1 = 0
  · rw [if_pos hg] at h4
    obtain ⟨q', g', s', rfl, h4⟩ := h4
    have hE2 := giveL_ei hcc hE (gs := gs) fun x h => (hx x h).1
    have hl2 : (giveL c gs E).2.l.length ≤ 2097152 := by
      have hd : ∀ (gs : List Gf) (E : Eco), del c (giveL c gs E).2.l = del c E.l := by
        intro gs
        induction gs with
        | nil => intro E; rfl
        | cons y t ih =>
          intro E
          unfold giveL
          split
          · rfl
          · rw [ih, giveF_del]
      have := len_del (hd gs E) hE2
      omega
    simp
    refine eff_ldcs (vs := x.cs pr wv) (fun j u hu => by have := h4.drop.drop.row_cells j u hu; simpa using this) rfl ?_
    simp
    refine eff_call ((rput_spec q' g' s' lp lg c pr x wv (giveL c gs E).2 w0 w3 (A * pt b (.cells (x.cs pr wv).toArray 46 (0, 0)) * recoA q g s lg E) hE2 hl2 hxc h4).mono ?_)
    rintro r w4 ⟨rfl, h5⟩
    have hE3 := put_ei hE2 hcc hxc
    by_cases hp : (putE c x (giveL c gs E).2).1 = 0
    · have e : turnF c gs (putE c x) E = (0, (putE c x (giveL c gs E).2).2) := by unfold turnF; rw [if_neg hc1, if_neg (by simp [hg]), if_neg (by simp [hp])]
      rw [e]
      simp [hp]
      refine eff_call ((ris_spec q g s q' g' s' lg E (putE c x (giveL c gs E).2).2 w0 w4 (A * pt b (.cells (x.cs pr wv).toArray 46 (0, 0))) (by rw [hE3.P.eqlim, hE.P.eqlim]) h5).mono ?_)
      intro r w5 h6
      simp
      exact cut h6
    · have e : turnF c gs (putE c x) E = ((putE c x (giveL c gs E).2).1, E) := by unfold turnF; rw [if_neg hc1, if_neg (by simp [hg]), if_pos hp]
      rw [e]
      simp [hp]
      exact cut h5.drop
  · rw [if_neg hg] at h4
    obtain ⟨rfl, h4⟩ := h4
    have e : turnF c gs (putE c x) E = ((giveL c gs E).1, E) := by unfold turnF; rw [if_neg hc1, if_pos hg]
    rw [e]
    simp [hg]
    exact cut h4
end Go.HL.Es

namespace Go.HL.Es
open Go.HL Go.Proofs
set_option maxRecDepth 4000
set_option linter.unusedSimpArgs false
set_option linter.unusedVariables false
theorem rPut_spec (q g s : Nat) (lp lg c pr : Int) (x : Et) (wv : Value) (E : Eco) (w0 w : World) (A : Asn) (hE : EI lp lg E) (hc : c < 9223372036854775808) (hl : E.l.length ≤ 2000000)
    (hxc : 0 ≤ x.coins ∧ x.coins < 18446744073709551616) (h : St w0 (A * recoA q g s lg E) w) :
    CallW Tryz.prog 50 [.pointer (some ⟨s, 0, none⟩), .int .i64 c, .agg (x.cs pr wv).toArray] (fun r w' => r = .int .i64 (turnF c [] (putE c x) E).1 ∧ St w0 (A * recoA q g s lg (turnF c [] (putE c x) E).2) w') w := by
  refine callW_of_lift l50_ok (by simp [l50]) ?_
  simp [l50]
  refine eff_box h fun b w1 h1 => ?_
  simp
  refine eff_ldcs (vs := x.cs pr wv) (fun j u hu => by have := h1.row_cells (vs := x.cs pr wv) j u hu; simpa using this) rfl ?_
  simp
  refine eff_call ((rTurn_spec q g s lp lg c pr [] (.slice none 0 0) x wv E w0 w1 _ hE hc hl (by simp) hxc (by simp) (row_nil w0 _ 3) (St.swap h1)).mono ?_)
  rintro r w2 ⟨rfl, h2⟩
  simp
  exact h2.swap.drop
theorem rEnd_spec (q g s : Nat) (lp lg c : Int) (gs : List Gf) (gv : Value) (E : Eco) (w0 w : World) (A : Asn) (hE : EI lp lg E) (hc : c < 9223372036854775808) (hl : E.l.length ≤ 2000000)
    (hx : ∀ x ∈ gs, 0 ≤ x.coins ∧ x.coins < 18446744073709551616) (hn : gs.length ≤ 4194304) (hr : Row w0 A gv gs.length 3 (gflat gs)) (h : St w0 (A * recoA q g s lg E) w) :
    CallW Tryz.prog 55 [.pointer (some ⟨s, 0, none⟩), .int .i64 c, gv] (fun r w' => r = .int .i64 (turnF c gs (endE c) E).1 ∧ St w0 (A * recoA q g s lg (turnF c gs (endE c) E).2) w') w := by
  refine callW_of_lift l55_ok (by simp [l55]) ?_
  simp [l55]
  refine eff_call ((rasked_spec s c w0 w _ h).mono ?_)
  rintro r w2 ⟨rfl, h3⟩
  clear h
  by_cases hc1 : c < 1
  · simp [hc1]
    have e : turnF c gs (endE c) E = (2, E) := by unfold turnF; rw [if_pos hc1]
    rw [e]
    exact ⟨rfl, h3⟩
  have hcc : 1 ≤ c ∧ c < 9223372036854775808 := ⟨by omega, hc⟩
  simp [hc1]
  refine eff_call ((rgifts_spec q g s lp lg c gs gv E w0 w2 A hE hcc hl hx hn hr h3).mono ?_)
  intro r w3 h4
  by_cases hg : (giveL c gs E).1 = 0
  · rw [if_pos hg] at h4
    obtain ⟨q', g', s', rfl, h4⟩ := h4
    have hE2 := giveL_ei hcc hE (gs := gs) fun x h => (hx x h).1
    have hl2 : (giveL c gs E).2.l.length ≤ 2097152 := by
      have hd : ∀ (gs : List Gf) (E : Eco), del c (giveL c gs E).2.l = del c E.l := by
        intro gs
        induction gs with
        | nil => intro E; rfl
        | cons y t ih =>
          intro E
          unfold giveL
          split
          · rfl
          · rw [ih, giveF_del]
      have := len_del (hd gs E) hE2
      omega
    have eE : turnF c gs (endE c) E = if (endE c (giveL c gs E).2).1 ≠ 0 then ((endE c (giveL c gs E).2).1, E) else (0, (giveL c gs E).2) := by
      unfold turnF; rw [if_neg hc1, if_neg (by simp [hg])]; rfl
    generalize (giveL c gs E).2 = E2 at *
    have bad : (cns E2.l c ≠ 0 ∨ (Gd.inF E2.its c).length ≠ 0) → turnF c gs (endE c) E = (170, E) := fun hb => by
      rw [eE]; unfold endE; rw [if_pos hb]; first | done | simp
    simp
    refine eff_call ((rCoins_spec s' q' g' E2.l c w0 w3 (A * recoA q g s lg E * Pu.rpur q' E2.P * Gd.rgs g' lg E2.its) (by omega) (h4.to (by simp only [recoA]; ac_rfl))).mono ?_)
    rintro r w4 ⟨rfl, h5⟩
    by_cases hz : cns E2.l c = 0
    · simp [hz]
      refine eff_call ((rItems_spec s' q' g' lg c E2.l E2.its w0 w4 (A * recoA q g s lg E * Pu.rpur q' E2.P) hE2.G (h5.to (by ac_rfl))).mono ?_)
      intro r w5 h6
      obtain ⟨ia, ic, rfl, _⟩ := h6.own_val
      by_cases hi : (Gd.inF E2.its c).length = 0
      · have e : turnF c gs (endE c) E = (0, E2) := by
          rw [eE]; unfold endE; rw [if_neg (by simp [hz, hi])]; first | done | simp
        rw [e]
        simp [hi]
        refine eff_call ((ris_spec q g s q' g' s' lg E E2 w0 w5 A (by rw [hE2.P.eqlim, hE.P.eqlim]) (h6.drop.to (by simp only [recoA]; ac_rfl))).mono ?_)
        intro r w6 h7
        simp
        exact h7
      · rw [bad (.inr hi)]
        simp [show 0 < (Gd.inF E2.its c).length by omega]
        exact h6.drop.drop.drop.drop
    · rw [bad (.inl hz)]
      simp [hz]
      exact h5.drop.drop.drop
  · rw [if_neg hg] at h4
    obtain ⟨rfl, h4⟩ := h4
    have e : turnF c gs (endE c) E = ((giveL c gs E).1, E) := by unfold turnF; rw [if_neg hc1, if_pos hg]
    rw [e]
    simp [hg]
    exact h4
end Go.HL.Es

namespace Go.HL.Es
open Go.HL Go.Proofs
set_option maxRecDepth 4000
set_option linter.unusedSimpArgs false
set_option linter.unusedVariables false
theorem lastK_at {l : List Rw} {i : Nat} (hi : i < l.length) (h : 0 < i) : lastK (l.take i) = l[i - 1].1 := by
  obtain ⟨j, rfl⟩ : ∃ j, i = j + 1 := ⟨i - 1, by omega⟩
  rw [List.take_succ_eq_append_getElem (by omega), lastK_snoc]
  simp
set_option maxHeartbeats 1000000 in
theorem rLoad_spec (q g : Nat) (lp lg : Int) (rows : List Rw) (v : Value) (P : Pu.Ps) (its : List Gd.It) (w0 w : World) (A : Asn) (hP : Pu.PI lp P) (hn : rows.length ≤ 1048576)
    (hb : ∀ r ∈ rows, (-9223372036854775808 ≤ r.1 ∧ r.1 < 9223372036854775808) ∧ 0 ≤ r.2 ∧ r.2 < 18446744073709551616) (hr : Row w0 A v rows.length 2 (rflat rows)) (h : St w0 (A * Pu.rpur q P * Gd.rgs g lg its) w) :
    CallW Tryz.prog 48 [.pointer (some ⟨q, 0, none⟩), .pointer (some ⟨g, 0, none⟩), v]
      (fun r w' => (escE rows P.held = 0 ∧ ∃ s, r = .tuple #[.pointer (some ⟨s, 0, none⟩), .int .i64 0] ∧ St w0 (A * recoA q g s lg ⟨P, its, rows⟩) w') ∨
        (escE rows P.held ≠ 0 ∧ r = .tuple #[.pointer none, .int .i64 (escE rows P.held)] ∧ St w0 (A * Pu.rpur q P * Gd.rgs g lg its) w')) w := by
  have hh : 0 ≤ P.held ∧ P.held < 18446744073709551616 := by have := hP.bd.held; omega
  refine callW_of_lift l48_ok (by simp [l48]) ?_
  simp [l48]
  obtain ⟨a, cap, rfl⟩ := hr.val
  refine eff_call ((Pu.rHeld_spec q lp P w0 w (A * Gd.rgs g lg its) hP h.swap).mono ?_)
  rintro r w1 ⟨rfl, h1⟩
  simp
  refine loopI (fun env w' => ∃ (i : Nat) (left : Int) (over : Bool) (o8 : Value), env = [.pointer (some ⟨q, 0, none⟩), .pointer (some ⟨g, 0, none⟩), .slice a rows.length cap, .pointer none, .int .i64 0, .int .u64 left, .bool over, .int .i64 i, o8] ∧ i ≤ rows.length ∧ RwOK (rows.take i) ∧
      (over = false → left = P.held - sumR (rows.take i) ∧ 0 ≤ left ∧ left < 18446744073709551616) ∧ (over = true → P.held < sumR (rows.take i)) ∧ St w0 (A * Pu.rpur q P * Gd.rgs g lg its) w')
    (fun env _ => rows.length - slotN env 7) ⟨0, P.held, false, _, rfl, by omega, ⟨by simp, by simp⟩, fun _ => ⟨by simp [sumR], hh⟩, by simp, h1.swap⟩ ?_
  clear h h1
  rintro LQ env w' ⟨i, left, over, o8, rfl, hi, hok, hov, hov2, s1⟩ hN hX hR
  simp
  refine cndI (fun hc => ?_) (fun hc => ?_)
  · simp at hc
    obtain ⟨g', o, cap', hv, hcell⟩ := hr.at (by omega)
    cases hv
    have hbi := hb rows[i] (List.getElem_mem hc)
    have rd : ∀ {w : World}, St w0 (A * Pu.rpur q P * Gd.rgs g lg its) w → ∀ (k : Nat) (hk : k < rows.length) j u, (rows[k].cs)[j]? = some u → w.cell? ⟨g', o + k * 2 + j, none⟩ = some u := fun s k hk j u hu => by
      rw [Nat.add_assoc]; exact hcell _ s.drop.drop _ _ (rflat_at hk j u hu)
    have bad : (rows[i].1 ≤ lastK (rows.take i) ∨ rows[i].2 = 0) → escE rows P.held = 2 := fun hx => by
      unfold escE; rw [if_neg (rw_bad hc hx hok)]
    have hnn := lastK_nonneg hok
    have fail : ∀ w2, St w0 (A * Pu.rpur q P * Gd.rgs g lg its) w2 → (rows[i].1 ≤ lastK (rows.take i) ∨ rows[i].2 = 0) →
        LQ .ret [.pointer (some ⟨q, 0, none⟩), .pointer (some ⟨g, 0, none⟩), .slice (some ⟨g', o, none⟩) rows.length cap, .pointer none, .int .i64 2, .int .u64 left, .bool over, .int .i64 i, o8] w2 := fun w2 s2 hx => by
      refine hR _ _ ?_
      simp
      rw [bad hx]
      exact ⟨by decide, rfl, s2⟩
    have esum : sumR (rows.take (i + 1)) = sumR (rows.take i) + rows[i].2 := by rw [List.take_succ_eq_append_getElem hc, sumR_app]; simp [sumR]
    have go : ∀ w2, St w0 (A * Pu.rpur q P * Gd.rgs g lg its) w2 → ¬ rows[i].1 ≤ lastK (rows.take i) → ¬ rows[i].2 = 0 →
        HC.wp E0 h48_8 (blockQ 1 (seqQ E0 h48_5 LQ)) [.pointer (some ⟨q, 0, none⟩), .pointer (some ⟨g, 0, none⟩), .slice (some ⟨g', o, none⟩) rows.length cap, .pointer none, .int .i64 0, .int .u64 left, .bool over, .int .i64 i, o8] w2 := fun w2 s2 hk hz => by
      have hok' := rw_take_succ hc hok (by omega) (by omega) hbi.1.2
      cases over with
      | true =>
        simp
        try simp (disch := omega) only [wrap64]
        exact hN _ _ ⟨i + 1, left, true, o8, by simp, by omega, hok', by simp, fun _ => by have := hov2 rfl; omega, s2⟩ (by simp [slotN]; omega)
      | false =>
        obtain ⟨e1, e2⟩ := hov rfl
        simp [hc]
        refine eff_ldc (v := .int .u64 rows[i].2) (by have := rd s2 i hc 1 _ rfl; simpa using this) ?_
        simp
        refine cndI (fun h4 => ?_) (fun h4 => ?_)
        · simp at h4
          simp
          try simp (disch := omega) only [wrap64]
          exact hN _ _ ⟨i + 1, left, true, o8, by simp, by omega, hok', by simp, fun _ => by omega, s2⟩ (by simp [slotN]; omega)
        · simp at h4
          simp [hc]
          refine eff_ldc (v := .int .u64 rows[i].2) (by have := rd s2 i hc 1 _ rfl; simpa using this) ?_
          simp
          try simp (disch := omega) only [wrap64]
          have ew : IntKind.u64.wrap (left - rows[i].2) = left - rows[i].2 := by rw [wrapU]; omega
          rw [ew]
          exact hN _ _ ⟨i + 1, left - rows[i].2, false, o8, by simp, by omega, hok', fun _ => ⟨by omega, by omega, by omega⟩, by simp, s2⟩ (by simp [slotN]; omega)
    refine brqI s1 ?_
    simp [hc]
    refine effq_ldc (v := .int .i64 rows[i].1) (fun w s => by have := rd s i hc 0 _ rfl; simpa using this) ?_
    simp
    by_cases k1 : rows[i].1 < 1
    · simp [k1, show ¬ 1 ≤ rows[i].1 by omega, isB, IteQ]
      intro w2 s2
      exact fail w2 s2 (.inl (by omega))
    by_cases k0 : i = 0
    · have k0' : ¬ 0 < i := by omega
      simp [k1, show 1 ≤ rows[i].1 by omega, k0', isB, IteQ, hc]
      refine effq_ldc (v := .int .u64 rows[i].2) (fun w s => by have := rd s i hc 1 _ rfl; simpa using this) ?_
      simp
      intro w2 s2
      refine cndI (fun h4 => ?_) (fun h4 => ?_)
      · simp at h4
        simp
        exact fail w2 s2 (.inr h4)
      · simp at h4
        have hlk : ¬ rows[i].1 ≤ lastK (rows.take i) := by
          have e : lastK (rows.take i) = 0 := by subst k0; simp [lastK]
          rw [e]; omega
        exact go w2 s2 hlk h4
    · have hp : 0 < i := by omega
      have hl := lastK_at hc hp
      have hi1 : i - 1 < rows.length := by omega
      have ei : IntKind.i64.wrap ((i : Int) - 1) = ((i - 1 : Nat) : Int) := by rw [wrap64 (by omega) (by omega)]; omega
      simp [k1, show 1 ≤ rows[i].1 by omega, hp, ei, hi1, isB, IteQ, hc]
      refine effq_ldc (v := .int .i64 rows[i].1) (fun w s => by have := rd s i hc 0 _ rfl; simpa using this) ?_
      simp [hp, ei, hi1]
      refine effq_ldc (v := .int .i64 rows[i - 1].1) (fun w s => by have := rd s (i - 1) hi1 0 _ rfl; simpa using this) ?_
      simp
      by_cases k2 : rows[i].1 ≤ rows[i - 1].1
      · simp [k2, isB, IteQ, hc]
        intro w2 s2
        exact fail w2 s2 (.inl (by omega))
      · simp [k2, isB, IteQ, hc]
        refine effq_ldc (v := .int .u64 rows[i].2) (fun w s => by have := rd s i hc 1 _ rfl; simpa using this) ?_
        simp
        intro w2 s2
        refine cndI (fun h4 => ?_) (fun h4 => ?_)
        · simp at h4
          simp
          exact fail w2 s2 (.inr h4)
        · simp at h4
          exact go w2 s2 (by omega) h4
  · simp at hc
    simp
    refine hX _ _ _ ?_
    obtain rfl : i = rows.length := by omega
    rw [List.take_length] at hok hov hov2
    have he : escE rows P.held = if sumR rows = P.held then 0 else 170 := by unfold escE; rw [if_pos hok]
    rw [he]
    cases over with
    | true =>
      have := hov2 rfl
      simp [show ¬ sumR rows = P.held by omega]
      exact s1
    | false =>
      obtain ⟨e1, e2⟩ := hov rfl
      by_cases hz : left = 0
      · simp [hz, show sumR rows = P.held by omega, Instr.fill, Value.cells]
        refine eff_box s1 fun s w2 h2 => ?_
        simp
        have h2 : St w0 (A * Pu.rpur q P * Gd.rgs g lg its * rept s q g (.slice none 0 0)) w2 := h2
        refine eff_ldc (v := .slice none 0 0) ((cell_of h2.look).trans rfl) ?_
        simp
        refine eff_appR (h2.own_nil 100 2) (hr.mono fun w s => s.drop.drop.drop.drop) (rflat_one _) (by decide) rfl (by unfold maxLen; omega) (by omega) fun v2 w3 h3 => ?_
        have hv : v2.oneCell' = true := by obtain ⟨a, cap, rfl, _⟩ := h3.own_val; rfl
        simp at h3 ⊢
        refine eff_st1 h3.swap hv (by simp) fun w4 h4 => ?_
        simp at h4 ⊢
        have := resclose (s := s) (q := q) (g := g) (l := rows) (v := v2) (h4.swap)
        exact this.to (by simp only [recoA]; ac_rfl)
      · simp [hz, show ¬ sumR rows = P.held by omega]
        exact s1
end Go.HL.Es

namespace Go.HL.Es
open Go.HL Go.Proofs
set_option maxRecDepth 4000
set_option linter.unusedSimpArgs false
set_option linter.unusedVariables false

def h65_0 : HC := (.seq (.reg (.done [(2, (.cst (.bool true)))] none)) .ret)
@[simp] theorem h65_0_wp : type_of% (@wpH h65_0 _ h65_0.eq_1) := wpH h65_0.eq_1
def h65_1 : HC := (.reg (.chk none (.bin .add) (.cons (.inp 3) (.cons (.cst (.int .i64 1)) .nil)) (.done [(3, (.op (.bin .add) (.cons (.inp 3) (.cons (.cst (.int .i64 1)) .nil))))] none)))
@[simp] theorem h65_1_wp : type_of% (@wpH h65_1 _ h65_1.eq_1) := wpH h65_1.eq_1
def h65_2 : HC := (.seq (.reg (.done [(2, (.cst (.bool false)))] none)) .ret)
@[simp] theorem h65_2_wp : type_of% (@wpH h65_2 _ h65_2.eq_1) := wpH h65_2.eq_1
def h65_3 : HC := (.brq (some 0) (.chk none (.idxL 2) (.cons (.inp 0) (.cons (.inp 3) .nil)) (.chk none (.fld 0) (.cons (.op (.idxL 2) (.cons (.inp 0) (.cons (.inp 3) .nil))) .nil) (.eff (.ld false 1) (.cons (.op (.fld 0) (.cons (.op (.idxL 2) (.cons (.inp 0) (.cons (.inp 3) .nil))) .nil)) .nil) (.chk none (.idxL 2) (.cons (.inp 1) (.cons (.inp 3) .nil)) (.chk none (.fld 0) (.cons (.op (.idxL 2) (.cons (.inp 1) (.cons (.inp 3) .nil))) .nil) (.eff (.ld false 1) (.cons (.op (.fld 0) (.cons (.op (.idxL 2) (.cons (.inp 1) (.cons (.inp 3) .nil))) .nil)) .nil) (.chk none (.bin .neq) (.cons (.bv 0) (.cons (.bv 1) .nil)) (.bnd (.op (.bin .neq) (.cons (.bv 0) (.cons (.bv 1) .nil))) (.chk (some ((.bv 2), false)) (.idxL 2) (.cons (.inp 0) (.cons (.inp 3) .nil)) (.chk (some ((.bv 2), false)) (.fld 1) (.cons (.op (.idxL 2) (.cons (.inp 0) (.cons (.inp 3) .nil))) .nil) (.ite (.bv 2) false (.eff (.ld false 1) (.cons (.ite (.bv 2) false (.op (.fld 1) (.cons (.op (.idxL 2) (.cons (.inp 0) (.cons (.inp 3) .nil))) .nil)) (.cst (.tuple #[]))) .nil) (.chk none (.idxL 2) (.cons (.inp 1) (.cons (.inp 3) .nil)) (.chk none (.fld 1) (.cons (.op (.idxL 2) (.cons (.inp 1) (.cons (.inp 3) .nil))) .nil) (.eff (.ld false 1) (.cons (.op (.fld 1) (.cons (.op (.idxL 2) (.cons (.inp 1) (.cons (.inp 3) .nil))) .nil)) .nil) (.chk none (.bin .neq) (.cons (.bv 3) (.cons (.bv 4) .nil)) (.isb none (.bv 2) (.done [] (some (.op (.bin .neq) (.cons (.bv 3) (.cons (.bv 4) .nil))))))))))) (.isb none (.bv 2) (.done [] (some (.cst (.bool true)))))))))))))))) h65_2 .skip)
@[simp] theorem h65_3_wp : type_of% (@wpH h65_3 _ h65_3.eq_1) := wpH h65_3.eq_1
def h65_4 : HC := (.seq (.block 1 h65_3) h65_1)
@[simp] theorem h65_4_wp : type_of% (@wpH h65_4 _ h65_4.eq_1) := wpH h65_4.eq_1
def h65_5 : HC := (.seq (.br (.chk none .lenL (.cons (.inp 0) .nil) (.chk none (.bin .lss) (.cons (.inp 3) (.cons (.op .lenL (.cons (.inp 0) .nil)) .nil)) (.done [] (some (.op (.bin .lss) (.cons (.inp 3) (.cons (.op .lenL (.cons (.inp 0) .nil)) .nil))))))) .skip (.exit 0)) h65_4)
@[simp] theorem h65_5_wp : type_of% (@wpH h65_5 _ h65_5.eq_1) := wpH h65_5.eq_1
def h65_6 : HC := (.loop h65_5)
@[simp] theorem h65_6_wp : type_of% (@wpH h65_6 _ h65_6.eq_1) := wpH h65_6.eq_1
def h65_7 : HC := (.seq (.block 0 h65_6) h65_0)
@[simp] theorem h65_7_wp : type_of% (@wpH h65_7 _ h65_7.eq_1) := wpH h65_7.eq_1
def h65_8 : HC := (.seq (.reg (.done [(3, (.cst (.int .i64 0)))] none)) h65_7)
@[simp] theorem h65_8_wp : type_of% (@wpH h65_8 _ h65_8.eq_1) := wpH h65_8.eq_1
def h65_9 : HC := (.seq (.reg (.done [(2, (.cst (.bool false)))] none)) .ret)
@[simp] theorem h65_9_wp : type_of% (@wpH h65_9 _ h65_9.eq_1) := wpH h65_9.eq_1
def h65_10 : HC := (.seq (.br (.chk none .lenL (.cons (.inp 0) .nil) (.chk none .lenL (.cons (.inp 1) .nil) (.chk none (.bin .neq) (.cons (.op .lenL (.cons (.inp 0) .nil)) (.cons (.op .lenL (.cons (.inp 1) .nil)) .nil)) (.done [] (some (.op (.bin .neq) (.cons (.op .lenL (.cons (.inp 0) .nil)) (.cons (.op .lenL (.cons (.inp 1) .nil)) .nil)))))))) h65_9 .skip) h65_8)
@[simp] theorem h65_10_wp : type_of% (@wpH h65_10 _ h65_10.eq_1) := wpH h65_10.eq_1
def l65 : Lifted := ⟨[0, 1, 4, 5], 41, [.slot 2], (.seq (.reg (.done [(2, (.cst (.bool false)))] none)) h65_10)⟩
theorem l65_ok : liftFn E2 65 400 = some l65 := by kernel_rfl

def r49_0 : RT := (.chk (some ((.bv 0), true)) .lenL (.cons (.inp 0) .nil) (.chk (some ((.bv 0), true)) (.bin .add) (.cons (.op .lenL (.cons (.inp 0) .nil)) (.cons (.cst (.int .i64 1)) .nil)) (.chk (some ((.bv 0), true)) (.slL 2 false true false) (.cons (.inp 0) (.cons (.op (.bin .add) (.cons (.op .lenL (.cons (.inp 0) .nil)) (.cons (.cst (.int .i64 1)) .nil))) .nil)) (.chk (some ((.bv 0), true)) .lenL (.cons (.inp 0) .nil) (.chk (some ((.bv 0), true)) (.idxL 2) (.cons (.op (.slL 2 false true false) (.cons (.inp 0) (.cons (.op (.bin .add) (.cons (.op .lenL (.cons (.inp 0) .nil)) (.cons (.cst (.int .i64 1)) .nil))) .nil))) (.cons (.op .lenL (.cons (.inp 0) .nil)) .nil)) (.ite (.bv 0) true (.eff (.ld true 2) (.cons (.ite (.bv 0) true (.op (.idxL 2) (.cons (.op (.slL 2 false true false) (.cons (.inp 0) (.cons (.op (.bin .add) (.cons (.op .lenL (.cons (.inp 0) .nil)) (.cons (.cst (.int .i64 1)) .nil))) .nil))) (.cons (.op .lenL (.cons (.inp 0) .nil)) .nil))) (.cst (.tuple #[]))) .nil) (.chk none (.build #[(.int .i64 0), (.int .u64 0)] [(0, 1), (1, 1)] [0, 1]) (.cons (.cst (.int .i64 (-71))) (.cons (.cst (.int .u64 71)) .nil)) (.eff (.bin .eql 98 (.tmp 17) (.tmp 18)) (.cons (.bv 1) (.cons (.op (.build #[(.int .i64 0), (.int .u64 0)] [(0, 1), (1, 1)] [0, 1]) (.cons (.cst (.int .i64 (-71))) (.cons (.cst (.int .u64 71)) .nil))) .nil)) (.isb none (.bv 0) (.done [(2, (.bv 2))] none))))) (.isb none (.bv 0) (.done [(2, (.cst (.bool false)))] none))))))))
@[simp] theorem r49_0_wp : type_of% (@wpR r49_0 _ r49_0.eq_1) := wpR r49_0.eq_1
@[simp] theorem r49_0_wpq : type_of% (@wpRq r49_0 _ r49_0.eq_1) := wpRq r49_0.eq_1
@[simp] theorem r49_0_wpm : type_of% (@wpRm r49_0 _ r49_0.eq_1) := wpRm r49_0.eq_1
def h49_0 : HC := (.seq (.reg (.eff (.call 65) (.cons (.inp 0) (.cons (.inp 1) .nil)) r49_0)) .ret)
@[simp] theorem h49_0_wp : type_of% (@wpH h49_0 _ h49_0.eq_1) := wpH h49_0.eq_1
def l49 : Lifted := ⟨[0, 1, 4], 21, [.slot 2], (.seq (.reg (.done [(2, (.cst (.bool false)))] none)) h49_0)⟩
theorem l49_ok : liftFn E2 49 400 = some l49 := by kernel_rfl

def h54_0 : HC := (.seq (.reg (.eff (.call 56) (.cons (.inp 0) (.cons (.inp 1) .nil)) (.chk none (.build #[(.int .i64 0), (.int .i64 0), (.int .u64 0)] [(0, 1), (1, 1), (2, 1)] [0, 2]) (.cons (.inp 2) (.cons (.bv 0) .nil)) (.eff (.bsl 110 1 3 #[(.int .i64 0), (.int .i64 0), (.int .u64 0)] [0]) (.cons (.op (.build #[(.int .i64 0), (.int .i64 0), (.int .u64 0)] [(0, 1), (1, 1), (2, 1)] [0, 2]) (.cons (.inp 2) (.cons (.bv 0) .nil))) .nil) (.eff (.app 43 43 110 3 24 (.agg #[(.int .i64 0), (.int .i64 0), (.int .u64 0)])) (.cons (.inp 4) (.cons (.bv 1) .nil)) (.done [(3, (.bv 2))] none)))))) .ret)
@[simp] theorem h54_0_wp : type_of% (@wpH h54_0 _ h54_0.eq_1) := wpH h54_0.eq_1
def h54_1 : HC := (.reg (.chk none (.bin .add) (.cons (.inp 6) (.cons (.cst (.int .i64 1)) .nil)) (.done [(6, (.op (.bin .add) (.cons (.inp 6) (.cons (.cst (.int .i64 1)) .nil))))] none)))
@[simp] theorem h54_1_wp : type_of% (@wpH h54_1 _ h54_1.eq_1) := wpH h54_1.eq_1
def h54_2 : HC := (.reg (.chk none (.idxL 1) (.cons (.inp 5) (.cons (.inp 6) .nil)) (.eff (.ld false 1) (.cons (.op (.idxL 1) (.cons (.inp 5) (.cons (.inp 6) .nil))) .nil) (.chk none (.build #[(.int .i64 0), (.int .i64 0), (.int .u64 0)] [(0, 1), (1, 1), (2, 1)] [0, 1]) (.cons (.inp 2) (.cons (.bv 0) .nil)) (.eff (.bsl 110 1 3 #[(.int .i64 0), (.int .i64 0), (.int .u64 0)] [0]) (.cons (.op (.build #[(.int .i64 0), (.int .i64 0), (.int .u64 0)] [(0, 1), (1, 1), (2, 1)] [0, 1]) (.cons (.inp 2) (.cons (.bv 0) .nil))) .nil) (.eff (.app 43 43 110 3 24 (.agg #[(.int .i64 0), (.int .i64 0), (.int .u64 0)])) (.cons (.inp 4) (.cons (.bv 1) .nil)) (.done [(4, (.bv 2))] none)))))))
@[simp] theorem h54_2_wp : type_of% (@wpH h54_2 _ h54_2.eq_1) := wpH h54_2.eq_1
def h54_3 : HC := (.seq (.block 1 h54_2) h54_1)
@[simp] theorem h54_3_wp : type_of% (@wpH h54_3 _ h54_3.eq_1) := wpH h54_3.eq_1
def h54_4 : HC := (.seq (.br (.chk none .lenL (.cons (.inp 5) .nil) (.chk none (.bin .lss) (.cons (.inp 6) (.cons (.op .lenL (.cons (.inp 5) .nil)) .nil)) (.done [] (some (.op (.bin .lss) (.cons (.inp 6) (.cons (.op .lenL (.cons (.inp 5) .nil)) .nil))))))) .skip (.exit 0)) h54_3)
@[simp] theorem h54_4_wp : type_of% (@wpH h54_4 _ h54_4.eq_1) := wpH h54_4.eq_1
def h54_5 : HC := (.loop h54_4)
@[simp] theorem h54_5_wp : type_of% (@wpH h54_5 _ h54_5.eq_1) := wpH h54_5.eq_1
def h54_6 : HC := (.seq (.block 0 h54_5) h54_0)
@[simp] theorem h54_6_wp : type_of% (@wpH h54_6 _ h54_6.eq_1) := wpH h54_6.eq_1
def h54_7 : HC := (.seq (.reg (.done [(6, (.cst (.int .i64 0)))] none)) h54_6)
@[simp] theorem h54_7_wp : type_of% (@wpH h54_7 _ h54_7.eq_1) := wpH h54_7.eq_1
def h54_8 : HC := (.seq (.reg (.eff (.call 57) (.cons (.inp 0) (.cons (.inp 1) .nil)) (.done [(5, (.bv 0))] none))) h54_7)
@[simp] theorem h54_8_wp : type_of% (@wpH h54_8 _ h54_8.eq_1) := wpH h54_8.eq_1
def h54_9 : HC := (.seq (.reg (.done [(4, (.cst (.slice none 0 0)))] none)) h54_8)
@[simp] theorem h54_9_wp : type_of% (@wpH h54_9 _ h54_9.eq_1) := wpH h54_9.eq_1
def l54 : Lifted := ⟨[0, 1, 2, 6, 7, 8, 9], 36, [.slot 3], (.seq (.reg (.done [(3, (.cst (.slice none 0 0)))] none)) h54_9)⟩
theorem l54_ok : liftFn E2 54 400 = some l54 := by kernel_rfl

def h51_0 : HC := (.seq (.reg (.chk none .lenL (.cons (.inp 0) .nil) (.chk none (.slL 3 false true false) (.cons (.inp 2) (.cons (.op .lenL (.cons (.inp 0) .nil)) .nil)) (.done [(1, (.op (.slL 3 false true false) (.cons (.inp 2) (.cons (.op .lenL (.cons (.inp 0) .nil)) .nil))))] none)))) .ret)
@[simp] theorem h51_0_wp : type_of% (@wpH h51_0 _ h51_0.eq_1) := wpH h51_0.eq_1
def h51_1 : HC := (.seq (.reg (.chk none (.build #[(.int .i64 0), (.int .i64 0), (.int .u64 0)] [(0, 1), (1, 1), (2, 1)] [0]) (.cons (.cst (.int .i64 (-71))) .nil) (.eff (.bsl 110 1 3 #[(.int .i64 0), (.int .i64 0), (.int .u64 0)] [0]) (.cons (.op (.build #[(.int .i64 0), (.int .i64 0), (.int .u64 0)] [(0, 1), (1, 1), (2, 1)] [0]) (.cons (.cst (.int .i64 (-71))) .nil)) .nil) (.eff (.app 43 43 110 3 24 (.agg #[(.int .i64 0), (.int .i64 0), (.int .u64 0)])) (.cons (.inp 2) (.cons (.bv 0) .nil)) (.done [(2, (.bv 1))] none))))) h51_0)
@[simp] theorem h51_1_wp : type_of% (@wpH h51_1 _ h51_1.eq_1) := wpH h51_1.eq_1
def h51_2 : HC := (.seq (.reg (.eff (.app 43 43 110 3 24 (.agg #[(.int .i64 0), (.int .i64 0), (.int .u64 0)])) (.cons (.inp 2) (.cons (.inp 0) .nil)) (.done [(2, (.bv 0))] none))) h51_1)
@[simp] theorem h51_2_wp : type_of% (@wpH h51_2 _ h51_2.eq_1) := wpH h51_2.eq_1
def h51_3 : HC := (.seq (.reg (.done [(2, (.cst (.slice none 0 0)))] none)) h51_2)
@[simp] theorem h51_3_wp : type_of% (@wpH h51_3 _ h51_3.eq_1) := wpH h51_3.eq_1
def l51 : Lifted := ⟨[0, 2, 3], 15, [.slot 1], (.seq (.reg (.done [(1, (.cst (.slice none 0 0)))] none)) h51_3)⟩
theorem l51_ok : liftFn E2 51 400 = some l51 := by kernel_rfl

def h53_0 : HC := (.seq (.reg (.done [(2, (.inp 3))] none)) .ret)
@[simp] theorem h53_0_wp : type_of% (@wpH h53_0 _ h53_0.eq_1) := wpH h53_0.eq_1
def h53_1 : HC := (.reg (.chk none (.bin .add) (.cons (.inp 4) (.cons (.cst (.int .i64 1)) .nil)) (.done [(4, (.op (.bin .add) (.cons (.inp 4) (.cons (.cst (.int .i64 1)) .nil))))] none)))
@[simp] theorem h53_1_wp : type_of% (@wpH h53_1 _ h53_1.eq_1) := wpH h53_1.eq_1
def h53_2 : HC := (.reg (.chk none (.build #[(.int .i64 0), (.int .i64 0), (.int .u64 0)] [(0, 1), (1, 1), (2, 1)] [0]) (.cons (.cst (.int .i64 (-72))) .nil) (.chk none (.idxL 3) (.cons (.inp 0) (.cons (.inp 4) .nil)) (.eff (.st 3) (.cons (.op (.idxL 3) (.cons (.inp 0) (.cons (.inp 4) .nil))) (.cons (.op (.build #[(.int .i64 0), (.int .i64 0), (.int .u64 0)] [(0, 1), (1, 1), (2, 1)] [0]) (.cons (.cst (.int .i64 (-72))) .nil)) .nil)) (.done [] none)))))
@[simp] theorem h53_2_wp : type_of% (@wpH h53_2 _ h53_2.eq_1) := wpH h53_2.eq_1
def h53_3 : HC := (.seq (.regq (some 0) (.chk (some ((.inp 3), true)) (.idxL 3) (.cons (.inp 0) (.cons (.inp 4) .nil)) (.ite (.inp 3) true (.eff (.ld true 3) (.cons (.ite (.inp 3) true (.op (.idxL 3) (.cons (.inp 0) (.cons (.inp 4) .nil))) (.cst (.tuple #[]))) .nil) (.chk none (.idxL 3) (.cons (.inp 1) (.cons (.inp 4) .nil)) (.eff (.ld true 3) (.cons (.op (.idxL 3) (.cons (.inp 1) (.cons (.inp 4) .nil))) .nil) (.eff (.bin .eql 110 (.tmp 29) (.tmp 33)) (.cons (.bv 0) (.cons (.bv 1) .nil)) (.isb none (.inp 3) (.done [(3, (.bv 2))] none)))))) (.isb none (.inp 3) (.done [(3, (.cst (.bool false)))] none))))) h53_2)
@[simp] theorem h53_3_wp : type_of% (@wpH h53_3 _ h53_3.eq_1) := wpH h53_3.eq_1
def h53_4 : HC := (.seq (.block 1 h53_3) h53_1)
@[simp] theorem h53_4_wp : type_of% (@wpH h53_4 _ h53_4.eq_1) := wpH h53_4.eq_1
def h53_5 : HC := (.seq (.br (.chk none .lenL (.cons (.inp 1) .nil) (.chk none (.bin .lss) (.cons (.inp 4) (.cons (.op .lenL (.cons (.inp 1) .nil)) .nil)) (.done [] (some (.op (.bin .lss) (.cons (.inp 4) (.cons (.op .lenL (.cons (.inp 1) .nil)) .nil))))))) .skip (.exit 0)) h53_4)
@[simp] theorem h53_5_wp : type_of% (@wpH h53_5 _ h53_5.eq_1) := wpH h53_5.eq_1
def h53_6 : HC := (.loop h53_5)
@[simp] theorem h53_6_wp : type_of% (@wpH h53_6 _ h53_6.eq_1) := wpH h53_6.eq_1
def h53_7 : HC := (.seq (.block 0 h53_6) h53_0)
@[simp] theorem h53_7_wp : type_of% (@wpH h53_7 _ h53_7.eq_1) := wpH h53_7.eq_1
def h53_8 : HC := (.seq (.reg (.done [(4, (.cst (.int .i64 0)))] none)) h53_7)
@[simp] theorem h53_8_wp : type_of% (@wpH h53_8 _ h53_8.eq_1) := wpH h53_8.eq_1
def h53_9 : HC := (.seq (.reg (.chk none .lenL (.cons (.inp 0) .nil) (.chk none (.bin .add) (.cons (.op .lenL (.cons (.inp 0) .nil)) (.cons (.cst (.int .i64 1)) .nil)) (.chk none (.slL 3 false true false) (.cons (.inp 0) (.cons (.op (.bin .add) (.cons (.op .lenL (.cons (.inp 0) .nil)) (.cons (.cst (.int .i64 1)) .nil))) .nil)) (.chk none .lenL (.cons (.inp 0) .nil) (.chk none (.idxL 3) (.cons (.op (.slL 3 false true false) (.cons (.inp 0) (.cons (.op (.bin .add) (.cons (.op .lenL (.cons (.inp 0) .nil)) (.cons (.cst (.int .i64 1)) .nil))) .nil))) (.cons (.op .lenL (.cons (.inp 0) .nil)) .nil)) (.eff (.ld true 3) (.cons (.op (.idxL 3) (.cons (.op (.slL 3 false true false) (.cons (.inp 0) (.cons (.op (.bin .add) (.cons (.op .lenL (.cons (.inp 0) .nil)) (.cons (.cst (.int .i64 1)) .nil))) .nil))) (.cons (.op .lenL (.cons (.inp 0) .nil)) .nil))) .nil) (.chk none (.build #[(.int .i64 0), (.int .i64 0), (.int .u64 0)] [(0, 1), (1, 1), (2, 1)] [0]) (.cons (.cst (.int .i64 (-71))) .nil) (.eff (.bin .eql 110 (.tmp 15) (.tmp 16)) (.cons (.bv 0) (.cons (.op (.build #[(.int .i64 0), (.int .i64 0), (.int .u64 0)] [(0, 1), (1, 1), (2, 1)] [0]) (.cons (.cst (.int .i64 (-71))) .nil)) .nil)) (.done [(3, (.bv 1))] none)))))))))) h53_8)
@[simp] theorem h53_9_wp : type_of% (@wpH h53_9 _ h53_9.eq_1) := wpH h53_9.eq_1
def l53 : Lifted := ⟨[0, 1, 4, 5, 6], 41, [.slot 2], (.seq (.reg (.done [(2, (.cst (.bool false)))] none)) h53_9)⟩
theorem l53_ok : liftFn E2 53 400 = some l53 := by kernel_rfl
theorem rows_spec (x y : List Rw) (v1 v2 : Value) (w0 w : World) (A : Asn) (hx : x.length ≤ 4194304) (h1 : Row w0 A v1 x.length 2 (rflat x)) (h2 : Row w0 A v2 y.length 2 (rflat y)) (s : St w0 A w) :
    CallW Tryz.prog 65 [v1, v2] (fun r w' => r = .bool (x == y) ∧ St w0 A w') w := by
  obtain ⟨a1, c1, rfl⟩ := h1.val
  obtain ⟨a2, c2, rfl⟩ := h2.val
  refine callW_of_lift l65_ok (by simp [l65]) ?_
  simp [l65]
  refine cndI (fun h => ?_) (fun h => ?_)
  · simp at h
    have : (x == y) = false := by
      simp only [beq_eq_false_iff_ne]
      rintro rfl
      exact h rfl
    simp [this]
    exact s
  simp at h
  simp
  refine loopI (fun env w' => ∃ (i : Nat), env = [.slice a1 x.length c1, .slice a2 y.length c2, .bool false, .int .i64 i] ∧ i ≤ x.length ∧ x.take i = y.take i ∧ St w0 A w')
    (fun env _ => x.length - slotN env 3) ⟨0, rfl, by omega, rfl, s⟩ ?_
  rintro LQ env w' ⟨i, rfl, hi, ht, s'⟩ hN hE hR
  simp
  refine cndI (fun h3 => ?_) (fun h3 => ?_)
  · simp at h3
    obtain ⟨g1, o1, c1', e1, k1⟩ := h1.at (by omega)
    cases e1
    obtain ⟨g2, o2, c2', e2, k2⟩ := h2.at (by omega)
    cases e2
    have hy : i < y.length := by omega
    have r1 : ∀ {w : World}, St w0 A w → ∀ j u, (x[i].cs)[j]? = some u → w.cell? ⟨g1, o1 + i * 2 + j, none⟩ = some u := fun s j u hu => by rw [Nat.add_assoc]; exact k1 _ s _ _ (rflat_at h3 j u hu)
    have r2 : ∀ {w : World}, St w0 A w → ∀ j u, (y[i].cs)[j]? = some u → w.cell? ⟨g2, o2 + i * 2 + j, none⟩ = some u := fun s j u hu => by rw [Nat.add_assoc]; exact k2 _ s _ _ (rflat_at hy j u hu)
    have bad : ¬ x[i] = y[i] → (x == y) = false := fun hne => by
      simp only [beq_eq_false_iff_ne]
      rintro rfl
      exact hne rfl
    simp [h3]
    refine brqI s' ?_
    simp [h3]
    refine effq_ldc (v := .int .i64 x[i].1) (fun w s => by have := r1 s 0 _ rfl; simpa using this) ?_
    simp [hy]
    refine effq_ldc (v := .int .i64 y[i].1) (fun w s => by have := r2 s 0 _ rfl; simpa using this) ?_
    simp [h3]
    by_cases e1 : x[i].1 = y[i].1
    · simp [e1]
      refine effq_ldc (v := .int .u64 x[i].2) (fun w s => by have := r1 s 1 _ rfl; simpa using this) ?_
      simp [hy]
      refine effq_ldc (v := .int .u64 y[i].2) (fun w s => by have := r2 s 1 _ rfl; simpa using this) ?_
      simp
      intro w2 s2
      refine cndI (fun h4 => ?_) (fun h4 => ?_)
      · simp at h4
        simp
        refine hR _ _ ?_
        simp [bad (fun e => h4 (by rw [e]))]
        exact s2
      · simp at h4
        simp
        try simp (disch := omega) only [wrap64]
        refine hN _ _ ⟨i + 1, by simp, by omega, ?_, s2⟩ (by simp [slotN]; omega)
        rw [List.take_succ_eq_append_getElem h3, List.take_succ_eq_append_getElem hy, ht, Prod.ext e1 h4]
    · simp [e1]
      intro w2 s2
      refine hR _ _ ?_
      simp [bad (fun e => e1 (by rw [e]))]
      exact s2
  · simp at h3
    simp
    refine hE _ _ _ ?_
    simp
    have e : i = x.length := by omega
    have e2 : i = y.length := by omega
    rw [e, List.take_length, ← e, e2, List.take_length] at ht
    subst ht
    simp
    exact s'
theorem kept_spec (l : List Rw) (v v0 : Value) (w0 w : World) (A : Asn) (hl : l.length ≤ 1048576) (hrow : Row w0 A v0 l.length 2 (rflat l)) (s : St w0 (A * lentA v l) w) :
    CallW Tryz.prog 49 [v, v0] (fun r w' => r = .bool true ∧ St w0 (A * lentA v l) w') w := by
  obtain ⟨g, cap, rfl, hcap, hm, _⟩ := lopen s
  refine callW_of_lift l49_ok (by simp [l49]) ?_
  simp [l49]
  refine eff_call ((rows_spec l l (.slice (some ⟨g, 0, none⟩) l.length cap) v0 w0 w _ (by omega) (lent_row s) (hrow.mono fun w s => s.drop) s).mono ?_)
  rintro r w1 ⟨rfl, s1⟩
  have hw1 : IntKind.i64.wrap ((l.length : Int) + 1) = (l.length : Int) + 1 := wrap64 (by omega) (by omega)
  have hwn : ((l.length : Int) + 1).toNat = l.length + 1 := by omega
  obtain ⟨_, _, hv, _, _, s2⟩ := lopen s1
  cases hv
  obtain ⟨_, _, hv, _, hcell⟩ := s2.own_at (by omega)
  cases hv
  have hml : (l ++ [rmark]).length = l.length + 1 := by simp
  have hm0 : (l ++ [rmark])[l.length]'(by omega) = rmark := by simp
  have c0 := rflat_at (l := l ++ [rmark]) (i := l.length) (by omega)
  rw [hm0] at c0
  simp [hw1, hwn, hcap, Pu.add_zero]
  refine ⟨by omega, by omega, ?_⟩
  refine eff_ldcs (vs := rmark.cs) (fun j u hu => hcell _ _ (c0 j u hu)) rfl ?_
  simp [Instr.fill, Value.cells]
  refine eff_eqlP rowT (rpv rmark) (rpv rmark) rfl rfl ?_
  simp
  exact s1
end Go.HL.Es

namespace Go.HL.Es
open Go.HL Go.Proofs
set_option maxRecDepth 4000
set_option linter.unusedSimpArgs false
set_option linter.unusedVariables false
abbrev Tl := Value × List Int
def tlA (_ : Nat) (t : Tl) : Asn := own 3 1 t.1 t.2.length (Gd.ints t.2)
def heads (T : Nat → Tl) (n : Nat) : List Value := (List.range n).map fun j => (T j).1
def twice (U : Nat → Tl) (n : Nat) : List Value := (List.range n).map fun j => (U (j / 2)).1
theorem inF_len {lim : Int} {its : List Gd.It} (h : Gd.GI lim its) (c : Int) : (Gd.inF its c).length ≤ 512 := by
  have h1 := h.len
  have h2 := h.lim
  have := List.length_filter_le (fun x : Gd.It => decide (0 < x.con) && decide (x.con = c)) its
  simp only [Gd.inF, List.length_map]
  omega
theorem load_ei {lp lg : Int} {P : Pu.Ps} {its : List Gd.It} {rows : List Rw} (hP : Pu.PI lp P) (hG : Gd.GI lg its) (h : escE rows P.held = 0) : EI lp lg ⟨P, its, rows⟩ := by
  unfold escE at h
  split at h
  · rename_i h1
    split at h
    · rename_i h2; exact ⟨hP, hG, h1, h2⟩
    · cases h
  · cases h
theorem getF_accs {lim : Int} {accs : List Pu.Ac} {sup : Int} (h : (Pu.loadF lim accs sup).1 = 0) (hs : 0 ≤ sup) (hx : ∀ x ∈ accs, x.name.length ≤ 1048576 ∧ 0 ≤ x.coins ∧ x.coins < 18446744073709551616) : Pu.PI lim (Pu.loadF lim accs sup).2 :=
  (Pu.load_PI h hs (fun x hx' => (hx x hx').2.1) (fun i h => (hx _ (List.getElem_mem h)).1)).2
abbrev ownA (A : Asn) (p g s : Nat) (lg : Int) (E : Eco) (T U : Nat → Tl) (i : Nat) (all was : Value) : Asn :=
  A * ecoA p g s lg E * bigA tlA T (2 * i) * bigA tlA U i * own 44 1 all (2 * i) (heads T (2 * i)) * own 44 1 was (2 * i) (twice U (2 * i))
theorem own_nilS {w0 w : World} {A : Asn} (s : St w0 A w) (e size : Nat) : St w0 (A * own e size (.slice none 0 0) 0 []) w := s.own_nil e size
end Go.HL.Es

namespace Go.HL.Es
open Go.HL Go.Proofs
set_option maxRecDepth 4000
set_option linter.unusedSimpArgs false
set_option linter.unusedVariables false
theorem gflat_app (a b : List Gf) : gflat (a ++ b) = gflat a ++ gflat b := by simp [gflat]
theorem gflat_one (l : List Gf) : ∀ u ∈ gflat l, u.oneCell' = true := by
  intro u hu
  obtain ⟨x, _, hx⟩ := List.mem_flatMap.1 hu
  exact gf_one x u hx
abbrev bakA (A : Asn) (p g s : Nat) (lg : Int) (E0 E : Eco) (B : List Gf) (was things back : Value) : Asn :=
  A * own 58 2 was E0.P.rows.length (Pu.flat E0.P.rows) * own 60 4 things E0.its.length (Gd.flat E0.its) * ecoA p g s lg E * own 110 3 back B.length (gflat B)
end Go.HL.Es

namespace Go.HL.Es
open Go.HL Go.Proofs
set_option maxRecDepth 4000
set_option linter.unusedSimpArgs false
set_option linter.unusedVariables false
def gmark : Gf := ⟨-71, 0, 0⟩
def handA (v : Value) (l : List Gf) : Asn := fun h => ∃ g cap, v = .slice (some ⟨g, 0, none⟩) l.length cap ∧ l.length + 1 ≤ cap ∧ cap ≤ maxLen ∧ own 110 3 (.slice (some ⟨g, 0, none⟩) (l.length + 1) cap) (l.length + 1) (gflat (l ++ [gmark])) h
theorem hopen {w0 w : World} {A : Asn} {v : Value} {l : List Gf} (s : St w0 (A * handA v l) w) : ∃ g cap, v = .slice (some ⟨g, 0, none⟩) l.length cap ∧ l.length + 1 ≤ cap ∧ cap ≤ maxLen ∧ St w0 (A * own 110 3 (.slice (some ⟨g, 0, none⟩) (l.length + 1) cap) (l.length + 1) (gflat (l ++ [gmark]))) w := by
  obtain ⟨g', h1, h2, h3, d, e, a, g, cap, rfl, hc, hm, b⟩ := s.holds
  exact ⟨g, cap, rfl, hc, hm, s.of ⟨g', h1, h2, h3, d, e, a, b⟩⟩
theorem hclose {w0 w : World} {A : Asn} {g cap : Nat} {l : List Gf} (hc : l.length + 1 ≤ cap) (hm : cap ≤ maxLen) (s : St w0 (A * own 110 3 (.slice (some ⟨g, 0, none⟩) (l.length + 1) cap) (l.length + 1) (gflat (l ++ [gmark]))) w) : St w0 (A * handA (.slice (some ⟨g, 0, none⟩) l.length cap) l) w :=
  s.mono (sep_mono (fun _ h => h) fun h hh => ⟨g, cap, rfl, hc, hm, hh⟩)
theorem hand_own {w0 w : World} {A : Asn} {v : Value} {l : List Gf} (s : St w0 (A * handA v l) w) : St w0 (A * own 110 3 v l.length (gflat l)) w := by
  obtain ⟨g, cap, rfl, hc, hm, s1⟩ := hopen s
  rw [gflat_app] at s1
  exact s1.mono (sep_mono (fun _ h => h) fun h hh => own_less (by rw [gflat_len]) hh)
theorem hand_row {w0 w : World} {A : Asn} {v : Value} {l : List Gf} (s : St w0 (A * handA v l) w) : Row w0 (A * handA v l) v l.length 3 (gflat l) :=
  (row_own (hand_own s)).mono fun w s => hand_own s
theorem handed_spec (l : List Gf) (v : Value) (w0 w : World) (A : Asn) (hl : l.length ≤ 2097152) (hrow : Row w0 A v l.length 3 (gflat l)) (s : St w0 A w) :
    CallW Tryz.prog 51 [v] (fun r w' => St w0 (A * handA r l) w') w := by
  obtain ⟨ra, rcap, rfl⟩ := hrow.val
  refine callW_of_lift l51_ok (by simp [l51]) ?_
  simp [l51]
  refine eff_appR (own_nilS s 110 3) (hrow.mono fun w s => s.drop) (gflat_one _) (by decide) rfl (by simp; unfold maxLen; omega) (by simp; omega) fun l1 w1 s1 => ?_
  have s1 : St w0 (A * own 110 3 l1 l.length (gflat l)) w1 := by simpa using s1
  simp [Instr.fill, Value.cells]
  refine eff_bslV (v := .agg gmark.cs.toArray) s1 rfl fun c w2 s2 => ?_
  simp
  refine eff_app (m := 1) (news := gmark.cs) s2.swap rfl s2.cells_look (gf_one _) (by decide) rfl (by unfold maxLen; omega) (by omega) fun fv2 w3 s3 => ?_
  have e1 : gflat l ++ gmark.cs = gflat (l ++ [gmark]) := by rw [gflat_app]; simp [gflat]
  rw [e1] at s3
  obtain ⟨g, cap, rfl, hcap, _⟩ := s3.own_at (by omega)
  have hle : l.length ≤ cap := by omega
  simp [hle, Pu.add_zero]
  have hm : cap ≤ maxLen := by
    rcases s3.own.2 with ⟨h, _⟩ | ⟨_, _, _, h, _, hm, _⟩
    · cases h
    · cases h; exact hm
  exact hclose hcap hm s3.swap.drop
theorem giftT : PrimStruct Tryz.prog 110 [.int .i64, .int .i64, .int .u64] := ⟨by kernel_rfl, by kernel_rfl, by kernel_rfl, by kernel_rfl⟩
def gpv (x : Gf) : List PV := [.int .i64 x.to, .int .i64 x.item, .int .u64 x.coins]
def allG (E : Eco) (c t : Int) : List Gf := (Gd.inF E.its c).map (fun i => ⟨t, i, 0⟩) ++ [⟨t, 0, cns E.l c⟩]
theorem all_spec (q g s : Nat) (lp lg c t : Int) (E : Eco) (w0 w : World) (A : Asn) (hE : EI lp lg E) (hl : E.l.length ≤ 4194304) (h : St w0 (A * recoA q g s lg E) w) :
    CallW Tryz.prog 54 [.pointer (some ⟨s, 0, none⟩), .int .i64 c, .int .i64 t] (fun r w' => St w0 (A * recoA q g s lg E * own 110 3 r (allG E c t).length (gflat (allG E c t))) w') w := by
  have hn := inF_len hE.G c
  refine callW_of_lift l54_ok (by simp [l54]) ?_
  simp [l54]
  refine eff_call ((rItems_spec s q g lg c E.l E.its w0 w (A * Pu.rpur q E.P) hE.G (h.to (by simp only [recoA]; ac_rfl))).mono ?_)
  intro iv w1 s1
  simp
  obtain ⟨I, hI⟩ : ∃ I, Gd.inF E.its c = I := ⟨_, rfl⟩
  rw [hI] at s1 hn
  obtain ⟨ia, icap, rfl, _⟩ := s1.own_val
  have s1 : St w0 (A * recoA q g s lg E * own 3 1 (.slice ia I.length icap) I.length (Gd.ints I)) w1 := s1.to (by simp only [recoA]; ac_rfl)
  refine loopI (fun env w' => ∃ (i : Nat) (lv : Value), env = [.pointer (some ⟨s, 0, none⟩), .int .i64 c, .int .i64 t, .slice none 0 0, lv, .slice ia I.length icap, .int .i64 i] ∧ i ≤ I.length ∧
      St w0 (A * recoA q g s lg E * own 3 1 (.slice ia I.length icap) I.length (Gd.ints I) * own 110 3 lv i (gflat ((I.take i).map fun k => ⟨t, k, 0⟩))) w')
    (fun env _ => I.length - slotN env 6) ⟨0, _, rfl, by omega, s1.own_nil 110 3⟩ ?_
  clear h s1
  rintro LQ env w' ⟨i, lv, rfl, hi, s2⟩ hN hX hR
  simp
  refine cndI (fun hc => ?_) (fun hc => ?_)
  · simp at hc
    obtain ⟨ig, _, hv, _, hcell⟩ := s2.drop.own_at (by omega)
    cases hv
    simp [hc]
    refine eff_ldc (v := .int .i64 I[i]) (by have := hcell i _ (by simp [Gd.ints, hc]; rfl); simpa using this) ?_
    simp [Instr.fill, Value.cells]
    refine eff_bslV (v := .agg (Gf.cs ⟨t, I[i], 0⟩).toArray) s2 rfl fun b w3 s3 => ?_
    simp
    refine eff_app (m := 1) (news := Gf.cs ⟨t, I[i], 0⟩) s3.swap rfl s3.cells_look (gf_one _) (by decide) rfl (by unfold maxLen; omega) (by omega) fun fv2 w4 s4 => ?_
    simp
    try simp (disch := omega) only [wrap64]
    refine hN _ _ ⟨i + 1, fv2, by simp, by omega, ?_⟩ (by simp [slotN]; omega)
    rw [List.take_succ_eq_append_getElem hc, List.map_append, gflat_app]
    exact s4.swap.drop
  · simp at hc
    simp
    refine hX _ _ _ ?_
    obtain rfl : i = I.length := by omega
    rw [List.take_length] at s2
    simp
    refine eff_call ((rCoins_spec s q g E.l c w0 w' (A * Pu.rpur q E.P * Gd.rgs g lg E.its * own 3 1 (.slice ia I.length icap) I.length (Gd.ints I) * own 110 3 lv I.length (gflat (I.map fun k => ⟨t, k, 0⟩))) hl (s2.to (by simp only [recoA]; ac_rfl))).mono ?_)
    rintro r w3 ⟨rfl, s3⟩
    simp [Instr.fill, Value.cells]
    refine eff_bslV (v := .agg (Gf.cs ⟨t, 0, cns E.l c⟩).toArray) s3 rfl fun b w4 s4 => ?_
    simp
    have s4 : St w0 (A * recoA q g s lg E * own 3 1 (.slice ia I.length icap) I.length (Gd.ints I) * pt b (.cells (Gf.cs ⟨t, 0, cns E.l c⟩).toArray 110 (0, 0)) * own 110 3 lv I.length (gflat (I.map fun k => ⟨t, k, 0⟩))) w4 := s4.to (by simp only [recoA]; ac_rfl)
    refine eff_app (m := 1) (news := Gf.cs ⟨t, 0, cns E.l c⟩) s4 rfl s4.swap.cells_look (gf_one _) (by decide) rfl (by unfold maxLen; omega) (by omega) fun fv2 w5 s5 => ?_
    simp
    have e1 : allG E c t = I.map (fun k => ⟨t, k, 0⟩) ++ [⟨t, 0, cns E.l c⟩] := by rw [allG, hI]
    rw [e1, List.length_append, gflat_app]
    exact St.cut (own 3 1 (.slice ia I.length icap) I.length (Gd.ints I) * pt b (.cells (Gf.cs ⟨t, 0, cns E.l c⟩).toArray 110 (0, 0))) (B := A * recoA q g s lg E * own 110 3 fv2 (I.length + 1) (gflat (I.map fun k => ⟨t, k, 0⟩) ++ Gf.cs ⟨t, 0, cns E.l c⟩)) s5 (by ac_rfl) |>.to (by simp [gflat])
theorem still_spec (l : List Gf) (v v0 : Value) (w0 w : World) (A : Asn) (hl : l.length ≤ 2097152) (hrow : Row w0 A v0 l.length 3 (gflat l)) (s : St w0 (A * handA v l) w) :
    CallW Tryz.prog 53 [v, v0] (fun r w' => r = .bool true ∧ St w0 A w') w := by
  obtain ⟨g, cap, rfl, hcap, hm, s1⟩ := hopen s
  obtain ⟨ra, rcap, rfl⟩ := hrow.val
  refine callW_of_lift l53_ok (by simp [l53]) ?_
  simp [l53]
  obtain ⟨_, _, hv, _, hcell⟩ := s1.own_at (by omega)
  cases hv
  have hw1 : IntKind.i64.wrap ((l.length : Int) + 1) = (l.length : Int) + 1 := wrap64 (by omega) (by omega)
  have hwn : ((l.length : Int) + 1).toNat = l.length + 1 := by omega
  have hml : (l ++ [gmark]).length = l.length + 1 := by simp
  have hm0 : (l ++ [gmark])[l.length]'(by omega) = gmark := by simp
  have c0 := gflat_at (gs := l ++ [gmark]) (i := l.length) (by omega)
  rw [hm0] at c0
  simp [hw1, hwn, hcap, Pu.add_zero]
  refine ⟨by omega, by omega, ?_⟩
  refine eff_ldcs (vs := gmark.cs) (fun j u hu => hcell _ _ (c0 j u hu)) rfl ?_
  simp [Instr.fill, Value.cells]
  refine eff_eqlP giftT (gpv gmark) (gpv gmark) rfl rfl ?_
  simp
  refine loopI (fun env w' => ∃ (i : Nat) (l' : List Gf), env = [.slice (some ⟨g, 0, none⟩) l.length cap, .slice ra l.length rcap, .bool false, .bool true, .int .i64 i] ∧ i ≤ l.length ∧ l'.length = l.length + 1 ∧ (∀ j, i ≤ j → (h : j < l.length) → l'[j]? = some l[j]) ∧
      St w0 (A * own 110 3 (.slice (some ⟨g, 0, none⟩) (l.length + 1) cap) (l.length + 1) (gflat l')) w')
    (fun env _ => l.length - slotN env 4) ⟨0, l ++ [gmark], by simp, by omega, by simp, fun j _ h => by rw [List.getElem?_append_left h]; simp [h], s1⟩ ?_
  clear s s1 hcell c0
  rintro LQ env w' ⟨i, l', rfl, hi, hl', hsame, s2⟩ hN hX hR
  simp
  refine cndI (fun hc => ?_) (fun hc => ?_)
  · simp at hc
    obtain ⟨g2, o2, c2, hv, k2⟩ := hrow.at (by omega)
    cases hv
    have hi' : l'[i]'(by omega) = l[i] := by have := hsame i (by omega) hc; rw [List.getElem?_eq_getElem (by omega)] at this; simpa using this
    simp [hc]
    refine regqI s2 ?_
    simp [hc]
    refine effq_ldcs (vs := l[i].cs) (fun w s j u hu => ?_) rfl ?_
    · obtain ⟨_, _, hv, _, hcell⟩ := s.own_at (by omega)
      cases hv
      have := gflat_at (gs := l') (i := i) (by omega) j u (by rw [hi']; exact hu)
      simpa using hcell _ _ this
    simp [hc]
    refine effq_ldcs (vs := l[i].cs) (fun w s j u hu => by rw [Nat.add_assoc]; exact k2 w s.drop _ _ (gflat_at hc j u hu)) rfl ?_
    simp
    refine effq_eqlP giftT (gpv l[i]) (gpv l[i]) rfl rfl ?_
    simp
    intro w3 s3
    simp [hc, Instr.fill, Value.cells]
    have hfl := gflat_len l'
    refine eff_stR (vs := Gf.cs ⟨-72, 0, 0⟩) s3 rfl rfl (gf_one _) (by omega) ?_
    intro w4 s4
    rw [show gflat l' = l'.flatMap Gf.cs from rfl, flat_set Gf.cs 3 gf_len _ l' i (by omega)] at s4
    simp
    try simp (disch := omega) only [wrap64]
    refine hN _ _ ⟨i + 1, _, by simp, by omega, by rw [List.length_set]; exact hl', fun j hj h => ?_, s4⟩ (by simp [slotN]; omega)
    rw [List.getElem?_set_ne (by omega)]
    exact hsame j (by omega) h
  · simp at hc
    simp
    refine hX _ _ _ ?_
    simp
    exact s2.drop
end Go.HL.Es

namespace Go.HL.Es
open Go.HL Go.Proofs
set_option maxRecDepth 4000
set_option linter.unusedSimpArgs false
set_option linter.unusedVariables false
def chC (w0 : World) (B : Asn) (g : List Value → Prop) (f : List Value → Asn) (vs : List Value) (w : World) : Prop := g vs ∧ St w0 (B * f vs) w
theorem chC_nil {w0 w : World} {B : Asn} {g : List Value → Prop} {f : List Value → Asn} (hg : g []) (hf : f [] = emp) (s : St w0 B w) : chC w0 B g f [] w := ⟨hg, by rw [hf, sep_emp]; exact s⟩
abbrev deskA (wd p g s sr : Nat) : Asn := pt wd (.cells #[.pointer (some ⟨p, 0, none⟩), .pointer (some ⟨g, 0, none⟩), .pointer (some ⟨s, 0, none⟩), .pointer (some ⟨sr, 0, none⟩)] 122 (0, 0))

def h25_0 : HC := (.seq (.reg (.eff (.call 65) (.cons (.inp 3) (.cons (.inp 4) .nil)) (.done [(1, (.bv 0))] none))) .ret)
@[simp] theorem h25_0_wp : type_of% (@wpH h25_0 _ h25_0.eq_1) := wpH h25_0.eq_1
def h25_1 : HC := (.reg (.chk none (.bin .add) (.cons (.inp 6) (.cons (.cst (.int .i64 1)) .nil)) (.done [(6, (.op (.bin .add) (.cons (.inp 6) (.cons (.cst (.int .i64 1)) .nil))))] none)))
@[simp] theorem h25_1_wp : type_of% (@wpH h25_1 _ h25_1.eq_1) := wpH h25_1.eq_1
def h25_2 : HC := (.reg (.chk none (.build #[(.int .i64 0), (.int .u64 0)] [(0, 1), (1, 1)] [0, 1]) (.cons (.cst (.int .i64 (-6))) (.cons (.cst (.int .u64 6)) .nil)) (.eff (.bsl 98 1 2 #[(.int .i64 0), (.int .u64 0)] [0]) (.cons (.op (.build #[(.int .i64 0), (.int .u64 0)] [(0, 1), (1, 1)] [0, 1]) (.cons (.cst (.int .i64 (-6))) (.cons (.cst (.int .u64 6)) .nil))) .nil) (.eff (.app 41 41 98 2 16 (.agg #[(.int .i64 0), (.int .u64 0)])) (.cons (.inp 2) (.cons (.bv 0) .nil)) (.done [(2, (.bv 1))] none)))))
@[simp] theorem h25_2_wp : type_of% (@wpH h25_2 _ h25_2.eq_1) := wpH h25_2.eq_1
def h25_3 : HC := (.seq (.block 3 h25_2) h25_1)
@[simp] theorem h25_3_wp : type_of% (@wpH h25_3 _ h25_3.eq_1) := wpH h25_3.eq_1
def h25_4 : HC := (.seq (.br (.chk none (.bin .lss) (.cons (.inp 6) (.cons (.cst (.int .i64 70)) .nil)) (.done [] (some (.op (.bin .lss) (.cons (.inp 6) (.cons (.cst (.int .i64 70)) .nil)))))) .skip (.exit 2)) h25_3)
@[simp] theorem h25_4_wp : type_of% (@wpH h25_4 _ h25_4.eq_1) := wpH h25_4.eq_1
def h25_5 : HC := (.loop h25_4)
@[simp] theorem h25_5_wp : type_of% (@wpH h25_5 _ h25_5.eq_1) := wpH h25_5.eq_1
def h25_6 : HC := (.seq (.block 2 h25_5) h25_0)
@[simp] theorem h25_6_wp : type_of% (@wpH h25_6 _ h25_6.eq_1) := wpH h25_6.eq_1
def h25_7 : HC := (.seq (.reg (.done [(6, (.cst (.int .i64 0)))] none)) h25_6)
@[simp] theorem h25_7_wp : type_of% (@wpH h25_7 _ h25_7.eq_1) := wpH h25_7.eq_1
def h25_8 : HC := (.reg (.chk none (.bin .add) (.cons (.inp 5) (.cons (.cst (.int .i64 1)) .nil)) (.done [(5, (.op (.bin .add) (.cons (.inp 5) (.cons (.cst (.int .i64 1)) .nil))))] none)))
@[simp] theorem h25_8_wp : type_of% (@wpH h25_8 _ h25_8.eq_1) := wpH h25_8.eq_1
def h25_9 : HC := (.reg (.chk none (.build #[(.int .i64 0), (.int .u64 0)] [(0, 1), (1, 1)] [0, 1]) (.cons (.cst (.int .i64 (-5))) (.cons (.cst (.int .u64 5)) .nil)) (.chk none (.idxL 2) (.cons (.inp 2) (.cons (.inp 5) .nil)) (.eff (.st 2) (.cons (.op (.idxL 2) (.cons (.inp 2) (.cons (.inp 5) .nil))) (.cons (.op (.build #[(.int .i64 0), (.int .u64 0)] [(0, 1), (1, 1)] [0, 1]) (.cons (.cst (.int .i64 (-5))) (.cons (.cst (.int .u64 5)) .nil))) .nil)) (.done [] none)))))
@[simp] theorem h25_9_wp : type_of% (@wpH h25_9 _ h25_9.eq_1) := wpH h25_9.eq_1
def h25_10 : HC := (.seq (.block 1 h25_9) h25_8)
@[simp] theorem h25_10_wp : type_of% (@wpH h25_10 _ h25_10.eq_1) := wpH h25_10.eq_1
def h25_11 : HC := (.seq (.br (.chk none .lenL (.cons (.inp 2) .nil) (.chk none (.bin .lss) (.cons (.inp 5) (.cons (.op .lenL (.cons (.inp 2) .nil)) .nil)) (.done [] (some (.op (.bin .lss) (.cons (.inp 5) (.cons (.op .lenL (.cons (.inp 2) .nil)) .nil))))))) .skip (.exit 0)) h25_10)
@[simp] theorem h25_11_wp : type_of% (@wpH h25_11 _ h25_11.eq_1) := wpH h25_11.eq_1
def h25_12 : HC := (.loop h25_11)
@[simp] theorem h25_12_wp : type_of% (@wpH h25_12 _ h25_12.eq_1) := wpH h25_12.eq_1
def h25_13 : HC := (.seq (.block 0 h25_12) h25_7)
@[simp] theorem h25_13_wp : type_of% (@wpH h25_13 _ h25_13.eq_1) := wpH h25_13.eq_1
def h25_14 : HC := (.seq (.reg (.done [(5, (.cst (.int .i64 0)))] none)) h25_13)
@[simp] theorem h25_14_wp : type_of% (@wpH h25_14 _ h25_14.eq_1) := wpH h25_14.eq_1
def h25_15 : HC := (.seq (.reg (.done [(1, (.cst (.bool false)))] none)) .ret)
@[simp] theorem h25_15_wp : type_of% (@wpH h25_15 _ h25_15.eq_1) := wpH h25_15.eq_1
def r25_0 : RT := (.chk none .chkp (.cons (.bv 19) .nil) (.chk none (.fld 0) (.cons (.op .chkp (.cons (.bv 19) .nil)) .nil) (.eff (.ld false 1) (.cons (.op (.fld 0) (.cons (.op .chkp (.cons (.bv 19) .nil)) .nil)) .nil) (.eff (.call 69) (.cons (.bv 20) .nil) (.chk none (.bin .neq) (.cons (.bv 18) (.cons (.bv 21) .nil)) (.isb none (.bv 16) (.bnd (.op (.bin .neq) (.cons (.bv 18) (.cons (.bv 21) .nil))) (.chk (some ((.bv 22), false)) .chkp (.cons (.inp 0) .nil) (.chk (some ((.bv 22), false)) (.fld 1) (.cons (.op .chkp (.cons (.inp 0) .nil)) .nil) (.ite (.bv 22) false (.eff (.ld false 1) (.cons (.ite (.bv 22) false (.op (.fld 1) (.cons (.op .chkp (.cons (.inp 0) .nil)) .nil)) (.cst (.tuple #[]))) .nil) (.eff (.call 12) (.cons (.bv 23) .nil) (.chk none .chkp (.cons (.inp 0) .nil) (.chk none (.fld 3) (.cons (.op .chkp (.cons (.inp 0) .nil)) .nil) (.eff (.ld false 1) (.cons (.op (.fld 3) (.cons (.op .chkp (.cons (.inp 0) .nil)) .nil)) .nil) (.chk none .chkp (.cons (.bv 25) .nil) (.chk none (.fld 1) (.cons (.op .chkp (.cons (.bv 25) .nil)) .nil) (.eff (.ld false 1) (.cons (.op (.fld 1) (.cons (.op .chkp (.cons (.bv 25) .nil)) .nil)) .nil) (.eff (.call 71) (.cons (.bv 26) .nil) (.eff (.call 70) (.cons (.bv 24) (.cons (.bv 27) .nil)) (.chk none (.un .not) (.cons (.bv 28) .nil) (.isb none (.bv 22) (.done [] (some (.op (.un .not) (.cons (.bv 28) .nil)))))))))))))))) (.isb none (.bv 22) (.done [] (some (.cst (.bool true)))))))))))))))
@[simp] theorem r25_0_wp : type_of% (@wpR r25_0 _ r25_0.eq_1) := wpR r25_0.eq_1
@[simp] theorem r25_0_wpq : type_of% (@wpRq r25_0 _ r25_0.eq_1) := wpRq r25_0.eq_1
@[simp] theorem r25_0_wpm : type_of% (@wpRm r25_0 _ r25_0.eq_1) := wpRm r25_0.eq_1
def r25_1 : RT := (.chk none .chkp (.cons (.inp 0) .nil) (.chk none (.fld 3) (.cons (.op .chkp (.cons (.inp 0) .nil)) .nil) (.eff (.ld false 1) (.cons (.op (.fld 3) (.cons (.op .chkp (.cons (.inp 0) .nil)) .nil)) .nil) r25_0)))
@[simp] theorem r25_1_wp : type_of% (@wpR r25_1 _ r25_1.eq_1) := wpR r25_1.eq_1
@[simp] theorem r25_1_wpq : type_of% (@wpRq r25_1 _ r25_1.eq_1) := wpRq r25_1.eq_1
@[simp] theorem r25_1_wpm : type_of% (@wpRm r25_1 _ r25_1.eq_1) := wpRm r25_1.eq_1
def r25_2 : RT := (.eff (.call 16) (.cons (.bv 17) .nil) r25_1)
@[simp] theorem r25_2_wp : type_of% (@wpR r25_2 _ r25_2.eq_1) := wpR r25_2.eq_1
@[simp] theorem r25_2_wpq : type_of% (@wpRq r25_2 _ r25_2.eq_1) := wpRq r25_2.eq_1
@[simp] theorem r25_2_wpm : type_of% (@wpRm r25_2 _ r25_2.eq_1) := wpRm r25_2.eq_1
def r25_3 : RT := (.eff (.ld false 1) (.cons (.ite (.bv 16) false (.op (.fld 0) (.cons (.op .chkp (.cons (.inp 0) .nil)) .nil)) (.cst (.tuple #[]))) .nil) r25_2)
@[simp] theorem r25_3_wp : type_of% (@wpR r25_3 _ r25_3.eq_1) := wpR r25_3.eq_1
@[simp] theorem r25_3_wpq : type_of% (@wpRq r25_3 _ r25_3.eq_1) := wpRq r25_3.eq_1
@[simp] theorem r25_3_wpm : type_of% (@wpRm r25_3 _ r25_3.eq_1) := wpRm r25_3.eq_1
def r25_4 : RT := (.chk none (.bin .neq) (.cons (.bv 12) (.cons (.bv 15) .nil)) (.isb none (.bv 10) (.bnd (.op (.bin .neq) (.cons (.bv 12) (.cons (.bv 15) .nil))) (.chk (some ((.bv 16), false)) .chkp (.cons (.inp 0) .nil) (.chk (some ((.bv 16), false)) (.fld 0) (.cons (.op .chkp (.cons (.inp 0) .nil)) .nil) (.ite (.bv 16) false r25_3 (.isb none (.bv 16) (.isb none (.cst (.bool true)) (.done [] (some (.cst (.bool true))))))))))))
@[simp] theorem r25_4_wp : type_of% (@wpR r25_4 _ r25_4.eq_1) := wpR r25_4.eq_1
@[simp] theorem r25_4_wpq : type_of% (@wpRq r25_4 _ r25_4.eq_1) := wpRq r25_4.eq_1
@[simp] theorem r25_4_wpm : type_of% (@wpRm r25_4 _ r25_4.eq_1) := wpRm r25_4.eq_1
def r25_5 : RT := (.eff (.call 68) (.cons (.bv 14) .nil) r25_4)
@[simp] theorem r25_5_wp : type_of% (@wpR r25_5 _ r25_5.eq_1) := wpR r25_5.eq_1
@[simp] theorem r25_5_wpq : type_of% (@wpRq r25_5 _ r25_5.eq_1) := wpRq r25_5.eq_1
@[simp] theorem r25_5_wpm : type_of% (@wpRm r25_5 _ r25_5.eq_1) := wpRm r25_5.eq_1
def r25_6 : RT := (.chk none .chkp (.cons (.bv 13) .nil) (.chk none (.fld 0) (.cons (.op .chkp (.cons (.bv 13) .nil)) .nil) (.eff (.ld false 1) (.cons (.op (.fld 0) (.cons (.op .chkp (.cons (.bv 13) .nil)) .nil)) .nil) r25_5)))
@[simp] theorem r25_6_wp : type_of% (@wpR r25_6 _ r25_6.eq_1) := wpR r25_6.eq_1
@[simp] theorem r25_6_wpq : type_of% (@wpRq r25_6 _ r25_6.eq_1) := wpRq r25_6.eq_1
@[simp] theorem r25_6_wpm : type_of% (@wpRm r25_6 _ r25_6.eq_1) := wpRm r25_6.eq_1
def r25_7 : RT := (.chk none .chkp (.cons (.inp 0) .nil) (.chk none (.fld 3) (.cons (.op .chkp (.cons (.inp 0) .nil)) .nil) (.eff (.ld false 1) (.cons (.op (.fld 3) (.cons (.op .chkp (.cons (.inp 0) .nil)) .nil)) .nil) r25_6)))
@[simp] theorem r25_7_wp : type_of% (@wpR r25_7 _ r25_7.eq_1) := wpR r25_7.eq_1
@[simp] theorem r25_7_wpq : type_of% (@wpRq r25_7 _ r25_7.eq_1) := wpRq r25_7.eq_1
@[simp] theorem r25_7_wpm : type_of% (@wpRm r25_7 _ r25_7.eq_1) := wpRm r25_7.eq_1
def r25_8 : RT := (.eff (.call 21) (.cons (.bv 11) .nil) r25_7)
@[simp] theorem r25_8_wp : type_of% (@wpR r25_8 _ r25_8.eq_1) := wpR r25_8.eq_1
@[simp] theorem r25_8_wpq : type_of% (@wpRq r25_8 _ r25_8.eq_1) := wpRq r25_8.eq_1
@[simp] theorem r25_8_wpm : type_of% (@wpRm r25_8 _ r25_8.eq_1) := wpRm r25_8.eq_1
def r25_9 : RT := (.eff (.ld false 1) (.cons (.ite (.bv 10) false (.op (.fld 0) (.cons (.op .chkp (.cons (.inp 0) .nil)) .nil)) (.cst (.tuple #[]))) .nil) r25_8)
@[simp] theorem r25_9_wp : type_of% (@wpR r25_9 _ r25_9.eq_1) := wpR r25_9.eq_1
@[simp] theorem r25_9_wpq : type_of% (@wpRq r25_9 _ r25_9.eq_1) := wpRq r25_9.eq_1
@[simp] theorem r25_9_wpm : type_of% (@wpRm r25_9 _ r25_9.eq_1) := wpRm r25_9.eq_1
def r25_10 : RT := (.chk none (.un .not) (.cons (.bv 9) .nil) (.isb none (.bv 3) (.bnd (.op (.un .not) (.cons (.bv 9) .nil)) (.chk (some ((.bv 10), false)) .chkp (.cons (.inp 0) .nil) (.chk (some ((.bv 10), false)) (.fld 0) (.cons (.op .chkp (.cons (.inp 0) .nil)) .nil) (.ite (.bv 10) false r25_9 (.isb none (.bv 10) (.isb none (.cst (.bool true)) (.isb none (.cst (.bool true)) (.done [] (some (.cst (.bool true)))))))))))))
@[simp] theorem r25_10_wp : type_of% (@wpR r25_10 _ r25_10.eq_1) := wpR r25_10.eq_1
@[simp] theorem r25_10_wpq : type_of% (@wpRq r25_10 _ r25_10.eq_1) := wpRq r25_10.eq_1
@[simp] theorem r25_10_wpm : type_of% (@wpRm r25_10 _ r25_10.eq_1) := wpRm r25_10.eq_1
def r25_11 : RT := (.eff (.call 66) (.cons (.bv 5) (.cons (.bv 8) .nil)) r25_10)
@[simp] theorem r25_11_wp : type_of% (@wpR r25_11 _ r25_11.eq_1) := wpR r25_11.eq_1
@[simp] theorem r25_11_wpq : type_of% (@wpRq r25_11 _ r25_11.eq_1) := wpRq r25_11.eq_1
@[simp] theorem r25_11_wpm : type_of% (@wpRm r25_11 _ r25_11.eq_1) := wpRm r25_11.eq_1
def r25_12 : RT := (.eff (.call 67) (.cons (.bv 7) .nil) r25_11)
@[simp] theorem r25_12_wp : type_of% (@wpR r25_12 _ r25_12.eq_1) := wpR r25_12.eq_1
@[simp] theorem r25_12_wpq : type_of% (@wpRq r25_12 _ r25_12.eq_1) := wpRq r25_12.eq_1
@[simp] theorem r25_12_wpm : type_of% (@wpRm r25_12 _ r25_12.eq_1) := wpRm r25_12.eq_1
def r25_13 : RT := (.chk none .chkp (.cons (.bv 6) .nil) (.chk none (.fld 0) (.cons (.op .chkp (.cons (.bv 6) .nil)) .nil) (.eff (.ld false 1) (.cons (.op (.fld 0) (.cons (.op .chkp (.cons (.bv 6) .nil)) .nil)) .nil) r25_12)))
@[simp] theorem r25_13_wp : type_of% (@wpR r25_13 _ r25_13.eq_1) := wpR r25_13.eq_1
@[simp] theorem r25_13_wpq : type_of% (@wpRq r25_13 _ r25_13.eq_1) := wpRq r25_13.eq_1
@[simp] theorem r25_13_wpm : type_of% (@wpRm r25_13 _ r25_13.eq_1) := wpRm r25_13.eq_1
def r25_14 : RT := (.chk none .chkp (.cons (.inp 0) .nil) (.chk none (.fld 3) (.cons (.op .chkp (.cons (.inp 0) .nil)) .nil) (.eff (.ld false 1) (.cons (.op (.fld 3) (.cons (.op .chkp (.cons (.inp 0) .nil)) .nil)) .nil) r25_13)))
@[simp] theorem r25_14_wp : type_of% (@wpR r25_14 _ r25_14.eq_1) := wpR r25_14.eq_1
@[simp] theorem r25_14_wpq : type_of% (@wpRq r25_14 _ r25_14.eq_1) := wpRq r25_14.eq_1
@[simp] theorem r25_14_wpm : type_of% (@wpRm r25_14 _ r25_14.eq_1) := wpRm r25_14.eq_1
def r25_15 : RT := (.eff (.call 11) (.cons (.bv 4) .nil) r25_14)
@[simp] theorem r25_15_wp : type_of% (@wpR r25_15 _ r25_15.eq_1) := wpR r25_15.eq_1
@[simp] theorem r25_15_wpq : type_of% (@wpRq r25_15 _ r25_15.eq_1) := wpRq r25_15.eq_1
@[simp] theorem r25_15_wpm : type_of% (@wpRm r25_15 _ r25_15.eq_1) := wpRm r25_15.eq_1
def r25_16 : RT := (.eff (.ld false 1) (.cons (.ite (.bv 3) false (.op (.fld 0) (.cons (.op .chkp (.cons (.inp 0) .nil)) .nil)) (.cst (.tuple #[]))) .nil) r25_15)
@[simp] theorem r25_16_wp : type_of% (@wpR r25_16 _ r25_16.eq_1) := wpR r25_16.eq_1
@[simp] theorem r25_16_wpq : type_of% (@wpRq r25_16 _ r25_16.eq_1) := wpRq r25_16.eq_1
@[simp] theorem r25_16_wpm : type_of% (@wpRm r25_16 _ r25_16.eq_1) := wpRm r25_16.eq_1
def r25_17 : RT := (.chk none (.un .not) (.cons (.bv 2) .nil) (.isb none (.bv 1) (.bnd (.op (.un .not) (.cons (.bv 2) .nil)) (.chk (some ((.bv 3), false)) .chkp (.cons (.inp 0) .nil) (.chk (some ((.bv 3), false)) (.fld 0) (.cons (.op .chkp (.cons (.inp 0) .nil)) .nil) (.ite (.bv 3) false r25_16 (.isb none (.bv 3) (.isb none (.cst (.bool true)) (.isb none (.cst (.bool true)) (.isb none (.cst (.bool true)) (.done [] (some (.cst (.bool true))))))))))))))
@[simp] theorem r25_17_wp : type_of% (@wpR r25_17 _ r25_17.eq_1) := wpR r25_17.eq_1
@[simp] theorem r25_17_wpq : type_of% (@wpRq r25_17 _ r25_17.eq_1) := wpRq r25_17.eq_1
@[simp] theorem r25_17_wpm : type_of% (@wpRm r25_17 _ r25_17.eq_1) := wpRm r25_17.eq_1
def r25_18 : RT := (.eff (.call 65) (.cons (.ite (.bv 1) false (.inp 3) (.cst (.tuple #[]))) (.cons (.ite (.bv 1) false (.inp 4) (.cst (.tuple #[]))) .nil)) r25_17)
@[simp] theorem r25_18_wp : type_of% (@wpR r25_18 _ r25_18.eq_1) := wpR r25_18.eq_1
@[simp] theorem r25_18_wpq : type_of% (@wpRq r25_18 _ r25_18.eq_1) := wpRq r25_18.eq_1
@[simp] theorem r25_18_wpm : type_of% (@wpRm r25_18 _ r25_18.eq_1) := wpRm r25_18.eq_1
def r25_19 : RT := (.chk none (.un .not) (.cons (.bv 0) .nil) (.bnd (.op (.un .not) (.cons (.bv 0) .nil)) (.ite (.bv 1) false r25_18 (.isb none (.bv 1) (.isb none (.cst (.bool true)) (.isb none (.cst (.bool true)) (.isb none (.cst (.bool true)) (.isb none (.cst (.bool true)) (.done [] (some (.cst (.bool true))))))))))))
@[simp] theorem r25_19_wp : type_of% (@wpR r25_19 _ r25_19.eq_1) := wpR r25_19.eq_1
@[simp] theorem r25_19_wpq : type_of% (@wpRq r25_19 _ r25_19.eq_1) := wpRq r25_19.eq_1
@[simp] theorem r25_19_wpm : type_of% (@wpRm r25_19 _ r25_19.eq_1) := wpRm r25_19.eq_1
def h25_16 : HC := (.seq (.brq (some 12) (.eff (.call 65) (.cons (.inp 2) (.cons (.inp 4) .nil)) r25_19) h25_15 .skip) h25_14)
@[simp] theorem h25_16_wp : type_of% (@wpH h25_16 _ h25_16.eq_1) := wpH h25_16.eq_1
def h25_17 : HC := (.seq (.reg (.chk none .chkp (.cons (.inp 0) .nil) (.chk none (.fld 3) (.cons (.op .chkp (.cons (.inp 0) .nil)) .nil) (.eff (.ld false 1) (.cons (.op (.fld 3) (.cons (.op .chkp (.cons (.inp 0) .nil)) .nil)) .nil) (.eff (.call 64) (.cons (.bv 0) .nil) (.done [(4, (.bv 1))] none)))))) h25_16)
@[simp] theorem h25_17_wp : type_of% (@wpH h25_17 _ h25_17.eq_1) := wpH h25_17.eq_1
def h25_18 : HC := (.seq (.reg (.chk none .chkp (.cons (.inp 0) .nil) (.chk none (.fld 2) (.cons (.op .chkp (.cons (.inp 0) .nil)) .nil) (.eff (.ld false 1) (.cons (.op (.fld 2) (.cons (.op .chkp (.cons (.inp 0) .nil)) .nil)) .nil) (.eff (.call 13) (.cons (.bv 0) .nil) (.done [(3, (.bv 1))] none)))))) h25_17)
@[simp] theorem h25_18_wp : type_of% (@wpH h25_18 _ h25_18.eq_1) := wpH h25_18.eq_1
def h25_19 : HC := (.seq (.reg (.chk none .chkp (.cons (.inp 0) .nil) (.chk none (.fld 2) (.cons (.op .chkp (.cons (.inp 0) .nil)) .nil) (.eff (.ld false 1) (.cons (.op (.fld 2) (.cons (.op .chkp (.cons (.inp 0) .nil)) .nil)) .nil) (.eff (.call 13) (.cons (.bv 0) .nil) (.done [(2, (.bv 1))] none)))))) h25_18)
@[simp] theorem h25_19_wp : type_of% (@wpH h25_19 _ h25_19.eq_1) := wpH h25_19.eq_1
def l25 : Lifted := ⟨[0, 2, 3, 4, 5, 6, 7], 120, [.slot 1], (.seq (.reg (.done [(1, (.cst (.bool false)))] none)) h25_19)⟩
theorem l25_ok : liftFn E2 25 400 = some l25 := by kernel_rfl

def h24_0 : HC := (.seq (.reg (.done [(3, (.cst (.bool true)))] none)) .ret)
@[simp] theorem h24_0_wp : type_of% (@wpH h24_0 _ h24_0.eq_1) := wpH h24_0.eq_1
def h24_1 : HC := (.seq (.reg (.chk none (.cal 8) (.cons (.inp 6) .nil) (.chk none (.bin .eql) (.cons (.op (.cal 8) (.cons (.inp 6) .nil)) (.cons (.inp 5) .nil)) (.done [(3, (.op (.bin .eql) (.cons (.op (.cal 8) (.cons (.inp 6) .nil)) (.cons (.inp 5) .nil))))] none)))) .ret)
@[simp] theorem h24_1_wp : type_of% (@wpH h24_1 _ h24_1.eq_1) := wpH h24_1.eq_1
def h24_2 : HC := (.seq (.regq (some 1) (.chk none .chkp (.cons (.inp 0) .nil) (.chk none (.fld 2) (.cons (.op .chkp (.cons (.inp 0) .nil)) .nil) (.eff (.ld false 1) (.cons (.op (.fld 2) (.cons (.op .chkp (.cons (.inp 0) .nil)) .nil)) .nil) (.chk none (.fld 1) (.cons (.inp 2) .nil) (.eff (.ld false 1) (.cons (.op (.fld 1) (.cons (.inp 2) .nil)) .nil) (.chk none (.fld 3) (.cons (.inp 2) .nil) (.eff (.ld true 5) (.cons (.op (.fld 3) (.cons (.inp 2) .nil)) .nil) (.eff (.call 27) (.cons (.bv 0) (.cons (.bv 1) (.cons (.bv 2) .nil))) (.done [(6, (.bv 3))] none)))))))))) h24_1)
@[simp] theorem h24_2_wp : type_of% (@wpH h24_2 _ h24_2.eq_1) := wpH h24_2.eq_1
def h24_3 : HC := (.seq (.regq (some 1) (.chk none .chkp (.cons (.inp 0) .nil) (.chk none (.fld 3) (.cons (.op .chkp (.cons (.inp 0) .nil)) .nil) (.eff (.ld false 1) (.cons (.op (.fld 3) (.cons (.op .chkp (.cons (.inp 0) .nil)) .nil)) .nil) (.chk none (.fld 1) (.cons (.inp 2) .nil) (.eff (.ld false 1) (.cons (.op (.fld 1) (.cons (.inp 2) .nil)) .nil) (.chk none (.fld 3) (.cons (.inp 2) .nil) (.eff (.ld true 5) (.cons (.op (.fld 3) (.cons (.inp 2) .nil)) .nil) (.eff (.call 50) (.cons (.bv 0) (.cons (.bv 1) (.cons (.bv 2) .nil))) (.done [(5, (.bv 3))] none)))))))))) h24_2)
@[simp] theorem h24_3_wp : type_of% (@wpH h24_3 _ h24_3.eq_1) := wpH h24_3.eq_1
def h24_4 : HC := (.seq (.reg (.chk none (.cal 8) (.cons (.inp 9) .nil) (.chk none (.bin .eql) (.cons (.op (.cal 8) (.cons (.inp 9) .nil)) (.cons (.inp 8) .nil)) (.bnd (.op (.bin .eql) (.cons (.op (.cal 8) (.cons (.inp 9) .nil)) (.cons (.inp 8) .nil))) (.ite (.bv 0) true (.eff (.call 53) (.cons (.ite (.bv 0) true (.inp 7) (.cst (.tuple #[]))) (.cons (.ite (.bv 0) true (.inp 4) (.cst (.tuple #[]))) .nil)) (.isb none (.bv 0) (.done [(3, (.bv 1))] none))) (.isb none (.bv 0) (.done [(3, (.cst (.bool false)))] none))))))) .ret)
@[simp] theorem h24_4_wp : type_of% (@wpH h24_4 _ h24_4.eq_1) := wpH h24_4.eq_1
def h24_5 : HC := (.seq (.regq (some 1) (.chk none .chkp (.cons (.inp 0) .nil) (.chk none (.fld 2) (.cons (.op .chkp (.cons (.inp 0) .nil)) .nil) (.eff (.ld false 1) (.cons (.op (.fld 2) (.cons (.op .chkp (.cons (.inp 0) .nil)) .nil)) .nil) (.chk none (.fld 1) (.cons (.inp 2) .nil) (.eff (.ld false 1) (.cons (.op (.fld 1) (.cons (.inp 2) .nil)) .nil) (.chk none (.fld 3) (.cons (.inp 2) .nil) (.eff (.ld true 5) (.cons (.op (.fld 3) (.cons (.inp 2) .nil)) .nil) (.eff (.call 43) (.cons (.bv 0) (.cons (.bv 1) (.cons (.inp 7) (.cons (.bv 2) .nil)))) (.done [(9, (.bv 3))] none)))))))))) h24_4)
@[simp] theorem h24_5_wp : type_of% (@wpH h24_5 _ h24_5.eq_1) := wpH h24_5.eq_1
def h24_6 : HC := (.seq (.regq (some 1) (.chk none .chkp (.cons (.inp 0) .nil) (.chk none (.fld 3) (.cons (.op .chkp (.cons (.inp 0) .nil)) .nil) (.eff (.ld false 1) (.cons (.op (.fld 3) (.cons (.op .chkp (.cons (.inp 0) .nil)) .nil)) .nil) (.chk none (.fld 1) (.cons (.inp 2) .nil) (.eff (.ld false 1) (.cons (.op (.fld 1) (.cons (.inp 2) .nil)) .nil) (.chk none (.fld 3) (.cons (.inp 2) .nil) (.eff (.ld true 5) (.cons (.op (.fld 3) (.cons (.inp 2) .nil)) .nil) (.eff (.call 52) (.cons (.bv 0) (.cons (.bv 1) (.cons (.inp 4) (.cons (.bv 2) .nil)))) (.done [(8, (.bv 3))] none)))))))))) h24_5)
@[simp] theorem h24_6_wp : type_of% (@wpH h24_6 _ h24_6.eq_1) := wpH h24_6.eq_1
def h24_7 : HC := (.seq (.reg (.eff (.call 51) (.cons (.inp 4) .nil) (.done [(7, (.bv 0))] none))) h24_6)
@[simp] theorem h24_7_wp : type_of% (@wpH h24_7 _ h24_7.eq_1) := wpH h24_7.eq_1
def h24_8 : HC := (.seq (.reg (.chk none (.cal 8) (.cons (.inp 12) .nil) (.chk none (.bin .eql) (.cons (.op (.cal 8) (.cons (.inp 12) .nil)) (.cons (.inp 11) .nil)) (.bnd (.op (.bin .eql) (.cons (.op (.cal 8) (.cons (.inp 12) .nil)) (.cons (.inp 11) .nil))) (.ite (.bv 0) true (.eff (.call 53) (.cons (.ite (.bv 0) true (.inp 10) (.cst (.tuple #[]))) (.cons (.ite (.bv 0) true (.inp 4) (.cst (.tuple #[]))) .nil)) (.isb none (.bv 0) (.done [(3, (.bv 1))] none))) (.isb none (.bv 0) (.done [(3, (.cst (.bool false)))] none))))))) .ret)
@[simp] theorem h24_8_wp : type_of% (@wpH h24_8 _ h24_8.eq_1) := wpH h24_8.eq_1
def h24_9 : HC := (.seq (.regq (some 1) (.chk none .chkp (.cons (.inp 0) .nil) (.chk none (.fld 2) (.cons (.op .chkp (.cons (.inp 0) .nil)) .nil) (.eff (.ld false 1) (.cons (.op (.fld 2) (.cons (.op .chkp (.cons (.inp 0) .nil)) .nil)) .nil) (.chk none (.fld 1) (.cons (.inp 2) .nil) (.eff (.ld false 1) (.cons (.op (.fld 1) (.cons (.inp 2) .nil)) .nil) (.eff (.call 44) (.cons (.bv 0) (.cons (.bv 1) (.cons (.inp 10) .nil))) (.done [(12, (.bv 2))] none)))))))) h24_8)
@[simp] theorem h24_9_wp : type_of% (@wpH h24_9 _ h24_9.eq_1) := wpH h24_9.eq_1
def h24_10 : HC := (.seq (.regq (some 1) (.chk none .chkp (.cons (.inp 0) .nil) (.chk none (.fld 3) (.cons (.op .chkp (.cons (.inp 0) .nil)) .nil) (.eff (.ld false 1) (.cons (.op (.fld 3) (.cons (.op .chkp (.cons (.inp 0) .nil)) .nil)) .nil) (.chk none (.fld 1) (.cons (.inp 2) .nil) (.eff (.ld false 1) (.cons (.op (.fld 1) (.cons (.inp 2) .nil)) .nil) (.eff (.call 55) (.cons (.bv 0) (.cons (.bv 1) (.cons (.inp 4) .nil))) (.done [(11, (.bv 2))] none)))))))) h24_9)
@[simp] theorem h24_10_wp : type_of% (@wpH h24_10 _ h24_10.eq_1) := wpH h24_10.eq_1
def h24_11 : HC := (.seq (.reg (.eff (.call 51) (.cons (.inp 4) .nil) (.done [(10, (.bv 0))] none))) h24_10)
@[simp] theorem h24_11_wp : type_of% (@wpH h24_11 _ h24_11.eq_1) := wpH h24_11.eq_1
def h24_12 : HC := (.regq (some 1) (.chk none .chkp (.cons (.inp 0) .nil) (.chk none (.fld 3) (.cons (.op .chkp (.cons (.inp 0) .nil)) .nil) (.eff (.ld false 1) (.cons (.op (.fld 3) (.cons (.op .chkp (.cons (.inp 0) .nil)) .nil)) .nil) (.chk none (.fld 1) (.cons (.inp 2) .nil) (.eff (.ld false 1) (.cons (.op (.fld 1) (.cons (.inp 2) .nil)) .nil) (.chk none (.fld 3) (.cons (.inp 2) .nil) (.chk none (.fld 0) (.cons (.op (.fld 3) (.cons (.inp 2) .nil)) .nil) (.eff (.ld false 1) (.cons (.op (.fld 0) (.cons (.op (.fld 3) (.cons (.inp 2) .nil)) .nil)) .nil) (.eff (.call 54) (.cons (.bv 0) (.cons (.bv 1) (.cons (.bv 2) .nil))) (.done [(4, (.bv 3))] none)))))))))))
@[simp] theorem h24_12_wp : type_of% (@wpH h24_12 _ h24_12.eq_1) := wpH h24_12.eq_1
def h24_13 : HC := (.seq (.br (.chk none (.fld 0) (.cons (.inp 2) .nil) (.eff (.ld false 1) (.cons (.op (.fld 0) (.cons (.inp 2) .nil)) .nil) (.chk none (.bin .eql) (.cons (.bv 0) (.cons (.cst (.int .i64 6)) .nil)) (.done [] (some (.op (.bin .eql) (.cons (.bv 0) (.cons (.cst (.int .i64 6)) .nil)))))))) h24_12 .skip) h24_11)
@[simp] theorem h24_13_wp : type_of% (@wpH h24_13 _ h24_13.eq_1) := wpH h24_13.eq_1
def h24_14 : HC := (.seq (.regq (some 3) (.chk (some ((.inp 14), true)) .chkp (.cons (.inp 0) .nil) (.chk (some ((.inp 14), true)) (.fld 2) (.cons (.op .chkp (.cons (.inp 0) .nil)) .nil) (.ite (.inp 14) true (.eff (.ld false 1) (.cons (.ite (.inp 14) true (.op (.fld 2) (.cons (.op .chkp (.cons (.inp 0) .nil)) .nil)) (.cst (.tuple #[]))) .nil) (.chk none (.fld 1) (.cons (.inp 2) .nil) (.eff (.ld false 1) (.cons (.op (.fld 1) (.cons (.inp 2) .nil)) .nil) (.eff (.call 22) (.cons (.bv 0) (.cons (.bv 1) .nil)) (.chk none .chkp (.cons (.inp 0) .nil) (.chk none (.fld 3) (.cons (.op .chkp (.cons (.inp 0) .nil)) .nil) (.eff (.ld false 1) (.cons (.op (.fld 3) (.cons (.op .chkp (.cons (.inp 0) .nil)) .nil)) .nil) (.chk none (.fld 1) (.cons (.inp 2) .nil) (.eff (.ld false 1) (.cons (.op (.fld 1) (.cons (.inp 2) .nil)) .nil) (.eff (.call 57) (.cons (.bv 3) (.cons (.bv 4) .nil)) (.eff (.call 29) (.cons (.bv 2) (.cons (.bv 5) .nil)) (.isb none (.inp 14) (.done [(3, (.bv 6))] none))))))))))))) (.isb none (.inp 14) (.done [(3, (.cst (.bool false)))] none)))))) .ret)
@[simp] theorem h24_14_wp : type_of% (@wpH h24_14 _ h24_14.eq_1) := wpH h24_14.eq_1
def h24_15 : HC := (.reg (.chk none (.bin .add) (.cons (.inp 15) (.cons (.cst (.int .i64 1)) .nil)) (.done [(15, (.op (.bin .add) (.cons (.inp 15) (.cons (.cst (.int .i64 1)) .nil))))] none)))
@[simp] theorem h24_15_wp : type_of% (@wpH h24_15 _ h24_15.eq_1) := wpH h24_15.eq_1
def h24_16 : HC := (.reg (.chk none (.idxL 1) (.cons (.inp 13) (.cons (.inp 15) .nil)) (.eff (.st 1) (.cons (.op (.idxL 1) (.cons (.inp 13) (.cons (.inp 15) .nil))) (.cons (.cst (.int .i64 (-1))) .nil)) (.done [] none))))
@[simp] theorem h24_16_wp : type_of% (@wpH h24_16 _ h24_16.eq_1) := wpH h24_16.eq_1
def h24_17 : HC := (.seq (.block 2 h24_16) h24_15)
@[simp] theorem h24_17_wp : type_of% (@wpH h24_17 _ h24_17.eq_1) := wpH h24_17.eq_1
def h24_18 : HC := (.seq (.br (.chk none .lenL (.cons (.inp 13) .nil) (.chk none (.bin .lss) (.cons (.inp 15) (.cons (.op .lenL (.cons (.inp 13) .nil)) .nil)) (.done [] (some (.op (.bin .lss) (.cons (.inp 15) (.cons (.op .lenL (.cons (.inp 13) .nil)) .nil))))))) .skip (.exit 1)) h24_17)
@[simp] theorem h24_18_wp : type_of% (@wpH h24_18 _ h24_18.eq_1) := wpH h24_18.eq_1
def h24_19 : HC := (.loop h24_18)
@[simp] theorem h24_19_wp : type_of% (@wpH h24_19 _ h24_19.eq_1) := wpH h24_19.eq_1
def h24_20 : HC := (.seq (.block 1 h24_19) h24_14)
@[simp] theorem h24_20_wp : type_of% (@wpH h24_20 _ h24_20.eq_1) := wpH h24_20.eq_1
def h24_21 : HC := (.seq (.reg (.done [(15, (.cst (.int .i64 0)))] none)) h24_20)
@[simp] theorem h24_21_wp : type_of% (@wpH h24_21 _ h24_21.eq_1) := wpH h24_21.eq_1
def h24_22 : HC := (.seq (.regq (some 4) (.chk none .chkp (.cons (.inp 0) .nil) (.chk none (.fld 2) (.cons (.op .chkp (.cons (.inp 0) .nil)) .nil) (.eff (.ld false 1) (.cons (.op (.fld 2) (.cons (.op .chkp (.cons (.inp 0) .nil)) .nil)) .nil) (.chk none (.fld 1) (.cons (.inp 2) .nil) (.eff (.ld false 1) (.cons (.op (.fld 1) (.cons (.inp 2) .nil)) .nil) (.eff (.call 14) (.cons (.bv 0) (.cons (.bv 1) .nil)) (.chk none .chkp (.cons (.inp 0) .nil) (.chk none (.fld 3) (.cons (.op .chkp (.cons (.inp 0) .nil)) .nil) (.eff (.ld false 1) (.cons (.op (.fld 3) (.cons (.op .chkp (.cons (.inp 0) .nil)) .nil)) .nil) (.chk none (.fld 1) (.cons (.inp 2) .nil) (.eff (.ld false 1) (.cons (.op (.fld 1) (.cons (.inp 2) .nil)) .nil) (.eff (.call 56) (.cons (.bv 3) (.cons (.bv 4) .nil)) (.chk none (.bin .eql) (.cons (.bv 2) (.cons (.bv 5) .nil)) (.bnd (.op (.bin .eql) (.cons (.bv 2) (.cons (.bv 5) .nil))) (.chk (some ((.bv 6), true)) .chkp (.cons (.inp 0) .nil) (.chk (some ((.bv 6), true)) (.fld 3) (.cons (.op .chkp (.cons (.inp 0) .nil)) .nil) (.ite (.bv 6) true (.eff (.ld false 1) (.cons (.ite (.bv 6) true (.op (.fld 3) (.cons (.op .chkp (.cons (.inp 0) .nil)) .nil)) (.cst (.tuple #[]))) .nil) (.chk none (.fld 1) (.cons (.inp 2) .nil) (.eff (.ld false 1) (.cons (.op (.fld 1) (.cons (.inp 2) .nil)) .nil) (.eff (.call 57) (.cons (.bv 7) (.cons (.bv 8) .nil)) (.eff (.call 29) (.cons (.ite (.bv 6) true (.inp 13) (.cst (.tuple #[]))) (.cons (.bv 9) .nil)) (.isb none (.bv 6) (.done [(14, (.bv 10))] none))))))) (.isb none (.bv 6) (.done [(14, (.cst (.bool false)))] none)))))))))))))))))))) h24_21)
@[simp] theorem h24_22_wp : type_of% (@wpH h24_22 _ h24_22.eq_1) := wpH h24_22.eq_1
def h24_23 : HC := (.seq (.regq (some 1) (.chk none .chkp (.cons (.inp 0) .nil) (.chk none (.fld 2) (.cons (.op .chkp (.cons (.inp 0) .nil)) .nil) (.eff (.ld false 1) (.cons (.op (.fld 2) (.cons (.op .chkp (.cons (.inp 0) .nil)) .nil)) .nil) (.chk none (.fld 1) (.cons (.inp 2) .nil) (.eff (.ld false 1) (.cons (.op (.fld 1) (.cons (.inp 2) .nil)) .nil) (.eff (.call 22) (.cons (.bv 0) (.cons (.bv 1) .nil)) (.done [(13, (.bv 2))] none)))))))) h24_22)
@[simp] theorem h24_23_wp : type_of% (@wpH h24_23 _ h24_23.eq_1) := wpH h24_23.eq_1
def h24_24 : HC := (.seq (.reg (.eff (.call 25) (.cons (.inp 0) .nil) (.done [(3, (.bv 0))] none))) .ret)
@[simp] theorem h24_24_wp : type_of% (@wpH h24_24 _ h24_24.eq_1) := wpH h24_24.eq_1
def h24_25 : HC := (.seq (.reg (.chk none (.cal 8) (.cons (.inp 17) .nil) (.chk none (.bin .eql) (.cons (.op (.cal 8) (.cons (.inp 17) .nil)) (.cons (.inp 16) .nil)) (.done [(3, (.op (.bin .eql) (.cons (.op (.cal 8) (.cons (.inp 17) .nil)) (.cons (.inp 16) .nil))))] none)))) .ret)
@[simp] theorem h24_25_wp : type_of% (@wpH h24_25 _ h24_25.eq_1) := wpH h24_25.eq_1
def h24_26 : HC := (.seq (.regq (some 1) (.chk none .chkp (.cons (.inp 0) .nil) (.chk none (.fld 0) (.cons (.op .chkp (.cons (.inp 0) .nil)) .nil) (.eff (.ld false 1) (.cons (.op (.fld 0) (.cons (.op .chkp (.cons (.inp 0) .nil)) .nil)) .nil) (.chk none (.fld 3) (.cons (.inp 2) .nil) (.chk none (.fld 0) (.cons (.op (.fld 3) (.cons (.inp 2) .nil)) .nil) (.eff (.ld false 1) (.cons (.op (.fld 0) (.cons (.op (.fld 3) (.cons (.inp 2) .nil)) .nil)) .nil) (.chk none (.fld 3) (.cons (.inp 2) .nil) (.chk none (.fld 2) (.cons (.op (.fld 3) (.cons (.inp 2) .nil)) .nil) (.eff (.ld false 1) (.cons (.op (.fld 2) (.cons (.op (.fld 3) (.cons (.inp 2) .nil)) .nil)) .nil) (.eff (.call 59) (.cons (.bv 0) (.cons (.bv 1) (.cons (.bv 2) .nil))) (.done [(17, (.bv 3))] none)))))))))))) h24_25)
@[simp] theorem h24_26_wp : type_of% (@wpH h24_26 _ h24_26.eq_1) := wpH h24_26.eq_1
def h24_27 : HC := (.seq (.regq (some 1) (.chk none .chkp (.cons (.inp 0) .nil) (.chk none (.fld 3) (.cons (.op .chkp (.cons (.inp 0) .nil)) .nil) (.eff (.ld false 1) (.cons (.op (.fld 3) (.cons (.op .chkp (.cons (.inp 0) .nil)) .nil)) .nil) (.chk none .chkp (.cons (.bv 0) .nil) (.chk none (.fld 0) (.cons (.op .chkp (.cons (.bv 0) .nil)) .nil) (.eff (.ld false 1) (.cons (.op (.fld 0) (.cons (.op .chkp (.cons (.bv 0) .nil)) .nil)) .nil) (.chk none (.fld 3) (.cons (.inp 2) .nil) (.chk none (.fld 0) (.cons (.op (.fld 3) (.cons (.inp 2) .nil)) .nil) (.eff (.ld false 1) (.cons (.op (.fld 0) (.cons (.op (.fld 3) (.cons (.inp 2) .nil)) .nil)) .nil) (.chk none (.fld 3) (.cons (.inp 2) .nil) (.chk none (.fld 2) (.cons (.op (.fld 3) (.cons (.inp 2) .nil)) .nil) (.eff (.ld false 1) (.cons (.op (.fld 2) (.cons (.op (.fld 3) (.cons (.inp 2) .nil)) .nil)) .nil) (.eff (.call 58) (.cons (.bv 1) (.cons (.bv 2) (.cons (.bv 3) .nil))) (.done [(16, (.bv 4))] none))))))))))))))) h24_26)
@[simp] theorem h24_27_wp : type_of% (@wpH h24_27 _ h24_27.eq_1) := wpH h24_27.eq_1
def h24_28 : HC := (.seq (.reg (.chk none (.bin .eql) (.cons (.inp 18) (.cons (.inp 20) .nil)) (.bnd (.op (.bin .eql) (.cons (.inp 18) (.cons (.inp 20) .nil))) (.chk (some ((.bv 0), true)) (.cal 8) (.cons (.inp 21) .nil) (.chk (some ((.bv 0), true)) (.bin .eql) (.cons (.op (.cal 8) (.cons (.inp 21) .nil)) (.cons (.inp 19) .nil)) (.isb none (.bv 0) (.done [(3, (.ite (.bv 0) true (.op (.bin .eql) (.cons (.op (.cal 8) (.cons (.inp 21) .nil)) (.cons (.inp 19) .nil))) (.cst (.bool false))))] none))))))) .ret)
@[simp] theorem h24_28_wp : type_of% (@wpH h24_28 _ h24_28.eq_1) := wpH h24_28.eq_1
def h24_29 : HC := (.seq (.regq (some 1) (.chk none .chkp (.cons (.inp 0) .nil) (.chk none (.fld 1) (.cons (.op .chkp (.cons (.inp 0) .nil)) .nil) (.eff (.ld false 1) (.cons (.op (.fld 1) (.cons (.op .chkp (.cons (.inp 0) .nil)) .nil)) .nil) (.chk none (.fld 3) (.cons (.inp 2) .nil) (.chk none (.fld 0) (.cons (.op (.fld 3) (.cons (.inp 2) .nil)) .nil) (.eff (.ld false 1) (.cons (.op (.fld 0) (.cons (.op (.fld 3) (.cons (.inp 2) .nil)) .nil)) .nil) (.eff (.call 61) (.cons (.bv 0) (.cons (.cst (.int .i64 0)) (.cons (.bv 1) .nil))) (.chk none (.ext 0) (.cons (.bv 2) .nil) (.chk none (.ext 1) (.cons (.bv 2) .nil) (.done [(20, (.op (.ext 0) (.cons (.bv 2) .nil))), (21, (.op (.ext 1) (.cons (.bv 2) .nil)))] none))))))))))) h24_28)
@[simp] theorem h24_29_wp : type_of% (@wpH h24_29 _ h24_29.eq_1) := wpH h24_29.eq_1
def h24_30 : HC := (.seq (.regq (some 1) (.chk none .chkp (.cons (.inp 0) .nil) (.chk none (.fld 3) (.cons (.op .chkp (.cons (.inp 0) .nil)) .nil) (.eff (.ld false 1) (.cons (.op (.fld 3) (.cons (.op .chkp (.cons (.inp 0) .nil)) .nil)) .nil) (.chk none .chkp (.cons (.bv 0) .nil) (.chk none (.fld 1) (.cons (.op .chkp (.cons (.bv 0) .nil)) .nil) (.eff (.ld false 1) (.cons (.op (.fld 1) (.cons (.op .chkp (.cons (.bv 0) .nil)) .nil)) .nil) (.chk none (.fld 3) (.cons (.inp 2) .nil) (.chk none (.fld 0) (.cons (.op (.fld 3) (.cons (.inp 2) .nil)) .nil) (.eff (.ld false 1) (.cons (.op (.fld 0) (.cons (.op (.fld 3) (.cons (.inp 2) .nil)) .nil)) .nil) (.eff (.call 60) (.cons (.bv 1) (.cons (.cst (.int .i64 0)) (.cons (.bv 2) .nil))) (.chk none (.ext 0) (.cons (.bv 3) .nil) (.chk none (.ext 1) (.cons (.bv 3) .nil) (.done [(18, (.op (.ext 0) (.cons (.bv 3) .nil))), (19, (.op (.ext 1) (.cons (.bv 3) .nil)))] none)))))))))))))) h24_29)
@[simp] theorem h24_30_wp : type_of% (@wpH h24_30 _ h24_30.eq_1) := wpH h24_30.eq_1
def h24_31 : HC := (.reg (.chk none .chkp (.cons (.inp 0) .nil) (.chk none (.fld 0) (.cons (.op .chkp (.cons (.inp 0) .nil)) .nil) (.eff (.st 1) (.cons (.op (.fld 0) (.cons (.op .chkp (.cons (.inp 0) .nil)) .nil)) (.cons (.inp 22) .nil)) (.chk none .chkp (.cons (.inp 0) .nil) (.chk none (.fld 1) (.cons (.op .chkp (.cons (.inp 0) .nil)) .nil) (.eff (.st 1) (.cons (.op (.fld 1) (.cons (.op .chkp (.cons (.inp 0) .nil)) .nil)) (.cons (.inp 23) .nil)) (.chk none .chkp (.cons (.inp 0) .nil) (.chk none (.fld 2) (.cons (.op .chkp (.cons (.inp 0) .nil)) .nil) (.eff (.st 1) (.cons (.op (.fld 2) (.cons (.op .chkp (.cons (.inp 0) .nil)) .nil)) (.cons (.inp 24) .nil)) (.done [] none)))))))))))
@[simp] theorem h24_31_wp : type_of% (@wpH h24_31 _ h24_31.eq_1) := wpH h24_31.eq_1
def h24_32 : HC := (.seq (.reg (.done [(3, (.cst (.bool false)))] none)) .ret)
@[simp] theorem h24_32_wp : type_of% (@wpH h24_32 _ h24_32.eq_1) := wpH h24_32.eq_1
def h24_33 : HC := (.seq (.br (.chk none (.cal 8) (.cons (.inp 25) .nil) (.chk none (.bin .neq) (.cons (.op (.cal 8) (.cons (.inp 25) .nil)) (.cons (.cst (.int .i64 0)) .nil)) (.bnd (.op (.bin .neq) (.cons (.op (.cal 8) (.cons (.inp 25) .nil)) (.cons (.cst (.int .i64 0)) .nil))) (.chk (some ((.bv 0), false)) (.eqNil false (.pointer 95) (.pointer none)) (.cons (.inp 24) .nil) (.isb none (.bv 0) (.done [] (some (.ite (.bv 0) true (.cst (.bool true)) (.op (.eqNil false (.pointer 95) (.pointer none)) (.cons (.inp 24) .nil)))))))))) h24_32 .skip) h24_31)
@[simp] theorem h24_33_wp : type_of% (@wpH h24_33 _ h24_33.eq_1) := wpH h24_33.eq_1
def h24_34 : HC := (.seq (.reg (.chk none .chkp (.cons (.inp 0) .nil) (.chk none (.fld 2) (.cons (.op .chkp (.cons (.inp 0) .nil)) .nil) (.eff (.ld false 1) (.cons (.op (.fld 2) (.cons (.op .chkp (.cons (.inp 0) .nil)) .nil)) .nil) (.eff (.call 13) (.cons (.bv 0) .nil) (.eff (.call 9) (.cons (.inp 22) (.cons (.inp 23) (.cons (.bv 1) .nil))) (.chk none (.ext 0) (.cons (.bv 2) .nil) (.chk none (.ext 1) (.cons (.bv 2) .nil) (.done [(24, (.op (.ext 0) (.cons (.bv 2) .nil))), (25, (.op (.ext 1) (.cons (.bv 2) .nil)))] none))))))))) h24_33)
@[simp] theorem h24_34_wp : type_of% (@wpH h24_34 _ h24_34.eq_1) := wpH h24_34.eq_1
def h24_35 : HC := (.seq (.reg (.chk none .chkp (.cons (.inp 0) .nil) (.chk none (.fld 1) (.cons (.op .chkp (.cons (.inp 0) .nil)) .nil) (.eff (.ld false 1) (.cons (.op (.fld 1) (.cons (.op .chkp (.cons (.inp 0) .nil)) .nil)) .nil) (.eff (.call 63) (.cons (.bv 0) .nil) (.done [(23, (.bv 1))] none)))))) h24_34)
@[simp] theorem h24_35_wp : type_of% (@wpH h24_35 _ h24_35.eq_1) := wpH h24_35.eq_1
def h24_36 : HC := (.seq (.reg (.chk none .chkp (.cons (.inp 0) .nil) (.chk none (.fld 0) (.cons (.op .chkp (.cons (.inp 0) .nil)) .nil) (.eff (.ld false 1) (.cons (.op (.fld 0) (.cons (.op .chkp (.cons (.inp 0) .nil)) .nil)) .nil) (.eff (.call 62) (.cons (.bv 0) .nil) (.done [(22, (.bv 1))] none)))))) h24_35)
@[simp] theorem h24_36_wp : type_of% (@wpH h24_36 _ h24_36.eq_1) := wpH h24_36.eq_1
def h24_37 : HC := (.br (.chk none (.bin .eql) (.cons (.inp 26) (.cons (.cst (.int .i64 9)) .nil)) (.done [] (some (.op (.bin .eql) (.cons (.inp 26) (.cons (.cst (.int .i64 9)) .nil)))))) h24_36 .skip)
@[simp] theorem h24_37_wp : type_of% (@wpH h24_37 _ h24_37.eq_1) := wpH h24_37.eq_1
def h24_38 : HC := (.br (.chk none (.bin .eql) (.cons (.inp 26) (.cons (.cst (.int .i64 8)) .nil)) (.done [] (some (.op (.bin .eql) (.cons (.inp 26) (.cons (.cst (.int .i64 8)) .nil)))))) h24_30 h24_37)
@[simp] theorem h24_38_wp : type_of% (@wpH h24_38 _ h24_38.eq_1) := wpH h24_38.eq_1
def h24_39 : HC := (.br (.chk none (.bin .eql) (.cons (.inp 26) (.cons (.cst (.int .i64 7)) .nil)) (.done [] (some (.op (.bin .eql) (.cons (.inp 26) (.cons (.cst (.int .i64 7)) .nil)))))) h24_27 h24_38)
@[simp] theorem h24_39_wp : type_of% (@wpH h24_39 _ h24_39.eq_1) := wpH h24_39.eq_1
def h24_40 : HC := (.br (.chk none (.bin .eql) (.cons (.inp 26) (.cons (.cst (.int .i64 5)) .nil)) (.done [] (some (.op (.bin .eql) (.cons (.inp 26) (.cons (.cst (.int .i64 5)) .nil)))))) h24_24 h24_39)
@[simp] theorem h24_40_wp : type_of% (@wpH h24_40 _ h24_40.eq_1) := wpH h24_40.eq_1
def h24_41 : HC := (.br (.chk none (.bin .eql) (.cons (.inp 26) (.cons (.cst (.int .i64 4)) .nil)) (.done [] (some (.op (.bin .eql) (.cons (.inp 26) (.cons (.cst (.int .i64 4)) .nil)))))) h24_23 h24_40)
@[simp] theorem h24_41_wp : type_of% (@wpH h24_41 _ h24_41.eq_1) := wpH h24_41.eq_1
def h24_42 : HC := (.cnd 27 h24_13 h24_41)
@[simp] theorem h24_42_wp : type_of% (@wpH h24_42 _ h24_42.eq_1) := wpH h24_42.eq_1
def h24_43 : HC := (.reg (.chk none (.bin .eql) (.cons (.inp 26) (.cons (.cst (.int .i64 6)) .nil)) (.done [(27, (.op (.bin .eql) (.cons (.inp 26) (.cons (.cst (.int .i64 6)) .nil))))] none)))
@[simp] theorem h24_43_wp : type_of% (@wpH h24_43 _ h24_43.eq_1) := wpH h24_43.eq_1
def h24_44 : HC := (.seq (.cnd 27 .skip h24_43) h24_42)
@[simp] theorem h24_44_wp : type_of% (@wpH h24_44 _ h24_44.eq_1) := wpH h24_44.eq_1
def h24_45 : HC := (.seq (.reg (.chk none (.bin .eql) (.cons (.inp 26) (.cons (.cst (.int .i64 3)) .nil)) (.done [(27, (.op (.bin .eql) (.cons (.inp 26) (.cons (.cst (.int .i64 3)) .nil))))] none))) h24_44)
@[simp] theorem h24_45_wp : type_of% (@wpH h24_45 _ h24_45.eq_1) := wpH h24_45.eq_1
def h24_46 : HC := (.br (.chk none (.bin .eql) (.cons (.inp 26) (.cons (.cst (.int .i64 2)) .nil)) (.done [] (some (.op (.bin .eql) (.cons (.inp 26) (.cons (.cst (.int .i64 2)) .nil)))))) h24_7 h24_45)
@[simp] theorem h24_46_wp : type_of% (@wpH h24_46 _ h24_46.eq_1) := wpH h24_46.eq_1
def h24_47 : HC := (.br (.chk none (.bin .eql) (.cons (.inp 26) (.cons (.cst (.int .i64 1)) .nil)) (.done [] (some (.op (.bin .eql) (.cons (.inp 26) (.cons (.cst (.int .i64 1)) .nil)))))) h24_3 h24_46)
@[simp] theorem h24_47_wp : type_of% (@wpH h24_47 _ h24_47.eq_1) := wpH h24_47.eq_1
def h24_48 : HC := (.seq (.block 0 h24_47) h24_0)
@[simp] theorem h24_48_wp : type_of% (@wpH h24_48 _ h24_48.eq_1) := wpH h24_48.eq_1
def h24_49 : HC := (.seq (.reg (.chk none (.fld 0) (.cons (.inp 2) .nil) (.eff (.ld false 1) (.cons (.op (.fld 0) (.cons (.inp 2) .nil)) .nil) (.done [(26, (.bv 0))] none)))) h24_48)
@[simp] theorem h24_49_wp : type_of% (@wpH h24_49 _ h24_49.eq_1) := wpH h24_49.eq_1
def h24_50 : HC := (.seq (.reg (.chk none (.fld 2) (.cons (.inp 2) .nil) (.eff (.ld false 1) (.cons (.op (.fld 2) (.cons (.inp 2) .nil)) .nil) (.done [(4, (.bv 0))] none)))) h24_49)
@[simp] theorem h24_50_wp : type_of% (@wpH h24_50 _ h24_50.eq_1) := wpH h24_50.eq_1
def l24 : Lifted := ⟨[0, 1, 3, 4, 5, 6, 7, 8, 9, 10, 11, 12, 13, 14, 15, 16, 17, 18, 19, 20, 21, 22, 23, 24, 25, 26, 30, 88], 306, [.slot 3], (.seq (.reg (.eff (.box 48) (.cons (.inp 1) .nil) (.done [(2, (.bv 0)), (3, (.cst (.bool false)))] none))) h24_50)⟩
theorem l24_ok : liftFn E2 24 400 = some l24 := by kernel_rfl
def tellG (E : Eco) : List Value → Prop
  | [r] => r = .bool true
  | [_, r] => r = .bool true
  | [_, _, _, _, r] => r = .bool true
  | [_, _, _, _, _, r] => r = .int .u64 E.P.held
  | [_, _, _, _, _, _, r] => r = .int .u64 E.P.held
  | [_, _, _, _, _, _, _, r] => r = .int .u64 E.P.sup
  | [_, _, _, _, _, _, _, _, r] => r = .int .u64 E.P.sup
  | [_, _, _, _, _, _, _, _, _, _, _, r] => r = .bool true
  | _ => True
def tellF (E : Eco) : List Value → Asn
  | [_, _, r] => own 58 2 r E.P.rows.length (Pu.flat E.P.rows)
  | [_, _, q, r] => own 58 2 q E.P.rows.length (Pu.flat E.P.rows) * own 58 2 r E.P.rows.length (Pu.flat E.P.rows)
  | [_, _, _, _, _, _, _, _, _, r] => own 60 4 r E.its.length (Gd.flat E.its)
  | [_, _, _, _, _, _, _, _, _, q, r] => own 60 4 q E.its.length (Gd.flat E.its) * own 60 4 r E.its.length (Gd.flat E.its)
  | _ => emp
set_option maxHeartbeats 2000000 in
theorem told_spec (wd p g s q gr sr : Nat) (lp lg : Int) (E : Eco) (w0 w : World) (A : Asn) (h0 : w0.drawn = 0) (hE : EI lp lg E) (hl : E.l.length ≤ 4194304) (h : St w0 (A * deskA wd p g s sr * ecoA p g s lg E * recoA q gr sr lg E) w) :
    CallW Tryz.prog 25 [.pointer (some ⟨wd, 0, none⟩)] (fun r w' => r = .bool true ∧ St w0 (A * deskA wd p g s sr * ecoA p g s lg E * recoA q gr sr lg E) w') w := by
  have hpl := hE.P.bd.len
  have hil : E.its.length ≤ 1048576 := by have := hE.G.len; have := hE.G.lim; omega
  obtain ⟨D, hD⟩ : ∃ D, A * deskA wd p g s sr * ecoA p g s lg E * recoA q gr sr lg E = D := ⟨_, rfl⟩
  rw [hD] at h ⊢
  have dk : ∀ {Z : Asn} {w : World}, St w0 (D * Z) w → w.heap[wd]? = some (.cells #[.pointer (some ⟨p, 0, none⟩), .pointer (some ⟨g, 0, none⟩), .pointer (some ⟨s, 0, none⟩), .pointer (some ⟨sr, 0, none⟩)] 122 (0, 0)) := fun {Z w} h =>
    (h.to (B := A * ecoA p g s lg E * recoA q gr sr lg E * Z * deskA wd p g s sr) (by rw [← hD]; ac_rfl)).look
  have rc : ∀ {Z : Asn} {w : World}, St w0 (D * Z) w → w.cell? ⟨sr, 0, none⟩ = some (.pointer (some ⟨q, 0, none⟩)) ∧ w.cell? ⟨sr, 1, none⟩ = some (.pointer (some ⟨gr, 0, none⟩)) := fun {Z w} h =>
    resc_cells (h.to (B := A * deskA wd p g s sr * ecoA p g s lg E * Pu.rpur q E.P * Gd.rgs gr lg E.its * Z * resc sr q gr E.l) (by rw [← hD]; simp only [recoA]; ac_rfl))
  have cRows : ∀ {Z : Asn} {w : World}, St w0 (D * Z) w → CallW Tryz.prog 13 [.pointer (some ⟨s, 0, none⟩)] (fun r w' => St w0 (D * Z * own 98 2 r E.l.length (rflat E.l)) w') w := fun {Z w} h =>
    (Rows_spec s p g E.l w0 w (A * deskA wd p g s sr * Pu.pur p E.P * Gd.gds g lg E.its * recoA q gr sr lg E * Z) h0 hE.R hl (h.to (by rw [← hD]; simp only [ecoA]; ac_rfl))).mono fun r w' h => h.to (by rw [← hD]; simp only [ecoA]; ac_rfl)
  have crRows : ∀ {Z : Asn} {w : World}, St w0 (D * Z) w → CallW Tryz.prog 64 [.pointer (some ⟨sr, 0, none⟩)] (fun r w' => St w0 (D * Z * own 100 2 r E.l.length (rflat E.l)) w') w := fun {Z w} h =>
    (rRows_spec sr q gr E.l w0 w (A * deskA wd p g s sr * ecoA p g s lg E * Pu.rpur q E.P * Gd.rgs gr lg E.its * Z) hl (h.to (by rw [← hD]; simp only [recoA]; ac_rfl))).mono fun r w' h => h.to (by rw [← hD]; simp only [recoA]; ac_rfl)
  have cP : ∀ {Z : Asn} {w : World}, St w0 (D * Z) w → CallW Tryz.prog 11 [.pointer (some ⟨p, 0, none⟩)] (fun r w' => St w0 (D * Z * own 58 2 r E.P.rows.length (Pu.flat E.P.rows)) w') w := fun {Z w} h =>
    (Pu.Rows_spec p E.P w0 w (A * deskA wd p g s sr * esc s p g E.l * Gd.gds g lg E.its * recoA q gr sr lg E * Z) (by omega) (h.to (by rw [← hD]; simp only [ecoA]; ac_rfl))).mono fun r w' h => h.to (by rw [← hD]; simp only [ecoA]; ac_rfl)
  have crP : ∀ {Z : Asn} {w : World}, St w0 (D * Z) w → CallW Tryz.prog 67 [.pointer (some ⟨q, 0, none⟩)] (fun r w' => St w0 (D * Z * own 58 2 r E.P.rows.length (Pu.flat E.P.rows)) w') w := fun {Z w} h =>
    (Pu.rRows_spec q E.P w0 w (A * deskA wd p g s sr * ecoA p g s lg E * resc sr q gr E.l * Gd.rgs gr lg E.its * Z) (by omega) (h.to (by rw [← hD]; simp only [recoA]; ac_rfl))).mono fun r w' h => h.to (by rw [← hD]; simp only [recoA]; ac_rfl)
  have cG : ∀ {Z : Asn} {w : World}, St w0 (D * Z) w → CallW Tryz.prog 12 [.pointer (some ⟨g, 0, none⟩)] (fun r w' => St w0 (D * Z * own 60 4 r E.its.length (Gd.flat E.its)) w') w := fun {Z w} h =>
    (Gd.Rows_spec g lg E.its w0 w (A * deskA wd p g s sr * esc s p g E.l * Pu.pur p E.P * recoA q gr sr lg E * Z) hil (h.to (by rw [← hD]; simp only [ecoA]; ac_rfl))).mono fun r w' h => h.to (by rw [← hD]; simp only [ecoA]; ac_rfl)
  have crG : ∀ {Z : Asn} {w : World}, St w0 (D * Z) w → CallW Tryz.prog 71 [.pointer (some ⟨gr, 0, none⟩)] (fun r w' => St w0 (D * Z * own 60 4 r E.its.length (Gd.flat E.its)) w') w := fun {Z w} h =>
    (Gd.rRows_spec gr lg E.its w0 w (A * deskA wd p g s sr * ecoA p g s lg E * resc sr q gr E.l * Pu.rpur q E.P * Z) hil (h.to (by rw [← hD]; simp only [recoA]; ac_rfl))).mono fun r w' h => h.to (by rw [← hD]; simp only [recoA]; ac_rfl)
  have cH : ∀ {Z : Asn} {w : World}, St w0 (D * Z) w → CallW Tryz.prog 21 [.pointer (some ⟨p, 0, none⟩)] (fun r w' => r = .int .u64 E.P.held ∧ St w0 (D * Z) w') w := fun {Z w} h =>
    (Pu.Held_spec p E.P w0 w (A * deskA wd p g s sr * esc s p g E.l * Gd.gds g lg E.its * recoA q gr sr lg E * Z) (h.to (by rw [← hD]; simp only [ecoA]; ac_rfl))).mono fun r w' h => ⟨h.1, h.2.to (by rw [← hD]; simp only [ecoA]; ac_rfl)⟩
  have crH : ∀ {Z : Asn} {w : World}, St w0 (D * Z) w → CallW Tryz.prog 68 [.pointer (some ⟨q, 0, none⟩)] (fun r w' => r = .int .u64 E.P.held ∧ St w0 (D * Z) w') w := fun {Z w} h =>
    (Pu.rHeld_spec q lp E.P w0 w (A * deskA wd p g s sr * ecoA p g s lg E * resc sr q gr E.l * Gd.rgs gr lg E.its * Z) hE.P (h.to (by rw [← hD]; simp only [recoA]; ac_rfl))).mono fun r w' h => ⟨h.1, h.2.to (by rw [← hD]; simp only [recoA]; ac_rfl)⟩
  have cS : ∀ {Z : Asn} {w : World}, St w0 (D * Z) w → CallW Tryz.prog 16 [.pointer (some ⟨p, 0, none⟩)] (fun r w' => r = .int .u64 E.P.sup ∧ St w0 (D * Z) w') w := fun {Z w} h =>
    (Pu.Supply_spec p E.P w0 w (A * deskA wd p g s sr * esc s p g E.l * Gd.gds g lg E.its * recoA q gr sr lg E * Z) (h.to (by rw [← hD]; simp only [ecoA]; ac_rfl))).mono fun r w' h => ⟨h.1, h.2.to (by rw [← hD]; simp only [ecoA]; ac_rfl)⟩
  have crS : ∀ {Z : Asn} {w : World}, St w0 (D * Z) w → CallW Tryz.prog 69 [.pointer (some ⟨q, 0, none⟩)] (fun r w' => r = .int .u64 E.P.sup ∧ St w0 (D * Z) w') w := fun {Z w} h =>
    (Pu.rSupply_spec q E.P w0 w (A * deskA wd p g s sr * ecoA p g s lg E * resc sr q gr E.l * Gd.rgs gr lg E.its * Z) (h.to (by rw [← hD]; simp only [recoA]; ac_rfl))).mono fun r w' h => ⟨h.1, h.2.to (by rw [← hD]; simp only [recoA]; ac_rfl)⟩
  clear hD
  have h1 : St w0 (D * emp) w := by rw [sep_emp]; exact h
  refine callW_of_lift l25_ok (by simp [l25]) ?_
  simp [l25]
  refine eff_ldc (v := .pointer (some ⟨s, 0, none⟩)) ((cell_of (dk h1)).trans rfl) ?_
  simp -implicitDefEqProofs
  refine eff_call ((cRows h1).mono ?_)
  intro a w1 s1
  simp -implicitDefEqProofs
  rw [sep_emp] at s1
  refine eff_ldc (v := .pointer (some ⟨s, 0, none⟩)) ((cell_of (dk s1)).trans rfl) ?_
  simp -implicitDefEqProofs
  refine eff_call ((cRows s1).mono ?_)
  intro b w2 s2
  simp -implicitDefEqProofs
  have s2 : St w0 (D * (own 98 2 a E.l.length (rflat E.l) * own 98 2 b E.l.length (rflat E.l))) w2 := s2.to (by ac_rfl)
  refine eff_ldc (v := .pointer (some ⟨sr, 0, none⟩)) ((cell_of (dk s2)).trans rfl) ?_
  simp -implicitDefEqProofs
  refine eff_call ((crRows s2).mono ?_)
  intro c w3 s3
  simp -implicitDefEqProofs
  clear s1 s2 h1 h
  obtain ⟨M, hM⟩ : ∃ M, own 98 2 a E.l.length (rflat E.l) * own 98 2 b E.l.length (rflat E.l) * own 100 2 c E.l.length (rflat E.l) = M := ⟨_, rfl⟩
  have s3 : St w0 (D * M) w3 := s3.to (by rw [← hM]; ac_rfl)
  have ra : ∀ {Z : Asn} {w : World}, St w0 (D * M * Z) w → Row w0 (D * M * Z) a E.l.length 2 (rflat E.l) := fun {Z w} h =>
    row_in (e := 98) (B := D * Z * own 98 2 b E.l.length (rflat E.l) * own 100 2 c E.l.length (rflat E.l)) h (by rw [← hM]; ac_rfl)
  have rb : ∀ {Z : Asn} {w : World}, St w0 (D * M * Z) w → Row w0 (D * M * Z) b E.l.length 2 (rflat E.l) := fun {Z w} h =>
    row_in (e := 98) (B := D * Z * own 98 2 a E.l.length (rflat E.l) * own 100 2 c E.l.length (rflat E.l)) h (by rw [← hM]; ac_rfl)
  have rcw : ∀ {Z : Asn} {w : World}, St w0 (D * M * Z) w → Row w0 (D * M * Z) c E.l.length 2 (rflat E.l) := fun {Z w} h =>
    row_in (e := 100) (B := D * Z * own 98 2 a E.l.length (rflat E.l) * own 98 2 b E.l.length (rflat E.l)) h (by rw [← hM]; ac_rfl)
  have aw : ∀ {Z : Asn} {w : World}, St w0 (D * M * Z) w → St w0 (D * (M * Z)) w := fun h => h.to (by ac_rfl)
  refine brmI (chC w0 (D * M) (tellG E) (tellF E)) (chC_nil trivial rfl s3.drew) ?_
  simp -implicitDefEqProofs
  refine effm_mv rfl (fun w hw => eff_call ((rows_spec E.l E.l a c w0 w _ hl (ra hw.2) (rcw hw.2) hw.2).mono ?_)) (fun r1 h1 => ?_)
  · rintro r w' ⟨rfl, s⟩; exact ⟨by simp [tellG], s⟩
  obtain ⟨_, e, _⟩ := h1
  simp only [List.nil_append, tellG] at e
  subst e
  simp -implicitDefEqProofs
  refine effm_mv rfl (fun w hw => eff_call ((rows_spec E.l E.l b c w0 w _ hl (rb hw.2) (rcw hw.2) hw.2).mono ?_)) (fun r2 h2 => ?_)
  · rintro r w' ⟨rfl, s⟩; exact ⟨by simp [tellG], s⟩
  obtain ⟨_, e, _⟩ := h2
  simp only [List.cons_append, List.nil_append, tellG] at e
  subst e
  simp -implicitDefEqProofs
  refine effm_ldc (v := .pointer (some ⟨p, 0, none⟩)) (fun vs' w _ hw => (cell_of (dk (aw hw.2))).trans rfl) ?_
  simp -implicitDefEqProofs
  refine effm_mv rfl (fun w hw => eff_call ((cP (aw hw.2)).mono fun r w' s => ⟨trivial, ?_⟩)) (fun r3 _ => ?_)
  · exact s.to (by simp only [tellF, List.cons_append, List.nil_append, sep_emp])
  simp -implicitDefEqProofs
  refine effm_ldc (v := .pointer (some ⟨sr, 0, none⟩)) (fun vs' w _ hw => (cell_of (dk (aw hw.2))).trans rfl) ?_
  simp -implicitDefEqProofs
  refine effm_ldc (v := .pointer (some ⟨q, 0, none⟩)) (fun vs' w _ hw => (rc (aw hw.2)).1) ?_
  simp -implicitDefEqProofs
  refine effm_mv rfl (fun w hw => eff_call ((crP (aw hw.2)).mono fun r w' s => ⟨trivial, ?_⟩)) (fun r4 _ => ?_)
  · exact s.to (by simp only [tellF, List.cons_append, List.nil_append]; ac_rfl)
  simp -implicitDefEqProofs
  refine effm_mv rfl (fun w hw => eff_call ((accounts_spec E.P.rows E.P.rows r3 r4 w0 w _ (by omega) (row_in (e := 58) (B := D * M * own 58 2 r4 E.P.rows.length (Pu.flat E.P.rows)) hw.2 (by simp only [tellF, List.cons_append, List.nil_append]; ac_rfl)) (row_in (e := 58) (B := D * M * own 58 2 r3 E.P.rows.length (Pu.flat E.P.rows)) hw.2 (by simp only [tellF, List.cons_append, List.nil_append]; ac_rfl)) hw.2).mono ?_)) (fun r5 h5 => ?_)
  · rintro r w' ⟨rfl, s⟩; exact ⟨by simp [tellG], by simp only [tellF, List.cons_append, List.nil_append, sep_emp]; exact s.drop⟩
  obtain ⟨_, e, _⟩ := h5
  simp only [List.cons_append, List.nil_append, tellG] at e
  subst e
  simp -implicitDefEqProofs
  refine effm_ldc (v := .pointer (some ⟨p, 0, none⟩)) (fun vs' w _ hw => (cell_of (dk (aw hw.2))).trans rfl) ?_
  simp -implicitDefEqProofs
  refine effm_mv rfl (fun w hw => eff_call ((cH (aw hw.2)).mono fun r w' s => ⟨s.1, ?_⟩)) (fun r6 h6 => ?_)
  · exact s.2.to (by simp only [tellF, List.cons_append, List.nil_append]; ac_rfl)
  obtain ⟨_, e, _⟩ := h6
  simp only [List.cons_append, List.nil_append, tellG] at e
  subst e
  simp -implicitDefEqProofs
  refine effm_ldc (v := .pointer (some ⟨sr, 0, none⟩)) (fun vs' w _ hw => (cell_of (dk (aw hw.2))).trans rfl) ?_
  simp -implicitDefEqProofs
  refine effm_ldc (v := .pointer (some ⟨q, 0, none⟩)) (fun vs' w _ hw => (rc (aw hw.2)).1) ?_
  simp -implicitDefEqProofs
  refine effm_mv rfl (fun w hw => eff_call ((crH (aw hw.2)).mono fun r w' s => ⟨s.1, ?_⟩)) (fun r7 h7 => ?_)
  · exact s.2.to (by simp only [tellF, List.cons_append, List.nil_append]; ac_rfl)
  obtain ⟨_, e, _⟩ := h7
  simp only [List.cons_append, List.nil_append, tellG] at e
  subst e
  simp -implicitDefEqProofs
  refine effm_ldc (v := .pointer (some ⟨p, 0, none⟩)) (fun vs' w _ hw => (cell_of (dk (aw hw.2))).trans rfl) ?_
  simp -implicitDefEqProofs
  refine effm_mv rfl (fun w hw => eff_call ((cS (aw hw.2)).mono fun r w' s => ⟨s.1, ?_⟩)) (fun r8 h8 => ?_)
  · exact s.2.to (by simp only [tellF, List.cons_append, List.nil_append]; ac_rfl)
  obtain ⟨_, e, _⟩ := h8
  simp only [List.cons_append, List.nil_append, tellG] at e
  subst e
  simp -implicitDefEqProofs
  refine effm_ldc (v := .pointer (some ⟨sr, 0, none⟩)) (fun vs' w _ hw => (cell_of (dk (aw hw.2))).trans rfl) ?_
  simp -implicitDefEqProofs
  refine effm_ldc (v := .pointer (some ⟨q, 0, none⟩)) (fun vs' w _ hw => (rc (aw hw.2)).1) ?_
  simp -implicitDefEqProofs
  refine effm_mv rfl (fun w hw => eff_call ((crS (aw hw.2)).mono fun r w' s => ⟨s.1, ?_⟩)) (fun r9 h9 => ?_)
  · exact s.2.to (by simp only [tellF, List.cons_append, List.nil_append]; ac_rfl)
  obtain ⟨_, e, _⟩ := h9
  simp only [List.cons_append, List.nil_append, tellG] at e
  subst e
  simp -implicitDefEqProofs
  refine effm_ldc (v := .pointer (some ⟨g, 0, none⟩)) (fun vs' w _ hw => (cell_of (dk (aw hw.2))).trans rfl) ?_
  simp -implicitDefEqProofs
  refine effm_mv rfl (fun w hw => eff_call ((cG (aw hw.2)).mono fun r w' s => ⟨trivial, ?_⟩)) (fun r10 _ => ?_)
  · exact s.to (by simp only [tellF, List.cons_append, List.nil_append, sep_emp])
  simp -implicitDefEqProofs
  refine effm_ldc (v := .pointer (some ⟨sr, 0, none⟩)) (fun vs' w _ hw => (cell_of (dk (aw hw.2))).trans rfl) ?_
  simp -implicitDefEqProofs
  refine effm_ldc (v := .pointer (some ⟨gr, 0, none⟩)) (fun vs' w _ hw => (rc (aw hw.2)).2) ?_
  simp -implicitDefEqProofs
  refine effm_mv rfl (fun w hw => eff_call ((crG (aw hw.2)).mono fun r w' s => ⟨trivial, ?_⟩)) (fun r11 _ => ?_)
  · exact s.to (by simp only [tellF, List.cons_append, List.nil_append]; ac_rfl)
  simp -implicitDefEqProofs
  refine effm_mv rfl (fun w hw => eff_call ((items_spec E.its E.its r10 r11 w0 w _ hil (row_in (e := 60) (B := D * M * own 60 4 r11 E.its.length (Gd.flat E.its)) hw.2 (by simp only [tellF, List.cons_append, List.nil_append]; ac_rfl)) (row_in (e := 60) (B := D * M * own 60 4 r10 E.its.length (Gd.flat E.its)) hw.2 (by simp only [tellF, List.cons_append, List.nil_append]; ac_rfl)) hw.2).mono ?_)) (fun r12 h12 => ?_)
  · rintro r w' ⟨rfl, s⟩; exact ⟨by simp [tellG], by simp only [tellF, List.cons_append, List.nil_append, sep_emp]; exact s.drop⟩
  obtain ⟨_, e, _⟩ := h12
  simp only [List.cons_append, List.nil_append, tellG] at e
  subst e
  simp -implicitDefEqProofs
  rintro w4 ⟨_, s4⟩
  clear s3
  have s4 : St w0 (D * own 98 2 b E.l.length (rflat E.l) * own 100 2 c E.l.length (rflat E.l) * own 98 2 a E.l.length (rflat E.l)) w4 := s4.drop.to (by rw [← hM]; ac_rfl)
  obtain ⟨aa, acap, rfl, _⟩ := s4.own_val
  obtain ⟨N, hN'⟩ : ∃ N, D * own 98 2 b E.l.length (rflat E.l) * own 100 2 c E.l.length (rflat E.l) = N := ⟨_, rfl⟩
  rw [hN'] at s4
  refine loopI (fun env w' => ∃ (i : Nat) (l' : List Rw), env = [.pointer (some ⟨wd, 0, none⟩), .bool false, .slice aa E.l.length acap, b, c, .int .i64 i, undef] ∧ i ≤ E.l.length ∧ l'.length = E.l.length ∧ St w0 (N * own 98 2 (.slice aa E.l.length acap) E.l.length (rflat l')) w')
    (fun env _ => E.l.length - slotN env 5) ⟨0, E.l, rfl, by omega, rfl, s4⟩ ?_
  clear s4
  rintro LQ env w' ⟨i, l', rfl, hi, hl', s5⟩ hN hX hR
  simp -implicitDefEqProofs
  refine cndI (fun hc => ?_) (fun hc => ?_)
  · simp at hc
    obtain ⟨ga, _, hv, _, _⟩ := s5.own_at (by omega)
    cases hv
    simp [hc, Instr.fill, Value.cells]
    have hfl : (rflat l').length = l'.length * 2 := rflat_len l'
    refine eff_stR (vs := Rw.cs (-5, 5)) s5 rfl rfl (rw_one _) (by omega) ?_
    intro w6 s6
    rw [show rflat l' = l'.flatMap Rw.cs from rfl, flat_set Rw.cs 2 (fun _ => rfl) _ l' i (by omega)] at s6
    simp
    try simp (disch := omega) only [wrap64]
    exact hN _ _ ⟨i + 1, _, by simp, by omega, by rw [List.length_set]; exact hl', s6⟩ (by simp [slotN]; omega)
  simp at hc
  simp -implicitDefEqProofs
  refine hX _ _ _ ?_
  simp -implicitDefEqProofs
  clear hN hX hR hc
  refine loopI (fun env w' => ∃ (j : Nat) (v : Value) (l2 : List Rw), env = [.pointer (some ⟨wd, 0, none⟩), .bool false, v, b, c, .int .i64 i, .int .i64 j] ∧ j ≤ 70 ∧ l2.length = E.l.length + j ∧ St w0 (N * own 98 2 v l2.length (rflat l2)) w')
    (fun env _ => 70 - slotN env 6) ⟨0, _, l', rfl, by omega, by omega, by rw [hl']; exact s5⟩ ?_
  clear s5
  rintro LQ env w' ⟨j, v, l2, rfl, hj, hl2, s6⟩ hN hX hR
  simp -implicitDefEqProofs
  refine cndI (fun hc => ?_) (fun hc => ?_)
  · simp at hc
    obtain ⟨va, vc, rfl, _⟩ := s6.own_val
    simp [Instr.fill, Value.cells]
    refine eff_bslV (v := .agg (Rw.cs (-6, 6)).toArray) s6 rfl ?_
    intro k w7 s7
    simp
    refine eff_app (m := 1) (news := Rw.cs (-6, 6)) s7.swap rfl s7.cells_look (rw_one _) (by decide) rfl (by unfold maxLen; omega) (by omega) ?_
    intro v3 w8 s8
    simp
    try simp (disch := omega) only [wrap64]
    refine hN _ _ ⟨j + 1, v3, l2 ++ [(-6, 6)], by simp, by omega, by simp; omega, ?_⟩ (by simp [slotN]; omega)
    rw [rflat_app, List.length_append]
    exact St.cut (pt k (.cells (Rw.cs (-6, 6)).toArray 98 (0, 0))) (B := N * own 98 2 v3 (l2.length + 1) (rflat l2 ++ Rw.cs (-6, 6))) s8 (by ac_rfl) |>.to (by simp [rflat])
  simp at hc
  simp -implicitDefEqProofs
  refine hX _ _ _ ?_
  simp -implicitDefEqProofs
  have s7 := s6.drop
  refine eff_call ((rows_spec E.l E.l b c w0 w' N hl (row_in (e := 98) (B := D * own 100 2 c E.l.length (rflat E.l)) s7 (by rw [← hN']; ac_rfl)) (row_in (e := 100) (B := D * own 98 2 b E.l.length (rflat E.l)) s7 hN'.symm) s7).mono ?_)
  rintro r w9 ⟨rfl, s9⟩
  simp -implicitDefEqProofs
  rw [← hN'] at s9
  exact s9.drop.drop
end Go.HL.Es

namespace Go.HL.Es
open Go.HL Go.Proofs
set_option maxRecDepth 4000
set_option linter.unusedSimpArgs false
set_option linter.unusedVariables false
def playE (lg : Int) (o : So) (E : Eco) : Eco :=
  if o.kind = 1 then (turnF o.con [] (putE o.con o.e.x) E).2
  else if o.kind = 2 then (turnF o.con o.gs (putE o.con o.e.x) E).2
  else if o.kind = 3 then (turnF o.con o.gs (endE o.con) E).2
  else if o.kind = 6 then (turnF o.con (allG E o.con o.e.x.acc) (endE o.con) E).2
  else if o.kind = 7 then { E with P := (Pu.mintF E.P o.e.x.acc o.e.x.coins).2 }
  else if o.kind = 8 then { E with its := (Gd.makeF lg E.its 0 o.e.x.acc).2.2 }
  else E
theorem giveL_del (c : Int) : ∀ (gs : List Gf) (E : Eco), del c (giveL c gs E).2.l = del c E.l := by
  intro gs
  induction gs with
  | nil => intro E; rfl
  | cons y t ih =>
    intro E
    unfold giveL
    split
    · rfl
    · rw [ih, giveF_del]
theorem turn_del {c : Int} {gs : List Gf} {bes : Eco → Int × Eco} (hb : ∀ E, del c (bes E).2.l = del c E.l) (E : Eco) : del c (turnF c gs bes E).2.l = del c E.l := by
  unfold turnF
  split
  · rfl
  split
  · rfl
  split
  · rfl
  · rw [hb, giveL_del]
theorem putE_del (c : Int) (x : Et) (E : Eco) : del c (putE c x E).2.l = del c E.l := by
  unfold putE
  split
  · rfl
  split
  · rfl
  split
  · rfl
  · exact del_setR _ _ _
theorem allG_bd {lp lg : Int} {E : Eco} (h : EI lp lg E) (c t : Int) : (allG E c t).length ≤ 513 ∧ ∀ x ∈ allG E c t, 0 ≤ x.coins ∧ x.coins < 18446744073709551616 := by
  have h1 := inF_len h.G c
  have h2 := h.cns_bd c
  refine ⟨by simp [allG]; omega, fun x hx => ?_⟩
  rcases List.mem_append.1 hx with hx | hx
  · obtain ⟨i, _, rfl⟩ := List.mem_map.1 hx
    exact ⟨Int.le_refl 0, by simp⟩
  · have : x = ⟨t, 0, cns E.l c⟩ := by simpa using hx
    subst this
    simp only
    omega
theorem mint_ei {lp lg : Int} {E : Eco} (h : EI lp lg E) {n c : Int} (hc : 0 ≤ c ∧ c < 18446744073709551616) : EI lp lg { E with P := (Pu.mintF E.P n c).2 } := by
  have hs := (Pu.does_step h.P (o := ⟨0, 2, n, 0, c, []⟩) ⟨hc, Nat.zero_le _⟩).pi
  have e : Pu.doesF E.P ⟨0, 2, n, 0, c, []⟩ = Pu.mintF E.P n c := by simp [Pu.doesF]
  rw [e] at hs
  refine ⟨hs, h.G, h.R, h.sum.trans ?_⟩
  show E.P.held = (Pu.mintF E.P n c).2.held
  unfold Pu.mintF
  split
  · split
    · rfl
    · split <;> rfl
  · rfl
theorem make_ei {lp lg : Int} {E : Eco} (h : EI lp lg E) (k a : Int) : EI lp lg { E with its := (Gd.makeF lg E.its k a).2.2 } := by
  have hs := Gd.gi_act h.G ⟨1, k, a⟩
  have e : (Gd.actF lg E.its ⟨1, k, a⟩).2 = (Gd.makeF lg E.its k a).2.2 := by simp [Gd.actF]
  rw [e] at hs
  exact ⟨h.P, hs, h.R, h.sum⟩
theorem play_ei {lp lg : Int} {o : So} {E : Eco} {w0 : World} {A : Asn} (hE : EI lp lg E) (ho : o.ok w0 A) : EI lp lg (playE lg o E) := by
  have hc := ho.con.2
  have hg : ∀ x ∈ o.gs, 0 ≤ x.coins := fun x hx => (ho.gs x hx).1
  have hput : ∀ E, 1 ≤ o.con → EI lp lg E → EI lp lg (putE o.con o.e.x E).2 := fun E h1 hE => put_ei hE ⟨h1, hc⟩ ho.coins
  have hend : ∀ E, 1 ≤ o.con → EI lp lg E → EI lp lg (endE o.con E).2 := fun E _ hE => hE
  unfold playE
  split
  · exact turn_ei hE hc (by simp) hput
  split
  · exact turn_ei hE hc hg hput
  split
  · exact turn_ei hE hc hg hend
  split
  · exact turn_ei hE hc (fun x hx => ((allG_bd hE _ _).2 x hx).1) hend
  split
  · exact mint_ei hE ho.coins
  split
  · exact make_ei hE _ _
  · exact hE
theorem play_len {lp lg : Int} {o : So} {E : Eco} {w0 : World} {A : Asn} (hE : EI lp lg E) (ho : o.ok w0 A) : (playE lg o E).l.length ≤ E.l.length + 1 := by
  have hE' := play_ei hE ho
  have key : del o.con (playE lg o E).l = del o.con E.l := by
    unfold playE
    split
    · exact turn_del (putE_del _ _) E
    split
    · exact turn_del (putE_del _ _) E
    split
    · exact turn_del (fun _ => rfl) E
    split
    · exact turn_del (fun _ => rfl) E
    split
    · rfl
    split <;> rfl
  exact len_del key hE'
end Go.HL.Es

namespace Go.HL.Es
open Go.HL Go.Proofs
set_option maxRecDepth 4000
set_option linter.unusedSimpArgs false
set_option linter.unusedVariables false
def cV1 (X : World → Prop) (Y : Value → World → Prop) : List Value → World → Prop
  | [], w => X w
  | v :: _, w => Y v w
theorem cV1_pre {X : World → Prop} {Y : Value → World → Prop} {vs : List Value} {w : World} (he : era 1 vs = era 1 []) (h : cV1 X Y vs w) : X w := by
  cases vs with
  | nil => exact h
  | cons _ _ => simp [era] at he
section
variable (A : Asn) (wd p g s q gr sr : Nat) (lp lg : Int) (b : Nat) (o : So)
abbrev plA (E1 E2 : Eco) : Asn := A * pt b (.cells o.cs.toArray 48 (0, 0)) * deskA wd p g s sr * ecoA p g s lg E1 * recoA q gr sr lg E2
variable {A wd p g s q gr sr lp lg b o} {E1 E2 : Eco} {w0 : World} {Z : Asn}
theorem pl_op {w : World} (h : St w0 (plA A wd p g s q gr sr lg b o E1 E2 * Z) w) : ∀ j u, o.cs[j]? = some u → w.cell? ⟨b, j, none⟩ = some u := fun j u hu => by
  have := (h.to (B := A * deskA wd p g s sr * ecoA p g s lg E1 * recoA q gr sr lg E2 * Z * pt b (.cells o.cs.toArray 48 (0, 0))) (by simp only [plA]; ac_rfl)).row_cells j u hu
  simpa using this
theorem pl_ent {w : World} (h : St w0 (plA A wd p g s q gr sr lg b o E1 E2 * Z) w) : ∀ j u, (o.e.cs)[j]? = some u → w.cell? ⟨b, 3 + j, none⟩ = some u := fun j u hu =>
  pl_op h (3 + j) u (by rw [Nat.add_comm]; simpa [So.cs] using hu)
theorem pl_dk {w : World} (h : St w0 (plA A wd p g s q gr sr lg b o E1 E2 * Z) w) : w.heap[wd]? = some (.cells #[.pointer (some ⟨p, 0, none⟩), .pointer (some ⟨g, 0, none⟩), .pointer (some ⟨s, 0, none⟩), .pointer (some ⟨sr, 0, none⟩)] 122 (0, 0)) :=
  (h.to (B := A * pt b (.cells o.cs.toArray 48 (0, 0)) * ecoA p g s lg E1 * recoA q gr sr lg E2 * Z * deskA wd p g s sr) (by simp only [plA]; ac_rfl)).look
theorem pl_rc {w : World} (h : St w0 (plA A wd p g s q gr sr lg b o E1 E2 * Z) w) : w.cell? ⟨sr, 0, none⟩ = some (.pointer (some ⟨q, 0, none⟩)) ∧ w.cell? ⟨sr, 1, none⟩ = some (.pointer (some ⟨gr, 0, none⟩)) :=
  resc_cells (h.to (B := A * pt b (.cells o.cs.toArray 48 (0, 0)) * deskA wd p g s sr * ecoA p g s lg E1 * Pu.rpur q E2.P * Gd.rgs gr lg E2.its * Z * resc sr q gr E2.l) (by simp only [plA, recoA]; ac_rfl))
theorem pl_e {w : World} (h : St w0 (plA A wd p g s q gr sr lg b o E1 E2 * Z) w) : St w0 (A * pt b (.cells o.cs.toArray 48 (0, 0)) * deskA wd p g s sr * recoA q gr sr lg E2 * Z * ecoA p g s lg E1) w := h.to (by simp only [plA]; ac_rfl)
theorem pl_e' {w : World} (h : St w0 (A * pt b (.cells o.cs.toArray 48 (0, 0)) * deskA wd p g s sr * recoA q gr sr lg E2 * Z * ecoA p g s lg E1) w) : St w0 (plA A wd p g s q gr sr lg b o E1 E2 * Z) w := h.to (by simp only [plA]; ac_rfl)
theorem pl_r {w : World} (h : St w0 (plA A wd p g s q gr sr lg b o E1 E2 * Z) w) : St w0 (A * pt b (.cells o.cs.toArray 48 (0, 0)) * deskA wd p g s sr * ecoA p g s lg E1 * Z * recoA q gr sr lg E2) w := h.to (by simp only [plA]; ac_rfl)
theorem pl_r' {w : World} (h : St w0 (A * pt b (.cells o.cs.toArray 48 (0, 0)) * deskA wd p g s sr * ecoA p g s lg E1 * Z * recoA q gr sr lg E2) w) : St w0 (plA A wd p g s q gr sr lg b o E1 E2 * Z) w := h.to (by simp only [plA]; ac_rfl)
end
set_option maxHeartbeats 2000000 in
theorem play_end (Q : EX → List Value → World → Prop) (A : Asn) (wd p g s q gr sr : Nat) (lp lg : Int) (b : Nat) (o : So) (gs : List Gf) (gv : Value) (E : Eco) (w0 w : World) (Z : Asn) (o1 o5 o6 o7 o8 o9 o13 o14 o15 o16 o17 o18 o19 o20 o21 o22 o23 o24 o25 o26 o27 : Value)
    (hE : EI lp lg E) (hl : E.l.length ≤ 2000000) (hc : -9223372036854775808 ≤ o.con ∧ o.con < 9223372036854775808) (hx : ∀ x ∈ gs, 0 ≤ x.coins ∧ x.coins < 18446744073709551616) (hn : gs.length ≤ 2097152)
    (hr : Row w0 (A * Z) gv gs.length 3 (gflat gs)) (h : St w0 (plA A wd p g s q gr sr lg b o E E * Z) w)
    (hQ : ∀ x10 x11 x12 w', St w0 (plA A wd p g s q gr sr lg b o (turnF o.con gs (endE o.con) E).2 (turnF o.con gs (endE o.con) E).2 * Z) w' →
      Q .ret [.pointer (some ⟨wd, 0, none⟩), o1, .pointer (some ⟨b, 0, none⟩), .bool true, gv, o5, o6, o7, o8, o9, x10, x11, x12, o13, o14, o15, o16, o17, o18, o19, o20, o21, o22, o23, o24, o25, o26, o27] w') :
    HC.wp E2 h24_11 Q [.pointer (some ⟨wd, 0, none⟩), o1, .pointer (some ⟨b, 0, none⟩), .bool false, gv, o5, o6, o7, o8, o9, undef, undef, undef, o13, o14, o15, o16, o17, o18, o19, o20, o21, o22, o23, o24, o25, o26, o27] w := by
  have rowR : ∀ {X : Asn} {E1 : Eco}, Row w0 (A * pt b (.cells o.cs.toArray 48 (0, 0)) * deskA wd p g s sr * ecoA p g s lg E1 * (Z * X)) gv gs.length 3 (gflat gs) := fun {X E1} =>
    hr.mono fun w s' => (s'.to (B := A * Z * (pt b (.cells o.cs.toArray 48 (0, 0)) * deskA wd p g s sr * ecoA p g s lg E1 * X)) (by ac_rfl)).drop
  have row0 : ∀ {E1 E2 : Eco}, Row w0 (plA A wd p g s q gr sr lg b o E1 E2 * Z) gv gs.length 3 (gflat gs) := fun {E1 E2} =>
    hr.mono fun w s' => (s'.to (B := A * Z * (pt b (.cells o.cs.toArray 48 (0, 0)) * deskA wd p g s sr * ecoA p g s lg E1 * recoA q gr sr lg E2)) (by simp only [plA]; ac_rfl)).drop
  obtain ⟨E', hE'⟩ : ∃ E', (turnF o.con gs (endE o.con) E).2 = E' := ⟨_, rfl⟩
  rw [hE'] at hQ
  simp -implicitDefEqProofs
  refine eff_call ((handed_spec gs gv w0 w _ hn row0 h).mono ?_)
  intro hv w1 s1
  simp -implicitDefEqProofs
  have s1 : St w0 (plA A wd p g s q gr sr lg b o E E * (Z * handA hv gs)) w1 := s1.to (by simp only [plA]; ac_rfl)
  refine regmI (cV1 (St w0 (plA A wd p g s q gr sr lg b o E E * (Z * handA hv gs))) (fun r w => r = .int .i64 (turnF o.con gs (endE o.con) E).1 ∧ St w0 (plA A wd p g s q gr sr lg b o E E' * (Z * handA hv gs)) w)) s1.drew ?_
  simp -implicitDefEqProofs
  refine effm_ldc (v := .pointer (some ⟨sr, 0, none⟩)) (fun vs' w he hw => (cell_of (pl_dk (cV1_pre he hw))).trans rfl) ?_
  simp -implicitDefEqProofs
  refine effm_ldc (v := .int .i64 o.con) (fun vs' w he hw => pl_op (cV1_pre he hw) 1 _ rfl) ?_
  simp -implicitDefEqProofs
  refine effm_mv rfl (fun w hw => eff_call ((rEnd_spec q gr sr lp lg o.con gs gv E w0 w _ hE hc.2 hl hx (by omega) rowR (pl_r hw)).mono ?_)) (fun r1 h1 => ?_)
  · rintro r w' ⟨rfl, s'⟩; rw [hE'] at s'; exact ⟨rfl, pl_r' s'⟩
  obtain ⟨_, rfl, _⟩ := h1
  simp -implicitDefEqProofs
  rintro w2 ⟨_, s2⟩
  have rowH : ∀ {w : World}, St w0 (plA A wd p g s q gr sr lg b o E E' * (Z * handA hv gs)) w → Row w0 (A * pt b (.cells o.cs.toArray 48 (0, 0)) * deskA wd p g s sr * recoA q gr sr lg E' * (Z * handA hv gs)) hv gs.length 3 (gflat gs) := fun {w} s' =>
    (hand_row (A := A * pt b (.cells o.cs.toArray 48 (0, 0)) * deskA wd p g s sr * recoA q gr sr lg E' * Z) ((pl_e s').drop.to (by ac_rfl))).mono fun w s' => s'.to (by ac_rfl)
  refine regmI (cV1 (St w0 (plA A wd p g s q gr sr lg b o E E' * (Z * handA hv gs))) (fun r w => r = .int .i64 (turnF o.con gs (endE o.con) E).1 ∧ St w0 (plA A wd p g s q gr sr lg b o E' E' * (Z * handA hv gs)) w)) s2.drew ?_
  simp -implicitDefEqProofs
  refine effm_ldc (v := .pointer (some ⟨s, 0, none⟩)) (fun vs' w he hw => (cell_of (pl_dk (cV1_pre he hw))).trans rfl) ?_
  simp -implicitDefEqProofs
  refine effm_ldc (v := .int .i64 o.con) (fun vs' w he hw => pl_op (cV1_pre he hw) 1 _ rfl) ?_
  simp -implicitDefEqProofs
  refine effm_mv rfl (fun w hw => eff_call ((End_spec p g s lp lg o.con gs hv E w0 w _ hE hc hx (by omega) (rowH hw) (pl_e hw)).mono ?_)) (fun r2 h2 => ?_)
  · rintro r w' ⟨rfl, s'⟩; rw [hE'] at s'; exact ⟨rfl, pl_e' s'⟩
  obtain ⟨_, rfl, _⟩ := h2
  simp -implicitDefEqProofs
  rintro w3 ⟨_, s3⟩
  refine eff_call ((still_spec gs hv gv w0 w3 (plA A wd p g s q gr sr lg b o E' E' * Z) hn row0 (s3.to (by simp only [plA]; ac_rfl))).mono ?_)
  rintro r w4 ⟨rfl, s4⟩
  simp -implicitDefEqProofs
  exact hQ _ _ _ w4 s4
def askG (E : Eco) (c : Int) : List Value → Prop
  | [r] => r = .int .u64 (cns E.l c)
  | [_, r] => r = .int .u64 (cns E.l c)
  | [_, _, _, r] => r = .bool true
  | _ => True
def askF (E : Eco) (c : Int) : List Value → Asn
  | [_, _, r] => own 3 1 r (Gd.inF E.its c).length (Gd.ints (Gd.inF E.its c))
  | _ => emp
def agnG : List Value → Prop
  | [_, _, r] => r = .bool true
  | _ => True
def agnF (E : Eco) (c : Int) : List Value → Asn
  | [r] => own 3 1 r (Gd.inF E.its c).length (Gd.ints (Gd.inF E.its c))
  | [q, r] => own 3 1 q (Gd.inF E.its c).length (Gd.ints (Gd.inF E.its c)) * own 3 1 r (Gd.inF E.its c).length (Gd.ints (Gd.inF E.its c))
  | _ => emp
theorem esc_zero {lp lg : Int} {E : Eco} (h : EI lp lg E) : escE E.l E.P.held = 0 := by
  unfold escE; rw [if_pos h.R, if_pos h.sum]
theorem rw_bds {lp lg : Int} {E : Eco} (h : EI lp lg E) : ∀ r ∈ E.l, (-9223372036854775808 ≤ r.1 ∧ r.1 < 9223372036854775808) ∧ 0 ≤ r.2 ∧ r.2 < 18446744073709551616 := fun r hr => by
  have h1 := h.R.2 r hr
  have h2 := h.cns_bd r.1
  rw [cns_mem h.R.ne (show (r.1, r.2) ∈ E.l from hr)] at h2
  omega
set_option maxHeartbeats 4000000 in
theorem plays_spec (wd p g s q gr sr : Nat) (lp lg : Int) (o : So) (E : Eco) (w0 w : World) (A : Asn) (h0 : w0.drawn = 0) (ho : o.ok w0 A) (hE : EI lp lg E) (hl : E.l.length ≤ 2000000) (h : St w0 (A * deskA wd p g s sr * ecoA p g s lg E * recoA q gr sr lg E) w) :
    CallW Tryz.prog 24 [.pointer (some ⟨wd, 0, none⟩), .agg o.cs.toArray] (fun r w' => r = .bool true ∧ ∃ p' g' s', St w0 (A * deskA wd p' g' s' sr * ecoA p' g' s' lg (playE lg o E) * recoA q gr sr lg (playE lg o E)) w') w := by
  have hlen := ho.len
  have hpl := hE.P.bd.len
  have hglim := hE.G.lim
  have hil : E.its.length ≤ 1048576 := by have := hE.G.len; omega
  refine callW_of_lift l24_ok (by simp [l24]) ?_
  simp [l24]
  refine eff_box h fun b w1 h1 => ?_
  simp -implicitDefEqProofs
  have s1 : St w0 (plA A wd p g s q gr sr lg b o E E * emp) w1 := by
    rw [sep_emp]
    have h1 : St w0 (A * deskA wd p g s sr * ecoA p g s lg E * recoA q gr sr lg E * pt b (.cells o.cs.toArray 48 (0, 0))) w1 := h1
    exact h1.to (by simp only [plA]; ac_rfl)
  clear h h1
  have out : ∀ {E' : Eco} {p' g' s' : Nat} {Z : Asn} {w' : World}, E' = playE lg o E → St w0 (plA A wd p' g' s' q gr sr lg b o E' E' * Z) w' → ∃ p' g' s', St w0 (A * deskA wd p' g' s' sr * ecoA p' g' s' lg (playE lg o E) * recoA q gr sr lg (playE lg o E)) w' := fun {E' p' g' s' Z w'} e h => by
    subst e
    exact ⟨p', g', s', h.cut (pt b (.cells o.cs.toArray 48 (0, 0)) * Z) (by simp only [plA]; ac_rfl)⟩
  refine eff_ldc (v := o.gv) (pl_op s1 2 _ rfl) ?_
  simp -implicitDefEqProofs
  refine eff_ldc (v := .int .i64 o.kind) (pl_op s1 0 _ rfl) ?_
  simp -implicitDefEqProofs
  refine cndI (fun k1 => ?_) (fun k1 => ?_)
  · -- Put
    simp at k1
    obtain ⟨E', hE'⟩ : ∃ E', (turnF o.con [] (putE o.con o.e.x) E).2 = E' := ⟨_, rfl⟩
    simp -implicitDefEqProofs
    refine regmI (cV1 (St w0 (plA A wd p g s q gr sr lg b o E E * emp)) (fun r w => r = .int .i64 (turnF o.con [] (putE o.con o.e.x) E).1 ∧ St w0 (plA A wd p g s q gr sr lg b o E E' * emp) w)) s1.drew ?_
    simp -implicitDefEqProofs
    refine effm_ldc (v := .pointer (some ⟨sr, 0, none⟩)) (fun vs' w he hw => (cell_of (pl_dk (cV1_pre he hw))).trans rfl) ?_
    simp -implicitDefEqProofs
    refine effm_ldc (v := .int .i64 o.con) (fun vs' w he hw => pl_op (cV1_pre he hw) 1 _ rfl) ?_
    simp -implicitDefEqProofs
    refine effm_ldcs (us := o.e.cs) (fun vs' w he hw => pl_ent (cV1_pre he hw)) rfl ?_
    simp -implicitDefEqProofs
    refine effm_mv rfl (fun w hw => eff_call ((rPut_spec q gr sr lp lg o.con o.e.pr o.e.x o.e.wv E w0 w _ hE ho.con.2 hl ho.coins (pl_r hw)).mono ?_)) (fun r1 h1 => ?_)
    · rintro r w' ⟨rfl, s'⟩; rw [hE'] at s'; exact ⟨rfl, pl_r' s'⟩
    obtain ⟨_, rfl, _⟩ := h1
    simp -implicitDefEqProofs
    rintro w2 ⟨_, s2⟩
    refine regmI (cV1 (St w0 (plA A wd p g s q gr sr lg b o E E' * emp)) (fun r w => r = .int .i64 (turnF o.con [] (putE o.con o.e.x) E).1 ∧ St w0 (plA A wd p g s q gr sr lg b o E' E' * emp) w)) s2.drew ?_
    simp -implicitDefEqProofs
    refine effm_ldc (v := .pointer (some ⟨s, 0, none⟩)) (fun vs' w he hw => (cell_of (pl_dk (cV1_pre he hw))).trans rfl) ?_
    simp -implicitDefEqProofs
    refine effm_ldc (v := .int .i64 o.con) (fun vs' w he hw => pl_op (cV1_pre he hw) 1 _ rfl) ?_
    simp -implicitDefEqProofs
    refine effm_ldcs (us := o.e.cs) (fun vs' w he hw => pl_ent (cV1_pre he hw)) rfl ?_
    simp -implicitDefEqProofs
    refine effm_mv rfl (fun w hw => eff_call ((Put_spec p g s lp lg o.con o.e.pr o.e.x o.e.wv E w0 w _ hE ho.con ho.coins (pl_e hw)).mono ?_)) (fun r1 h1 => ?_)
    · rintro r w' ⟨rfl, s'⟩; rw [hE'] at s'; exact ⟨rfl, pl_e' s'⟩
    obtain ⟨_, rfl, _⟩ := h1
    simp -implicitDefEqProofs
    rintro w3 ⟨_, s3⟩
    exact out (by rw [← hE', playE, if_pos k1]) s3
  simp at k1
  simp -implicitDefEqProofs
  refine cndI (fun k2 => ?_) (fun k2 => ?_)
  · -- Turn
    simp at k2
    obtain ⟨E', hE'⟩ : ∃ E', (turnF o.con o.gs (putE o.con o.e.x) E).2 = E' := ⟨_, rfl⟩
    have row0 : ∀ {E1 E2 : Eco} {Z : Asn}, Row w0 (plA A wd p g s q gr sr lg b o E1 E2 * Z) o.gv o.gs.length 3 (gflat o.gs) := fun {E1 E2 Z} => ho.row.mono fun w s' => s'.drop.drop.drop.drop.drop
    simp -implicitDefEqProofs
    refine eff_call ((handed_spec o.gs o.gv w0 w1 _ (by omega) row0 s1).mono ?_)
    intro hv w2 s2
    simp -implicitDefEqProofs
    have s2 : St w0 (plA A wd p g s q gr sr lg b o E E * handA hv o.gs) w2 := by rw [sep_emp] at s2; exact s2
    refine regmI (cV1 (St w0 (plA A wd p g s q gr sr lg b o E E * handA hv o.gs)) (fun r w => r = .int .i64 (turnF o.con o.gs (putE o.con o.e.x) E).1 ∧ St w0 (plA A wd p g s q gr sr lg b o E E' * handA hv o.gs) w)) s2.drew ?_
    simp -implicitDefEqProofs
    refine effm_ldc (v := .pointer (some ⟨sr, 0, none⟩)) (fun vs' w he hw => (cell_of (pl_dk (cV1_pre he hw))).trans rfl) ?_
    simp -implicitDefEqProofs
    refine effm_ldc (v := .int .i64 o.con) (fun vs' w he hw => pl_op (cV1_pre he hw) 1 _ rfl) ?_
    simp -implicitDefEqProofs
    refine effm_ldcs (us := o.e.cs) (fun vs' w he hw => pl_ent (cV1_pre he hw)) rfl ?_
    simp -implicitDefEqProofs
    refine effm_mv rfl (fun w hw => eff_call ((rTurn_spec q gr sr lp lg o.con o.e.pr o.gs o.gv o.e.x o.e.wv E w0 w _ hE ho.con.2 hl ho.gs ho.coins (by omega) (ho.row.mono fun w s' => s'.drop.drop.drop.drop) (pl_r hw)).mono ?_)) (fun r1 h1 => ?_)
    · rintro r w' ⟨rfl, s'⟩; rw [hE'] at s'; exact ⟨rfl, pl_r' s'⟩
    obtain ⟨_, rfl, _⟩ := h1
    simp -implicitDefEqProofs
    rintro w3 ⟨_, s3⟩
    have rowH : ∀ {w : World}, St w0 (plA A wd p g s q gr sr lg b o E E' * handA hv o.gs) w → Row w0 (A * pt b (.cells o.cs.toArray 48 (0, 0)) * deskA wd p g s sr * recoA q gr sr lg E' * handA hv o.gs) hv o.gs.length 3 (gflat o.gs) := fun {w} s' => hand_row (pl_e s').drop
    refine regmI (cV1 (St w0 (plA A wd p g s q gr sr lg b o E E' * handA hv o.gs)) (fun r w => r = .int .i64 (turnF o.con o.gs (putE o.con o.e.x) E).1 ∧ St w0 (plA A wd p g s q gr sr lg b o E' E' * handA hv o.gs) w)) s3.drew ?_
    simp -implicitDefEqProofs
    refine effm_ldc (v := .pointer (some ⟨s, 0, none⟩)) (fun vs' w he hw => (cell_of (pl_dk (cV1_pre he hw))).trans rfl) ?_
    simp -implicitDefEqProofs
    refine effm_ldc (v := .int .i64 o.con) (fun vs' w he hw => pl_op (cV1_pre he hw) 1 _ rfl) ?_
    simp -implicitDefEqProofs
    refine effm_ldcs (us := o.e.cs) (fun vs' w he hw => pl_ent (cV1_pre he hw)) rfl ?_
    simp -implicitDefEqProofs
    refine effm_mv rfl (fun w hw => eff_call ((Turn_spec p g s lp lg o.con o.e.pr o.gs hv o.e.x o.e.wv E w0 w _ hE ho.con ho.gs ho.coins (by omega) (rowH hw) (pl_e hw)).mono ?_)) (fun r1 h1 => ?_)
    · rintro r w' ⟨rfl, s'⟩; rw [hE'] at s'; exact ⟨rfl, pl_e' s'⟩
    obtain ⟨_, rfl, _⟩ := h1
    simp -implicitDefEqProofs
    rintro w4 ⟨_, s4⟩
    refine eff_call ((still_spec o.gs hv o.gv w0 w4 (plA A wd p g s q gr sr lg b o E' E') (by omega) (ho.row.mono fun w s' => s'.drop.drop.drop.drop) s4).mono ?_)
    rintro r w5 ⟨rfl, s5⟩
    simp -implicitDefEqProofs
    exact out (E' := E') (Z := emp) (by rw [← hE', playE, if_neg k1, if_pos k2]) (by rw [sep_emp]; exact s5)
  simp at k2
  simp -implicitDefEqProofs
  by_cases k3 : o.kind = 3
  · -- End
    simp -implicitDefEqProofs [k3]
    refine eff_ldc (v := .int .i64 o.kind) (pl_op s1 0 _ rfl) ?_
    simp -implicitDefEqProofs [k3]
    have e : playE lg o E = (turnF o.con o.gs (endE o.con) E).2 := by rw [playE, if_neg k1, if_neg k2, if_pos k3]
    refine play_end _ A wd p g s q gr sr lp lg b o o.gs o.gv E w0 w1 emp _ _ _ _ _ _ _ _ _ _ _ _ _ _ _ _ _ _ _ _ _ hE hl ho.con ho.gs (by omega) (by rw [sep_emp]; exact ho.row) s1 (fun x10 x11 x12 w' s' => ?_)
    simp -implicitDefEqProofs
    exact out e.symm s'
  by_cases k6 : o.kind = 6
  · -- End with all
    simp -implicitDefEqProofs [k3, k6]
    refine eff_ldc (v := .int .i64 o.kind) (pl_op s1 0 _ rfl) ?_
    simp -implicitDefEqProofs [k6]
    have e : playE lg o E = (turnF o.con (allG E o.con o.e.x.acc) (endE o.con) E).2 := by rw [playE, if_neg k1, if_neg k2, if_neg k3, if_pos k6]
    have hall := allG_bd hE o.con o.e.x.acc
    obtain ⟨AG, hAG⟩ : ∃ AG, allG E o.con o.e.x.acc = AG := ⟨_, rfl⟩
    refine regmI (cV1 (St w0 (plA A wd p g s q gr sr lg b o E E * emp)) (fun r w => St w0 (plA A wd p g s q gr sr lg b o E E * own 110 3 r AG.length (gflat AG)) w)) s1.drew ?_
    simp -implicitDefEqProofs
    refine effm_ldc (v := .pointer (some ⟨sr, 0, none⟩)) (fun vs' w he hw => (cell_of (pl_dk (cV1_pre he hw))).trans rfl) ?_
    simp -implicitDefEqProofs
    refine effm_ldc (v := .int .i64 o.con) (fun vs' w he hw => pl_op (cV1_pre he hw) 1 _ rfl) ?_
    simp -implicitDefEqProofs
    refine effm_ldc (v := .int .i64 o.e.x.acc) (fun vs' w he hw => pl_op (cV1_pre he hw) 3 _ rfl) ?_
    simp -implicitDefEqProofs
    refine effm_mv rfl (fun w hw => eff_call ((all_spec q gr sr lp lg o.con o.e.x.acc E w0 w _ hE (by omega) (pl_r hw)).mono ?_)) (fun r1 h1 => ?_)
    · intro r w' s'; rw [hAG] at s'; rw [sep_emp] at s'; exact s'.to (by simp only [plA])
    simp -implicitDefEqProofs
    intro w2 s2
    have s2 : St w0 (plA A wd p g s q gr sr lg b o E E * own 110 3 r1 AG.length (gflat AG)) w2 := s2
    rw [hAG] at hall e
    refine play_end _ A wd p g s q gr sr lp lg b o AG r1 E w0 w2 (own 110 3 r1 AG.length (gflat AG)) _ _ _ _ _ _ _ _ _ _ _ _ _ _ _ _ _ _ _ _ _ hE hl ho.con hall.2 (by omega) ?_ s2 (fun x10 x11 x12 w' s' => ?_)
    · exact row_own (s2.cut (pt b (.cells o.cs.toArray 48 (0, 0)) * deskA wd p g s sr * ecoA p g s lg E * recoA q gr sr lg E) (by simp only [plA]; ac_rfl))
    simp -implicitDefEqProofs
    exact out e.symm s'
  simp -implicitDefEqProofs [k3, k6]
  refine cndI (fun k4 => ?_) (fun k4 => ?_)
  · simp at k4
    have e : playE lg o E = E := by rw [playE, if_neg k1, if_neg k2, if_neg k3, if_neg k6, if_neg (by omega), if_neg (by omega)]
    have hin := inF_len hE.G o.con
    have cI : ∀ {Z : Asn} {w : World}, St w0 (plA A wd p g s q gr sr lg b o E E * Z) w → CallW Tryz.prog 22 [.pointer (some ⟨s, 0, none⟩), .int .i64 o.con] (fun r w' => St w0 (plA A wd p g s q gr sr lg b o E E * Z * own 3 1 r (Gd.inF E.its o.con).length (Gd.ints (Gd.inF E.its o.con))) w') w := fun {Z w} h =>
      (Items_spec p g s lp lg o.con E w0 w _ hE (pl_e h)).mono fun r w' h => h.to (by simp only [plA]; ac_rfl)
    have crI : ∀ {Z : Asn} {w : World}, St w0 (plA A wd p g s q gr sr lg b o E E * Z) w → CallW Tryz.prog 57 [.pointer (some ⟨sr, 0, none⟩), .int .i64 o.con] (fun r w' => St w0 (plA A wd p g s q gr sr lg b o E E * Z * own 3 1 r (Gd.inF E.its o.con).length (Gd.ints (Gd.inF E.its o.con))) w') w := fun {Z w} h =>
      (rItems_spec sr q gr lg o.con E.l E.its w0 w (A * pt b (.cells o.cs.toArray 48 (0, 0)) * deskA wd p g s sr * ecoA p g s lg E * Z * Pu.rpur q E.P) hE.G (h.to (by simp only [plA, recoA]; ac_rfl))).mono fun r w' h => h.to (by simp only [plA, recoA]; ac_rfl)
    have cC : ∀ {Z : Asn} {w : World}, St w0 (plA A wd p g s q gr sr lg b o E E * Z) w → CallW Tryz.prog 14 [.pointer (some ⟨s, 0, none⟩), .int .i64 o.con] (fun r w' => r = .int .u64 (cns E.l o.con) ∧ St w0 (plA A wd p g s q gr sr lg b o E E * Z) w') w := fun {Z w} h =>
      (Coins_spec s p g E.l o.con w0 w (A * pt b (.cells o.cs.toArray 48 (0, 0)) * deskA wd p g s sr * recoA q gr sr lg E * Z * Pu.pur p E.P * Gd.gds g lg E.its) hE.R (h.to (by simp only [plA, ecoA]; ac_rfl))).mono fun r w' h' => ⟨h'.1, by rw [h'.2]; exact h⟩
    have crC : ∀ {Z : Asn} {w : World}, St w0 (plA A wd p g s q gr sr lg b o E E * Z) w → CallW Tryz.prog 56 [.pointer (some ⟨sr, 0, none⟩), .int .i64 o.con] (fun r w' => r = .int .u64 (cns E.l o.con) ∧ St w0 (plA A wd p g s q gr sr lg b o E E * Z) w') w := fun {Z w} h =>
      (rCoins_spec sr q gr E.l o.con w0 w (A * pt b (.cells o.cs.toArray 48 (0, 0)) * deskA wd p g s sr * ecoA p g s lg E * Z * Pu.rpur q E.P * Gd.rgs gr lg E.its) (by omega) (h.to (by simp only [plA, recoA]; ac_rfl))).mono fun r w' h' => ⟨h'.1, h'.2.to (by simp only [plA, recoA]; ac_rfl)⟩
    obtain ⟨I, hI⟩ : ∃ I, Gd.inF E.its o.con = I := ⟨_, rfl⟩
    rw [hI] at hin
    simp -implicitDefEqProofs
    refine regmI (cV1 (St w0 (plA A wd p g s q gr sr lg b o E E * emp)) (fun r w => St w0 (plA A wd p g s q gr sr lg b o E E * own 3 1 r I.length (Gd.ints I)) w)) s1.drew ?_
    simp -implicitDefEqProofs
    refine effm_ldc (v := .pointer (some ⟨s, 0, none⟩)) (fun vs' w he hw => (cell_of (pl_dk (cV1_pre he hw))).trans rfl) ?_
    simp -implicitDefEqProofs
    refine effm_ldc (v := .int .i64 o.con) (fun vs' w he hw => pl_op (cV1_pre he hw) 1 _ rfl) ?_
    simp -implicitDefEqProofs
    refine effm_mv rfl (fun w hw => eff_call ((cI hw).mono fun r w' s' => ?_)) (fun iv h1 => ?_)
    · rw [sep_emp, hI] at s'; exact s'
    simp -implicitDefEqProofs
    intro w2 s2
    have s2 : St w0 (plA A wd p g s q gr sr lg b o E E * own 3 1 iv I.length (Gd.ints I)) w2 := s2
    obtain ⟨va, vcap, rfl, _⟩ := s2.own_val
    obtain ⟨L, hL⟩ : ∃ L, own 3 1 (.slice va I.length vcap) I.length (Gd.ints I) = L := ⟨_, rfl⟩
    rw [hL] at s2
    have aw : ∀ {Z : Asn} {w : World}, St w0 (plA A wd p g s q gr sr lg b o E E * L * Z) w → St w0 (plA A wd p g s q gr sr lg b o E E * (L * Z)) w := fun h => h.to (by ac_rfl)
    refine regmI (chC w0 (plA A wd p g s q gr sr lg b o E E * L) (askG E o.con) (askF E o.con)) (chC_nil trivial rfl s2.drew) ?_
    simp -implicitDefEqProofs
    refine effm_ldc (v := .pointer (some ⟨s, 0, none⟩)) (fun vs' w _ hw => (cell_of (pl_dk (aw hw.2))).trans rfl) ?_
    simp -implicitDefEqProofs
    refine effm_ldc (v := .int .i64 o.con) (fun vs' w _ hw => pl_op (aw hw.2) 1 _ rfl) ?_
    simp -implicitDefEqProofs
    refine effm_mv rfl (fun w hw => eff_call ((cC (aw hw.2)).mono fun r w' s' => ⟨s'.1, s'.2.to (by simp only [askF, List.nil_append]; ac_rfl)⟩)) (fun r1 h1 => ?_)
    obtain ⟨_, e1, _⟩ := h1
    simp only [List.nil_append, askG] at e1
    subst e1
    simp -implicitDefEqProofs
    refine effm_ldc (v := .pointer (some ⟨sr, 0, none⟩)) (fun vs' w _ hw => (cell_of (pl_dk (aw hw.2))).trans rfl) ?_
    simp -implicitDefEqProofs
    refine effm_ldc (v := .int .i64 o.con) (fun vs' w _ hw => pl_op (aw hw.2) 1 _ rfl) ?_
    simp -implicitDefEqProofs
    refine effm_mv rfl (fun w hw => eff_call ((crC (aw hw.2)).mono fun r w' s' => ⟨s'.1, s'.2.to (by simp only [askF, List.nil_append, List.cons_append]; ac_rfl)⟩)) (fun r1 h1 => ?_)
    obtain ⟨_, e1, _⟩ := h1
    simp only [List.nil_append, List.cons_append, askG] at e1
    subst e1
    simp -implicitDefEqProofs
    refine effm_ldc (v := .pointer (some ⟨sr, 0, none⟩)) (fun vs' w _ hw => (cell_of (pl_dk (aw hw.2))).trans rfl) ?_
    simp -implicitDefEqProofs
    refine effm_ldc (v := .int .i64 o.con) (fun vs' w _ hw => pl_op (aw hw.2) 1 _ rfl) ?_
    simp -implicitDefEqProofs
    refine effm_mv rfl (fun w hw => eff_call ((crI (aw hw.2)).mono fun r w' s' => ⟨trivial, s'.to (by simp only [askF, List.nil_append, List.cons_append, sep_emp] <;> ac_rfl)⟩)) (fun r3 _ => ?_)
    simp -implicitDefEqProofs
    refine effm_mv rfl (fun w hw => eff_call ((ints_spec I I (.slice va I.length vcap) r3 w0 w _ (by omega) (row_in (e := 3) (B := plA A wd p g s q gr sr lg b o E E * own 3 1 r3 I.length (Gd.ints I)) hw.2 (by rw [hL, ← hI]; simp only [askF, List.nil_append, List.cons_append]; ac_rfl)) (row_in (e := 3) (B := plA A wd p g s q gr sr lg b o E E * L) hw.2 (by rw [← hI]; simp only [askF, List.nil_append, List.cons_append])) hw.2).mono ?_)) (fun r4 h4 => ?_)
    · rintro r w' ⟨rfl, s'⟩; exact ⟨by simp [askG], by simp only [askF, List.cons_append, List.nil_append, sep_emp]; exact s'.drop⟩
    obtain ⟨_, e1, _⟩ := h4
    simp only [List.nil_append, List.cons_append, askG] at e1
    subst e1
    simp -implicitDefEqProofs
    rintro w3 ⟨_, s3⟩
    have s3 : St w0 (plA A wd p g s q gr sr lg b o E E * L) w3 := s3.drop
    rw [← hL] at s3
    refine loopI (fun env w' => ∃ (i : Nat) (l' : List Int), env = [.pointer (some ⟨wd, 0, none⟩), .agg o.cs.toArray, .pointer (some ⟨b, 0, none⟩), .bool false, o.gv, undef, undef, undef, undef, undef, undef, undef, undef, .slice va I.length vcap, .bool true, .int .i64 i, undef, undef, undef, undef, undef, undef, undef, undef, undef, undef, .int .i64 4, .bool false] ∧ i ≤ I.length ∧ l'.length = I.length ∧ St w0 (plA A wd p g s q gr sr lg b o E E * own 3 1 (.slice va I.length vcap) I.length (Gd.ints l')) w')
      (fun env _ => I.length - slotN env 15) ⟨0, I, by simp [k4], by omega, rfl, s3⟩ ?_
    clear s3
    rintro LQ env w' ⟨i, l', rfl, hi, hl', s5⟩ hN hX hR
    simp -implicitDefEqProofs
    refine cndI (fun hc => ?_) (fun hc => ?_)
    · simp at hc
      obtain ⟨ga, _, hv, _, _⟩ := s5.own_at (by omega)
      cases hv
      simp -implicitDefEqProofs [hc]
      refine eff_stC (u := .int .i64 (-1)) s5 (by simp [Gd.ints]; omega) rfl ?_
      intro w6 s6
      simp -implicitDefEqProofs
      try simp (disch := omega) only [wrap64]
      have e : (Gd.ints l').set i (.int .i64 (-1)) = Gd.ints (l'.set i (-1)) := by simp [Gd.ints, List.map_set]
      rw [e] at s6
      exact hN _ _ ⟨i + 1, _, by simp, by omega, by rw [List.length_set]; exact hl', s6⟩ (by simp [slotN]; omega)
    simp at hc
    simp -implicitDefEqProofs
    refine hX _ _ _ ?_
    simp -implicitDefEqProofs
    clear hN hX hR hc
    have s6 : St w0 (plA A wd p g s q gr sr lg b o E E * emp) w' := by rw [sep_emp]; exact s5.drop
    refine regmI (chC w0 (plA A wd p g s q gr sr lg b o E E * emp) agnG (agnF E o.con)) (chC_nil trivial rfl s6.drew) ?_
    have bw : ∀ {Z : Asn} {w : World}, St w0 (plA A wd p g s q gr sr lg b o E E * emp * Z) w → St w0 (plA A wd p g s q gr sr lg b o E E * Z) w := fun h => by rw [sep_emp] at h; exact h
    simp -implicitDefEqProofs
    refine effm_ldc (v := .pointer (some ⟨s, 0, none⟩)) (fun vs' w _ hw => (cell_of (pl_dk (bw hw.2))).trans rfl) ?_
    simp -implicitDefEqProofs
    refine effm_ldc (v := .int .i64 o.con) (fun vs' w _ hw => pl_op (bw hw.2) 1 _ rfl) ?_
    simp -implicitDefEqProofs
    refine effm_mv rfl (fun w hw => eff_call ((cI (bw hw.2)).mono fun r w' s' => ⟨trivial, s'.to (by simp only [agnF, List.nil_append, sep_emp])⟩)) (fun r1 _ => ?_)
    simp -implicitDefEqProofs
    refine effm_ldc (v := .pointer (some ⟨sr, 0, none⟩)) (fun vs' w _ hw => (cell_of (pl_dk (bw hw.2))).trans rfl) ?_
    simp -implicitDefEqProofs
    refine effm_ldc (v := .int .i64 o.con) (fun vs' w _ hw => pl_op (bw hw.2) 1 _ rfl) ?_
    simp -implicitDefEqProofs
    refine effm_mv rfl (fun w hw => eff_call ((crI (bw hw.2)).mono fun r w' s' => ⟨trivial, s'.to (by simp only [agnF, List.nil_append, List.cons_append, sep_emp]; ac_rfl)⟩)) (fun r2 _ => ?_)
    simp -implicitDefEqProofs
    refine effm_mv rfl (fun w hw => eff_call ((ints_spec I I r1 r2 w0 w _ (by omega) (row_in (e := 3) (B := plA A wd p g s q gr sr lg b o E E * own 3 1 r2 I.length (Gd.ints I)) hw.2 (by rw [← hI]; simp only [agnF, List.nil_append, List.cons_append, sep_emp]; ac_rfl)) (row_in (e := 3) (B := plA A wd p g s q gr sr lg b o E E * own 3 1 r1 I.length (Gd.ints I)) hw.2 (by rw [← hI]; simp only [agnF, List.nil_append, List.cons_append, sep_emp]; ac_rfl)) hw.2).mono ?_)) (fun r3 h3 => ?_)
    · rintro r w' ⟨rfl, s'⟩; exact ⟨by simp [agnG], by simp only [agnF, List.cons_append, List.nil_append, sep_emp]; rw [sep_emp] at s'; exact s'.drop⟩
    obtain ⟨_, e1, _⟩ := h3
    simp only [List.nil_append, List.cons_append, agnG] at e1
    subst e1
    simp -implicitDefEqProofs
    rintro w7 ⟨_, s7⟩
    exact out (E' := E) (Z := emp) e.symm s7.drop
  simp at k4
  simp -implicitDefEqProofs
  refine cndI (fun k5 => ?_) (fun k5 => ?_)
  · -- told
    simp at k5
    simp -implicitDefEqProofs
    refine eff_call ((told_spec wd p g s q gr sr lp lg E w0 w1 (A * pt b (.cells o.cs.toArray 48 (0, 0))) h0 hE (by omega) (s1.to (by simp only [plA, sep_emp]))).mono ?_)
    rintro r w2 ⟨rfl, s2⟩
    simp -implicitDefEqProofs
    exact out (E' := E) (Z := emp) (by rw [playE, if_neg k1, if_neg k2, if_neg k3, if_neg k6, if_neg (by omega), if_neg (by omega)]) (by rw [sep_emp]; exact s2)
  simp at k5
  simp -implicitDefEqProofs
  refine cndI (fun k7 => ?_) (fun k7 => ?_)
  · -- Mint
    simp at k7
    have e : playE lg o E = { E with P := (Pu.mintF E.P o.e.x.acc o.e.x.coins).2 } := by rw [playE, if_neg k1, if_neg k2, if_neg k3, if_neg k6, if_pos k7]
    simp -implicitDefEqProofs
    obtain ⟨E', hE'⟩ : ∃ E' : Eco, { E with P := (Pu.mintF E.P o.e.x.acc o.e.x.coins).2 } = E' := ⟨_, rfl⟩
    refine regmI (cV1 (St w0 (plA A wd p g s q gr sr lg b o E E * emp)) (fun r w => r = .int .i64 (Pu.mintF E.P o.e.x.acc o.e.x.coins).1 ∧ St w0 (plA A wd p g s q gr sr lg b o E E' * emp) w)) s1.drew ?_
    simp -implicitDefEqProofs
    refine effm_ldc (v := .pointer (some ⟨sr, 0, none⟩)) (fun vs' w he hw => (cell_of (pl_dk (cV1_pre he hw))).trans rfl) ?_
    simp -implicitDefEqProofs
    refine effm_ldc (v := .pointer (some ⟨q, 0, none⟩)) (fun vs' w he hw => (pl_rc (cV1_pre he hw)).1) ?_
    simp -implicitDefEqProofs
    refine effm_ldc (v := .int .i64 o.e.x.acc) (fun vs' w he hw => pl_op (cV1_pre he hw) 3 _ rfl) ?_
    simp -implicitDefEqProofs
    refine effm_ldc (v := .int .u64 o.e.x.coins) (fun vs' w he hw => pl_op (cV1_pre he hw) 5 _ rfl) ?_
    simp -implicitDefEqProofs
    refine effm_mv rfl (fun w hw => eff_call ((Pu.rMint_spec q lp E.P o.e.x.acc o.e.x.coins w0 w (A * pt b (.cells o.cs.toArray 48 (0, 0)) * deskA wd p g s sr * ecoA p g s lg E * Gd.rgs gr lg E.its * resc sr q gr E.l) hE.P ho.coins (St.to hw (by simp only [plA, recoA, sep_emp]; ac_rfl))).mono ?_)) (fun r1 h1 => ?_)
    · rintro r w' ⟨rfl, s'⟩; exact ⟨rfl, s'.to (by rw [← hE']; simp only [plA, recoA, sep_emp]; ac_rfl)⟩
    obtain ⟨_, rfl, _⟩ := h1
    simp -implicitDefEqProofs
    rintro w2 ⟨_, s2⟩
    refine regmI (cV1 (St w0 (plA A wd p g s q gr sr lg b o E E' * emp)) (fun r w => r = .int .i64 (Pu.mintF E.P o.e.x.acc o.e.x.coins).1 ∧ St w0 (plA A wd p g s q gr sr lg b o E' E' * emp) w)) s2.drew ?_
    simp -implicitDefEqProofs
    refine effm_ldc (v := .pointer (some ⟨p, 0, none⟩)) (fun vs' w he hw => (cell_of (pl_dk (cV1_pre he hw))).trans rfl) ?_
    simp -implicitDefEqProofs
    refine effm_ldc (v := .int .i64 o.e.x.acc) (fun vs' w he hw => pl_op (cV1_pre he hw) 3 _ rfl) ?_
    simp -implicitDefEqProofs
    refine effm_ldc (v := .int .u64 o.e.x.coins) (fun vs' w he hw => pl_op (cV1_pre he hw) 5 _ rfl) ?_
    simp -implicitDefEqProofs
    refine effm_mv rfl (fun w hw => eff_call ((Pu.Mint_spec p E.P o.e.x.acc o.e.x.coins w0 w (A * pt b (.cells o.cs.toArray 48 (0, 0)) * deskA wd p g s sr * recoA q gr sr lg E' * Gd.gds g lg E.its * esc s p g E.l) hE.P.bd ho.coins (St.to hw (by simp only [plA, ecoA, sep_emp]; ac_rfl))).mono ?_)) (fun r1 h1 => ?_)
    · rintro r w' ⟨rfl, s'⟩; exact ⟨rfl, s'.to (by rw [← hE']; simp only [plA, ecoA, sep_emp]; ac_rfl)⟩
    obtain ⟨_, rfl, _⟩ := h1
    simp -implicitDefEqProofs
    rintro w3 ⟨_, s3⟩
    exact out (by rw [e, hE']) s3
  simp at k7
  simp -implicitDefEqProofs
  refine cndI (fun k8 => ?_) (fun k8 => ?_)
  · -- Make
    simp at k8
    simp -implicitDefEqProofs
    have e : playE lg o E = { E with its := (Gd.makeF lg E.its 0 o.e.x.acc).2.2 } := by rw [playE, if_neg k1, if_neg k2, if_neg k3, if_neg k6, if_neg k7, if_pos k8]
    obtain ⟨E', hE'⟩ : ∃ E' : Eco, { E with its := (Gd.makeF lg E.its 0 o.e.x.acc).2.2 } = E' := ⟨_, rfl⟩
    refine regmI (cV1 (St w0 (plA A wd p g s q gr sr lg b o E E * emp)) (fun r w => r = .tuple #[.int .i64 (Gd.makeF lg E.its 0 o.e.x.acc).1, .int .i64 (Gd.makeF lg E.its 0 o.e.x.acc).2.1] ∧ St w0 (plA A wd p g s q gr sr lg b o E E' * emp) w)) s1.drew ?_
    simp -implicitDefEqProofs
    refine effm_ldc (v := .pointer (some ⟨sr, 0, none⟩)) (fun vs' w he hw => (cell_of (pl_dk (cV1_pre he hw))).trans rfl) ?_
    simp -implicitDefEqProofs
    refine effm_ldc (v := .pointer (some ⟨gr, 0, none⟩)) (fun vs' w he hw => (pl_rc (cV1_pre he hw)).2) ?_
    simp -implicitDefEqProofs
    refine effm_ldc (v := .int .i64 o.e.x.acc) (fun vs' w he hw => pl_op (cV1_pre he hw) 3 _ rfl) ?_
    simp -implicitDefEqProofs
    refine effm_mv rfl (fun w hw => eff_call ((Gd.rMake_spec gr lg E.its 0 o.e.x.acc w0 w (A * pt b (.cells o.cs.toArray 48 (0, 0)) * deskA wd p g s sr * ecoA p g s lg E * Pu.rpur q E.P * resc sr q gr E.l) hE.G (St.to hw (by simp only [plA, recoA, sep_emp]; ac_rfl))).mono ?_)) (fun r1 h1 => ?_)
    · rintro r w' ⟨rfl, s'⟩; exact ⟨rfl, s'.to (by rw [← hE']; simp only [plA, recoA, sep_emp]; ac_rfl)⟩
    obtain ⟨_, rfl, _⟩ := h1
    simp -implicitDefEqProofs
    rintro w2 ⟨_, s2⟩
    refine regmI (cV1 (St w0 (plA A wd p g s q gr sr lg b o E E' * emp)) (fun r w => r = .tuple #[.int .i64 (Gd.makeF lg E.its 0 o.e.x.acc).1, .int .i64 (Gd.makeF lg E.its 0 o.e.x.acc).2.1] ∧ St w0 (plA A wd p g s q gr sr lg b o E' E' * emp) w)) s2.drew ?_
    simp -implicitDefEqProofs
    refine effm_ldc (v := .pointer (some ⟨g, 0, none⟩)) (fun vs' w he hw => (cell_of (pl_dk (cV1_pre he hw))).trans rfl) ?_
    simp -implicitDefEqProofs
    refine effm_ldc (v := .int .i64 o.e.x.acc) (fun vs' w he hw => pl_op (cV1_pre he hw) 3 _ rfl) ?_
    simp -implicitDefEqProofs
    refine effm_mv rfl (fun w hw => eff_call ((Gd.Make_spec g lg E.its 0 o.e.x.acc w0 w (A * pt b (.cells o.cs.toArray 48 (0, 0)) * deskA wd p g s sr * recoA q gr sr lg E' * Pu.pur p E.P * esc s p g E.l) hglim (St.to hw (by simp only [plA, ecoA, sep_emp]; ac_rfl))).mono ?_)) (fun r1 h1 => ?_)
    · rintro r w' ⟨rfl, s'⟩; exact ⟨rfl, s'.to (by rw [← hE']; simp only [plA, ecoA, sep_emp]; ac_rfl)⟩
    obtain ⟨_, rfl, _⟩ := h1
    simp -implicitDefEqProofs
    rintro w3 ⟨_, s3⟩
    exact out (by rw [e, hE']) s3
  simp at k8
  simp -implicitDefEqProofs
  have e : playE lg o E = E := by rw [playE, if_neg k1, if_neg k2, if_neg k3, if_neg k6, if_neg k7, if_neg k8]
  refine cndI (fun k9 => ?_) (fun k9 => ?_)
  · -- Loads
    simp at k9
    simp -implicitDefEqProofs
    refine eff_ldc (v := .pointer (some ⟨p, 0, none⟩)) ((cell_of (pl_dk s1)).trans rfl) ?_
    simp -implicitDefEqProofs
    refine eff_call ((Pu.Copy_spec p E.P w0 w1 (A * pt b (.cells o.cs.toArray 48 (0, 0)) * deskA wd p g s sr * recoA q gr sr lg E * Gd.gds g lg E.its * esc s p g E.l) (by omega) (s1.to (by simp only [plA, ecoA, sep_emp]; ac_rfl))).mono ?_)
    rintro r w2 ⟨p', rfl, s2⟩
    have s2 : St w0 (plA A wd p g s q gr sr lg b o E E * Pu.pur p' E.P) w2 := s2.to (by simp only [plA, ecoA, sep_emp]; ac_rfl)
    simp -implicitDefEqProofs
    refine eff_ldc (v := .pointer (some ⟨g, 0, none⟩)) ((cell_of (pl_dk s2)).trans rfl) ?_
    simp -implicitDefEqProofs
    refine eff_call ((Gd.Copy_spec g lg E.its w0 w2 (A * pt b (.cells o.cs.toArray 48 (0, 0)) * deskA wd p g s sr * recoA q gr sr lg E * Pu.pur p E.P * esc s p g E.l * Pu.pur p' E.P) hil (s2.to (by simp only [plA, ecoA, sep_emp]; ac_rfl))).mono ?_)
    rintro r w3 ⟨g', rfl, s3⟩
    have s3 : St w0 (plA A wd p g s q gr sr lg b o E E * (Pu.pur p' E.P * Gd.gds g' lg E.its)) w3 := s3.to (by simp only [plA, ecoA, sep_emp]; ac_rfl)
    simp -implicitDefEqProofs
    refine eff_ldc (v := .pointer (some ⟨s, 0, none⟩)) ((cell_of (pl_dk s3)).trans rfl) ?_
    simp -implicitDefEqProofs
    refine eff_call ((Rows_spec s p g E.l w0 w3 (A * pt b (.cells o.cs.toArray 48 (0, 0)) * deskA wd p g s sr * recoA q gr sr lg E * Pu.pur p E.P * Gd.gds g lg E.its * Pu.pur p' E.P * Gd.gds g' lg E.its) h0 hE.R (by omega) (s3.to (by simp only [plA, ecoA, sep_emp]; ac_rfl))).mono ?_)
    intro rv w4 s4
    have s4 : St w0 (plA A wd p g s q gr sr lg b o E E * own 98 2 rv E.l.length (rflat E.l) * Pu.pur p' E.P * Gd.gds g' lg E.its) w4 := s4.to (by simp only [plA, ecoA, sep_emp]; ac_rfl)
    simp -implicitDefEqProofs
    refine eff_call ((Load_spec p' g' lp lg E.l rv E.P E.its w0 w4 _ hE.P (by omega) (rw_bds hE) (row_own s4.drop.drop) s4).mono ?_)
    rintro r w5 (⟨_, s', rfl, s5⟩ | ⟨hz, _⟩)
    · simp -implicitDefEqProofs
      have s6 : St w0 (A * pt b (.cells o.cs.toArray 48 (0, 0)) * recoA q gr sr lg E * ecoA p g s lg E * own 98 2 rv E.l.length (rflat E.l) * ecoA p' g' s' lg E * deskA wd p g s sr) w5 := s5.to (by simp only [plA, ecoA]; ac_rfl)
      refine eff_st1 s6 rfl (by simp) fun w6 s6 => ?_
      simp -implicitDefEqProofs
      simp at s6
      refine eff_st1 s6 rfl (by simp) fun w7 s7 => ?_
      simp -implicitDefEqProofs
      simp at s7
      refine eff_st1 s7 rfl (by simp) fun w8 s8 => ?_
      simp -implicitDefEqProofs
      simp at s8
      have s8 : St w0 (A * pt b (.cells o.cs.toArray 48 (0, 0)) * recoA q gr sr lg E * ecoA p g s lg E * own 98 2 rv E.l.length (rflat E.l) * ecoA p' g' s' lg E * deskA wd p' g' s' sr) w8 := s8
      exact out (E' := E) (p' := p') (g' := g') (s' := s') (Z := ecoA p g s lg E * own 98 2 rv E.l.length (rflat E.l)) e.symm (s8.to (by simp only [plA]; ac_rfl))
    · exact absurd (esc_zero hE) hz
  simp at k9
  simp -implicitDefEqProofs
  exact out e.symm s1
end Go.HL.Es

namespace Go.HL.Pu
open Go.HL Go.HL.Nm Go.Proofs
set_option maxRecDepth 4000
set_option linter.unusedSimpArgs false
set_option linter.unusedVariables false
def clsV (v : Value) (S : World → Prop) : List Value → World → Prop
  | [], w => S w
  | r :: _, w => r = v ∧ S w
@[simp] theorem clsV_nil (v : Value) (S : World → Prop) (w : World) : clsV v S [] w = S w := rfl
@[simp] theorem clsV_cons (v : Value) (S : World → Prop) (u : Value) (l : List Value) (w : World) : clsV v S (u :: l) w = (u = v ∧ S w) := rfl
theorem clsV_low {v : Value} {S : World → Prop} {vs : List Value} {w : World} (h : clsV v S vs w) : S w := by
  cases vs with
  | nil => exact h
  | cons _ _ => exact h.2
end Go.HL.Pu

namespace Go.HL.Pu
open Go.HL Go.HL.Nm Go.Proofs
set_option maxRecDepth 4000
set_option linter.unusedSimpArgs false
set_option linter.unusedVariables false
theorem rload_rest (lim : Int) (rows : List Ac) (sup : Int) (ra : Option Addr) (rcap : Nat) (w0 w : World) (A : Asn) (hlim : (rows.length : Int) ≤ lim) (hl : rows.length ≤ 64) (hsup : 0 ≤ sup ∧ sup ≤ 4611686018427387904) (hn : ∀ x ∈ rows, x.name.length ≤ 1048576) (hc : ∀ x ∈ rows, 0 ≤ x.coins ∧ x.coins < 18446744073709551616)
    (hrow : Row w0 A (.slice ra rows.length rcap) rows.length 2 (flat rows)) (s : St w0 A w) :
    HC.wp U1 h46_23 (endQ Tryz.prog [RV.slot 3, RV.slot 4] fun r w' => if (loadL ⟨lim, [], sup, sup⟩ rows).1 = 0 then ∃ q, r = .tuple #[.pointer (some ⟨q, 0, none⟩), .int .i64 0] ∧ St w0 (A * rpur q (loadL ⟨lim, [], sup, sup⟩ rows).2) w' else r = .tuple #[.pointer none, .int .i64 (loadL ⟨lim, [], sup, sup⟩ rows).1] ∧ St w0 A w')
      [.int .i64 lim, .slice ra rows.length rcap, .int .u64 sup, .pointer none, .int .i64 0, undef, undef, undef, undef, undef] w := by
  simp
  generalize hP0 : (⟨lim, [], sup, sup⟩ : Ps) = P0 at *
  have hP0h : P0.held = sup := by rw [← hP0]
  refine loopI (fun env w' => ∃ (i : Nat) (P : Ps) (o7 o8 : Value), env = [.int .i64 lim, .slice ra rows.length rcap, .int .u64 sup, .pointer none, .int .i64 0, .int .u64 P.held, .int .i64 i, o7, o8, undef] ∧ i ≤ rows.length ∧
      loadL P0 rows = loadL P (rows.drop i) ∧ P.rows = rows.take i ∧ P.lim = lim ∧ P.sup = sup ∧ 0 ≤ P.held ∧ P.held ≤ sup ∧ St w0 A w')
    (fun env _ => rows.length - slotN env 6) ⟨0, P0, _, _, by rw [hP0h]; rfl, by omega, rfl, by rw [← hP0]; rfl, by rw [← hP0], by rw [← hP0], by omega, by omega, s⟩ ?_
  clear s
  rintro LQ env w' ⟨i, P, o7, o8, rfl, hi, hL, hPr, hPl, hPs, hh0, hh1, s⟩ hN hE hR
  simp
  refine cndI (fun h => ?_) (fun h => ?_)
  · simp at h
    have h : i < rows.length := by omega
    obtain ⟨g, o, gcap, hv, hcell⟩ := hrow.at (by omega)
    cases hv
    have hPlen : P.rows.length = i := by rw [hPr, List.length_take]; omega
    have hmem : rows[i] ∈ rows := List.getElem_mem h
    have hdrop : rows.drop i = rows[i] :: rows.drop (i + 1) := List.drop_eq_getElem_cons h
    have htk : rows.take (i + 1) = rows.take i ++ [rows[i]] := List.take_succ_eq_append_getElem h
    have cname : ∀ {w}, St w0 A w → w.cell? ⟨g, o + i * 2, none⟩ = some (.string (mk rows[i].name)) := fun s => hcell _ s _ _ (flat_name h)
    have ccoin : ∀ {w}, St w0 A w → w.cell? ⟨g, o + i * 2 + 1, none⟩ = some (.int .u64 rows[i].coins) := fun s => by rw [Nat.add_assoc]; exact hcell _ s _ _ (flat_coins h)
    rw [hdrop] at hL
    have hna := hn _ hmem
    have hca := hc _ hmem
    obtain ⟨a, ha⟩ : ∃ a, rows[i] = a := ⟨_, rfl⟩
    rw [ha] at hmem hdrop htk hna hca hL cname ccoin
    simp [h]
    refine eff_ldc (cname s) ?_
    simp
    refine eff_call ((rcheck_spec a.name w0 w' A hna s).mono ?_)
    rintro r w1 ⟨rfl, s1⟩
    simp
    clear s
    refine cndI (fun h1 => ?_) (fun h1 => ?_)
    · simp at h1
      have ho : (openF P a.name).2.1 = (checkF a.name).2 := by unfold openF; rw [if_neg h1]
      have hse : stepE P a = (checkF a.name).2 := by unfold stepE; rw [if_neg (by rw [ho]; exact h1), ho]
      have hLL : loadL P0 rows = (stepE P a, P) := by rw [hL, loadL, if_neg (by rw [hse]; exact h1)]
      simp
      refine hR _ _ ?_
      simp
      rw [hLL, hse]
      simp [h1]
      exact s1
    simp at h1
    simp
    refine loopI (fun env w' => ∃ (k : Nat), env = [.int .i64 lim, .slice (some ⟨g, o, none⟩) rows.length rcap, .int .u64 sup, .pointer none, .int .i64 0, .int .u64 P.held, .int .i64 i, .int .i64 (checkF a.name).2, .int .i64 k, undef] ∧ k ≤ i ∧
        (∀ n, n < k → (keys P.rows)[n]? ≠ some (keyF a.name)) ∧ St w0 A w')
      (fun env _ => i - slotN env 8) ⟨0, by simp, by omega, fun n hn => by omega, s1⟩ ?_
    clear s1
    rintro LQ2 env w2 ⟨k, rfl, hk, hno, s⟩ hN2 hE2 hR2
    simp
    refine cndI (fun h2 => ?_) (fun h2 => ?_)
    · have h20 := h2
      simp at h20
      simp at h2
      have h2 : k < i := by omega
      have hkr : k < rows.length := by omega
      have hkk : (keys P.rows)[k]? = some (keyF rows[k].name) := by
        rw [hPr]; simp [keys, List.getElem?_take, h2, hkr]
      have hkn := hn _ (List.getElem_mem hkr)
      have ck : ∀ {w}, St w0 A w → w.cell? ⟨g, o + k * 2, none⟩ = some (.string (mk rows[k].name)) := fun s => hcell _ s _ _ (flat_name hkr)
      refine brmI (clsV (.bool (decide (keyF rows[k].name = keyF a.name))) (St w0 A)) s.drew ?_
      simp [hkr, h]
      refine effm_ldc (v := .string (mk rows[k].name)) (fun vs' w he hw => ck (clsV_low hw)) ?_
      simp [h]
      refine effm_ldc (v := .string (mk a.name)) (fun vs' w he hw => cname (clsV_low hw)) ?_
      simp
      refine effm_mv rfl (fun w hw => eff_call ((rSame_spec rows[k].name a.name w0 w A hkn hna hw).mono fun r w' h => h)) (fun r hr => ?_)
      obtain ⟨_, rfl, _⟩ := hr
      simp
      intro w9 s9
      refine cndI (fun h3 => ?_) (fun h3 => ?_)
      · have h3 := of_decide_eq_true h3
        have hask : askB (keyF a.name) (keys P.rows) = true := by
          refine (askB_iff _ _).2 ?_
          rw [← h3]
          exact List.mem_of_getElem? hkk
        have ho : (openF P a.name).2.1 = 140 := by unfold openF; rw [if_pos h1, if_pos hask]
        have hse : stepE P a = 140 := by unfold stepE; rw [if_neg (by rw [ho]; decide), ho]
        have hLL : loadL P0 rows = (stepE P a, P) := by rw [hL, loadL, if_neg (by rw [hse]; decide)]
        simp
        refine hR2 _ _ ?_
        simp
        refine hR _ _ ?_
        simp
        rw [hLL, hse]
        simp
        exact s9
      · have h3 := of_decide_eq_false h3
        simp [thenQ]
        try simp (disch := omega) only [wrap64]
        refine hN2 _ _ ⟨k + 1, by simp, by omega, fun n hn' => ?_, s9⟩ (by simp [slotN]; omega)
        by_cases e : n = k
        · subst e
          rw [hkk]
          intro hh
          exact h3 (by simpa using hh)
        · exact hno n (by omega)
    simp at h2
    simp
    refine hE2 _ _ _ ?_
    have hki : k = i := by omega
    subst hki
    have hask : askB (keyF a.name) (keys P.rows) = false := by
      cases hb : askB (keyF a.name) (keys P.rows) with
      | false => rfl
      | true =>
        obtain ⟨n, _, hg⟩ := askN_get hb
        have hnl : n < (keys P.rows).length := (List.getElem?_eq_some_iff.1 hg).1
        simp only [keys, List.length_map] at hnl
        exact absurd hg (hno n (by omega))
    have ho : (openF P a.name).2.1 = 0 := by unfold openF; rw [if_pos h1, if_neg (by rw [hask]; decide), if_neg (by rw [hPlen, hPl]; omega)]
    simp [h]
    refine eff_ldc (ccoin s) ?_
    simp
    refine cndI (fun h3 => ?_) (fun h3 => ?_)
    · simp at h3
      have hse : stepE P a = 144 := by unfold stepE; rw [if_pos ho, if_pos h3]
      have hLL : loadL P0 rows = (stepE P a, P) := by rw [hL, loadL, if_neg (by rw [hse]; decide)]
      simp
      refine hR _ _ ?_
      simp
      rw [hLL, hse]
      simp
      exact s
    simp at h3
    simp [h]
    refine eff_ldc (ccoin s) ?_
    simp
    have hse : stepE P a = 0 := by unfold stepE; rw [if_pos ho, if_neg (by omega)]
    try simp (disch := omega) only [wrap64, wrapu64]
    refine hN _ _ ⟨k + 1, stepP P a, _, _, by simp [stepP]; exact ⟨rfl, rfl⟩, by omega, ?_, ?_, hPl, hPs, ?_, ?_, s⟩ (by simp [slotN]; omega)
    · rw [hL, loadL, if_pos hse]
    · rw [htk, ← hPr]; rfl
    · show 0 ≤ P.held - a.coins; omega
    · show P.held - a.coins ≤ sup; omega
  simp at h
  simp
  refine hE _ _ _ ?_
  have hie : i = rows.length := by omega
  rw [hie, List.drop_length] at hL
  have hLL : loadL P0 rows = (0, P) := hL
  rw [hLL]
  simp [Instr.fill, Value.cells]
  refine eff_box s ?_
  intro q w2 s2
  simp
  rw [hie, List.take_length] at hPr
  have s3 : St w0 (A * rpt q P (.slice none 0 0)) w2 := by rw [← hPl, ← hPs] at s2; exact s2
  refine eff_ldc (v := .slice none 0 0) (by rw [cell_of s3.look]; rfl) ?_
  simp
  refine eff_appR (s3.own_nil 58 2) ((hrow.mono fun w s => s.drop.drop) : Row w0 (A * rpt q P (.slice none 0 0) * own 58 2 (.slice none 0 0) 0 []) (.slice ra rows.length rcap) rows.length 2 (flat rows)) (flat_one _) (by decide) rfl (by unfold maxLen; omega) (by omega) ?_
  intro v w3 s4
  simp
  obtain ⟨va, vc, rfl, _⟩ := s4.own_val
  refine eff_st1 (s4.swap) rfl (by simp) ?_
  intro w4 s5
  simp at s5
  simp
  have s6 : St w0 (A * own 58 2 (.slice va rows.length vc) rows.length (flat rows) * rpt q P (.slice va rows.length vc)) w4 := by simpa using s5
  refine rclose (v := .slice va rows.length vc) ?_
  rw [hPr]
  exact s6.swap
theorem rLoad_spec (lim : Int) (rows : List Ac) (sup : Int) (v : Value) (w0 w : World) (A : Asn) (hl : rows.length ≤ 1048576) (hsup : 0 ≤ sup ∧ sup < 18446744073709551616) (hn : ∀ x ∈ rows, x.name.length ≤ 1048576) (hc : ∀ x ∈ rows, 0 ≤ x.coins ∧ x.coins < 18446744073709551616)
    (hrow : Row w0 A v rows.length 2 (flat rows)) (s : St w0 A w) :
    CallW Tryz.prog 46 [.int .i64 lim, v, .int .u64 sup] (fun r w' => if (loadF lim rows sup).1 = 0 then ∃ q, r = .tuple #[.pointer (some ⟨q, 0, none⟩), .int .i64 0] ∧ St w0 (A * rpur q (loadF lim rows sup).2) w' else r = .tuple #[.pointer none, .int .i64 (loadF lim rows sup).1] ∧ St w0 A w') w := by
  obtain ⟨ra, rcap, rfl⟩ := hrow.val
  refine callW_of_lift l46_ok (by simp [l46]) ?_
  simp [l46]
  refine cndI (fun h => ?_) (fun h => ?_)
  · simp at h
    have e : (loadF lim rows sup).1 = 2 := by unfold loadF; rw [if_neg (by omega)]
    simp [e]
    exact s
  simp at h
  simp
  refine cndI (fun h1 => ?_) (fun h1 => ?_)
  · simp at h1
    have e : (loadF lim rows sup).1 = 144 := by unfold loadF; rw [if_pos (by omega), if_pos h1]
    simp [e]
    exact s
  simp at h1
  simp
  refine cndI (fun h2 => ?_) (fun h2 => ?_)
  · simp at h2
    have e : (loadF lim rows sup).1 = 141 := by unfold loadF; rw [if_pos (by omega), if_neg (by omega), if_pos h2]
    simp [e]
    exact s
  simp at h2
  simp
  by_cases hnil : rows = []
  · subst hnil
    simp
    have e : (loadF lim [] sup).1 = 142 := by unfold loadF; rw [if_pos (by omega), if_neg (by omega), if_neg (by simpa using h2), if_neg (by decide)]
    simp [e]
    exact s
  have hpos : 0 < rows.length := List.length_pos_iff.2 hnil
  obtain ⟨g, o, gcap, hv, hcell⟩ := hrow.at hpos
  cases hv
  simp [hnil, hpos]
  refine eff_ldc (v := .string (mk rows[0].name)) (hcell w s 0 _ (flat_name hpos)) ?_
  simp
  refine cndI (fun h3 => ?_) (fun h3 => ?_)
  · simp at h3
    have hnb : (rows.getD 0 ⟨[], 0⟩).name ≠ bankB := by
      simpa [hpos, bankB] using h3
    have e : (loadF lim rows sup).1 = 142 := by unfold loadF; rw [if_pos (by omega), if_neg (by omega), if_neg (by omega), if_neg hnb]
    rw [e]
    simp
    exact s
  have hb : (rows.getD 0 ⟨[], 0⟩).name = bankB := by
    simpa [hpos, bankB] using h3
  have e : loadF lim rows sup = loadL ⟨lim, [], sup, sup⟩ rows := by unfold loadF; rw [if_pos (by omega), if_neg (by omega), if_neg (by omega), if_pos hb]
  rw [e]
  simp
  simpa using rload_rest lim rows sup _ rcap w0 w A (by omega) (by omega) (by omega) hn hc hrow s
end Go.HL.Pu

namespace Go.HL.Es
open Go.HL Go.Proofs
set_option maxRecDepth 4000
set_option linter.unusedSimpArgs false
set_option linter.unusedVariables false

def h23_0 : HC := (.seq (.reg (.chk none (.build #[(.pointer none), (.pointer none), (.pointer none), (.pointer none)] [(0, 1), (1, 1), (2, 1), (3, 1)] [0, 1, 2, 3]) (.cons (.inp 9) (.cons (.inp 11) (.cons (.inp 16) (.cons (.inp 14) .nil)))) (.eff (.box 122) (.cons (.op (.build #[(.pointer none), (.pointer none), (.pointer none), (.pointer none)] [(0, 1), (1, 1), (2, 1), (3, 1)] [0, 1, 2, 3]) (.cons (.inp 9) (.cons (.inp 11) (.cons (.inp 16) (.cons (.inp 14) .nil))))) .nil) (.chk none (.eqNil false (.pointer 130) (.pointer none)) (.cons (.inp 14) .nil) (.done [(2, (.bv 0)), (3, (.op (.eqNil false (.pointer 130) (.pointer none)) (.cons (.inp 14) .nil))), (4, (.cst (.bool true)))] none))))) .ret)
@[simp] theorem h23_0_wp : type_of% (@wpH h23_0 _ h23_0.eq_1) := wpH h23_0.eq_1
def h23_1 : HC := (.reg (.chk none (.bin .add) (.cons (.inp 18) (.cons (.cst (.int .i64 1)) .nil)) (.done [(18, (.op (.bin .add) (.cons (.inp 18) (.cons (.cst (.int .i64 1)) .nil))))] none)))
@[simp] theorem h23_1_wp : type_of% (@wpH h23_1 _ h23_1.eq_1) := wpH h23_1.eq_1
def h23_2 : HC := (.reg (.chk none (.build #[(.int .i64 0), (.int .u64 0)] [(0, 1), (1, 1)] [0, 1]) (.cons (.cst (.int .i64 1)) (.cons (.cst (.int .u64 1)) .nil)) (.chk none (.idxL 2) (.cons (.inp 13) (.cons (.inp 18) .nil)) (.eff (.st 2) (.cons (.op (.idxL 2) (.cons (.inp 13) (.cons (.inp 18) .nil))) (.cons (.op (.build #[(.int .i64 0), (.int .u64 0)] [(0, 1), (1, 1)] [0, 1]) (.cons (.cst (.int .i64 1)) (.cons (.cst (.int .u64 1)) .nil))) .nil)) (.done [] none)))))
@[simp] theorem h23_2_wp : type_of% (@wpH h23_2 _ h23_2.eq_1) := wpH h23_2.eq_1
def h23_3 : HC := (.seq (.block 1 h23_2) h23_1)
@[simp] theorem h23_3_wp : type_of% (@wpH h23_3 _ h23_3.eq_1) := wpH h23_3.eq_1
def h23_4 : HC := (.seq (.br (.chk none .lenL (.cons (.inp 13) .nil) (.chk none (.bin .lss) (.cons (.inp 18) (.cons (.op .lenL (.cons (.inp 13) .nil)) .nil)) (.done [] (some (.op (.bin .lss) (.cons (.inp 18) (.cons (.op .lenL (.cons (.inp 13) .nil)) .nil))))))) .skip (.exit 0)) h23_3)
@[simp] theorem h23_4_wp : type_of% (@wpH h23_4 _ h23_4.eq_1) := wpH h23_4.eq_1
def h23_5 : HC := (.loop h23_4)
@[simp] theorem h23_5_wp : type_of% (@wpH h23_5 _ h23_5.eq_1) := wpH h23_5.eq_1
def h23_6 : HC := (.seq (.block 0 h23_5) h23_0)
@[simp] theorem h23_6_wp : type_of% (@wpH h23_6 _ h23_6.eq_1) := wpH h23_6.eq_1
def h23_7 : HC := (.seq (.reg (.done [(18, (.cst (.int .i64 0)))] none)) h23_6)
@[simp] theorem h23_7_wp : type_of% (@wpH h23_7 _ h23_7.eq_1) := wpH h23_7.eq_1
def h23_8 : HC := (.seq (.reg (.done [(2, (.cst (.pointer none))), (3, (.cst (.bool false))), (4, (.cst (.bool false)))] none)) .ret)
@[simp] theorem h23_8_wp : type_of% (@wpH h23_8 _ h23_8.eq_1) := wpH h23_8.eq_1
def h23_9 : HC := (.seq (.br (.chk none (.cal 8) (.cons (.inp 17) .nil) (.chk none (.bin .neq) (.cons (.op (.cal 8) (.cons (.inp 17) .nil)) (.cons (.inp 15) .nil)) (.bnd (.op (.bin .neq) (.cons (.op (.cal 8) (.cons (.inp 17) .nil)) (.cons (.inp 15) .nil))) (.chk (some ((.bv 0), false)) (.eqNil false (.pointer 95) (.pointer none)) (.cons (.inp 16) .nil) (.chk (some ((.bv 0), false)) (.eqNil false (.pointer 130) (.pointer none)) (.cons (.inp 14) .nil) (.chk (some ((.bv 0), false)) (.eqB true) (.cons (.op (.eqNil false (.pointer 95) (.pointer none)) (.cons (.inp 16) .nil)) (.cons (.op (.eqNil false (.pointer 130) (.pointer none)) (.cons (.inp 14) .nil)) .nil)) (.isb none (.bv 0) (.bnd (.ite (.bv 0) true (.cst (.bool true)) (.op (.eqB true) (.cons (.op (.eqNil false (.pointer 95) (.pointer none)) (.cons (.inp 16) .nil)) (.cons (.op (.eqNil false (.pointer 130) (.pointer none)) (.cons (.inp 14) .nil)) .nil)))) (.chk (some ((.bv 1), false)) (.fld 5) (.cons (.inp 1) .nil) (.ite (.bv 1) false (.eff (.ld false 1) (.cons (.ite (.bv 1) false (.op (.fld 5) (.cons (.inp 1) .nil)) (.cst (.tuple #[]))) .nil) (.eff (.call 49) (.cons (.ite (.bv 1) false (.inp 13) (.cst (.tuple #[]))) (.cons (.bv 2) .nil)) (.chk none (.un .not) (.cons (.bv 3) .nil) (.isb none (.bv 1) (.done [] (some (.op (.un .not) (.cons (.bv 3) .nil)))))))) (.isb none (.bv 1) (.done [] (some (.cst (.bool true))))))))))))))) h23_8 .skip) h23_7)
@[simp] theorem h23_9_wp : type_of% (@wpH h23_9 _ h23_9.eq_1) := wpH h23_9.eq_1
def h23_10 : HC := (.seq (.reg (.eff (.call 9) (.cons (.inp 9) (.cons (.inp 11) (.cons (.inp 13) .nil))) (.chk none (.ext 0) (.cons (.bv 0) .nil) (.chk none (.ext 1) (.cons (.bv 0) .nil) (.done [(16, (.op (.ext 0) (.cons (.bv 0) .nil))), (17, (.op (.ext 1) (.cons (.bv 0) .nil)))] none))))) h23_9)
@[simp] theorem h23_10_wp : type_of% (@wpH h23_10 _ h23_10.eq_1) := wpH h23_10.eq_1
def h23_11 : HC := (.seq (.reg (.chk none (.fld 5) (.cons (.inp 1) .nil) (.eff (.ld false 1) (.cons (.op (.fld 5) (.cons (.inp 1) .nil)) .nil) (.eff (.call 48) (.cons (.inp 5) (.cons (.inp 7) (.cons (.bv 0) .nil))) (.chk none (.ext 0) (.cons (.bv 1) .nil) (.chk none (.ext 1) (.cons (.bv 1) .nil) (.done [(14, (.op (.ext 0) (.cons (.bv 1) .nil))), (15, (.op (.ext 1) (.cons (.bv 1) .nil)))] none))))))) h23_10)
@[simp] theorem h23_11_wp : type_of% (@wpH h23_11 _ h23_11.eq_1) := wpH h23_11.eq_1
def h23_12 : HC := (.seq (.reg (.chk none (.fld 5) (.cons (.inp 1) .nil) (.eff (.ld false 1) (.cons (.op (.fld 5) (.cons (.inp 1) .nil)) .nil) (.eff (.call 10) (.cons (.bv 0) .nil) (.done [(13, (.bv 1))] none))))) h23_11)
@[simp] theorem h23_12_wp : type_of% (@wpH h23_12 _ h23_12.eq_1) := wpH h23_12.eq_1
def h23_13 : HC := (.seq (.reg (.done [(2, (.cst (.pointer none))), (3, (.cst (.bool false))), (4, (.cst (.bool false)))] none)) .ret)
@[simp] theorem h23_13_wp : type_of% (@wpH h23_13 _ h23_13.eq_1) := wpH h23_13.eq_1
def h23_14 : HC := (.seq (.br (.chk none (.cal 8) (.cons (.inp 10) .nil) (.chk none (.bin .neq) (.cons (.op (.cal 8) (.cons (.inp 10) .nil)) (.cons (.cst (.int .i64 0)) .nil)) (.bnd (.op (.bin .neq) (.cons (.op (.cal 8) (.cons (.inp 10) .nil)) (.cons (.cst (.int .i64 0)) .nil))) (.chk (some ((.bv 0), false)) (.cal 8) (.cons (.inp 12) .nil) (.chk (some ((.bv 0), false)) (.bin .neq) (.cons (.op (.cal 8) (.cons (.inp 12) .nil)) (.cons (.cst (.int .i64 0)) .nil)) (.isb none (.bv 0) (.bnd (.ite (.bv 0) true (.cst (.bool true)) (.op (.bin .neq) (.cons (.op (.cal 8) (.cons (.inp 12) .nil)) (.cons (.cst (.int .i64 0)) .nil)))) (.chk (some ((.bv 1), false)) (.eqNil false (.pointer 81) (.pointer none)) (.cons (.inp 9) .nil) (.isb none (.bv 1) (.bnd (.ite (.bv 1) true (.cst (.bool true)) (.op (.eqNil false (.pointer 81) (.pointer none)) (.cons (.inp 9) .nil))) (.chk (some ((.bv 2), false)) (.eqNil false (.pointer 92) (.pointer none)) (.cons (.inp 11) .nil) (.isb none (.bv 2) (.done [] (some (.ite (.bv 2) true (.cst (.bool true)) (.op (.eqNil false (.pointer 92) (.pointer none)) (.cons (.inp 11) .nil))))))))))))))))) h23_13 .skip) h23_12)
@[simp] theorem h23_14_wp : type_of% (@wpH h23_14 _ h23_14.eq_1) := wpH h23_14.eq_1
def h23_15 : HC := (.seq (.reg (.chk none (.fld 3) (.cons (.inp 1) .nil) (.eff (.ld false 1) (.cons (.op (.fld 3) (.cons (.inp 1) .nil)) .nil) (.chk none (.fld 4) (.cons (.inp 1) .nil) (.eff (.ld false 1) (.cons (.op (.fld 4) (.cons (.inp 1) .nil)) .nil) (.eff (.call 7) (.cons (.bv 0) (.cons (.bv 1) .nil)) (.chk none (.ext 0) (.cons (.bv 2) .nil) (.chk none (.ext 1) (.cons (.bv 2) .nil) (.done [(11, (.op (.ext 0) (.cons (.bv 2) .nil))), (12, (.op (.ext 1) (.cons (.bv 2) .nil)))] none))))))))) h23_14)
@[simp] theorem h23_15_wp : type_of% (@wpH h23_15 _ h23_15.eq_1) := wpH h23_15.eq_1
def h23_16 : HC := (.seq (.reg (.chk none (.fld 0) (.cons (.inp 1) .nil) (.eff (.ld false 1) (.cons (.op (.fld 0) (.cons (.inp 1) .nil)) .nil) (.chk none (.fld 1) (.cons (.inp 1) .nil) (.eff (.ld false 1) (.cons (.op (.fld 1) (.cons (.inp 1) .nil)) .nil) (.chk none (.fld 2) (.cons (.inp 1) .nil) (.eff (.ld false 1) (.cons (.op (.fld 2) (.cons (.inp 1) .nil)) .nil) (.eff (.call 6) (.cons (.bv 0) (.cons (.bv 1) (.cons (.bv 2) .nil))) (.chk none (.ext 0) (.cons (.bv 3) .nil) (.chk none (.ext 1) (.cons (.bv 3) .nil) (.done [(9, (.op (.ext 0) (.cons (.bv 3) .nil))), (10, (.op (.ext 1) (.cons (.bv 3) .nil)))] none))))))))))) h23_15)
@[simp] theorem h23_16_wp : type_of% (@wpH h23_16 _ h23_16.eq_1) := wpH h23_16.eq_1
def h23_17 : HC := (.seq (.reg (.done [(2, (.cst (.pointer none))), (3, (.cst (.bool true))), (4, (.cst (.bool true)))] none)) .ret)
@[simp] theorem h23_17_wp : type_of% (@wpH h23_17 _ h23_17.eq_1) := wpH h23_17.eq_1
def h23_18 : HC := (.seq (.br (.chk none (.bin .neq) (.cons (.inp 6) (.cons (.cst (.int .i64 0)) .nil)) (.bnd (.op (.bin .neq) (.cons (.inp 6) (.cons (.cst (.int .i64 0)) .nil))) (.chk (some ((.bv 0), false)) (.bin .neq) (.cons (.inp 8) (.cons (.cst (.int .i64 0)) .nil)) (.isb none (.bv 0) (.done [] (some (.ite (.bv 0) true (.cst (.bool true)) (.op (.bin .neq) (.cons (.inp 8) (.cons (.cst (.int .i64 0)) .nil)))))))))) h23_17 .skip) h23_16)
@[simp] theorem h23_18_wp : type_of% (@wpH h23_18 _ h23_18.eq_1) := wpH h23_18.eq_1
def h23_19 : HC := (.seq (.reg (.chk none (.fld 3) (.cons (.inp 1) .nil) (.eff (.ld false 1) (.cons (.op (.fld 3) (.cons (.inp 1) .nil)) .nil) (.chk none (.fld 4) (.cons (.inp 1) .nil) (.eff (.ld false 1) (.cons (.op (.fld 4) (.cons (.inp 1) .nil)) .nil) (.eff (.call 47) (.cons (.bv 0) (.cons (.bv 1) .nil)) (.chk none (.ext 0) (.cons (.bv 2) .nil) (.chk none (.ext 1) (.cons (.bv 2) .nil) (.done [(7, (.op (.ext 0) (.cons (.bv 2) .nil))), (8, (.op (.ext 1) (.cons (.bv 2) .nil)))] none))))))))) h23_18)
@[simp] theorem h23_19_wp : type_of% (@wpH h23_19 _ h23_19.eq_1) := wpH h23_19.eq_1
def h23_20 : HC := (.seq (.reg (.chk none (.fld 0) (.cons (.inp 1) .nil) (.eff (.ld false 1) (.cons (.op (.fld 0) (.cons (.inp 1) .nil)) .nil) (.chk none (.fld 1) (.cons (.inp 1) .nil) (.eff (.ld false 1) (.cons (.op (.fld 1) (.cons (.inp 1) .nil)) .nil) (.chk none (.fld 2) (.cons (.inp 1) .nil) (.eff (.ld false 1) (.cons (.op (.fld 2) (.cons (.inp 1) .nil)) .nil) (.eff (.call 46) (.cons (.bv 0) (.cons (.bv 1) (.cons (.bv 2) .nil))) (.chk none (.ext 0) (.cons (.bv 3) .nil) (.chk none (.ext 1) (.cons (.bv 3) .nil) (.done [(5, (.op (.ext 0) (.cons (.bv 3) .nil))), (6, (.op (.ext 1) (.cons (.bv 3) .nil)))] none))))))))))) h23_19)
@[simp] theorem h23_20_wp : type_of% (@wpH h23_20 _ h23_20.eq_1) := wpH h23_20.eq_1
def l23 : Lifted := ⟨[0, 1, 2, 3, 4, 5, 6, 7, 8, 9, 10, 11, 12, 13, 14, 15, 16, 17, 18], 131, [.slot 2, .slot 3, .slot 4], (.seq (.reg (.eff (.box 27) (.cons (.inp 0) .nil) (.done [(1, (.bv 0)), (2, (.cst (.pointer none))), (3, (.cst (.bool false))), (4, (.cst (.bool false)))] none))) h23_20)⟩
theorem l23_ok : liftFn E2 23 400 = some l23 := by kernel_rfl

def h4_0 : HC := (.seq (.reg (.eff (.call 25) (.cons (.inp 4) .nil) (.done [(3, (.bv 0))] none))) .ret)
@[simp] theorem h4_0_wp : type_of% (@wpH h4_0 _ h4_0.eq_1) := wpH h4_0.eq_1
def h4_1 : HC := (.reg (.chk none (.bin .add) (.cons (.inp 7) (.cons (.cst (.int .i64 1)) .nil)) (.done [(7, (.op (.bin .add) (.cons (.inp 7) (.cons (.cst (.int .i64 1)) .nil))))] none)))
@[simp] theorem h4_1_wp : type_of% (@wpH h4_1 _ h4_1.eq_1) := wpH h4_1.eq_1
def h4_2 : HC := (.seq (.reg (.done [(3, (.cst (.bool false)))] none)) .ret)
@[simp] theorem h4_2_wp : type_of% (@wpH h4_2 _ h4_2.eq_1) := wpH h4_2.eq_1
def h4_3 : HC := (.br (.chk none (.idxL 8) (.cons (.inp 1) (.cons (.inp 7) .nil)) (.eff (.ld true 8) (.cons (.op (.idxL 8) (.cons (.inp 1) (.cons (.inp 7) .nil))) .nil) (.eff (.call 24) (.cons (.inp 4) (.cons (.bv 0) .nil)) (.chk none (.un .not) (.cons (.bv 1) .nil) (.done [] (some (.op (.un .not) (.cons (.bv 1) .nil)))))))) h4_2 .skip)
@[simp] theorem h4_3_wp : type_of% (@wpH h4_3 _ h4_3.eq_1) := wpH h4_3.eq_1
def h4_4 : HC := (.seq (.block 1 h4_3) h4_1)
@[simp] theorem h4_4_wp : type_of% (@wpH h4_4 _ h4_4.eq_1) := wpH h4_4.eq_1
def h4_5 : HC := (.seq (.br (.chk none .lenL (.cons (.inp 1) .nil) (.chk none (.bin .lss) (.cons (.inp 7) (.cons (.op .lenL (.cons (.inp 1) .nil)) .nil)) (.done [] (some (.op (.bin .lss) (.cons (.inp 7) (.cons (.op .lenL (.cons (.inp 1) .nil)) .nil))))))) .skip (.exit 0)) h4_4)
@[simp] theorem h4_5_wp : type_of% (@wpH h4_5 _ h4_5.eq_1) := wpH h4_5.eq_1
def h4_6 : HC := (.loop h4_5)
@[simp] theorem h4_6_wp : type_of% (@wpH h4_6 _ h4_6.eq_1) := wpH h4_6.eq_1
def h4_7 : HC := (.seq (.block 0 h4_6) h4_0)
@[simp] theorem h4_7_wp : type_of% (@wpH h4_7 _ h4_7.eq_1) := wpH h4_7.eq_1
def h4_8 : HC := (.seq (.reg (.done [(7, (.cst (.int .i64 0)))] none)) h4_7)
@[simp] theorem h4_8_wp : type_of% (@wpH h4_8 _ h4_8.eq_1) := wpH h4_8.eq_1
def h4_9 : HC := (.seq (.reg (.eff (.call 5) .nil (.done [(3, (.bv 0))] none))) .ret)
@[simp] theorem h4_9_wp : type_of% (@wpH h4_9 _ h4_9.eq_1) := wpH h4_9.eq_1
def h4_10 : HC := (.seq (.br (.done [] (some (.inp 5))) h4_9 .skip) h4_8)
@[simp] theorem h4_10_wp : type_of% (@wpH h4_10 _ h4_10.eq_1) := wpH h4_10.eq_1
def h4_11 : HC := (.seq (.reg (.done [(3, (.cst (.bool false)))] none)) .ret)
@[simp] theorem h4_11_wp : type_of% (@wpH h4_11 _ h4_11.eq_1) := wpH h4_11.eq_1
def h4_12 : HC := (.seq (.br (.chk none (.un .not) (.cons (.inp 6) .nil) (.done [] (some (.op (.un .not) (.cons (.inp 6) .nil))))) h4_11 .skip) h4_10)
@[simp] theorem h4_12_wp : type_of% (@wpH h4_12 _ h4_12.eq_1) := wpH h4_12.eq_1
def h4_13 : HC := (.seq (.reg (.eff (.ld true 6) (.cons (.inp 2) .nil) (.eff (.call 23) (.cons (.bv 0) .nil) (.chk none (.ext 0) (.cons (.bv 1) .nil) (.chk none (.ext 1) (.cons (.bv 1) .nil) (.chk none (.ext 2) (.cons (.bv 1) .nil) (.done [(4, (.op (.ext 0) (.cons (.bv 1) .nil))), (5, (.op (.ext 1) (.cons (.bv 1) .nil))), (6, (.op (.ext 2) (.cons (.bv 1) .nil)))] none))))))) h4_12)
@[simp] theorem h4_13_wp : type_of% (@wpH h4_13 _ h4_13.eq_1) := wpH h4_13.eq_1
def l4 : Lifted := ⟨[0, 1, 2, 4, 5, 6, 7, 8], 34, [.slot 3], (.seq (.reg (.eff (.box 27) (.cons (.inp 0) .nil) (.done [(2, (.bv 0)), (3, (.cst (.bool false)))] none))) h4_13)⟩
theorem l4_ok : liftFn E2 4 400 = some l4 := by kernel_rfl
theorem lent_spoil (l : List Rw) {w0 w : World} {A : Asn} {v : Value} (s : St w0 (A * lentA v l) w) : ∃ g cap, v = .slice (some ⟨g, 0, none⟩) l.length cap ∧ St w0 (A * own 98 2 (.slice (some ⟨g, 0, none⟩) l.length cap) l.length (rflat l)) w := by
  obtain ⟨g, cap, e, _⟩ := lopen s
  subst e
  exact ⟨g, cap, rfl, lent_own s⟩
set_option maxHeartbeats 2000000 in
theorem begun_spec (bg : Begin) (w0 w : World) (A : Asn) (hb : bg.ok w0 A) (s : St w0 A w) :
    CallW Tryz.prog 23 [.agg bg.cs.toArray] (fun r w' => (∃ pv, r = .tuple #[.pointer pv, .bool true, .bool true] ∧ St w0 A w') ∨
      (∃ wd p g s q gr sr E, r = .tuple #[.pointer (some ⟨wd, 0, none⟩), .bool false, .bool true] ∧ EI bg.lim bg.most E ∧ E.l = bg.rows ∧ St w0 (A * deskA wd p g s sr * ecoA p g s bg.most E * recoA q gr sr bg.most E) w')) w := by
  refine callW_of_lift l23_ok (by simp [l23]) ?_
  simp [l23]
  refine eff_box s fun b w1 s1 => ?_
  have s1 : St w0 (A * pt b (.cells bg.cs.toArray 27 (0, 0)) * emp) w1 := by rw [sep_emp]; exact s1
  have f : ∀ {Z : Asn} {w : World}, St w0 (A * pt b (.cells bg.cs.toArray 27 (0, 0)) * Z) w → ∀ j u, bg.cs[j]? = some u → w.cell? ⟨b, j, none⟩ = some u := fun h j u hu => by
    have := h.drop.row_cells j u hu; simpa using this
  have rw_ : ∀ {X : Asn} {v : Value} {n size : Nat} {xs : List Value}, Row w0 A v n size xs → Row w0 (A * pt b (.cells bg.cs.toArray 27 (0, 0)) * X) v n size xs := fun h => h.mono fun w s => s.drop.drop
  simp -implicitDefEqProofs
  refine eff_ldc (v := .int .i64 bg.lim) (f s1 0 _ rfl) ?_
  simp -implicitDefEqProofs
  refine eff_ldc (v := bg.va) (f s1 1 _ rfl) ?_
  simp -implicitDefEqProofs
  refine eff_ldc (v := .int .u64 bg.sup) (f s1 2 _ rfl) ?_
  simp -implicitDefEqProofs
  refine eff_call ((Pu.rLoad_spec bg.lim bg.accs bg.sup bg.va w0 w1 _ hb.laccs hb.sup (fun x hx => (hb.each x hx).1) (fun x hx => (hb.each x hx).2) (rw_ hb.accs) s1).mono ?_)
  intro r w2 h2
  by_cases hlp : (Pu.loadF bg.lim bg.accs bg.sup).1 = 0
  · rw [if_pos hlp] at h2
    obtain ⟨q, rfl, s2⟩ := h2
    have hP := getF_accs hlp hb.sup.1 hb.each
    obtain ⟨P, hPe⟩ : ∃ P, (Pu.loadF bg.lim bg.accs bg.sup).2 = P := ⟨_, rfl⟩
    rw [hPe] at s2 hP
    have s2 : St w0 (A * pt b (.cells bg.cs.toArray 27 (0, 0)) * Pu.rpur q P) w2 := s2.to (by rw [sep_emp])
    simp -implicitDefEqProofs
    refine eff_ldc (v := .int .i64 bg.most) (f s2 3 _ rfl) ?_
    simp -implicitDefEqProofs
    refine eff_ldc (v := bg.vi) (f s2 4 _ rfl) ?_
    simp -implicitDefEqProofs
    refine eff_call ((Gd.rLoad_spec bg.most bg.its bg.vi w0 w2 _ hb.lits (rw_ hb.its) s2).mono ?_)
    intro r w3 h3
    by_cases hlg : Gd.loadE bg.most bg.its = 0
    · rw [if_pos hlg] at h3
      obtain ⟨gr, rfl, s3⟩ := h3
      have hG := load_gi hlg
      have s3 : St w0 (A * pt b (.cells bg.cs.toArray 27 (0, 0)) * (Pu.rpur q P * Gd.rgs gr bg.most bg.its)) w3 := s3.to (by ac_rfl)
      simp -implicitDefEqProofs
      refine eff_ldc (v := .int .i64 bg.lim) (f s3 0 _ rfl) ?_
      simp -implicitDefEqProofs
      refine eff_ldc (v := bg.va) (f s3 1 _ rfl) ?_
      simp -implicitDefEqProofs
      refine eff_ldc (v := .int .u64 bg.sup) (f s3 2 _ rfl) ?_
      simp -implicitDefEqProofs
      refine eff_call ((Pu.Load_spec bg.lim bg.accs bg.sup bg.va w0 w3 _ hb.laccs hb.sup (fun x hx => (hb.each x hx).1) (fun x hx => (hb.each x hx).2) (rw_ hb.accs) s3).mono ?_)
      intro r w4 h4
      rw [if_pos hlp] at h4
      obtain ⟨p, rfl, s4⟩ := h4
      rw [hPe] at s4
      have s4 : St w0 (A * pt b (.cells bg.cs.toArray 27 (0, 0)) * (Pu.rpur q P * Gd.rgs gr bg.most bg.its * Pu.pur p P)) w4 := s4.to (by ac_rfl)
      simp -implicitDefEqProofs
      refine eff_ldc (v := .int .i64 bg.most) (f s4 3 _ rfl) ?_
      simp -implicitDefEqProofs
      refine eff_ldc (v := bg.vi) (f s4 4 _ rfl) ?_
      simp -implicitDefEqProofs
      refine eff_call ((Gd.Load_spec bg.most bg.its bg.vi w0 w4 _ hb.lits (rw_ hb.its) s4).mono ?_)
      intro r w5 h5
      rw [if_pos hlg] at h5
      obtain ⟨g, rfl, s5⟩ := h5
      have s5 : St w0 (A * pt b (.cells bg.cs.toArray 27 (0, 0)) * (Pu.rpur q P * Gd.rgs gr bg.most bg.its * Pu.pur p P * Gd.gds g bg.most bg.its)) w5 := s5.to (by ac_rfl)
      simp -implicitDefEqProofs
      refine eff_ldc (v := bg.vr) (f s5 5 _ rfl) ?_
      simp -implicitDefEqProofs
      refine eff_call ((lent_spec bg.rows bg.vr w0 w5 _ hb.lrows (rw_ hb.rows) s5).mono ?_)
      intro lv w6 s6
      have s6 : St w0 (A * pt b (.cells bg.cs.toArray 27 (0, 0)) * (lentA lv bg.rows * Pu.pur p P * Gd.gds g bg.most bg.its * Pu.rpur q P * Gd.rgs gr bg.most bg.its)) w6 := s6.to (by ac_rfl)
      simp -implicitDefEqProofs
      refine eff_ldc (v := bg.vr) (f s6 5 _ rfl) ?_
      simp -implicitDefEqProofs
      have s6 : St w0 (A * pt b (.cells bg.cs.toArray 27 (0, 0)) * (lentA lv bg.rows * Pu.pur p P * Gd.gds g bg.most bg.its) * Pu.rpur q P * Gd.rgs gr bg.most bg.its) w6 := s6.to (by ac_rfl)
      refine eff_call ((rLoad_spec q gr bg.lim bg.most bg.rows bg.vr P bg.its w0 w6 _ hP (by have := hb.lrows; omega) hb.eachR (rw_ hb.rows) s6).mono ?_)
      rintro r w7 (⟨hz, sr, rfl, s7⟩ | ⟨hz, rfl, s7⟩)
      · have hE := load_ei hP hG hz
        simp -implicitDefEqProofs
        obtain ⟨E, hEe⟩ : ∃ E : Eco, (⟨P, bg.its, bg.rows⟩ : Eco) = E := ⟨_, rfl⟩
        rw [hEe] at s7 hE
        have s8 : St w0 (A * pt b (.cells bg.cs.toArray 27 (0, 0)) * recoA q gr sr bg.most E * lentA lv bg.rows * Pu.pur p P * Gd.gds g bg.most bg.its) w7 := s7.to (by ac_rfl)
        refine eff_call ((Load_spec p g bg.lim bg.most bg.rows lv P bg.its w0 w7 _ hP (by have := hb.lrows; omega) hb.eachR (lent_row s8.drop.drop) s8).mono ?_)
        rintro r w8 (⟨_, s', rfl, s9⟩ | ⟨hz', _⟩)
        · rw [hEe] at s9
          have s9 : St w0 (A * pt b (.cells bg.cs.toArray 27 (0, 0)) * (recoA q gr sr bg.most E * lentA lv bg.rows * ecoA p g s' bg.most E)) w8 := s9.to (by ac_rfl)
          simp -implicitDefEqProofs
          refine eff_ldc (v := bg.vr) (f s9 5 _ rfl) ?_
          simp -implicitDefEqProofs
          refine eff_call ((kept_spec bg.rows lv bg.vr w0 w8 (A * pt b (.cells bg.cs.toArray 27 (0, 0)) * (recoA q gr sr bg.most E * ecoA p g s' bg.most E)) hb.lrows (rw_ hb.rows) (s9.to (by ac_rfl))).mono ?_)
          rintro r w9 ⟨rfl, s10⟩
          simp -implicitDefEqProofs
          obtain ⟨gl, cap, rfl, s11⟩ := lent_spoil _ s10
          refine loopI (fun env w' => ∃ (i : Nat) (l' : List Rw), env = [.agg bg.cs.toArray, .pointer (some ⟨b, 0, none⟩), .pointer none, .bool false, .bool false, .pointer (some ⟨q, 0, none⟩), .int .i64 0, .pointer (some ⟨gr, 0, none⟩), .int .i64 0, .pointer (some ⟨p, 0, none⟩), .int .i64 0, .pointer (some ⟨g, 0, none⟩), .int .i64 0, .slice (some ⟨gl, 0, none⟩) bg.rows.length cap, .pointer (some ⟨sr, 0, none⟩), .int .i64 0, .pointer (some ⟨s', 0, none⟩), .int .i64 0, .int .i64 i] ∧ i ≤ bg.rows.length ∧ l'.length = bg.rows.length ∧
              St w0 (A * pt b (.cells bg.cs.toArray 27 (0, 0)) * (recoA q gr sr bg.most E * ecoA p g s' bg.most E) * own 98 2 (.slice (some ⟨gl, 0, none⟩) bg.rows.length cap) bg.rows.length (rflat l')) w')
            (fun env _ => bg.rows.length - slotN env 18) ⟨0, bg.rows, rfl, by omega, rfl, s11⟩ ?_
          clear s s1 s2 s3 s4 s5 s6 s7 s8 s9 s10 s11
          rintro LQ env w' ⟨i, l', rfl, hi, hl', s5⟩ hN hX hR
          simp -implicitDefEqProofs
          have hlr := hb.lrows
          refine cndI (fun hc => ?_) (fun hc => ?_)
          · simp at hc
            simp -implicitDefEqProofs [hc, Instr.fill, Value.cells]
            have hfl : (rflat l').length = l'.length * 2 := rflat_len l'
            refine eff_stR (vs := Rw.cs (1, 1)) s5 rfl rfl (rw_one _) (by omega) ?_
            intro w6 s6
            rw [show rflat l' = l'.flatMap Rw.cs from rfl, flat_set Rw.cs 2 (fun _ => rfl) _ l' i (by omega)] at s6
            simp -implicitDefEqProofs
            try simp (disch := omega) only [wrap64]
            exact hN _ _ ⟨i + 1, _, by simp, by omega, by rw [List.length_set]; exact hl', s6⟩ (by simp [slotN]; omega)
          simp at hc
          simp -implicitDefEqProofs
          refine hX _ _ _ ?_
          simp -implicitDefEqProofs [Instr.fill, Value.cells]
          refine eff_box s5.drop fun wd w10 s12 => ?_
          simp -implicitDefEqProofs
          have s12 : St w0 (A * pt b (.cells bg.cs.toArray 27 (0, 0)) * (recoA q gr sr bg.most E * ecoA p g s' bg.most E) * deskA wd p g s' sr) w10 := s12
          exact ⟨p, g, s', q, gr, sr, E, hE, by rw [← hEe], s12.cut (pt b (.cells bg.cs.toArray 27 (0, 0))) (by ac_rfl)⟩
        · exact absurd hz hz'
      · simp -implicitDefEqProofs
        have s8 : St w0 (A * pt b (.cells bg.cs.toArray 27 (0, 0)) * (Pu.rpur q P * Gd.rgs gr bg.most bg.its) * lentA lv bg.rows * Pu.pur p P * Gd.gds g bg.most bg.its) w7 := s7.to (by ac_rfl)
        refine eff_call ((Load_spec p g bg.lim bg.most bg.rows lv P bg.its w0 w7 _ hP (by have := hb.lrows; omega) hb.eachR (lent_row s8.drop.drop) s8).mono ?_)
        rintro r w8 (⟨hz', _⟩ | ⟨_, rfl, s9⟩)
        · exact absurd hz' hz
        have s9 : St w0 (A * pt b (.cells bg.cs.toArray 27 (0, 0)) * lentA lv bg.rows) w8 := s9.cut (Pu.rpur q P * Gd.rgs gr bg.most bg.its * Pu.pur p P * Gd.gds g bg.most bg.its) (by ac_rfl)
        simp -implicitDefEqProofs
        refine eff_ldc (v := bg.vr) (f s9 5 _ rfl) ?_
        simp -implicitDefEqProofs
        refine eff_call ((kept_spec bg.rows lv bg.vr w0 w8 (A * pt b (.cells bg.cs.toArray 27 (0, 0))) hb.lrows (hb.rows.mono fun w s => s.drop) s9).mono ?_)
        rintro r w9 ⟨rfl, s10⟩
        simp -implicitDefEqProofs
        obtain ⟨gl, cap, rfl, s11⟩ := lent_spoil _ s10
        refine loopI (fun env w' => ∃ (i : Nat) (l' : List Rw), env = [.agg bg.cs.toArray, .pointer (some ⟨b, 0, none⟩), .pointer none, .bool false, .bool false, .pointer (some ⟨q, 0, none⟩), .int .i64 0, .pointer (some ⟨gr, 0, none⟩), .int .i64 0, .pointer (some ⟨p, 0, none⟩), .int .i64 0, .pointer (some ⟨g, 0, none⟩), .int .i64 0, .slice (some ⟨gl, 0, none⟩) bg.rows.length cap, .pointer none, .int .i64 (escE bg.rows P.held), .pointer none, .int .i64 (escE bg.rows P.held), .int .i64 i] ∧ i ≤ bg.rows.length ∧ l'.length = bg.rows.length ∧
            St w0 (A * pt b (.cells bg.cs.toArray 27 (0, 0)) * own 98 2 (.slice (some ⟨gl, 0, none⟩) bg.rows.length cap) bg.rows.length (rflat l')) w')
          (fun env _ => bg.rows.length - slotN env 18) ⟨0, bg.rows, rfl, by omega, rfl, s11⟩ ?_
        clear s s1 s2 s3 s4 s5 s6 s7 s8 s9 s10 s11
        rintro LQ env w' ⟨i, l', rfl, hi, hl', s5⟩ hN hX hR
        simp -implicitDefEqProofs
        have hlr := hb.lrows
        refine cndI (fun hc => ?_) (fun hc => ?_)
        · simp at hc
          simp -implicitDefEqProofs [hc, Instr.fill, Value.cells]
          have hfl : (rflat l').length = l'.length * 2 := rflat_len l'
          refine eff_stR (vs := Rw.cs (1, 1)) s5 rfl rfl (rw_one _) (by omega) ?_
          intro w6 s6
          rw [show rflat l' = l'.flatMap Rw.cs from rfl, flat_set Rw.cs 2 (fun _ => rfl) _ l' i (by omega)] at s6
          simp -implicitDefEqProofs
          try simp (disch := omega) only [wrap64]
          exact hN _ _ ⟨i + 1, _, by simp, by omega, by rw [List.length_set]; exact hl', s6⟩ (by simp [slotN]; omega)
        simp at hc
        simp -implicitDefEqProofs
        refine hX _ _ _ ?_
        simp -implicitDefEqProofs [Instr.fill, Value.cells]
        refine eff_box s5.drop fun wd w10 s12 => ?_
        simp -implicitDefEqProofs
        exact s12.drop.drop
    · rw [if_neg hlg] at h3
      obtain ⟨rfl, s3⟩ := h3
      simp -implicitDefEqProofs [hlg]
      exact s3.drop.drop
  · rw [if_neg hlp] at h2
    obtain ⟨rfl, s2⟩ := h2
    simp -implicitDefEqProofs
    refine eff_ldc (v := .int .i64 bg.most) (f s2 3 _ rfl) ?_
    simp -implicitDefEqProofs
    refine eff_ldc (v := bg.vi) (f s2 4 _ rfl) ?_
    simp -implicitDefEqProofs
    refine eff_call ((Gd.rLoad_spec bg.most bg.its bg.vi w0 w2 _ hb.lits (rw_ hb.its) s2).mono ?_)
    intro r w3 h3
    have out : ∀ {w : World}, (if Gd.loadE bg.most bg.its = 0 then ∃ p, r = .tuple #[.pointer (some ⟨p, 0, none⟩), .int .i64 0] ∧ St w0 (A * pt b (.cells bg.cs.toArray 27 (0, 0)) * emp * Gd.rgs p bg.most bg.its) w else r = .tuple #[.pointer none, .int .i64 (Gd.loadE bg.most bg.its)] ∧ St w0 (A * pt b (.cells bg.cs.toArray 27 (0, 0)) * emp) w) → St w0 A w ∧ ∃ q e, r = .tuple #[.pointer q, .int .i64 e] := fun h => by
      split at h
      · obtain ⟨q, rfl, h⟩ := h; exact ⟨h.drop.drop.drop, _, _, rfl⟩
      · obtain ⟨rfl, h⟩ := h; exact ⟨h.drop.drop, _, _, rfl⟩
    obtain ⟨s4, q, e, rfl⟩ := out h3
    simp -implicitDefEqProofs [hlp]
    exact s4
set_option maxHeartbeats 1000000 in
theorem plays_walk (bg : Begin) (ops : List So) (vo : Value) (w0 w : World) (A : Asn) (h0 : w0.drawn = 0) (hb : bg.ok w0 A) (hn : bg.rows.length + ops.length ≤ 1048576) (hr : Row w0 A vo ops.length 8 (oflat ops))
    (hx : ∀ o ∈ ops, o.ok w0 A) (s : St w0 A w) :
    CallW Tryz.prog 4 [.agg bg.cs.toArray, vo] (fun r w' => r = .bool true ∧ St w0 A w') w := by
  obtain ⟨oa, ocap, rfl⟩ := hr.val
  refine callW_of_lift l4_ok (by simp [l4]) ?_
  simp [l4]
  refine eff_box s fun b w1 s1 => ?_
  have s1 : St w0 (A * pt b (.cells bg.cs.toArray 27 (0, 0))) w1 := s1
  simp -implicitDefEqProofs
  refine eff_ldcs (vs := bg.cs) s1.row_cells rfl ?_
  simp -implicitDefEqProofs
  have hb' : bg.ok w0 (A * pt b (.cells bg.cs.toArray 27 (0, 0))) := ⟨hb.lim, hb.most, hb.sup, hb.accs.mono fun w s => s.drop, hb.its.mono fun w s => s.drop, hb.rows.mono fun w s => s.drop, hb.laccs, hb.lits, hb.lrows, hb.each, hb.eachR⟩
  refine eff_call ((begun_spec bg w0 w1 _ hb' s1).mono ?_)
  rintro r w2 (⟨pv, rfl, s2⟩ | ⟨wd, p, g, s', q, gr, sr, E, rfl, hE, hEl, s2⟩)
  · simp -implicitDefEqProofs
    refine eff_call ((awake_spec w0 w2 _ s2).mono ?_)
    rintro r w3 ⟨rfl, s3⟩
    simp -implicitDefEqProofs
    exact s3.drop
  simp -implicitDefEqProofs
  refine loopI (fun env w' => ∃ (i p g s' : Nat) (E : Eco), env = [.agg bg.cs.toArray, .slice oa ops.length ocap, .pointer (some ⟨b, 0, none⟩), .bool false, .pointer (some ⟨wd, 0, none⟩), .bool false, .bool true, .int .i64 i] ∧ i ≤ ops.length ∧ EI bg.lim bg.most E ∧ E.l.length ≤ bg.rows.length + i ∧
      St w0 (A * pt b (.cells bg.cs.toArray 27 (0, 0)) * deskA wd p g s' sr * ecoA p g s' bg.most E * recoA q gr sr bg.most E) w')
    (fun env _ => ops.length - slotN env 7) ⟨0, p, g, s', E, rfl, by omega, hE, by rw [hEl]; omega, s2⟩ ?_
  clear s2 s1 hE hEl
  clear E
  rintro LQ env w' ⟨i, p, g, s', E, rfl, hi, hE, hll, s2⟩ hN hX hR
  simp -implicitDefEqProofs
  refine cndI (fun hc => ?_) (fun hc => ?_)
  · simp at hc
    obtain ⟨og, oo, ocap', hv, hcell⟩ := hr.at (by omega)
    cases hv
    simp -implicitDefEqProofs [hc]
    refine eff_ldcs (vs := ops[i].cs) (fun j u hu => by rw [Nat.add_assoc]; exact hcell w' s2.drop.drop.drop.drop _ _ (oflat_at hc j u hu)) rfl ?_
    simp -implicitDefEqProofs
    have ho := (hx ops[i] (List.getElem_mem hc)).mono (B := A * pt b (.cells bg.cs.toArray 27 (0, 0))) fun w s => s.drop
    refine eff_call ((plays_spec wd p g s' q gr sr bg.lim bg.most ops[i] E w0 w' _ h0 ho hE (by omega) s2).mono ?_)
    rintro r w3 ⟨rfl, p2, g2, s3, s4⟩
    simp -implicitDefEqProofs
    try simp (disch := omega) only [wrap64]
    exact hN _ _ ⟨i + 1, p2, g2, s3, _, by simp, by omega, play_ei hE ho, by have := play_len hE ho; omega, s4⟩ (by simp [slotN]; omega)
  simp at hc
  simp -implicitDefEqProofs
  refine hX _ _ _ ?_
  simp -implicitDefEqProofs
  refine eff_call ((told_spec wd p g s' q gr sr bg.lim bg.most E w0 w' _ h0 hE (by omega) s2).mono ?_)
  rintro r w3 ⟨rfl, s3⟩
  simp -implicitDefEqProofs
  exact s3.drop.drop.drop.drop
end Go.HL.Es

namespace Go.HL.Es
open Go.HL Go.Proofs
set_option maxRecDepth 4000
set_option linter.unusedSimpArgs false
set_option linter.unusedVariables false
end Go.HL.Es

namespace Go.HL
open Go.HL
def World.fresh (W : World) : World := { W with drawn := 0 }
theorem St.start0 (W : World) : St (World.fresh W) (old W) W := ⟨rfl, rfl, Nat.le_refl _, ⟨rfl, Nat.zero_le _⟩, _, fun _ _ h => h, rfl⟩
theorem St.kept0 {w0 w : World} (s : St (World.fresh w0) (old w0) w) (may : MemPlace → Prop) : w0.keptBut w may := by
  suffices hk : w0.keptBut w (fun _ => False) from World.keptBut_mono (fun _ f => f.elim) hk
  refine ⟨s.os, s.out, fun i hi => ?_⟩
  have h0 : w0.heap[i]? = some w0.heap[i] := by simp [hi]
  rw [s.lookOld0 h0, h0]
  generalize w0.heap[i] = o
  cases o <;> simp
theorem St.frz0 {w0 w : World} (s : St (World.fresh w0) (old w0) w) {a : Addr} (h : a.block < w0.heap.size) : w.frozen? a = w0.frozen? a := by
  unfold World.frozen?
  have h0 : w0.heap[a.block]? = some w0.heap[a.block] := by simp [h]
  rw [s.lookOld0 h0, h0]
theorem St.same0 {w0 w : World} (s : St (World.fresh w0) (old w0) w) {p : MemPlace} (hb : p.block < w0.heap.size) : w0.sameAt w p := by
  have h0 : w0.heap[p.block]? = some w0.heap[p.block] := by simp [hb]
  have h1 : w.heap[p.block]? = w0.heap[p.block]? := by rw [s.lookOld0 h0, h0]
  cases p with
  | cell b o =>
    simp only [MemPlace.block] at h1
    show w.cell? ⟨b, o, none⟩ = w0.cell? ⟨b, o, none⟩
    unfold World.cell?
    simp only [h1]
  | map b => exact h1
open Go.WideShapes Go.ChangeShapes in
theorem post_of_old0 {H : Type} {enc : TypeId × Value → H} {P : Program} {f : Func} {s : ChangeSpec} {apart fresh handsOn again : Bool} {W W' : World} (hst : St (World.fresh W) (old W) W') {args : Array Value} {v : Value} {ds gs : List (DataW H)} {before pa pv : List MemPlace}
    (hW : DataW.Whole enc P f.params.toList s.vars apart W args.toList ds gs before)
    (hres : ∀ (b : Nat) (sp : Nat → Bool) (hd : Bool), DataW.TrodAll enc P W' b sp hd f.resultTypes.toList (v.resultList f.resultTypes.size) (s.fn H (ds ++ gs)).results [])
    (hargs : ∀ sp : Nat → Bool, (∀ p ∈ before, sp p.block = true) → DataW.TrodAll enc P W' 0 sp true f.params.toList args.toList (s.fn H (ds ++ gs)).args pa)
    (hvars : ∀ sp : Nat → Bool, (∀ p ∈ before, sp p.block = true) → DataW.TrodVars enc P W' sp s.vars (s.fn H (ds ++ gs)).vars pv)
    (hps : before = pa ++ pv)
    (hok : ∀ (j : Nat) (t : TypeId) (r : Value), f.resultTypes[j]? = some t → (v.resultList f.resultTypes.size)[j]? = some r → Value.okWide P W' .any 0 t r) :
    s.post enc P f apart fresh handsOn again W args v W' := by
  have hlt := hW.lt
  have hold : ∀ p ∈ before, (fun b => decide (b < W.heap.size)) p.block = true := fun p hp => by simpa using hlt p hp
  refine ⟨ds, gs, before, [], pa, pv, hW, hres _ _ _, hargs _ hold, hvars _ hold, hst.kept0 _, fun _ => ?_⟩
  obtain ⟨_, _, _, _, _, hz, hn⟩ := hW
  refine ⟨hok, _, _, ([] ++ pa) ++ pv, ⟨[] ++ pa, pv, trodAll_append (hargs _ (fun _ _ => rfl)) (hres _ _ _), hvars _ (fun _ _ => rfl), rfl, ?_, ?_⟩, ?_⟩
  · intro b off hp
    have hp' : MemPlace.cell b off ∈ before := by rw [hps]; simpa using hp
    rw [hst.frz0 (hlt _ hp')]
    exact hz b off hp'
  · intro ha
    have := hn ha
    rw [hps] at this
    simpa using this
  · intro p hp _
    rw [hps]
    simpa using hp
end Go.HL

namespace Go.HL.Es
open Go.HL Go.Proofs Go.Deep
set_option maxRecDepth 4000
set_option linter.unusedSimpArgs false
set_option linter.unusedVariables false
theorem row_fresh {W : World} {v : Value} {n size : Nat} {xs : List Value} (h : Row W (old W) v n size xs) : Row (World.fresh W) (old W) v n size xs := by
  obtain ⟨hl, a, cap, rfl, hn, h⟩ := h
  refine ⟨hl, a, cap, rfl, hn, ?_⟩
  rcases h with h | ⟨g, o, rfl, hc⟩
  · exact .inl h
  · refine .inr ⟨g, o, rfl, fun w s j u hu => ?_⟩
    have h0 := hc W (St.start W) j u hu
    have hb : g < W.heap.size := by
      by_cases hb : g < W.heap.size
      · exact hb
      · unfold World.cell? at h0
        have : W.heap[g]? = none := by simp; omega
        simp [this] at h0
    have h1 : w.cell? ⟨g, o + j, none⟩ = W.cell? ⟨g, o + j, none⟩ := s.same0 (p := .cell g (o + j)) hb
    rw [h1]; exact h0
theorem Begin.ok.fresh {b : Begin} {W : World} (h : b.ok W (old W)) : b.ok (World.fresh W) (old W) :=
  ⟨h.lim, h.most, h.sup, row_fresh h.accs, row_fresh h.its, row_fresh h.rows, h.laccs, h.lits, h.lrows, h.each, h.eachR⟩
section
variable {H : Type} {enc : TypeId × Value → H} {W : World} {base : Nat} {spare : Nat → Bool} {held : Bool} {fuel : Nat} {cs : List Value} {x : DataW H × List MemPlace}
theorem open_ent1 (hx : DataW.trod enc Tryz.prog W base spare held fuel 46 cs = some x) : ∃ e : Ew, cs = e.cs ∧ e.wv.oneCell' = true ∧ 0 ≤ e.x.coins ∧ e.x.coins < 18446744073709551616 := by
  obtain ⟨hl, n', hf⟩ := open_field Tryz.underlying46 hx
  have hl2 : cs.length = 5 := hl.trans (by kernel_rfl)
  match cs, hl2 with
  | [c0, c1, c2, c3, c4], _ =>
    obtain ⟨y0, k0, _⟩ := hf 0 _ rfl
    obtain ⟨y1, k1, _⟩ := hf 1 _ rfl
    obtain ⟨y2, k2, _⟩ := hf 2 _ rfl
    obtain ⟨y3, k3, _⟩ := hf 3 _ rfl
    obtain ⟨y4, k4, _⟩ := hf 4 _ rfl
    obtain ⟨m0, e0, x0, w0⟩ := DataW.trod_int Tryz.underlying3 k0
    obtain ⟨m1, e1, x1, w1⟩ := DataW.trod_int Tryz.underlying3 k1
    obtain ⟨m2, e2, x2, w2⟩ := DataW.trod_int Tryz.underlying23 k2
    obtain ⟨m3, e3, x3, w3⟩ := DataW.trod_int Tryz.underlying23 k3
    obtain ⟨wv, l, e4, o4, _⟩ := open_ints k4
    have f0 : [c0] = [Value.int .i64 m0] := e0
    have f1 : [c1] = [Value.int .i64 m1] := e1
    have f2 : [c2] = [Value.int .u64 m2] := e2
    have f3 : [c3] = [Value.int .u64 m3] := e3
    have f4 : [c4] = [wv] := e4
    cases f0; cases f1; cases f2; cases f3; cases f4
    have h2 := open_u64 w2
    exact ⟨⟨⟨m0, m1, m2⟩, m3, c4⟩, rfl, o4, h2.1, by simp only; omega⟩
theorem open_giftF (h : DataW.trod enc Tryz.prog W base spare held fuel 43 cs = some x) :
    ∃ (v : Value) (l : List Gf), cs = [v] ∧ v.oneCell' = true ∧ Row W (old W) v l.length 3 (gflat l) ∧ l.length ≤ Go.Proofs.YtiokklaedanjbaaGreat.Rows.uptoBulk x.1 ∧ ∀ x ∈ l, 0 ≤ x.coins ∧ x.coins < 18446744073709551616 := by
  obtain ⟨v, rows, h1, h2, h3, h4, h5, _⟩ := open_erows (α := Gf) Gf.cs 3 (fun x => 0 ≤ x.coins ∧ x.coins < 18446744073709551616) (fun _ => 0) Tryz.underlying43 (by kernel_rfl) (by decide) (fun _ => rfl) (fun n cs x hx => by
    obtain ⟨hl, n', hf⟩ := open_field Tryz.underlying110 hx
    have hl2 : cs.length = 3 := hl.trans (by kernel_rfl)
    match cs, hl2 with
    | [c0, c1, c2], _ =>
      obtain ⟨y0, k0, _⟩ := hf 0 _ rfl
      obtain ⟨y1, k1, _⟩ := hf 1 _ rfl
      obtain ⟨y2, k2, _⟩ := hf 2 _ rfl
      obtain ⟨m0, e0, x0, w0⟩ := DataW.trod_int Tryz.underlying3 k0
      obtain ⟨m1, e1, x1, w1⟩ := DataW.trod_int Tryz.underlying3 k1
      obtain ⟨m2, e2, x2, w2⟩ := DataW.trod_int Tryz.underlying23 k2
      have f0 : [c0] = [Value.int .i64 m0] := e0
      have f1 : [c1] = [Value.int .i64 m1] := e1
      have f2 : [c2] = [Value.int .u64 m2] := e2
      cases f0; cases f1; cases f2
      have h2 := open_u64 w2
      exact ⟨⟨m0, m1, m2⟩, rfl, ⟨h2.1, by simp only; omega⟩, Nat.zero_le _⟩) h
  exact ⟨v, rows, h1, h2, h4, h5, h3⟩
structure So.ok0 (o : So) (W : World) : Prop where
  con : -9223372036854775808 ≤ o.con ∧ o.con < 9223372036854775808
  gv : o.gv.oneCell' = true
  row : Row W (old W) o.gv o.gs.length 3 (gflat o.gs)
  gs : ∀ x ∈ o.gs, 0 ≤ x.coins ∧ x.coins < 18446744073709551616
  wv : o.e.wv.oneCell' = true
  coins : 0 ≤ o.e.x.coins ∧ o.e.x.coins < 18446744073709551616
theorem open_opF (h : DataW.trod enc Tryz.prog W base spare held fuel 28 cs = some x) :
    ∃ (v : Value) (l : List So), cs = [v] ∧ Row W (old W) v l.length 8 (oflat l) ∧ l.length ≤ Go.Proofs.YtiokklaedanjbaaGreat.Rows.uptoBulk x.1 ∧ ∀ o ∈ l, o.ok0 W ∧ o.gs.length ≤ Go.Proofs.YtiokklaedanjbaaGreat.Rows.uptoBulk x.1 := by
  obtain ⟨v, rows, h1, h2, h3, h4, h5, h6⟩ := open_erows (α := So) So.cs 8 (fun o => o.ok0 W) (fun o => o.gs.length) Tryz.underlying28 (by kernel_rfl) (by decide) (fun _ => rfl) (fun n cs x hx => by
    obtain ⟨hl, n', hf⟩ := open_field Tryz.underlying48 hx
    have hl2 : cs.length = 8 := hl.trans (by kernel_rfl)
    match cs, hl2 with
    | [c0, c1, c2, c3, c4, c5, c6, c7], _ =>
      obtain ⟨y0, k0, _⟩ := hf 0 _ rfl
      obtain ⟨y1, k1, _⟩ := hf 1 _ rfl
      obtain ⟨y2, k2, b2⟩ := hf 2 _ rfl
      obtain ⟨y3, k3, _⟩ := hf 3 _ rfl
      obtain ⟨m0, e0, x0, w0⟩ := DataW.trod_int Tryz.underlying3 k0
      obtain ⟨m1, e1, x1, w1⟩ := DataW.trod_int Tryz.underlying3 k1
      obtain ⟨gv, gs, e2, o2, r2, n2, q2⟩ := open_giftF k2
      obtain ⟨e, e3, o3, q3⟩ := open_ent1 k3
      have f0 : [c0] = [Value.int .i64 m0] := e0
      have f1 : [c1] = [Value.int .i64 m1] := e1
      have f2 : [c2] = [gv] := e2
      have f3 : [c3, c4, c5, c6, c7] = e.cs := e3
      cases f0; cases f1; cases f2
      have h1 := open_i64 w1
      refine ⟨⟨m0, m1, c2, gs, e⟩, by simp only [So.cs, ← f3]; rfl, ⟨⟨h1.1, by simp only; omega⟩, o2, r2, q2, o3, q3⟩, Nat.le_trans n2 b2⟩) h
  exact ⟨v, rows, h1, h4, h5, fun o ho => ⟨h3 o ho, h6 o ho⟩⟩
end
theorem open_ops {H : Type} {enc : TypeId × Value → H} {W : World} {spare : Nat → Bool} {v : Value} {d : DataW H} {ps : List MemPlace} (h : DataW.Trod enc Tryz.prog W 0 spare true 28 v d ps) {base : Nat} (hval : Value.okWide Tryz.prog W .any base 28 v)
    (hb : Go.Proofs.YtiokklaedanjbaaGreat.Rows.uptoBulk d ≤ 1048576) :
    ∃ l : List So, Row (World.fresh W) (old W) v l.length 8 (oflat l) ∧ l.length ≤ Go.Proofs.YtiokklaedanjbaaGreat.Rows.uptoBulk d ∧ ∀ o ∈ l, o.ok (World.fresh W) (old W) := by
  obtain ⟨va, vl, vc, rfl⟩ := Go.WideShapes.okWide_slice Tryz.underlying28 hval
  obtain ⟨n, h⟩ := h
  obtain ⟨v, l, h1, h2, h3, h4⟩ := open_opF h
  have h1 : [Value.slice va vl vc] = [v] := by simpa [Value.cells] using h1
  cases h1
  refine ⟨l, row_fresh h2, h3, fun o ho => ?_⟩
  obtain ⟨k, kl⟩ := h4 o ho
  exact ⟨k.con, k.gv, row_fresh k.row, by simp only at kl; omega, k.gs, k.wv, k.coins⟩
end Go.HL.Es
