/-
  What the claim leans on, part 14 of 14. Conditions: as each theorem says.
-/
import Derived.Test.YtdeidghdeijcaaaGreatMHMm
import Derived.Lib.Bytealg
namespace Go.HL.Nm
open Go.HL Go.Proofs
set_option maxRecDepth 4000
set_option linter.unusedSimpArgs false
set_option linter.unusedVariables false
end Go.HL.Nm

namespace Go.HL.Nm
open Go.HL Go.Proofs
set_option maxRecDepth 4000
set_option linter.unusedSimpArgs false
set_option linter.unusedVariables false
end Go.HL.Nm

namespace Go.HL.Nm
open Go.HL
set_option maxRecDepth 4000
set_option linter.unusedSimpArgs false
set_option linter.unusedVariables false
def contB (b : UInt8) : Bool := decide (128 ≤ b.toNat) && decide (b.toNat ≤ 191)
def lead : List Int → List UInt8
  | [] => []
  | u :: us => if 2097280 ≤ u ∧ u ≤ 2097343 then UInt8.ofNat (u.toNat - 2097152) :: lead us else []
def goodU : List Int → Prop
  | [] => True
  | u :: us => (2097152 ≤ u → oneF (UInt8.ofNat (u.toNat - 2097152) :: lead us) = (u, 1)) ∧ goodU us
structure Mild (f : Int → List Int) : Prop where
  bad : ∀ u, 2097152 ≤ u → f u = [u]
  fine : ∀ u, u < 2097152 → f u ≠ [] ∧ ∀ x ∈ f u, x < 2097152
end Go.HL.Nm

namespace Go.HL.Nm
open Go.HL
set_option maxRecDepth 4000
set_option linter.unusedSimpArgs false
set_option linter.unusedVariables false
def noP : List Int → Prop
  | a :: b :: r => ¬ (a = 114 ∧ b = 110) ∧ ¬ (a = 118 ∧ b = 118) ∧ noP (b :: r)
  | _ => True


end Go.HL.Nm

namespace Go.HL.Pu
open Go.HL Go.HL.Nm Go.Proofs
set_option maxRecDepth 4000
set_option linter.unusedSimpArgs false
set_option linter.unusedVariables false
def strs (l : List Ac) : List Value := l.map fun x => .string (mk x.name)
def anyK (x : List UInt8) (l : List Ac) : Bool := l.any fun r => decide (keyF r.name = keyF x)
end Go.HL.Pu

namespace Go.HL.Pu
open Go.HL Go.HL.Nm Go.Proofs
set_option maxRecDepth 4000
set_option linter.unusedSimpArgs false
set_option linter.unusedVariables false
structure Gd (rows : List Ac) : Prop where
  len : 1 ≤ rows.length ∧ rows.length ≤ 64
  names : ∀ i, (h : i < rows.length) → rows[i].name.length ≤ 1048576
  keys : (keys rows).Nodup
end Go.HL.Pu

namespace Go.HL.Pu
open Go.HL Go.HL.Nm Go.Proofs
set_option maxRecDepth 4000
set_option linter.unusedSimpArgs false
set_option linter.unusedVariables false
def mineK (l : List Int) (i : Int) : Bool := l.any fun n => decide (n = i)
def clsT (S : World → Prop) : List Value → World → Prop
  | [], w => S w
  | r :: _, w => r = .bool true ∧ S w
@[simp] theorem clsT_nil (S : World → Prop) (w : World) : clsT S [] w = S w := rfl
@[simp] theorem clsT_cons (S : World → Prop) (v : Value) (l : List Value) (w : World) : clsT S (v :: l) w = (v = .bool true ∧ S w) := rfl
end Go.HL.Pu

namespace Go.HL.Pu
open Go.HL Go.HL.Nm Go.Proofs
set_option maxRecDepth 4000
set_option linter.unusedSimpArgs false
set_option linter.unusedVariables false
def sps (l : List Sp) : List Value := l.flatMap Sp.cs
end Go.HL.Pu

namespace Go.HL.Pu
open Go.HL Go.HL.Nm Go.Proofs
set_option maxRecDepth 4000
set_option linter.unusedVariables false
end Go.HL.Pu

namespace Go.HL.Pu
open Go.HL Go.HL.Nm Go.Proofs
set_option maxRecDepth 4000
set_option linter.unusedSimpArgs false
set_option linter.unusedVariables false
def nms (l : List Ac) : List (List UInt8) := l.map Ac.name
structure NI (ns : List (List UInt8)) : Prop where
  chk : ∀ n ∈ ns, (checkF n).2 = 0
  nod : (ns.map keyF).Nodup
  bank : ns[0]? = some bankB
theorem new_PI {lim : Int} (h : 1 ≤ lim ∧ lim ≤ 64) : PI lim ⟨lim, [⟨bankB, 0⟩], 0, 0⟩ :=
  ⟨rfl, h, by simp; omega, by simp, Int.le_refl _, rfl, by show (0 : Int) ≤ _; decide, fun i hi => by
    have : i = 0 := by simpa using hi
    subst this
    simp [bankB]⟩
end Go.HL.Pu

namespace Go.HL.St0
open Go.HL Go.Proofs
set_option maxRecDepth 4000
set_option linter.unusedSimpArgs false
set_option linter.unusedVariables false
attribute [local irreducible] EffW
structure SU where
  seats : Int
  queue : Int
  quantum : Int
  settle : Int
  rate : Int
  burst : Int
  idle : Int
  acc : Int
  its : Int
  con : Int
  log : Int
  slot : Int
def SU.cs (x : SU) : List Value := [.int .i64 x.seats, .int .i64 x.queue, .int .i64 x.quantum, .int .i64 x.settle, .int .i64 x.rate, .int .i64 x.burst, .int .i64 x.idle, .int .i64 x.acc, .int .i64 x.its, .int .i64 x.con, .int .i64 x.log, .int .i64 x.slot]
def mayP (x : SU) : Prop := 1 ≤ x.acc ∧ x.acc ≤ 64 ∧ 0 ≤ x.its ∧ x.its ≤ 512 ∧ 1 ≤ x.con ∧ x.con ≤ 64
instance (x : SU) : Decidable (mayP x) := inferInstanceAs (Decidable (_ ∧ _))
noncomputable abbrev S0 : PF Tryz.prog := PF.none _

def r17_0 : RT := (.chk none (.bin .geq) (.cons (.bv 4) (.cons (.cst (.int .i64 0)) .nil)) (.isb none (.bv 3) (.bnd (.op (.bin .geq) (.cons (.bv 4) (.cons (.cst (.int .i64 0)) .nil))) (.chk (some ((.bv 5), true)) (.fld 8) (.cons (.inp 1) .nil) (.ite (.bv 5) true (.eff (.ld false 1) (.cons (.ite (.bv 5) true (.op (.fld 8) (.cons (.inp 1) .nil)) (.cst (.tuple #[]))) .nil) (.chk none (.bin .leq) (.cons (.bv 6) (.cons (.cst (.int .i64 512)) .nil)) (.isb none (.bv 5) (.bnd (.op (.bin .leq) (.cons (.bv 6) (.cons (.cst (.int .i64 512)) .nil))) (.chk (some ((.bv 7), true)) (.fld 9) (.cons (.inp 1) .nil) (.ite (.bv 7) true (.eff (.ld false 1) (.cons (.ite (.bv 7) true (.op (.fld 9) (.cons (.inp 1) .nil)) (.cst (.tuple #[]))) .nil) (.chk none (.bin .geq) (.cons (.bv 8) (.cons (.cst (.int .i64 1)) .nil)) (.isb none (.bv 7) (.bnd (.op (.bin .geq) (.cons (.bv 8) (.cons (.cst (.int .i64 1)) .nil))) (.chk (some ((.bv 9), true)) (.fld 9) (.cons (.inp 1) .nil) (.ite (.bv 9) true (.eff (.ld false 1) (.cons (.ite (.bv 9) true (.op (.fld 9) (.cons (.inp 1) .nil)) (.cst (.tuple #[]))) .nil) (.chk none (.bin .leq) (.cons (.bv 10) (.cons (.cst (.int .i64 64)) .nil)) (.isb none (.bv 9) (.done [(2, (.op (.bin .leq) (.cons (.bv 10) (.cons (.cst (.int .i64 64)) .nil))))] none)))) (.isb none (.bv 9) (.done [(2, (.cst (.bool false)))] none)))))))) (.isb none (.bv 7) (.isb none (.cst (.bool false)) (.done [(2, (.cst (.bool false)))] none))))))))) (.isb none (.bv 5) (.isb none (.cst (.bool false)) (.isb none (.cst (.bool false)) (.done [(2, (.cst (.bool false)))] none)))))))))
@[simp] theorem r17_0_wp : type_of% (@wpR r17_0 _ r17_0.eq_1) := wpR r17_0.eq_1
@[simp] theorem r17_0_wpq : type_of% (@wpRq r17_0 _ r17_0.eq_1) := wpRq r17_0.eq_1
@[simp] theorem r17_0_wpm : type_of% (@wpRm r17_0 _ r17_0.eq_1) := wpRm r17_0.eq_1
def r17_1 : RT := (.eff (.ld false 1) (.cons (.ite (.bv 3) true (.op (.fld 8) (.cons (.inp 1) .nil)) (.cst (.tuple #[]))) .nil) r17_0)
@[simp] theorem r17_1_wp : type_of% (@wpR r17_1 _ r17_1.eq_1) := wpR r17_1.eq_1
@[simp] theorem r17_1_wpq : type_of% (@wpRq r17_1 _ r17_1.eq_1) := wpRq r17_1.eq_1
@[simp] theorem r17_1_wpm : type_of% (@wpRm r17_1 _ r17_1.eq_1) := wpRm r17_1.eq_1
def r17_2 : RT := (.chk none (.bin .leq) (.cons (.bv 2) (.cons (.cst (.int .i64 64)) .nil)) (.isb none (.bv 1) (.bnd (.op (.bin .leq) (.cons (.bv 2) (.cons (.cst (.int .i64 64)) .nil))) (.chk (some ((.bv 3), true)) (.fld 8) (.cons (.inp 1) .nil) (.ite (.bv 3) true r17_1 (.isb none (.bv 3) (.isb none (.cst (.bool false)) (.isb none (.cst (.bool false)) (.isb none (.cst (.bool false)) (.done [(2, (.cst (.bool false)))] none))))))))))
@[simp] theorem r17_2_wp : type_of% (@wpR r17_2 _ r17_2.eq_1) := wpR r17_2.eq_1
@[simp] theorem r17_2_wpq : type_of% (@wpRq r17_2 _ r17_2.eq_1) := wpRq r17_2.eq_1
@[simp] theorem r17_2_wpm : type_of% (@wpRm r17_2 _ r17_2.eq_1) := wpRm r17_2.eq_1
def r17_3 : RT := (.eff (.ld false 1) (.cons (.ite (.bv 1) true (.op (.fld 7) (.cons (.inp 1) .nil)) (.cst (.tuple #[]))) .nil) r17_2)
@[simp] theorem r17_3_wp : type_of% (@wpR r17_3 _ r17_3.eq_1) := wpR r17_3.eq_1
@[simp] theorem r17_3_wpq : type_of% (@wpRq r17_3 _ r17_3.eq_1) := wpRq r17_3.eq_1
@[simp] theorem r17_3_wpm : type_of% (@wpRm r17_3 _ r17_3.eq_1) := wpRm r17_3.eq_1
def r17_4 : RT := (.chk none (.bin .geq) (.cons (.bv 0) (.cons (.cst (.int .i64 1)) .nil)) (.bnd (.op (.bin .geq) (.cons (.bv 0) (.cons (.cst (.int .i64 1)) .nil))) (.chk (some ((.bv 1), true)) (.fld 7) (.cons (.inp 1) .nil) (.ite (.bv 1) true r17_3 (.isb none (.bv 1) (.isb none (.cst (.bool false)) (.isb none (.cst (.bool false)) (.isb none (.cst (.bool false)) (.isb none (.cst (.bool false)) (.done [(2, (.cst (.bool false)))] none))))))))))
@[simp] theorem r17_4_wp : type_of% (@wpR r17_4 _ r17_4.eq_1) := wpR r17_4.eq_1
@[simp] theorem r17_4_wpq : type_of% (@wpRq r17_4 _ r17_4.eq_1) := wpRq r17_4.eq_1
@[simp] theorem r17_4_wpm : type_of% (@wpRm r17_4 _ r17_4.eq_1) := wpRm r17_4.eq_1
def h17_0 : HC := (.seq (.reg (.chk none (.fld 7) (.cons (.inp 1) .nil) (.eff (.ld false 1) (.cons (.op (.fld 7) (.cons (.inp 1) .nil)) .nil) r17_4))) .ret)
@[simp] theorem h17_0_wp : type_of% (@wpH h17_0 _ h17_0.eq_1) := wpH h17_0.eq_1
def l17 : Lifted := ⟨[0, 1, 2], 31, [.slot 2], (.seq (.reg (.eff (.box 41) (.cons (.inp 0) .nil) (.done [(1, (.bv 0)), (2, (.cst (.bool false)))] none))) h17_0)⟩
theorem l17_ok : liftFn S0 17 400 = some l17 := by kernel_rfl

def h8_0 : HC := (.seq (.reg (.eff (.ld true 12) (.cons (.inp 1) .nil) (.eff (.mkm 68 false) .nil (.chk none (.build (rl [(13, (.int .i64 0)), (3, (.pointer none)), (1, (.int .i64 0)), (1, (.map none))]) [(0, 12), (12, 1), (13, 1), (14, 1), (15, 1), (16, 1), (17, 1)] [0, 2, 3, 4, 6]) (.cons (.bv 0) (.cons (.inp 4) (.cons (.inp 5) (.cons (.inp 6) (.cons (.bv 1) .nil))))) (.eff (.box 70) (.cons (.op (.build (rl [(13, (.int .i64 0)), (3, (.pointer none)), (1, (.int .i64 0)), (1, (.map none))]) [(0, 12), (12, 1), (13, 1), (14, 1), (15, 1), (16, 1), (17, 1)] [0, 2, 3, 4, 6]) (.cons (.bv 0) (.cons (.inp 4) (.cons (.inp 5) (.cons (.inp 6) (.cons (.bv 1) .nil)))))) .nil) (.done [(2, (.bv 2)), (3, (.cst (.int .i64 0)))] none)))))) .ret)
@[simp] theorem h8_0_wp : type_of% (@wpH h8_0 _ h8_0.eq_1) := wpH h8_0.eq_1
def h8_1 : HC := (.seq (.reg (.eff (.call 20) (.cons (.inp 4) (.cons (.inp 5) .nil)) (.chk none (.ext 0) (.cons (.bv 0) .nil) (.chk none (.ext 1) (.cons (.bv 0) .nil) (.done [(6, (.op (.ext 0) (.cons (.bv 0) .nil)))] none))))) h8_0)
@[simp] theorem h8_1_wp : type_of% (@wpH h8_1 _ h8_1.eq_1) := wpH h8_1.eq_1
def h8_2 : HC := (.seq (.reg (.chk none (.fld 8) (.cons (.inp 1) .nil) (.eff (.ld false 1) (.cons (.op (.fld 8) (.cons (.inp 1) .nil)) .nil) (.eff (.call 19) (.cons (.bv 0) .nil) (.chk none (.ext 0) (.cons (.bv 1) .nil) (.chk none (.ext 1) (.cons (.bv 1) .nil) (.done [(5, (.op (.ext 0) (.cons (.bv 1) .nil)))] none))))))) h8_1)
@[simp] theorem h8_2_wp : type_of% (@wpH h8_2 _ h8_2.eq_1) := wpH h8_2.eq_1
def h8_3 : HC := (.seq (.reg (.chk none (.fld 7) (.cons (.inp 1) .nil) (.eff (.ld false 1) (.cons (.op (.fld 7) (.cons (.inp 1) .nil)) .nil) (.eff (.call 18) (.cons (.bv 0) .nil) (.chk none (.ext 0) (.cons (.bv 1) .nil) (.chk none (.ext 1) (.cons (.bv 1) .nil) (.done [(4, (.op (.ext 0) (.cons (.bv 1) .nil)))] none))))))) h8_2)
@[simp] theorem h8_3_wp : type_of% (@wpH h8_3 _ h8_3.eq_1) := wpH h8_3.eq_1
def h8_4 : HC := (.seq (.reg (.done [(2, (.cst (.pointer none))), (3, (.cst (.int .i64 2)))] none)) .ret)
@[simp] theorem h8_4_wp : type_of% (@wpH h8_4 _ h8_4.eq_1) := wpH h8_4.eq_1
def h8_5 : HC := (.seq (.br (.eff (.ld true 12) (.cons (.inp 1) .nil) (.eff (.call 17) (.cons (.bv 0) .nil) (.chk none (.un .not) (.cons (.bv 1) .nil) (.done [] (some (.op (.un .not) (.cons (.bv 1) .nil))))))) h8_4 .skip) h8_3)
@[simp] theorem h8_5_wp : type_of% (@wpH h8_5 _ h8_5.eq_1) := wpH h8_5.eq_1
def l8 : Lifted := ⟨[0, 1, 2, 3, 4, 6, 8], 38, [.slot 2, .slot 3], (.seq (.reg (.eff (.box 41) (.cons (.inp 0) .nil) (.done [(1, (.bv 0)), (2, (.cst (.pointer none))), (3, (.cst (.int .i64 0)))] none))) h8_5)⟩
theorem l8_ok : liftFn S0 8 400 = some l8 := by kernel_rfl

def h46_0 : HC := (.seq (.reg (.chk none .chkp (.cons (.inp 0) .nil) (.chk none (.fld 13) (.cons (.op .chkp (.cons (.inp 0) .nil)) .nil) (.eff (.ld false 1) (.cons (.op (.fld 13) (.cons (.op .chkp (.cons (.inp 0) .nil)) .nil)) .nil) (.done [(1, (.bv 0))] none))))) .ret)
@[simp] theorem h46_0_wp : type_of% (@wpH h46_0 _ h46_0.eq_1) := wpH h46_0.eq_1
def h46_1 : HC := (.seq (.reg (.done [(1, (.cst (.pointer none)))] none)) .ret)
@[simp] theorem h46_1_wp : type_of% (@wpH h46_1 _ h46_1.eq_1) := wpH h46_1.eq_1
def h46_2 : HC := (.seq (.br (.chk none (.eqNil false (.pointer 70) (.pointer none)) (.cons (.inp 0) .nil) (.done [] (some (.op (.eqNil false (.pointer 70) (.pointer none)) (.cons (.inp 0) .nil))))) h46_1 .skip) h46_0)
@[simp] theorem h46_2_wp : type_of% (@wpH h46_2 _ h46_2.eq_1) := wpH h46_2.eq_1
def l46 : Lifted := ⟨[0, 2], 9, [.slot 1], (.seq (.reg (.done [(1, (.cst (.pointer none)))] none)) h46_2)⟩
theorem l46_ok : liftFn S0 46 400 = some l46 := by kernel_rfl

def h35_0 : HC := (.seq (.reg (.eff (.call 46) (.cons (.inp 0) .nil) (.eff (.call 52) (.cons (.bv 0) (.cons (.inp 1) .nil)) (.chk none (.ext 0) (.cons (.bv 1) .nil) (.chk none (.ext 1) (.cons (.bv 1) .nil) (.done [(2, (.op (.ext 0) (.cons (.bv 1) .nil))), (3, (.op (.ext 1) (.cons (.bv 1) .nil)))] none)))))) .ret)
@[simp] theorem h35_0_wp : type_of% (@wpH h35_0 _ h35_0.eq_1) := wpH h35_0.eq_1
def l35 : Lifted := ⟨[0, 1, 4, 5], 12, [.slot 2, .slot 3], (.seq (.reg (.done [(2, (.cst (.int .i64 0))), (3, (.cst (.bool false)))] none)) h35_0)⟩
theorem l35_ok : liftFn S0 35 400 = some l35 := by kernel_rfl
theorem may_spec (x : SU) (w0 w : World) (A : Asn) (s : St w0 A w) : CallW Tryz.prog 17 [.agg x.cs.toArray] (fun r w' => r = .bool (decide (mayP x)) ∧ St w0 A w') w := by
  refine go l17_ok ?_
  refine bxB fun b w s => ?_
  refine ldB ?_
  by_cases c1 : 1 ≤ x.acc
  case neg => simp [c1, mayP]; exact s.ent
  simp [c1]
  refine ldB ?_
  by_cases c2 : x.acc ≤ 64
  case neg => simp [c2, mayP]; exact s.ent
  simp [c2]
  refine ldB ?_
  by_cases c3 : 0 ≤ x.its
  case neg => simp [c3, mayP]; exact s.ent
  simp [c3]
  refine ldB ?_
  by_cases c4 : x.its ≤ 512
  case neg => simp [c4, mayP]; exact s.ent
  simp [c4]
  refine ldB ?_
  by_cases c5 : 1 ≤ x.con
  case neg => simp [c5, mayP]; exact s.ent
  simp [c5]
  refine ldB ?_
  simp [c1, c2, c3, c4, c5, mayP]
  exact s.ent
def stC (x : SU) (clock last : Int) (p g e m : Nat) : List Value := x.cs ++ ([.int .i64 clock, .pointer (some ⟨p, 0, none⟩), .pointer (some ⟨g, 0, none⟩), .pointer (some ⟨e, 0, none⟩), .int .i64 last, .map (some m)] : List Value)
abbrev stP (q : Nat) (x : SU) (clock last : Int) (p g e m : Nat) : Asn := pt q (.cells (stC x clock last p g e m).toArray 70 (0, 0))
abbrev newA (q : Nat) (x : SU) (p g e m : Nat) : Asn := stP q x 0 0 p g e m * Es.ecoA p g e x.its ⟨⟨x.acc, [⟨Pu.bankB, 0⟩], 0, 0⟩, [], []⟩ * imap m [] 0
set_option maxHeartbeats 1000000 in
theorem New_spec (x : SU) (w0 w : World) (A : Asn) (s : St w0 A w) : CallW Tryz.prog 8 [.agg x.cs.toArray] (fun r w' => (mayP x ∧ ∃ q p g e m, r = .tuple #[.pointer (some ⟨q, 0, none⟩), .int .i64 0] ∧ St w0 (A * newA q x p g e m) w') ∨ (¬ mayP x ∧ r = .tuple #[.pointer none, .int .i64 2] ∧ St w0 A w')) w := by
  refine go l8_ok ?_
  refine bxB fun b w s => ?_
  refine ldsB (vs := x.cs) ?_
  refine cl1 (may_spec x w0 w _ s) fun w s => ?_
  by_cases hm : mayP x
  case neg => simp [hm]; exact s.ent
  simp [hm]
  refine ldB ?_
  refine eff_call ((Pu.New_spec x.acc w0 w _ s).mono ?_)
  intro _ w h
  rw [if_pos ⟨hm.1, hm.2.1⟩] at h
  obtain ⟨p, rfl, s⟩ := h
  simp
  refine ldB ?_
  refine eff_call ((Gd.New_spec x.its w0 w _ s).mono ?_)
  intro _ w h
  rw [if_pos ⟨hm.2.2.1, hm.2.2.2.1⟩] at h
  obtain ⟨g, rfl, s⟩ := h
  simp
  refine eff_call ((Es.New_spec p g x.acc x.its ⟨x.acc, [⟨Pu.bankB, 0⟩], 0, 0⟩ [] w0 w _ (Pu.new_PI ⟨hm.1, hm.2.1⟩) rfl s).mono ?_)
  rintro _ w ⟨e, rfl, s⟩
  simp
  refine ldsB (vs := x.cs) ?_
  refine eff_mkmI s fun m w s => ?_
  simp [SU.cs]
  refine bxB fun q w s => ?_
  have h : St w0 (_ * stP q x 0 0 p g e m) w := s
  exact ⟨p, g, e, m, h.ent⟩
end Go.HL.St0

namespace Go.HL.St0
open Go.HL Go.Proofs
set_option maxRecDepth 4000
set_option linter.unusedSimpArgs false
set_option linter.unusedVariables false
attribute [local irreducible] EffW
def cmdC (id kind : Int) (nm : List UInt8) (to' coins : Int) : List Value := [.int .i64 id, .int .i64 kind, .string (mk nm), .int .i64 to', .int .u64 coins, .int .i64 0, .int .i64 0, .int .i64 0,
  .int .i64 0, .int .i64 0, .int .u64 0, .int .u64 0, .slice none 0 0, .int .i64 0, .int .i64 0, .int .i64 0, .int .i64 0, .int .i64 0, .int .i64 0, .int .u64 0, .int .u64 0, .int .u64 0, .int .i64 0, .slice none 0 0]
def recC (kind to' coins : Int) : List Value := [.int .i64 kind, .string (mk []), .int .i64 0, .int .i64 to', .int .u64 coins, .int .i64 0, .int .i64 0,
  .int .i64 0, .int .i64 0, .int .u64 0, .int .u64 0, .slice none 0 0, .int .i64 0, .int .i64 0, .int .i64 0, .int .i64 0, .int .i64 0, .int .i64 0, .int .u64 0, .int .u64 0, .int .u64 0, .int .i64 0, .slice none 0 0, .int .i64 0]
theorem mkT : MapI Tryz.prog 73 3 71 .nilFunc := ⟨by kernel_rfl, by kernel_rfl, by kernel_rfl⟩

def h10_0 : HC := (.seq (.reg (.eff .callv (.cons (.inp 9) .nil) (.eff (.st 24) (.cons (.inp 6) (.cons (.bv 0) .nil)) (.done [(7, (.cst (.int .i64 0)))] none)))) .ret)
@[simp] theorem h10_0_wp : type_of% (@wpH h10_0 _ h10_0.eq_1) := wpH h10_0.eq_1
def h10_1 : HC := (.seq (.reg (.chk none (.build (rl [(1, (.int .i64 0)), (1, (.string ⟨#[]⟩)), (2, (.int .i64 0)), (1, (.int .u64 0)), (4, (.int .i64 0)), (2, (.int .u64 0)), (1, (.slice none 0 0)), (6, (.int .i64 0)), (3, (.int .u64 0)), (1, (.int .i64 0)), (1, (.slice none 0 0)), (1, (.int .i64 0))]) [(0, 1), (1, 1), (2, 1), (3, 1), (4, 1), (5, 1), (6, 1), (7, 5), (12, 11), (23, 1)] []) .nil (.eff (.st 24) (.cons (.inp 6) (.cons (.op (.build (rl [(1, (.int .i64 0)), (1, (.string ⟨#[]⟩)), (2, (.int .i64 0)), (1, (.int .u64 0)), (4, (.int .i64 0)), (2, (.int .u64 0)), (1, (.slice none 0 0)), (6, (.int .i64 0)), (3, (.int .u64 0)), (1, (.int .i64 0)), (1, (.slice none 0 0)), (1, (.int .i64 0))]) [(0, 1), (1, 1), (2, 1), (3, 1), (4, 1), (5, 1), (6, 1), (7, 5), (12, 11), (23, 1)] []) .nil) .nil)) (.done [(7, (.cst (.int .i64 2)))] none)))) .ret)
@[simp] theorem h10_1_wp : type_of% (@wpH h10_1 _ h10_1.eq_1) := wpH h10_1.eq_1
def h10_2 : HC := (.seq (.br (.chk none (.eqNil false (.func #[] #[46] false) .nilFunc) (.cons (.inp 9) .nil) (.done [] (some (.op (.eqNil false (.func #[] #[46] false) .nilFunc) (.cons (.inp 9) .nil))))) h10_1 .skip) h10_0)
@[simp] theorem h10_2_wp : type_of% (@wpH h10_2 _ h10_2.eq_1) := wpH h10_2.eq_1
def h10_3 : HC := (.seq (.reg (.chk none (.build (rl [(1, (.int .i64 0)), (1, (.string ⟨#[]⟩)), (2, (.int .i64 0)), (1, (.int .u64 0)), (4, (.int .i64 0)), (2, (.int .u64 0)), (1, (.slice none 0 0)), (6, (.int .i64 0)), (3, (.int .u64 0)), (1, (.int .i64 0)), (1, (.slice none 0 0)), (1, (.int .i64 0))]) [(0, 1), (1, 1), (2, 1), (3, 1), (4, 1), (5, 1), (6, 1), (7, 5), (12, 11), (23, 1)] []) .nil (.eff (.st 24) (.cons (.inp 6) (.cons (.op (.build (rl [(1, (.int .i64 0)), (1, (.string ⟨#[]⟩)), (2, (.int .i64 0)), (1, (.int .u64 0)), (4, (.int .i64 0)), (2, (.int .u64 0)), (1, (.slice none 0 0)), (6, (.int .i64 0)), (3, (.int .u64 0)), (1, (.int .i64 0)), (1, (.slice none 0 0)), (1, (.int .i64 0))]) [(0, 1), (1, 1), (2, 1), (3, 1), (4, 1), (5, 1), (6, 1), (7, 5), (12, 11), (23, 1)] []) .nil) .nil)) (.done [(7, (.cst (.int .i64 240)))] none)))) .ret)
@[simp] theorem h10_3_wp : type_of% (@wpH h10_3 _ h10_3.eq_1) := wpH h10_3.eq_1
def h10_4 : HC := (.br (.eff (.ld false 1) (.cons (.inp 4) .nil) (.chk none (.bin .neq) (.cons (.bv 0) (.cons (.cst (.int .i64 0)) .nil)) (.done [] (some (.op (.bin .neq) (.cons (.bv 0) (.cons (.cst (.int .i64 0)) .nil))))))) h10_3 .skip)
@[simp] theorem h10_4_wp : type_of% (@wpH h10_4 _ h10_4.eq_1) := wpH h10_4.eq_1
def h10_5 : HC := (.cnd 11 h10_4 .skip)
@[simp] theorem h10_5_wp : type_of% (@wpH h10_5 _ h10_5.eq_1) := wpH h10_5.eq_1
def h10_6 : HC := (.reg (.chk none (.bin .eql) (.cons (.inp 10) (.cons (.cst (.int .i64 9)) .nil)) (.done [(11, (.op (.bin .eql) (.cons (.inp 10) (.cons (.cst (.int .i64 9)) .nil))))] none)))
@[simp] theorem h10_6_wp : type_of% (@wpH h10_6 _ h10_6.eq_1) := wpH h10_6.eq_1
def h10_7 : HC := (.cnd 11 .skip h10_6)
@[simp] theorem h10_7_wp : type_of% (@wpH h10_7 _ h10_7.eq_1) := wpH h10_7.eq_1
def h10_8 : HC := (.seq (.reg (.chk none (.bin .eql) (.cons (.inp 10) (.cons (.cst (.int .i64 3)) .nil)) (.done [(11, (.op (.bin .eql) (.cons (.inp 10) (.cons (.cst (.int .i64 3)) .nil))))] none))) h10_7)
@[simp] theorem h10_8_wp : type_of% (@wpH h10_8 _ h10_8.eq_1) := wpH h10_8.eq_1
def h10_9 : HC := (.cnd 11 .skip h10_8)
@[simp] theorem h10_9_wp : type_of% (@wpH h10_9 _ h10_9.eq_1) := wpH h10_9.eq_1
def h10_10 : HC := (.seq (.reg (.chk none (.bin .eql) (.cons (.inp 10) (.cons (.cst (.int .i64 2)) .nil)) (.done [(11, (.op (.bin .eql) (.cons (.inp 10) (.cons (.cst (.int .i64 2)) .nil))))] none))) h10_9)
@[simp] theorem h10_10_wp : type_of% (@wpH h10_10 _ h10_10.eq_1) := wpH h10_10.eq_1
def h10_11 : HC := (.seq (.cnd 11 .skip h10_10) h10_5)
@[simp] theorem h10_11_wp : type_of% (@wpH h10_11 _ h10_11.eq_1) := wpH h10_11.eq_1
def h10_12 : HC := (.seq (.reg (.chk none (.bin .eql) (.cons (.inp 10) (.cons (.cst (.int .i64 1)) .nil)) (.done [(11, (.op (.bin .eql) (.cons (.inp 10) (.cons (.cst (.int .i64 1)) .nil))))] none))) h10_11)
@[simp] theorem h10_12_wp : type_of% (@wpH h10_12 _ h10_12.eq_1) := wpH h10_12.eq_1
def h10_13 : HC := (.seq (.block 0 h10_12) h10_2)
@[simp] theorem h10_13_wp : type_of% (@wpH h10_13 _ h10_13.eq_1) := wpH h10_13.eq_1
def h10_14 : HC := (.seq (.reg (.chk none (.fld 1) (.cons (.inp 5) .nil) (.eff (.ld false 1) (.cons (.op (.fld 1) (.cons (.inp 5) .nil)) .nil) (.done [(10, (.bv 0))] none)))) h10_13)
@[simp] theorem h10_14_wp : type_of% (@wpH h10_14 _ h10_14.eq_1) := wpH h10_14.eq_1
def h10_15 : HC := (.seq (.reg (.chk none (.fld 1) (.cons (.inp 5) .nil) (.eff (.ld false 1) (.cons (.op (.fld 1) (.cons (.inp 5) .nil)) .nil) (.eff (.look 73 false) (.cons (.inp 8) (.cons (.bv 0) .nil)) (.done [(9, (.bv 1))] none))))) h10_14)
@[simp] theorem h10_15_wp : type_of% (@wpH h10_15 _ h10_15.eq_1) := wpH h10_15.eq_1
def r10_0 : RT := (.chk none (.mkf (.func 23) 0) (.cons (.inp 5) .nil) (.eff (.upd 73) (.cons (.bv 0) (.cons (.cst (.int .i64 3)) (.cons (.op (.mkf (.func 23) 0) (.cons (.inp 5) .nil)) .nil))) (.chk none (.mkf (.func 24) 0) (.cons (.inp 5) (.cons (.inp 3) .nil)) (.eff (.upd 73) (.cons (.bv 0) (.cons (.cst (.int .i64 9)) (.cons (.op (.mkf (.func 24) 0) (.cons (.inp 5) (.cons (.inp 3) .nil))) .nil))) (.chk none (.mkf (.func 26) 0) (.cons (.inp 4) (.cons (.inp 5) .nil)) (.eff (.upd 73) (.cons (.bv 0) (.cons (.cst (.int .i64 4)) (.cons (.op (.mkf (.func 26) 0) (.cons (.inp 4) (.cons (.inp 5) .nil))) .nil))) (.chk none (.mkf (.func 27) 0) (.cons (.inp 4) (.cons (.inp 5) .nil)) (.eff (.upd 73) (.cons (.bv 0) (.cons (.cst (.int .i64 5)) (.cons (.op (.mkf (.func 27) 0) (.cons (.inp 4) (.cons (.inp 5) .nil))) .nil))) (.chk none (.mkf (.func 28) 0) (.cons (.inp 5) (.cons (.inp 4) .nil)) (.eff (.upd 73) (.cons (.bv 0) (.cons (.cst (.int .i64 6)) (.cons (.op (.mkf (.func 28) 0) (.cons (.inp 5) (.cons (.inp 4) .nil))) .nil))) (.chk none (.mkf (.func 29) 0) (.cons (.inp 5) (.cons (.inp 4) .nil)) (.eff (.upd 73) (.cons (.bv 0) (.cons (.cst (.int .i64 7)) (.cons (.op (.mkf (.func 29) 0) (.cons (.inp 5) (.cons (.inp 4) .nil))) .nil))) (.chk none (.mkf (.func 30) 0) (.cons (.inp 4) (.cons (.inp 5) .nil)) (.eff (.upd 73) (.cons (.bv 0) (.cons (.cst (.int .i64 8)) (.cons (.op (.mkf (.func 30) 0) (.cons (.inp 4) (.cons (.inp 5) .nil))) .nil))) (.done [(8, (.bv 0))] none)))))))))))))))
@[simp] theorem r10_0_wp : type_of% (@wpR r10_0 _ r10_0.eq_1) := wpR r10_0.eq_1
@[simp] theorem r10_0_wpq : type_of% (@wpRq r10_0 _ r10_0.eq_1) := wpRq r10_0.eq_1
@[simp] theorem r10_0_wpm : type_of% (@wpRm r10_0 _ r10_0.eq_1) := wpRm r10_0.eq_1
def r10_1 : RT := (.chk none (.mkf (.func 22) 0) (.cons (.inp 5) .nil) (.eff (.upd 73) (.cons (.bv 0) (.cons (.cst (.int .i64 2)) (.cons (.op (.mkf (.func 22) 0) (.cons (.inp 5) .nil)) .nil))) r10_0))
@[simp] theorem r10_1_wp : type_of% (@wpR r10_1 _ r10_1.eq_1) := wpR r10_1.eq_1
@[simp] theorem r10_1_wpq : type_of% (@wpRq r10_1 _ r10_1.eq_1) := wpRq r10_1.eq_1
@[simp] theorem r10_1_wpm : type_of% (@wpRm r10_1 _ r10_1.eq_1) := wpRm r10_1.eq_1
def r10_2 : RT := (.chk none (.mkf (.func 21) 0) (.cons (.inp 5) .nil) (.eff (.upd 73) (.cons (.bv 0) (.cons (.cst (.int .i64 1)) (.cons (.op (.mkf (.func 21) 0) (.cons (.inp 5) .nil)) .nil))) r10_1))
@[simp] theorem r10_2_wp : type_of% (@wpR r10_2 _ r10_2.eq_1) := wpR r10_2.eq_1
@[simp] theorem r10_2_wpq : type_of% (@wpRq r10_2 _ r10_2.eq_1) := wpRq r10_2.eq_1
@[simp] theorem r10_2_wpm : type_of% (@wpRm r10_2 _ r10_2.eq_1) := wpRm r10_2.eq_1
def h10_16 : HC := (.seq (.reg (.eff (.mkm 73 false) .nil r10_2)) h10_15)
@[simp] theorem h10_16_wp : type_of% (@wpH h10_16 _ h10_16.eq_1) := wpH h10_16.eq_1
def h10_17 : HC := (.seq (.reg (.chk none (.build (rl [(1, (.int .i64 0)), (1, (.string ⟨#[]⟩)), (2, (.int .i64 0)), (1, (.int .u64 0)), (4, (.int .i64 0)), (2, (.int .u64 0)), (1, (.slice none 0 0)), (6, (.int .i64 0)), (3, (.int .u64 0)), (1, (.int .i64 0)), (1, (.slice none 0 0)), (1, (.int .i64 0))]) [(0, 1), (1, 1), (2, 1), (3, 1), (4, 1), (5, 1), (6, 1), (7, 5), (12, 11), (23, 1)] []) .nil (.eff (.st 24) (.cons (.inp 6) (.cons (.op (.build (rl [(1, (.int .i64 0)), (1, (.string ⟨#[]⟩)), (2, (.int .i64 0)), (1, (.int .u64 0)), (4, (.int .i64 0)), (2, (.int .u64 0)), (1, (.slice none 0 0)), (6, (.int .i64 0)), (3, (.int .u64 0)), (1, (.int .i64 0)), (1, (.slice none 0 0)), (1, (.int .i64 0))]) [(0, 1), (1, 1), (2, 1), (3, 1), (4, 1), (5, 1), (6, 1), (7, 5), (12, 11), (23, 1)] []) .nil) .nil)) (.done [(7, (.cst (.int .i64 1)))] none)))) .ret)
@[simp] theorem h10_17_wp : type_of% (@wpH h10_17 _ h10_17.eq_1) := wpH h10_17.eq_1
def h10_18 : HC := (.seq (.br (.eff (.ld false 1) (.cons (.inp 3) .nil) (.chk none (.eqNil false (.pointer 70) (.pointer none)) (.cons (.bv 0) .nil) (.done [] (some (.op (.eqNil false (.pointer 70) (.pointer none)) (.cons (.bv 0) .nil)))))) h10_17 .skip) h10_16)
@[simp] theorem h10_18_wp : type_of% (@wpH h10_18 _ h10_18.eq_1) := wpH h10_18.eq_1
def l10 : Lifted := ⟨[0, 1, 2, 3, 4, 5, 6, 7, 8, 9, 29, 30], 43, [.cell 6 true 24, .slot 7], (.seq (.reg (.eff (.box 34) (.cons (.inp 0) .nil) (.eff (.box 3) (.cons (.inp 1) .nil) (.eff (.box 44) (.cons (.inp 2) .nil) (.eff (.new 46 (.agg #[(.int .i64 0), (.string ⟨#[]⟩), (.int .i64 0), (.int .i64 0), (.int .u64 0), (.int .i64 0), (.int .i64 0), (.int .i64 0), (.int .i64 0), (.int .u64 0), (.int .u64 0), (.slice none 0 0), (.int .i64 0), (.int .i64 0), (.int .i64 0), (.int .i64 0), (.int .i64 0), (.int .i64 0), (.int .u64 0), (.int .u64 0), (.int .u64 0), (.int .i64 0), (.slice none 0 0), (.int .i64 0)])) .nil (.done [(3, (.bv 0)), (4, (.bv 1)), (5, (.bv 2)), (6, (.bv 3)), (7, (.cst (.int .i64 0)))] none)))))) h10_18)⟩
theorem l10_ok : liftFn S0 10 400 = some l10 := by kernel_rfl

def h22_0 : HC := (.seq (.reg (.chk none (.fld 3) (.cons (.inp 0) .nil) (.eff (.ld false 1) (.cons (.op (.fld 3) (.cons (.inp 0) .nil)) .nil) (.chk none (.fld 4) (.cons (.inp 0) .nil) (.eff (.ld false 1) (.cons (.op (.fld 4) (.cons (.inp 0) .nil)) .nil) (.chk none (.build (rl [(1, (.int .i64 0)), (1, (.string ⟨#[]⟩)), (2, (.int .i64 0)), (1, (.int .u64 0)), (4, (.int .i64 0)), (2, (.int .u64 0)), (1, (.slice none 0 0)), (6, (.int .i64 0)), (3, (.int .u64 0)), (1, (.int .i64 0)), (1, (.slice none 0 0)), (1, (.int .i64 0))]) [(0, 1), (1, 1), (2, 1), (3, 1), (4, 1), (5, 1), (6, 1), (7, 5), (12, 11), (23, 1)] [0, 3, 4]) (.cons (.cst (.int .i64 2)) (.cons (.bv 0) (.cons (.bv 1) .nil))) (.eff (.st 24) (.cons (.inp 1) (.cons (.op (.build (rl [(1, (.int .i64 0)), (1, (.string ⟨#[]⟩)), (2, (.int .i64 0)), (1, (.int .u64 0)), (4, (.int .i64 0)), (2, (.int .u64 0)), (1, (.slice none 0 0)), (6, (.int .i64 0)), (3, (.int .u64 0)), (1, (.int .i64 0)), (1, (.slice none 0 0)), (1, (.int .i64 0))]) [(0, 1), (1, 1), (2, 1), (3, 1), (4, 1), (5, 1), (6, 1), (7, 5), (12, 11), (23, 1)] [0, 3, 4]) (.cons (.cst (.int .i64 2)) (.cons (.bv 0) (.cons (.bv 1) .nil)))) .nil)) (.done [] none)))))))) .ret)
@[simp] theorem h22_0_wp : type_of% (@wpH h22_0 _ h22_0.eq_1) := wpH h22_0.eq_1
def l22 : Lifted := ⟨[0, 1], 7, [.cell 1 true 24], (.seq (.reg (.eff (.new 46 (.agg #[(.int .i64 0), (.string ⟨#[]⟩), (.int .i64 0), (.int .i64 0), (.int .u64 0), (.int .i64 0), (.int .i64 0), (.int .i64 0), (.int .i64 0), (.int .u64 0), (.int .u64 0), (.slice none 0 0), (.int .i64 0), (.int .i64 0), (.int .i64 0), (.int .i64 0), (.int .i64 0), (.int .i64 0), (.int .u64 0), (.int .u64 0), (.int .u64 0), (.int .i64 0), (.slice none 0 0), (.int .i64 0)])) .nil (.done [(1, (.bv 0))] none))) h22_0)⟩
theorem l22_ok : liftFn S0 22 400 = some l22 := by kernel_rfl
theorem mint_spec (cb : Nat) (id to' coins : Int) (w0 w : World) (A : Asn) (s : St w0 (A * pt cb (.cells (cmdC id 2 [] to' coins).toArray 44 (0, 0))) w) :
    CallW Tryz.prog 22 [.pointer (some ⟨cb, 0, none⟩)] (fun r w' => r = .agg (recC 2 to' coins).toArray ∧ St w0 A w') w := by
  refine go l22_ok ?_
  refine nwB fun d w s => ?_
  repeat refine ldB ?_
  refine stsB (cs' := (recC 2 to' coins).toArray) fun w s => ?_
  refine rv_cellA rfl s.row_cells rfl ?_
  simp
  exact s.ent
set_option maxHeartbeats 1000000 in
theorem Record_spec (q : Nat) (acc id to' coins : Int) (w0 w : World) (A : Asn) (s : St w0 A w) :
    CallW Tryz.prog 10 [.pointer (some ⟨q, 0, none⟩), .int .i64 acc, .agg (cmdC id 2 [] to' coins).toArray] (fun r w' => r = (if acc = 0 then .tuple #[.agg (recC 2 to' coins).toArray, .int .i64 0] else .tuple #[.agg (recC 0 0 0).toArray, .int .i64 240]) ∧ St w0 A w') w := by
  refine go l10_ok ?_
  refine bx1 fun b1 w s => ?_
  refine bx1 fun b2 w s => ?_
  refine bxB fun b3 w s => ?_
  refine nwB fun d w s => ?_
  refine ldB ?_
  refine eff_mkmI s fun m w s => ?_
  simp
  refine eff_updI mkT s rfl fun w s => ?_
  simp
  refine eff_updI mkT s rfl fun w s => ?_
  simp
  refine eff_updI mkT s rfl fun w s => ?_
  simp
  refine eff_updI mkT s rfl fun w s => ?_
  simp
  refine eff_updI mkT s rfl fun w s => ?_
  simp
  refine eff_updI mkT s rfl fun w s => ?_
  simp
  refine eff_updI mkT s rfl fun w s => ?_
  simp
  refine eff_updI mkT s rfl fun w s => ?_
  simp
  refine eff_updI mkT s rfl fun w s => ?_
  simp
  refine ldB ?_
  refine eff_lookI mkT s.look ?_
  simp [getI]
  refine ldB ?_
  refine ldB ?_
  by_cases h : acc = 0
  case neg =>
    simp [h]
    refine stsB (cs' := (recC 0 0 0).toArray) fun w s => ?_
    refine rv_cellA rfl s.row_cells rfl ?_
    simp
    exact s.ent
  simp [h]
  have s : St w0 (_ * pt b3 (.cells (cmdC id 2 [] to' coins).toArray 44 (0, 0))) w := s.at b3
  refine eff_callv (by kernel_rfl) ((mint_spec b3 id to' coins w0 w _ s).mono ?_)
  rintro _ w ⟨rfl, s⟩
  simp
  refine stsB (cs' := (recC 2 to' coins).toArray) (h1 := by simp [recC, Value.oneCell']) fun w s => ?_
  refine rv_cellA rfl s.row_cells rfl ?_
  simp
  exact s.ent
end Go.HL.St0

namespace Go.HL.St0
open Go.HL Go.Proofs
set_option maxRecDepth 4000
set_option linter.unusedSimpArgs false
set_option linter.unusedVariables false
attribute [local irreducible] EffW
instance {L : Asn} {p : Nat} {P : Pu.Ps} : AtB (L * Pu.pur p P) p (Pu.pur p P) L := ⟨rfl⟩
theorem purse_spec (q : Nat) (x : SU) (clock last : Int) (p g e m : Nat) (w0 w : World) (A : Asn) (s : St w0 (A * stP q x clock last p g e m) w) :
    CallW Tryz.prog 46 [.pointer (some ⟨q, 0, none⟩)] (fun r w' => r = .pointer (some ⟨p, 0, none⟩) ∧ St w0 (A * stP q x clock last p g e m) w') w := by
  refine go l46_ok ?_
  refine ldB ?_
  exact s
theorem Find_spec (q : Nat) (x : SU) (clock last : Int) (p g e m : Nat) (P : Pu.Ps) (nm : List UInt8) (w0 w : World) (A : Asn) (hn : nm.length ≤ 1048576) (s : St w0 (A * Pu.pur p P * stP q x clock last p g e m) w) :
    CallW Tryz.prog 35 [.pointer (some ⟨q, 0, none⟩), .string (mk nm)] (fun r w' => r = .tuple #[.int .i64 (askN (Pu.keyF nm) (Pu.keys P.rows)), .bool (askB (Pu.keyF nm) (Pu.keys P.rows))] ∧ St w0 (A * Pu.pur p P * stP q x clock last p g e m) w') w := by
  refine go l35_ok ?_
  refine cl1 (purse_spec q x clock last p g e m w0 w _ s) fun w s => ?_
  refine cl1 (Pu.Find_spec p P nm w0 w _ hn (s.at p)) fun w s => ?_
  exact s.ent
def repC (id e : Int) : List Value := [.int .i64 id, .int .i64 e, .int .i64 0, .int .u64 0, .slice none 0 0, .string (mk []), .int .u32 0, .int .i64 0, .int .i64 0, .int .i64 0, .int .i64 0, .int .i64 0, .int .i64 0, .int .u64 0, .int .u64 0, .int .u64 0, .int .i64 0, .slice none 0 0]

def h11_0 : HC := (.seq (.reg (.eff (.ld true 18) (.cons (.inp 4) .nil) (.eff (.st 18) (.cons (.inp 3) (.cons (.bv 0) .nil)) (.done [] none)))) .ret)
@[simp] theorem h11_0_wp : type_of% (@wpH h11_0 _ h11_0.eq_1) := wpH h11_0.eq_1
def h11_1 : HC := (.regq (.some 3) (.chk none (.fld 1) (.cons (.inp 5) .nil) (.eff (.ld false 1) (.cons (.op (.fld 1) (.cons (.inp 5) .nil)) .nil) (.chk none (.fld 0) (.cons (.inp 5) .nil) (.eff (.ld false 1) (.cons (.op (.fld 0) (.cons (.inp 5) .nil)) .nil) (.chk none (.fld 3) (.cons (.inp 2) .nil) (.eff (.ld false 1) (.cons (.op (.fld 3) (.cons (.inp 2) .nil)) .nil) (.eff (.call 32) (.cons (.inp 0) (.cons (.bv 2) .nil)) (.chk none (.fld 3) (.cons (.inp 4) .nil) (.eff (.st 1) (.cons (.op (.fld 3) (.cons (.inp 4) .nil)) (.cons (.bv 0) .nil)) (.chk none (.fld 5) (.cons (.inp 4) .nil) (.eff (.st 1) (.cons (.op (.fld 5) (.cons (.inp 4) .nil)) (.cons (.bv 1) .nil)) (.chk none (.fld 4) (.cons (.inp 4) .nil) (.eff (.st 1) (.cons (.op (.fld 4) (.cons (.inp 4) .nil)) (.cons (.bv 3) .nil)) (.done [] none)))))))))))))))
@[simp] theorem h11_1_wp : type_of% (@wpH h11_1 _ h11_1.eq_1) := wpH h11_1.eq_1
def h11_2 : HC := (.br (.chk none (.fld 1) (.cons (.inp 4) .nil) (.eff (.ld false 1) (.cons (.op (.fld 1) (.cons (.inp 4) .nil)) .nil) (.chk none (.bin .eql) (.cons (.bv 0) (.cons (.cst (.int .i64 0)) .nil)) (.done [] (some (.op (.bin .eql) (.cons (.bv 0) (.cons (.cst (.int .i64 0)) .nil)))))))) h11_1 .skip)
@[simp] theorem h11_2_wp : type_of% (@wpH h11_2 _ h11_2.eq_1) := wpH h11_2.eq_1
def h11_3 : HC := (.seq (.reg (.chk none (.fld 3) (.cons (.inp 2) .nil) (.eff (.ld false 1) (.cons (.op (.fld 3) (.cons (.inp 2) .nil)) .nil) (.eff (.call 31) (.cons (.inp 0) (.cons (.bv 0) .nil)) (.chk none (.ext 0) (.cons (.bv 1) .nil) (.chk none (.ext 1) (.cons (.bv 1) .nil) (.eff (.st 2) (.cons (.inp 5) (.cons (.op (.ext 0) (.cons (.bv 1) .nil)) .nil)) (.chk none (.fld 1) (.cons (.inp 4) .nil) (.eff (.st 1) (.cons (.op (.fld 1) (.cons (.inp 4) .nil)) (.cons (.op (.ext 1) (.cons (.bv 1) .nil)) .nil)) (.done [] none)))))))))) h11_2)
@[simp] theorem h11_3_wp : type_of% (@wpH h11_3 _ h11_3.eq_1) := wpH h11_3.eq_1
def h11_4 : HC := (.seq (.reg (.eff (.new 75 (.agg #[(.string ⟨#[]⟩), (.int .u64 0)])) .nil (.done [(5, (.bv 0))] none))) h11_3)
@[simp] theorem h11_4_wp : type_of% (@wpH h11_4 _ h11_4.eq_1) := wpH h11_4.eq_1
def h11_5 : HC := (.reg (.chk none (.fld 2) (.cons (.inp 6) .nil) (.eff (.ld false 1) (.cons (.op (.fld 2) (.cons (.inp 6) .nil)) .nil) (.chk none (.fld 2) (.cons (.inp 4) .nil) (.eff (.st 1) (.cons (.op (.fld 2) (.cons (.inp 4) .nil)) (.cons (.bv 0) .nil)) (.done [] none))))))
@[simp] theorem h11_5_wp : type_of% (@wpH h11_5 _ h11_5.eq_1) := wpH h11_5.eq_1
def h11_6 : HC := (.br (.chk none (.fld 3) (.cons (.inp 6) .nil) (.eff (.ld false 1) (.cons (.op (.fld 3) (.cons (.inp 6) .nil)) .nil) (.chk none (.bin .eql) (.cons (.bv 0) (.cons (.cst (.int .i64 0)) .nil)) (.done [] (some (.op (.bin .eql) (.cons (.bv 0) (.cons (.cst (.int .i64 0)) .nil)))))))) h11_5 .skip)
@[simp] theorem h11_6_wp : type_of% (@wpH h11_6 _ h11_6.eq_1) := wpH h11_6.eq_1
def h11_7 : HC := (.seq (.regq (.some 3) (.chk none (.fld 1) (.cons (.inp 6) .nil) (.eff (.ld false 1) (.cons (.op (.fld 1) (.cons (.inp 6) .nil)) .nil) (.eff (.bsl 3 1 1 #[(.int .i64 0)] [0]) (.cons (.bv 0) .nil) (.chk none (.fld 3) (.cons (.inp 6) .nil) (.eff (.ld false 1) (.cons (.op (.fld 3) (.cons (.inp 6) .nil)) .nil) (.chk none (.fld 4) (.cons (.inp 4) .nil) (.eff (.st 1) (.cons (.op (.fld 4) (.cons (.inp 4) .nil)) (.cons (.bv 1) .nil)) (.chk none (.fld 7) (.cons (.inp 4) .nil) (.chk none (.fld 0) (.cons (.op (.fld 7) (.cons (.inp 4) .nil)) .nil) (.eff (.st 1) (.cons (.op (.fld 0) (.cons (.op (.fld 7) (.cons (.inp 4) .nil)) .nil)) (.cons (.bv 2) .nil)) (.done [] none)))))))))))) h11_6)
@[simp] theorem h11_7_wp : type_of% (@wpH h11_7 _ h11_7.eq_1) := wpH h11_7.eq_1
def h11_8 : HC := (.br (.chk none (.fld 1) (.cons (.inp 4) .nil) (.eff (.ld false 1) (.cons (.op (.fld 1) (.cons (.inp 4) .nil)) .nil) (.chk none (.bin .eql) (.cons (.bv 0) (.cons (.cst (.int .i64 0)) .nil)) (.done [] (some (.op (.bin .eql) (.cons (.bv 0) (.cons (.cst (.int .i64 0)) .nil)))))))) h11_7 .skip)
@[simp] theorem h11_8_wp : type_of% (@wpH h11_8 _ h11_8.eq_1) := wpH h11_8.eq_1
def h11_9 : HC := (.seq (.reg (.chk none (.fld 5) (.cons (.inp 2) .nil) (.eff (.ld false 1) (.cons (.op (.fld 5) (.cons (.inp 2) .nil)) .nil) (.eff (.call 33) (.cons (.inp 0) (.cons (.bv 0) .nil)) (.chk none (.ext 0) (.cons (.bv 1) .nil) (.chk none (.ext 1) (.cons (.bv 1) .nil) (.eff (.st 4) (.cons (.inp 6) (.cons (.op (.ext 0) (.cons (.bv 1) .nil)) .nil)) (.chk none (.fld 1) (.cons (.inp 4) .nil) (.eff (.st 1) (.cons (.op (.fld 1) (.cons (.inp 4) .nil)) (.cons (.op (.ext 1) (.cons (.bv 1) .nil)) .nil)) (.done [] none)))))))))) h11_8)
@[simp] theorem h11_9_wp : type_of% (@wpH h11_9 _ h11_9.eq_1) := wpH h11_9.eq_1
def h11_10 : HC := (.seq (.reg (.eff (.new 80 (.agg #[(.int .i64 0), (.int .i64 0), (.int .i64 0), (.int .i64 0)])) .nil (.done [(6, (.bv 0))] none))) h11_9)
@[simp] theorem h11_10_wp : type_of% (@wpH h11_10 _ h11_10.eq_1) := wpH h11_10.eq_1
def h11_11 : HC := (.reg (.eff (.ld true 11) (.cons (.inp 7) .nil) (.eff (.call 6) (.cons (.bv 0) .nil) (.chk none (.fld 7) (.cons (.inp 4) .nil) (.eff (.st 11) (.cons (.op (.fld 7) (.cons (.inp 4) .nil)) (.cons (.bv 1) .nil)) (.done [] none))))))
@[simp] theorem h11_11_wp : type_of% (@wpH h11_11 _ h11_11.eq_1) := wpH h11_11.eq_1
def h11_12 : HC := (.br (.chk none (.fld 1) (.cons (.inp 4) .nil) (.eff (.ld false 1) (.cons (.op (.fld 1) (.cons (.inp 4) .nil)) .nil) (.chk none (.bin .eql) (.cons (.bv 0) (.cons (.cst (.int .i64 0)) .nil)) (.done [] (some (.op (.bin .eql) (.cons (.bv 0) (.cons (.cst (.int .i64 0)) .nil)))))))) h11_11 .skip)
@[simp] theorem h11_12_wp : type_of% (@wpH h11_12 _ h11_12.eq_1) := wpH h11_12.eq_1
def h11_13 : HC := (.seq (.reg (.chk none (.fld 6) (.cons (.inp 2) .nil) (.eff (.ld false 1) (.cons (.op (.fld 6) (.cons (.inp 2) .nil)) .nil) (.eff (.call 34) (.cons (.inp 0) (.cons (.bv 0) .nil)) (.chk none (.ext 0) (.cons (.bv 1) .nil) (.chk none (.ext 1) (.cons (.bv 1) .nil) (.eff (.st 11) (.cons (.inp 7) (.cons (.op (.ext 0) (.cons (.bv 1) .nil)) .nil)) (.chk none (.fld 1) (.cons (.inp 4) .nil) (.eff (.st 1) (.cons (.op (.fld 1) (.cons (.inp 4) .nil)) (.cons (.op (.ext 1) (.cons (.bv 1) .nil)) .nil)) (.done [] none)))))))))) h11_12)
@[simp] theorem h11_13_wp : type_of% (@wpH h11_13 _ h11_13.eq_1) := wpH h11_13.eq_1
def h11_14 : HC := (.seq (.reg (.eff (.new 25 (.agg #[(.int .i64 0), (.int .i64 0), (.int .i64 0), (.int .i64 0), (.int .i64 0), (.int .i64 0), (.int .u64 0), (.int .u64 0), (.int .u64 0), (.int .i64 0), (.slice none 0 0)])) .nil (.done [(7, (.bv 0))] none))) h11_13)
@[simp] theorem h11_14_wp : type_of% (@wpH h11_14 _ h11_14.eq_1) := wpH h11_14.eq_1
def h11_15 : HC := (.reg (.chk none (.fld 2) (.cons (.inp 4) .nil) (.eff (.st 1) (.cons (.op (.fld 2) (.cons (.inp 4) .nil)) (.cons (.cst (.int .i64 0)) .nil)) (.chk none (.fld 1) (.cons (.inp 4) .nil) (.eff (.st 1) (.cons (.op (.fld 1) (.cons (.inp 4) .nil)) (.cons (.cst (.int .i64 142)) .nil)) (.done [] none))))))
@[simp] theorem h11_15_wp : type_of% (@wpH h11_15 _ h11_15.eq_1) := wpH h11_15.eq_1
def h11_16 : HC := (.br (.chk none (.un .not) (.cons (.inp 8) .nil) (.done [] (some (.op (.un .not) (.cons (.inp 8) .nil))))) h11_15 .skip)
@[simp] theorem h11_16_wp : type_of% (@wpH h11_16 _ h11_16.eq_1) := wpH h11_16.eq_1
def h11_17 : HC := (.seq (.reg (.chk none (.fld 2) (.cons (.inp 2) .nil) (.eff (.ld false 1) (.cons (.op (.fld 2) (.cons (.inp 2) .nil)) .nil) (.eff (.call 35) (.cons (.inp 0) (.cons (.bv 0) .nil)) (.chk none (.ext 0) (.cons (.bv 1) .nil) (.chk none (.ext 1) (.cons (.bv 1) .nil) (.chk none (.fld 2) (.cons (.inp 4) .nil) (.eff (.st 1) (.cons (.op (.fld 2) (.cons (.inp 4) .nil)) (.cons (.op (.ext 0) (.cons (.bv 1) .nil)) .nil)) (.done [(8, (.op (.ext 1) (.cons (.bv 1) .nil)))] none))))))))) h11_16)
@[simp] theorem h11_17_wp : type_of% (@wpH h11_17 _ h11_17.eq_1) := wpH h11_17.eq_1
def h11_18 : HC := (.seq (.reg (.done [(8, (.cst (.bool false)))] none)) h11_17)
@[simp] theorem h11_18_wp : type_of% (@wpH h11_18 _ h11_18.eq_1) := wpH h11_18.eq_1
def h11_19 : HC := (.reg (.chk none (.fld 1) (.cons (.inp 4) .nil) (.eff (.st 1) (.cons (.op (.fld 1) (.cons (.inp 4) .nil)) (.cons (.cst (.int .i64 2)) .nil)) (.done [] none))))
@[simp] theorem h11_19_wp : type_of% (@wpH h11_19 _ h11_19.eq_1) := wpH h11_19.eq_1
def h11_20 : HC := (.br (.chk none (.bin .eql) (.cons (.inp 9) (.cons (.cst (.int .i64 14)) .nil)) (.done [] (some (.op (.bin .eql) (.cons (.inp 9) (.cons (.cst (.int .i64 14)) .nil)))))) h11_18 h11_19)
@[simp] theorem h11_20_wp : type_of% (@wpH h11_20 _ h11_20.eq_1) := wpH h11_20.eq_1
def h11_21 : HC := (.br (.chk none (.bin .eql) (.cons (.inp 9) (.cons (.cst (.int .i64 12)) .nil)) (.done [] (some (.op (.bin .eql) (.cons (.inp 9) (.cons (.cst (.int .i64 12)) .nil)))))) h11_14 h11_20)
@[simp] theorem h11_21_wp : type_of% (@wpH h11_21 _ h11_21.eq_1) := wpH h11_21.eq_1
def h11_22 : HC := (.br (.chk none (.bin .eql) (.cons (.inp 9) (.cons (.cst (.int .i64 11)) .nil)) (.done [] (some (.op (.bin .eql) (.cons (.inp 9) (.cons (.cst (.int .i64 11)) .nil)))))) h11_10 h11_21)
@[simp] theorem h11_22_wp : type_of% (@wpH h11_22 _ h11_22.eq_1) := wpH h11_22.eq_1
def h11_23 : HC := (.br (.chk none (.bin .eql) (.cons (.inp 9) (.cons (.cst (.int .i64 10)) .nil)) (.done [] (some (.op (.bin .eql) (.cons (.inp 9) (.cons (.cst (.int .i64 10)) .nil)))))) h11_4 h11_22)
@[simp] theorem h11_23_wp : type_of% (@wpH h11_23 _ h11_23.eq_1) := wpH h11_23.eq_1
def h11_24 : HC := (.seq (.block 0 h11_23) h11_0)
@[simp] theorem h11_24_wp : type_of% (@wpH h11_24 _ h11_24.eq_1) := wpH h11_24.eq_1
def h11_25 : HC := (.seq (.reg (.chk none (.fld 1) (.cons (.inp 2) .nil) (.eff (.ld false 1) (.cons (.op (.fld 1) (.cons (.inp 2) .nil)) .nil) (.done [(9, (.bv 0))] none)))) h11_24)
@[simp] theorem h11_25_wp : type_of% (@wpH h11_25 _ h11_25.eq_1) := wpH h11_25.eq_1
def h11_26 : HC := (.seq (.reg (.eff (.ld true 18) (.cons (.inp 4) .nil) (.eff (.st 18) (.cons (.inp 3) (.cons (.bv 0) .nil)) (.done [] none)))) .ret)
@[simp] theorem h11_26_wp : type_of% (@wpH h11_26 _ h11_26.eq_1) := wpH h11_26.eq_1
def h11_27 : HC := (.seq (.reg (.chk none (.fld 1) (.cons (.inp 4) .nil) (.eff (.st 1) (.cons (.op (.fld 1) (.cons (.inp 4) .nil)) (.cons (.cst (.int .i64 1)) .nil)) (.done [] none)))) h11_26)
@[simp] theorem h11_27_wp : type_of% (@wpH h11_27 _ h11_27.eq_1) := wpH h11_27.eq_1
def h11_28 : HC := (.seq (.br (.chk none (.eqNil false (.pointer 70) (.pointer none)) (.cons (.inp 0) .nil) (.done [] (some (.op (.eqNil false (.pointer 70) (.pointer none)) (.cons (.inp 0) .nil))))) h11_27 .skip) h11_25)
@[simp] theorem h11_28_wp : type_of% (@wpH h11_28 _ h11_28.eq_1) := wpH h11_28.eq_1
def h11_29 : HC := (.seq (.reg (.chk none (.fld 0) (.cons (.inp 2) .nil) (.eff (.ld false 1) (.cons (.op (.fld 0) (.cons (.inp 2) .nil)) .nil) (.chk none (.build (rl [(3, (.int .i64 0)), (1, (.int .u64 0)), (1, (.slice none 0 0)), (1, (.string ⟨#[]⟩)), (1, (.int .u32 0)), (6, (.int .i64 0)), (3, (.int .u64 0)), (1, (.int .i64 0)), (1, (.slice none 0 0))]) [(0, 1), (1, 1), (2, 1), (3, 1), (4, 1), (5, 1), (6, 1), (7, 11)] [0]) (.cons (.bv 0) .nil) (.eff (.new 51 (.agg #[(.int .i64 0), (.int .i64 0), (.int .i64 0), (.int .u64 0), (.slice none 0 0), (.string ⟨#[]⟩), (.int .u32 0), (.int .i64 0), (.int .i64 0), (.int .i64 0), (.int .i64 0), (.int .i64 0), (.int .i64 0), (.int .u64 0), (.int .u64 0), (.int .u64 0), (.int .i64 0), (.slice none 0 0)])) .nil (.eff (.st 18) (.cons (.bv 1) (.cons (.op (.build (rl [(3, (.int .i64 0)), (1, (.int .u64 0)), (1, (.slice none 0 0)), (1, (.string ⟨#[]⟩)), (1, (.int .u32 0)), (6, (.int .i64 0)), (3, (.int .u64 0)), (1, (.int .i64 0)), (1, (.slice none 0 0))]) [(0, 1), (1, 1), (2, 1), (3, 1), (4, 1), (5, 1), (6, 1), (7, 11)] [0]) (.cons (.bv 0) .nil)) .nil)) (.done [(4, (.bv 1))] none))))))) h11_28)
@[simp] theorem h11_29_wp : type_of% (@wpH h11_29 _ h11_29.eq_1) := wpH h11_29.eq_1
def l11 : Lifted := ⟨[0, 1, 3, 4, 5, 6, 7, 8, 9, 18], 102, [.cell 3 true 18], (.seq (.reg (.eff (.box 44) (.cons (.inp 1) .nil) (.eff (.new 51 (.agg #[(.int .i64 0), (.int .i64 0), (.int .i64 0), (.int .u64 0), (.slice none 0 0), (.string ⟨#[]⟩), (.int .u32 0), (.int .i64 0), (.int .i64 0), (.int .i64 0), (.int .i64 0), (.int .i64 0), (.int .i64 0), (.int .u64 0), (.int .u64 0), (.int .u64 0), (.int .i64 0), (.slice none 0 0)])) .nil (.done [(2, (.bv 0)), (3, (.bv 1))] none)))) h11_29)⟩
theorem l11_ok : liftFn S0 11 400 = some l11 := by kernel_rfl
theorem Ask_spec (id : Int) (q : Nat) (x : SU) (clock last : Int) (p g e m : Nat) (P : Pu.Ps) (nm : List UInt8) (w0 w : World) (A : Asn) (hn : nm.length ≤ 1048576) (hk : askB (Pu.keyF nm) (Pu.keys P.rows) = false) (s : St w0 (A * Pu.pur p P * stP q x clock last p g e m) w) :
    CallW Tryz.prog 11 [.pointer (some ⟨q, 0, none⟩), .agg (cmdC id 14 nm 0 0).toArray] (fun r w' => r = .agg (repC id 142).toArray ∧ St w0 (A * Pu.pur p P * stP q x clock last p g e m) w') w := by
  refine go l11_ok ?_
  refine bxB fun b w s => ?_
  refine nwB fun d w s => ?_
  refine ldB ?_
  refine nwB fun k w s => ?_
  refine stsB (cs' := (repC id 0).toArray) fun w s => ?_
  refine ldB ?_
  refine ldB ?_
  have s : St w0 (A * pt b (.cells (cmdC id 14 nm 0 0).toArray 44 (0, 0)) * pt d (.cells (repC 0 0).toArray 51 (0, 0)) * pt k (.cells (repC id 0).toArray 51 (0, 0)) * Pu.pur p P * stP q x clock last p g e m) w := (s.to (by simp only [repC]; ac_rfl))
  refine cl1 (Find_spec q x clock last p g e m P nm w0 w _ hn s) fun w s => ?_
  refine stB fun w s => ?_
  simp [hk]
  refine stB fun w s => ?_
  refine stB (cs' := (repC id 142).toArray) fun w s => ?_
  refine ldsB (vs := repC id 142) ?_
  refine stsB (cs' := (repC id 142).toArray) (h1 := by simp [repC, Value.oneCell']) fun w s => ?_
  refine rv_cellA rfl s.row_cells rfl ?_
  simp
  exact s.ent
end Go.HL.St0

namespace Go.HL.Mk
open Go.HL Go.HL.Tl Go.HL.Sr Go.HL.St0 Go.Proofs
set_option maxRecDepth 4000
set_option linter.unusedSimpArgs false
set_option linter.unusedVariables false
attribute [local irreducible] EffW
theorem ints_at {l : List Int} {i : Nat} (h : i < l.length) : (ints l)[i]? = some (.int .i64 l[i]) := by simp [ints, h]
def pMkD1 : Nat → PO
  | 0 => .lenL
  | 1 => (.bin .neq)
  | 2 => (.bin .lss)
  | 3 => (.idxL 1)
  | 4 => (.bin .add)
  | _ => .same
def eMkD1 : Nat → EO
  | 0 => (.ld false 1)
  | _ => .ent
def vMkD1 : Nat → Value
  | 0 => (.bool false)
  | 1 => (.int .i64 0)
  | 2 => (.int .i64 1)
  | 3 => (.bool true)
  | _ => undef
def tMkD1 : Tab := ⟨pMkD1, eMkD1, vMkD1⟩
def l36 : Lifted := ⟨[0, 1, 4, 5], 26, [.slot 2], dcH tMkD1 [] 0xb2cb2cb2f0676996120c2b6eb2c9dc6996155144d20900c40d451348240312daaf02cbc19da65848009c89c89c6d55144d10510016145134414400544d55144d00d00430145134034010d44d55144d00d00030145134034000c1068bc2bc071c6d55144d55134000100c26145135544d00004030944d0000027699612043a2f02cbc19da65848009c71c6d55144d55134010155134000016145135544d00405544d00000544d0040513400027699612002⟩
theorem l36_ok : liftFn S0 36 400 = some l36 := by kernel_rfl

def h9_0 : HC := (.seq (.reg (.done [(1, (.inp 0))] none)) .ret)
@[simp] theorem h9_0_wp : type_of% (@wpH h9_0 _ h9_0.eq_1) := wpH h9_0.eq_1
def l9 : Lifted := ⟨[0, 2], 4, [.slot 1], (.seq (.reg (.done [(1, (.cst (.int .i64 0)))] none)) h9_0)⟩
theorem l9_ok : liftFn S0 9 400 = some l9 := by kernel_rfl

def r16_0 : RT := (.eff (.ld false 1) (.cons (.ite (.bv 5) true (.op (.fld 2) (.cons (.inp 2) .nil)) (.cst (.tuple #[]))) .nil) (.chk none (.fld 2) (.cons (.inp 3) .nil) (.eff (.ld false 1) (.cons (.op (.fld 2) (.cons (.inp 3) .nil)) .nil) (.chk none (.bin .eql) (.cons (.bv 6) (.cons (.bv 7) .nil)) (.isb none (.bv 5) (.bnd (.op (.bin .eql) (.cons (.bv 6) (.cons (.bv 7) .nil))) (.chk (some ((.bv 8), true)) (.fld 3) (.cons (.inp 2) .nil) (.ite (.bv 8) true (.eff (.ld false 1) (.cons (.ite (.bv 8) true (.op (.fld 3) (.cons (.inp 2) .nil)) (.cst (.tuple #[]))) .nil) (.chk none (.fld 3) (.cons (.inp 3) .nil) (.eff (.ld false 1) (.cons (.op (.fld 3) (.cons (.inp 3) .nil)) .nil) (.chk none (.bin .eql) (.cons (.bv 9) (.cons (.bv 10) .nil)) (.isb none (.bv 8) (.bnd (.op (.bin .eql) (.cons (.bv 9) (.cons (.bv 10) .nil))) (.chk (some ((.bv 11), true)) (.fld 4) (.cons (.inp 2) .nil) (.ite (.bv 11) true (.eff (.ld false 1) (.cons (.ite (.bv 11) true (.op (.fld 4) (.cons (.inp 2) .nil)) (.cst (.tuple #[]))) .nil) (.chk none (.fld 4) (.cons (.inp 3) .nil) (.eff (.ld false 1) (.cons (.op (.fld 4) (.cons (.inp 3) .nil)) .nil) (.eff (.call 36) (.cons (.bv 12) (.cons (.bv 13) .nil)) (.isb none (.bv 11) (.done [(4, (.bv 14))] none)))))) (.isb none (.bv 11) (.done [(4, (.cst (.bool false)))] none)))))))))) (.isb none (.bv 8) (.isb none (.cst (.bool false)) (.done [(4, (.cst (.bool false)))] none)))))))))))
@[simp] theorem r16_0_wp : type_of% (@wpR r16_0 _ r16_0.eq_1) := wpR r16_0.eq_1
@[simp] theorem r16_0_wpq : type_of% (@wpRq r16_0 _ r16_0.eq_1) := wpRq r16_0.eq_1
@[simp] theorem r16_0_wpm : type_of% (@wpRm r16_0 _ r16_0.eq_1) := wpRm r16_0.eq_1
def r16_1 : RT := (.chk none (.bin .eql) (.cons (.bv 3) (.cons (.bv 4) .nil)) (.isb none (.bv 2) (.bnd (.op (.bin .eql) (.cons (.bv 3) (.cons (.bv 4) .nil))) (.chk (some ((.bv 5), true)) (.fld 2) (.cons (.inp 2) .nil) (.ite (.bv 5) true r16_0 (.isb none (.bv 5) (.isb none (.cst (.bool false)) (.isb none (.cst (.bool false)) (.done [(4, (.cst (.bool false)))] none)))))))))
@[simp] theorem r16_1_wp : type_of% (@wpR r16_1 _ r16_1.eq_1) := wpR r16_1.eq_1
@[simp] theorem r16_1_wpq : type_of% (@wpRq r16_1 _ r16_1.eq_1) := wpRq r16_1.eq_1
@[simp] theorem r16_1_wpm : type_of% (@wpRm r16_1 _ r16_1.eq_1) := wpRm r16_1.eq_1
def r16_2 : RT := (.chk none (.fld 1) (.cons (.inp 3) .nil) (.eff (.ld false 1) (.cons (.op (.fld 1) (.cons (.inp 3) .nil)) .nil) r16_1))
@[simp] theorem r16_2_wp : type_of% (@wpR r16_2 _ r16_2.eq_1) := wpR r16_2.eq_1
@[simp] theorem r16_2_wpq : type_of% (@wpRq r16_2 _ r16_2.eq_1) := wpRq r16_2.eq_1
@[simp] theorem r16_2_wpm : type_of% (@wpRm r16_2 _ r16_2.eq_1) := wpRm r16_2.eq_1
def r16_3 : RT := (.eff (.ld false 1) (.cons (.ite (.bv 2) true (.op (.fld 1) (.cons (.inp 2) .nil)) (.cst (.tuple #[]))) .nil) r16_2)
@[simp] theorem r16_3_wp : type_of% (@wpR r16_3 _ r16_3.eq_1) := wpR r16_3.eq_1
@[simp] theorem r16_3_wpq : type_of% (@wpRq r16_3 _ r16_3.eq_1) := wpRq r16_3.eq_1
@[simp] theorem r16_3_wpm : type_of% (@wpRm r16_3 _ r16_3.eq_1) := wpRm r16_3.eq_1
def r16_4 : RT := (.chk none (.bin .eql) (.cons (.bv 0) (.cons (.bv 1) .nil)) (.bnd (.op (.bin .eql) (.cons (.bv 0) (.cons (.bv 1) .nil))) (.chk (some ((.bv 2), true)) (.fld 1) (.cons (.inp 2) .nil) (.ite (.bv 2) true r16_3 (.isb none (.bv 2) (.isb none (.cst (.bool false)) (.isb none (.cst (.bool false)) (.isb none (.cst (.bool false)) (.done [(4, (.cst (.bool false)))] none)))))))))
@[simp] theorem r16_4_wp : type_of% (@wpR r16_4 _ r16_4.eq_1) := wpR r16_4.eq_1
@[simp] theorem r16_4_wpq : type_of% (@wpRq r16_4 _ r16_4.eq_1) := wpRq r16_4.eq_1
@[simp] theorem r16_4_wpm : type_of% (@wpRm r16_4 _ r16_4.eq_1) := wpRm r16_4.eq_1
def r16_5 : RT := (.chk none (.fld 0) (.cons (.inp 3) .nil) (.eff (.ld false 1) (.cons (.op (.fld 0) (.cons (.inp 3) .nil)) .nil) r16_4))
@[simp] theorem r16_5_wp : type_of% (@wpR r16_5 _ r16_5.eq_1) := wpR r16_5.eq_1
@[simp] theorem r16_5_wpq : type_of% (@wpRq r16_5 _ r16_5.eq_1) := wpRq r16_5.eq_1
@[simp] theorem r16_5_wpm : type_of% (@wpRm r16_5 _ r16_5.eq_1) := wpRm r16_5.eq_1
def h16_0 : HC := (.seq (.reg (.chk none (.fld 0) (.cons (.inp 2) .nil) (.eff (.ld false 1) (.cons (.op (.fld 0) (.cons (.inp 2) .nil)) .nil) r16_5))) .ret)
@[simp] theorem h16_0_wp : type_of% (@wpH h16_0 _ h16_0.eq_1) := wpH h16_0.eq_1
def l16 : Lifted := ⟨[0, 1, 2, 3, 4], 38, [.slot 4], (.seq (.reg (.eff (.box 31) (.cons (.inp 0) .nil) (.eff (.box 31) (.cons (.inp 1) .nil) (.done [(2, (.bv 0)), (3, (.bv 1)), (4, (.cst (.bool false)))] none)))) h16_0)⟩
theorem l16_ok : liftFn S0 16 400 = some l16 := by kernel_rfl

def h7_0 : HC := (.seq (.reg (.done [(4, (.cst (.bool true)))] none)) .ret)
@[simp] theorem h7_0_wp : type_of% (@wpH h7_0 _ h7_0.eq_1) := wpH h7_0.eq_1
def h7_1 : HC := (.reg (.chk none (.bin .add) (.cons (.inp 5) (.cons (.cst (.int .i64 1)) .nil)) (.done [(5, (.op (.bin .add) (.cons (.inp 5) (.cons (.cst (.int .i64 1)) .nil))))] none)))
@[simp] theorem h7_1_wp : type_of% (@wpH h7_1 _ h7_1.eq_1) := wpH h7_1.eq_1
def h7_2 : HC := (.seq (.reg (.done [(4, (.cst (.bool false)))] none)) .ret)
@[simp] theorem h7_2_wp : type_of% (@wpH h7_2 _ h7_2.eq_1) := wpH h7_2.eq_1
def h7_3 : HC := (.brq (.some 1) (.chk none (.fld 10) (.cons (.inp 2) .nil) (.eff (.ld false 1) (.cons (.op (.fld 10) (.cons (.inp 2) .nil)) .nil) (.chk none (.idxL 5) (.cons (.bv 0) (.cons (.inp 5) .nil)) (.eff (.ld true 5) (.cons (.op (.idxL 5) (.cons (.bv 0) (.cons (.inp 5) .nil))) .nil) (.chk none (.fld 10) (.cons (.inp 3) .nil) (.eff (.ld false 1) (.cons (.op (.fld 10) (.cons (.inp 3) .nil)) .nil) (.chk none (.idxL 5) (.cons (.bv 2) (.cons (.inp 5) .nil)) (.eff (.ld true 5) (.cons (.op (.idxL 5) (.cons (.bv 2) (.cons (.inp 5) .nil))) .nil) (.eff (.call 16) (.cons (.bv 1) (.cons (.bv 3) .nil)) (.chk none (.un .not) (.cons (.bv 4) .nil) (.done [] (some (.op (.un .not) (.cons (.bv 4) .nil)))))))))))))) h7_2 .skip)
@[simp] theorem h7_3_wp : type_of% (@wpH h7_3 _ h7_3.eq_1) := wpH h7_3.eq_1
def h7_4 : HC := (.seq (.block 1 h7_3) h7_1)
@[simp] theorem h7_4_wp : type_of% (@wpH h7_4 _ h7_4.eq_1) := wpH h7_4.eq_1
def h7_5 : HC := (.seq (.br (.chk none (.fld 10) (.cons (.inp 2) .nil) (.eff (.ld false 1) (.cons (.op (.fld 10) (.cons (.inp 2) .nil)) .nil) (.chk none .lenL (.cons (.bv 0) .nil) (.chk none (.bin .lss) (.cons (.inp 5) (.cons (.op .lenL (.cons (.bv 0) .nil)) .nil)) (.done [] (some (.op (.bin .lss) (.cons (.inp 5) (.cons (.op .lenL (.cons (.bv 0) .nil)) .nil))))))))) .skip (.exit 0)) h7_4)
@[simp] theorem h7_5_wp : type_of% (@wpH h7_5 _ h7_5.eq_1) := wpH h7_5.eq_1
def h7_6 : HC := (.loop h7_5)
@[simp] theorem h7_6_wp : type_of% (@wpH h7_6 _ h7_6.eq_1) := wpH h7_6.eq_1
def h7_7 : HC := (.seq (.block 0 h7_6) h7_0)
@[simp] theorem h7_7_wp : type_of% (@wpH h7_7 _ h7_7.eq_1) := wpH h7_7.eq_1
def h7_8 : HC := (.seq (.reg (.done [(5, (.cst (.int .i64 0)))] none)) h7_7)
@[simp] theorem h7_8_wp : type_of% (@wpH h7_8 _ h7_8.eq_1) := wpH h7_8.eq_1
def h7_9 : HC := (.seq (.reg (.done [(4, (.cst (.bool false)))] none)) .ret)
@[simp] theorem h7_9_wp : type_of% (@wpH h7_9 _ h7_9.eq_1) := wpH h7_9.eq_1
def r7_0 : RT := (.chk none (.fld 8) (.cons (.inp 3) .nil) (.eff (.ld false 1) (.cons (.op (.fld 8) (.cons (.inp 3) .nil)) .nil) (.chk none (.bin .neq) (.cons (.bv 3) (.cons (.bv 4) .nil)) (.isb none (.bv 2) (.bnd (.op (.bin .neq) (.cons (.bv 3) (.cons (.bv 4) .nil))) (.chk (some ((.bv 5), false)) (.fld 9) (.cons (.inp 2) .nil) (.ite (.bv 5) false (.eff (.ld false 1) (.cons (.ite (.bv 5) false (.op (.fld 9) (.cons (.inp 2) .nil)) (.cst (.tuple #[]))) .nil) (.chk none (.fld 9) (.cons (.inp 3) .nil) (.eff (.ld false 1) (.cons (.op (.fld 9) (.cons (.inp 3) .nil)) .nil) (.chk none (.bin .neq) (.cons (.bv 6) (.cons (.bv 7) .nil)) (.isb none (.bv 5) (.bnd (.op (.bin .neq) (.cons (.bv 6) (.cons (.bv 7) .nil))) (.chk (some ((.bv 8), false)) (.fld 10) (.cons (.inp 2) .nil) (.ite (.bv 8) false (.eff (.ld false 1) (.cons (.ite (.bv 8) false (.op (.fld 10) (.cons (.inp 2) .nil)) (.cst (.tuple #[]))) .nil) (.chk none .lenL (.cons (.bv 9) .nil) (.chk none (.fld 10) (.cons (.inp 3) .nil) (.eff (.ld false 1) (.cons (.op (.fld 10) (.cons (.inp 3) .nil)) .nil) (.chk none .lenL (.cons (.bv 10) .nil) (.chk none (.bin .neq) (.cons (.op .lenL (.cons (.bv 9) .nil)) (.cons (.op .lenL (.cons (.bv 10) .nil)) .nil)) (.isb none (.bv 8) (.done [] (some (.op (.bin .neq) (.cons (.op .lenL (.cons (.bv 9) .nil)) (.cons (.op .lenL (.cons (.bv 10) .nil)) .nil)))))))))))) (.isb none (.bv 8) (.done [] (some (.cst (.bool true))))))))))))) (.isb none (.bv 5) (.isb none (.cst (.bool true)) (.done [] (some (.cst (.bool true)))))))))))))
@[simp] theorem r7_0_wp : type_of% (@wpR r7_0 _ r7_0.eq_1) := wpR r7_0.eq_1
@[simp] theorem r7_0_wpq : type_of% (@wpRq r7_0 _ r7_0.eq_1) := wpRq r7_0.eq_1
@[simp] theorem r7_0_wpm : type_of% (@wpRm r7_0 _ r7_0.eq_1) := wpRm r7_0.eq_1
def r7_1 : RT := (.eff (.ld false 1) (.cons (.ite (.bv 2) false (.op (.fld 8) (.cons (.inp 2) .nil)) (.cst (.tuple #[]))) .nil) r7_0)
@[simp] theorem r7_1_wp : type_of% (@wpR r7_1 _ r7_1.eq_1) := wpR r7_1.eq_1
@[simp] theorem r7_1_wpq : type_of% (@wpRq r7_1 _ r7_1.eq_1) := wpRq r7_1.eq_1
@[simp] theorem r7_1_wpm : type_of% (@wpRm r7_1 _ r7_1.eq_1) := wpRm r7_1.eq_1
def r7_2 : RT := (.chk none (.bin .neq) (.cons (.bv 0) (.cons (.bv 1) .nil)) (.bnd (.op (.bin .neq) (.cons (.bv 0) (.cons (.bv 1) .nil))) (.chk (some ((.bv 2), false)) (.fld 8) (.cons (.inp 2) .nil) (.ite (.bv 2) false r7_1 (.isb none (.bv 2) (.isb none (.cst (.bool true)) (.isb none (.cst (.bool true)) (.done [] (some (.cst (.bool true)))))))))))
@[simp] theorem r7_2_wp : type_of% (@wpR r7_2 _ r7_2.eq_1) := wpR r7_2.eq_1
@[simp] theorem r7_2_wpq : type_of% (@wpRq r7_2 _ r7_2.eq_1) := wpRq r7_2.eq_1
@[simp] theorem r7_2_wpm : type_of% (@wpRm r7_2 _ r7_2.eq_1) := wpRm r7_2.eq_1
def r7_3 : RT := (.chk none (.fld 7) (.cons (.inp 3) .nil) (.eff (.ld false 1) (.cons (.op (.fld 7) (.cons (.inp 3) .nil)) .nil) r7_2))
@[simp] theorem r7_3_wp : type_of% (@wpR r7_3 _ r7_3.eq_1) := wpR r7_3.eq_1
@[simp] theorem r7_3_wpq : type_of% (@wpRq r7_3 _ r7_3.eq_1) := wpRq r7_3.eq_1
@[simp] theorem r7_3_wpm : type_of% (@wpRm r7_3 _ r7_3.eq_1) := wpRm r7_3.eq_1
def h7_10 : HC := (.seq (.br (.chk none (.fld 7) (.cons (.inp 2) .nil) (.eff (.ld false 1) (.cons (.op (.fld 7) (.cons (.inp 2) .nil)) .nil) r7_3)) h7_9 .skip) h7_8)
@[simp] theorem h7_10_wp : type_of% (@wpH h7_10 _ h7_10.eq_1) := wpH h7_10.eq_1
def h7_11 : HC := (.seq (.reg (.done [(4, (.cst (.bool false)))] none)) .ret)
@[simp] theorem h7_11_wp : type_of% (@wpH h7_11 _ h7_11.eq_1) := wpH h7_11.eq_1
def r7_4 : RT := (.eff (.ld false 1) (.cons (.ite (.bv 11) false (.op (.fld 4) (.cons (.inp 2) .nil)) (.cst (.tuple #[]))) .nil) (.chk none (.fld 4) (.cons (.inp 3) .nil) (.eff (.ld false 1) (.cons (.op (.fld 4) (.cons (.inp 3) .nil)) .nil) (.chk none (.bin .neq) (.cons (.bv 12) (.cons (.bv 13) .nil)) (.isb none (.bv 11) (.bnd (.op (.bin .neq) (.cons (.bv 12) (.cons (.bv 13) .nil))) (.chk (some ((.bv 14), false)) (.fld 5) (.cons (.inp 2) .nil) (.ite (.bv 14) false (.eff (.ld false 1) (.cons (.ite (.bv 14) false (.op (.fld 5) (.cons (.inp 2) .nil)) (.cst (.tuple #[]))) .nil) (.chk none (.fld 5) (.cons (.inp 3) .nil) (.eff (.ld false 1) (.cons (.op (.fld 5) (.cons (.inp 3) .nil)) .nil) (.chk none (.bin .neq) (.cons (.bv 15) (.cons (.bv 16) .nil)) (.isb none (.bv 14) (.bnd (.op (.bin .neq) (.cons (.bv 15) (.cons (.bv 16) .nil))) (.chk (some ((.bv 17), false)) (.fld 6) (.cons (.inp 2) .nil) (.ite (.bv 17) false (.eff (.ld false 1) (.cons (.ite (.bv 17) false (.op (.fld 6) (.cons (.inp 2) .nil)) (.cst (.tuple #[]))) .nil) (.chk none (.fld 6) (.cons (.inp 3) .nil) (.eff (.ld false 1) (.cons (.op (.fld 6) (.cons (.inp 3) .nil)) .nil) (.chk none (.bin .neq) (.cons (.bv 18) (.cons (.bv 19) .nil)) (.isb none (.bv 17) (.done [] (some (.op (.bin .neq) (.cons (.bv 18) (.cons (.bv 19) .nil)))))))))) (.isb none (.bv 17) (.done [] (some (.cst (.bool true))))))))))))) (.isb none (.bv 14) (.isb none (.cst (.bool true)) (.done [] (some (.cst (.bool true))))))))))))))
@[simp] theorem r7_4_wp : type_of% (@wpR r7_4 _ r7_4.eq_1) := wpR r7_4.eq_1
@[simp] theorem r7_4_wpq : type_of% (@wpRq r7_4 _ r7_4.eq_1) := wpRq r7_4.eq_1
@[simp] theorem r7_4_wpm : type_of% (@wpRm r7_4 _ r7_4.eq_1) := wpRm r7_4.eq_1
def r7_5 : RT := (.chk none (.bin .neq) (.cons (.bv 9) (.cons (.bv 10) .nil)) (.isb none (.bv 8) (.bnd (.op (.bin .neq) (.cons (.bv 9) (.cons (.bv 10) .nil))) (.chk (some ((.bv 11), false)) (.fld 4) (.cons (.inp 2) .nil) (.ite (.bv 11) false r7_4 (.isb none (.bv 11) (.isb none (.cst (.bool true)) (.isb none (.cst (.bool true)) (.done [] (some (.cst (.bool true))))))))))))
@[simp] theorem r7_5_wp : type_of% (@wpR r7_5 _ r7_5.eq_1) := wpR r7_5.eq_1
@[simp] theorem r7_5_wpq : type_of% (@wpRq r7_5 _ r7_5.eq_1) := wpRq r7_5.eq_1
@[simp] theorem r7_5_wpm : type_of% (@wpRm r7_5 _ r7_5.eq_1) := wpRm r7_5.eq_1
def r7_6 : RT := (.chk none (.fld 3) (.cons (.inp 3) .nil) (.eff (.ld false 1) (.cons (.op (.fld 3) (.cons (.inp 3) .nil)) .nil) r7_5))
@[simp] theorem r7_6_wp : type_of% (@wpR r7_6 _ r7_6.eq_1) := wpR r7_6.eq_1
@[simp] theorem r7_6_wpq : type_of% (@wpRq r7_6 _ r7_6.eq_1) := wpRq r7_6.eq_1
@[simp] theorem r7_6_wpm : type_of% (@wpRm r7_6 _ r7_6.eq_1) := wpRm r7_6.eq_1
def r7_7 : RT := (.eff (.ld false 1) (.cons (.ite (.bv 8) false (.op (.fld 3) (.cons (.inp 2) .nil)) (.cst (.tuple #[]))) .nil) r7_6)
@[simp] theorem r7_7_wp : type_of% (@wpR r7_7 _ r7_7.eq_1) := wpR r7_7.eq_1
@[simp] theorem r7_7_wpq : type_of% (@wpRq r7_7 _ r7_7.eq_1) := wpRq r7_7.eq_1
@[simp] theorem r7_7_wpm : type_of% (@wpRm r7_7 _ r7_7.eq_1) := wpRm r7_7.eq_1
def r7_8 : RT := (.chk none (.bin .neq) (.cons (.bv 6) (.cons (.bv 7) .nil)) (.isb none (.bv 5) (.bnd (.op (.bin .neq) (.cons (.bv 6) (.cons (.bv 7) .nil))) (.chk (some ((.bv 8), false)) (.fld 3) (.cons (.inp 2) .nil) (.ite (.bv 8) false r7_7 (.isb none (.bv 8) (.isb none (.cst (.bool true)) (.isb none (.cst (.bool true)) (.isb none (.cst (.bool true)) (.done [] (some (.cst (.bool true)))))))))))))
@[simp] theorem r7_8_wp : type_of% (@wpR r7_8 _ r7_8.eq_1) := wpR r7_8.eq_1
@[simp] theorem r7_8_wpq : type_of% (@wpRq r7_8 _ r7_8.eq_1) := wpRq r7_8.eq_1
@[simp] theorem r7_8_wpm : type_of% (@wpRm r7_8 _ r7_8.eq_1) := wpRm r7_8.eq_1
def r7_9 : RT := (.chk none (.fld 2) (.cons (.inp 3) .nil) (.eff (.ld false 1) (.cons (.op (.fld 2) (.cons (.inp 3) .nil)) .nil) r7_8))
@[simp] theorem r7_9_wp : type_of% (@wpR r7_9 _ r7_9.eq_1) := wpR r7_9.eq_1
@[simp] theorem r7_9_wpq : type_of% (@wpRq r7_9 _ r7_9.eq_1) := wpRq r7_9.eq_1
@[simp] theorem r7_9_wpm : type_of% (@wpRm r7_9 _ r7_9.eq_1) := wpRm r7_9.eq_1
def r7_10 : RT := (.eff (.ld false 1) (.cons (.ite (.bv 5) false (.op (.fld 2) (.cons (.inp 2) .nil)) (.cst (.tuple #[]))) .nil) r7_9)
@[simp] theorem r7_10_wp : type_of% (@wpR r7_10 _ r7_10.eq_1) := wpR r7_10.eq_1
@[simp] theorem r7_10_wpq : type_of% (@wpRq r7_10 _ r7_10.eq_1) := wpRq r7_10.eq_1
@[simp] theorem r7_10_wpm : type_of% (@wpRm r7_10 _ r7_10.eq_1) := wpRm r7_10.eq_1
def r7_11 : RT := (.chk none (.bin .neq) (.cons (.bv 3) (.cons (.bv 4) .nil)) (.isb none (.bv 2) (.bnd (.op (.bin .neq) (.cons (.bv 3) (.cons (.bv 4) .nil))) (.chk (some ((.bv 5), false)) (.fld 2) (.cons (.inp 2) .nil) (.ite (.bv 5) false r7_10 (.isb none (.bv 5) (.isb none (.cst (.bool true)) (.isb none (.cst (.bool true)) (.isb none (.cst (.bool true)) (.isb none (.cst (.bool true)) (.done [] (some (.cst (.bool true))))))))))))))
@[simp] theorem r7_11_wp : type_of% (@wpR r7_11 _ r7_11.eq_1) := wpR r7_11.eq_1
@[simp] theorem r7_11_wpq : type_of% (@wpRq r7_11 _ r7_11.eq_1) := wpRq r7_11.eq_1
@[simp] theorem r7_11_wpm : type_of% (@wpRm r7_11 _ r7_11.eq_1) := wpRm r7_11.eq_1
def r7_12 : RT := (.chk none (.fld 1) (.cons (.inp 3) .nil) (.eff (.ld false 1) (.cons (.op (.fld 1) (.cons (.inp 3) .nil)) .nil) r7_11))
@[simp] theorem r7_12_wp : type_of% (@wpR r7_12 _ r7_12.eq_1) := wpR r7_12.eq_1
@[simp] theorem r7_12_wpq : type_of% (@wpRq r7_12 _ r7_12.eq_1) := wpRq r7_12.eq_1
@[simp] theorem r7_12_wpm : type_of% (@wpRm r7_12 _ r7_12.eq_1) := wpRm r7_12.eq_1
def r7_13 : RT := (.eff (.ld false 1) (.cons (.ite (.bv 2) false (.op (.fld 1) (.cons (.inp 2) .nil)) (.cst (.tuple #[]))) .nil) r7_12)
@[simp] theorem r7_13_wp : type_of% (@wpR r7_13 _ r7_13.eq_1) := wpR r7_13.eq_1
@[simp] theorem r7_13_wpq : type_of% (@wpRq r7_13 _ r7_13.eq_1) := wpRq r7_13.eq_1
@[simp] theorem r7_13_wpm : type_of% (@wpRm r7_13 _ r7_13.eq_1) := wpRm r7_13.eq_1
def r7_14 : RT := (.chk none (.bin .neq) (.cons (.bv 0) (.cons (.bv 1) .nil)) (.bnd (.op (.bin .neq) (.cons (.bv 0) (.cons (.bv 1) .nil))) (.chk (some ((.bv 2), false)) (.fld 1) (.cons (.inp 2) .nil) (.ite (.bv 2) false r7_13 (.isb none (.bv 2) (.isb none (.cst (.bool true)) (.isb none (.cst (.bool true)) (.isb none (.cst (.bool true)) (.isb none (.cst (.bool true)) (.isb none (.cst (.bool true)) (.done [] (some (.cst (.bool true))))))))))))))
@[simp] theorem r7_14_wp : type_of% (@wpR r7_14 _ r7_14.eq_1) := wpR r7_14.eq_1
@[simp] theorem r7_14_wpq : type_of% (@wpRq r7_14 _ r7_14.eq_1) := wpRq r7_14.eq_1
@[simp] theorem r7_14_wpm : type_of% (@wpRm r7_14 _ r7_14.eq_1) := wpRm r7_14.eq_1
def r7_15 : RT := (.chk none (.fld 0) (.cons (.inp 3) .nil) (.eff (.ld false 1) (.cons (.op (.fld 0) (.cons (.inp 3) .nil)) .nil) r7_14))
@[simp] theorem r7_15_wp : type_of% (@wpR r7_15 _ r7_15.eq_1) := wpR r7_15.eq_1
@[simp] theorem r7_15_wpq : type_of% (@wpRq r7_15 _ r7_15.eq_1) := wpRq r7_15.eq_1
@[simp] theorem r7_15_wpm : type_of% (@wpRm r7_15 _ r7_15.eq_1) := wpRm r7_15.eq_1
def h7_12 : HC := (.seq (.br (.chk none (.fld 0) (.cons (.inp 2) .nil) (.eff (.ld false 1) (.cons (.op (.fld 0) (.cons (.inp 2) .nil)) .nil) r7_15)) h7_11 .skip) h7_10)
@[simp] theorem h7_12_wp : type_of% (@wpH h7_12 _ h7_12.eq_1) := wpH h7_12.eq_1
def l7 : Lifted := ⟨[0, 1, 2, 3, 4, 5], 100, [.slot 4], (.seq (.reg (.eff (.box 25) (.cons (.inp 0) .nil) (.eff (.box 25) (.cons (.inp 1) .nil) (.done [(2, (.bv 0)), (3, (.bv 1)), (4, (.cst (.bool false)))] none)))) h7_12)⟩
theorem l7_ok : liftFn S0 7 400 = some l7 := by kernel_rfl

def r12_0 : RT := (.chk none (.bin .eql) (.cons (.bv 18) (.cons (.bv 19) .nil)) (.isb none (.bv 17) (.bnd (.op (.bin .eql) (.cons (.bv 18) (.cons (.bv 19) .nil))) (.chk (some ((.bv 20), true)) (.fld 23) (.cons (.inp 2) .nil) (.ite (.bv 20) true (.eff (.ld false 1) (.cons (.ite (.bv 20) true (.op (.fld 23) (.cons (.inp 2) .nil)) (.cst (.tuple #[]))) .nil) (.chk none (.fld 23) (.cons (.inp 3) .nil) (.eff (.ld false 1) (.cons (.op (.fld 23) (.cons (.inp 3) .nil)) .nil) (.chk none (.bin .eql) (.cons (.bv 21) (.cons (.bv 22) .nil)) (.isb none (.bv 20) (.bnd (.op (.bin .eql) (.cons (.bv 21) (.cons (.bv 22) .nil))) (.chk (some ((.bv 23), true)) (.fld 7) (.cons (.inp 2) .nil) (.ite (.bv 23) true (.eff (.ld true 5) (.cons (.ite (.bv 23) true (.op (.fld 7) (.cons (.inp 2) .nil)) (.cst (.tuple #[]))) .nil) (.chk none (.fld 7) (.cons (.inp 3) .nil) (.eff (.ld true 5) (.cons (.op (.fld 7) (.cons (.inp 3) .nil)) .nil) (.eff (.call 16) (.cons (.bv 24) (.cons (.bv 25) .nil)) (.isb none (.bv 23) (.chk (some ((.bv 26), true)) (.fld 12) (.cons (.inp 2) .nil) (.ite (.bv 26) true (.eff (.ld true 11) (.cons (.ite (.bv 26) true (.op (.fld 12) (.cons (.inp 2) .nil)) (.cst (.tuple #[]))) .nil) (.chk none (.fld 12) (.cons (.inp 3) .nil) (.eff (.ld true 11) (.cons (.op (.fld 12) (.cons (.inp 3) .nil)) .nil) (.eff (.call 7) (.cons (.bv 27) (.cons (.bv 28) .nil)) (.isb none (.bv 26) (.done [(4, (.bv 29))] none)))))) (.isb none (.bv 26) (.done [(4, (.cst (.bool false)))] none))))))))) (.isb none (.bv 23) (.isb none (.cst (.bool false)) (.done [(4, (.cst (.bool false)))] none))))))))))) (.isb none (.bv 20) (.isb none (.cst (.bool false)) (.isb none (.cst (.bool false)) (.done [(4, (.cst (.bool false)))] none)))))))))
@[simp] theorem r12_0_wp : type_of% (@wpR r12_0 _ r12_0.eq_1) := wpR r12_0.eq_1
@[simp] theorem r12_0_wpq : type_of% (@wpRq r12_0 _ r12_0.eq_1) := wpRq r12_0.eq_1
@[simp] theorem r12_0_wpm : type_of% (@wpRm r12_0 _ r12_0.eq_1) := wpRm r12_0.eq_1
def r12_1 : RT := (.chk none (.fld 6) (.cons (.inp 3) .nil) (.eff (.ld false 1) (.cons (.op (.fld 6) (.cons (.inp 3) .nil)) .nil) r12_0))
@[simp] theorem r12_1_wp : type_of% (@wpR r12_1 _ r12_1.eq_1) := wpR r12_1.eq_1
@[simp] theorem r12_1_wpq : type_of% (@wpRq r12_1 _ r12_1.eq_1) := wpRq r12_1.eq_1
@[simp] theorem r12_1_wpm : type_of% (@wpRm r12_1 _ r12_1.eq_1) := wpRm r12_1.eq_1
def r12_2 : RT := (.eff (.ld false 1) (.cons (.ite (.bv 17) true (.op (.fld 6) (.cons (.inp 2) .nil)) (.cst (.tuple #[]))) .nil) r12_1)
@[simp] theorem r12_2_wp : type_of% (@wpR r12_2 _ r12_2.eq_1) := wpR r12_2.eq_1
@[simp] theorem r12_2_wpq : type_of% (@wpRq r12_2 _ r12_2.eq_1) := wpRq r12_2.eq_1
@[simp] theorem r12_2_wpm : type_of% (@wpRm r12_2 _ r12_2.eq_1) := wpRm r12_2.eq_1
def r12_3 : RT := (.chk none (.bin .eql) (.cons (.bv 15) (.cons (.bv 16) .nil)) (.isb none (.bv 14) (.bnd (.op (.bin .eql) (.cons (.bv 15) (.cons (.bv 16) .nil))) (.chk (some ((.bv 17), true)) (.fld 6) (.cons (.inp 2) .nil) (.ite (.bv 17) true r12_2 (.isb none (.bv 17) (.isb none (.cst (.bool false)) (.isb none (.cst (.bool false)) (.isb none (.cst (.bool false)) (.done [(4, (.cst (.bool false)))] none))))))))))
@[simp] theorem r12_3_wp : type_of% (@wpR r12_3 _ r12_3.eq_1) := wpR r12_3.eq_1
@[simp] theorem r12_3_wpq : type_of% (@wpRq r12_3 _ r12_3.eq_1) := wpRq r12_3.eq_1
@[simp] theorem r12_3_wpm : type_of% (@wpRm r12_3 _ r12_3.eq_1) := wpRm r12_3.eq_1
def r12_4 : RT := (.chk none (.fld 5) (.cons (.inp 3) .nil) (.eff (.ld false 1) (.cons (.op (.fld 5) (.cons (.inp 3) .nil)) .nil) r12_3))
@[simp] theorem r12_4_wp : type_of% (@wpR r12_4 _ r12_4.eq_1) := wpR r12_4.eq_1
@[simp] theorem r12_4_wpq : type_of% (@wpRq r12_4 _ r12_4.eq_1) := wpRq r12_4.eq_1
@[simp] theorem r12_4_wpm : type_of% (@wpRm r12_4 _ r12_4.eq_1) := wpRm r12_4.eq_1
def r12_5 : RT := (.eff (.ld false 1) (.cons (.ite (.bv 14) true (.op (.fld 5) (.cons (.inp 2) .nil)) (.cst (.tuple #[]))) .nil) r12_4)
@[simp] theorem r12_5_wp : type_of% (@wpR r12_5 _ r12_5.eq_1) := wpR r12_5.eq_1
@[simp] theorem r12_5_wpq : type_of% (@wpRq r12_5 _ r12_5.eq_1) := wpRq r12_5.eq_1
@[simp] theorem r12_5_wpm : type_of% (@wpRm r12_5 _ r12_5.eq_1) := wpRm r12_5.eq_1
def r12_6 : RT := (.chk none (.bin .eql) (.cons (.bv 12) (.cons (.bv 13) .nil)) (.isb none (.bv 11) (.bnd (.op (.bin .eql) (.cons (.bv 12) (.cons (.bv 13) .nil))) (.chk (some ((.bv 14), true)) (.fld 5) (.cons (.inp 2) .nil) (.ite (.bv 14) true r12_5 (.isb none (.bv 14) (.isb none (.cst (.bool false)) (.isb none (.cst (.bool false)) (.isb none (.cst (.bool false)) (.isb none (.cst (.bool false)) (.done [(4, (.cst (.bool false)))] none)))))))))))
@[simp] theorem r12_6_wp : type_of% (@wpR r12_6 _ r12_6.eq_1) := wpR r12_6.eq_1
@[simp] theorem r12_6_wpq : type_of% (@wpRq r12_6 _ r12_6.eq_1) := wpRq r12_6.eq_1
@[simp] theorem r12_6_wpm : type_of% (@wpRm r12_6 _ r12_6.eq_1) := wpRm r12_6.eq_1
def r12_7 : RT := (.chk none (.fld 4) (.cons (.inp 3) .nil) (.eff (.ld false 1) (.cons (.op (.fld 4) (.cons (.inp 3) .nil)) .nil) r12_6))
@[simp] theorem r12_7_wp : type_of% (@wpR r12_7 _ r12_7.eq_1) := wpR r12_7.eq_1
@[simp] theorem r12_7_wpq : type_of% (@wpRq r12_7 _ r12_7.eq_1) := wpRq r12_7.eq_1
@[simp] theorem r12_7_wpm : type_of% (@wpRm r12_7 _ r12_7.eq_1) := wpRm r12_7.eq_1
def r12_8 : RT := (.eff (.ld false 1) (.cons (.ite (.bv 11) true (.op (.fld 4) (.cons (.inp 2) .nil)) (.cst (.tuple #[]))) .nil) r12_7)
@[simp] theorem r12_8_wp : type_of% (@wpR r12_8 _ r12_8.eq_1) := wpR r12_8.eq_1
@[simp] theorem r12_8_wpq : type_of% (@wpRq r12_8 _ r12_8.eq_1) := wpRq r12_8.eq_1
@[simp] theorem r12_8_wpm : type_of% (@wpRm r12_8 _ r12_8.eq_1) := wpRm r12_8.eq_1
def r12_9 : RT := (.chk none (.bin .eql) (.cons (.bv 9) (.cons (.bv 10) .nil)) (.isb none (.bv 8) (.bnd (.op (.bin .eql) (.cons (.bv 9) (.cons (.bv 10) .nil))) (.chk (some ((.bv 11), true)) (.fld 4) (.cons (.inp 2) .nil) (.ite (.bv 11) true r12_8 (.isb none (.bv 11) (.isb none (.cst (.bool false)) (.isb none (.cst (.bool false)) (.isb none (.cst (.bool false)) (.isb none (.cst (.bool false)) (.isb none (.cst (.bool false)) (.done [(4, (.cst (.bool false)))] none))))))))))))
@[simp] theorem r12_9_wp : type_of% (@wpR r12_9 _ r12_9.eq_1) := wpR r12_9.eq_1
@[simp] theorem r12_9_wpq : type_of% (@wpRq r12_9 _ r12_9.eq_1) := wpRq r12_9.eq_1
@[simp] theorem r12_9_wpm : type_of% (@wpRm r12_9 _ r12_9.eq_1) := wpRm r12_9.eq_1
def r12_10 : RT := (.chk none (.fld 3) (.cons (.inp 3) .nil) (.eff (.ld false 1) (.cons (.op (.fld 3) (.cons (.inp 3) .nil)) .nil) r12_9))
@[simp] theorem r12_10_wp : type_of% (@wpR r12_10 _ r12_10.eq_1) := wpR r12_10.eq_1
@[simp] theorem r12_10_wpq : type_of% (@wpRq r12_10 _ r12_10.eq_1) := wpRq r12_10.eq_1
@[simp] theorem r12_10_wpm : type_of% (@wpRm r12_10 _ r12_10.eq_1) := wpRm r12_10.eq_1
def r12_11 : RT := (.eff (.ld false 1) (.cons (.ite (.bv 8) true (.op (.fld 3) (.cons (.inp 2) .nil)) (.cst (.tuple #[]))) .nil) r12_10)
@[simp] theorem r12_11_wp : type_of% (@wpR r12_11 _ r12_11.eq_1) := wpR r12_11.eq_1
@[simp] theorem r12_11_wpq : type_of% (@wpRq r12_11 _ r12_11.eq_1) := wpRq r12_11.eq_1
@[simp] theorem r12_11_wpm : type_of% (@wpRm r12_11 _ r12_11.eq_1) := wpRm r12_11.eq_1
def r12_12 : RT := (.chk none (.bin .eql) (.cons (.bv 6) (.cons (.bv 7) .nil)) (.isb none (.bv 5) (.bnd (.op (.bin .eql) (.cons (.bv 6) (.cons (.bv 7) .nil))) (.chk (some ((.bv 8), true)) (.fld 3) (.cons (.inp 2) .nil) (.ite (.bv 8) true r12_11 (.isb none (.bv 8) (.isb none (.cst (.bool false)) (.isb none (.cst (.bool false)) (.isb none (.cst (.bool false)) (.isb none (.cst (.bool false)) (.isb none (.cst (.bool false)) (.isb none (.cst (.bool false)) (.done [(4, (.cst (.bool false)))] none)))))))))))))
@[simp] theorem r12_12_wp : type_of% (@wpR r12_12 _ r12_12.eq_1) := wpR r12_12.eq_1
@[simp] theorem r12_12_wpq : type_of% (@wpRq r12_12 _ r12_12.eq_1) := wpRq r12_12.eq_1
@[simp] theorem r12_12_wpm : type_of% (@wpRm r12_12 _ r12_12.eq_1) := wpRm r12_12.eq_1
def r12_13 : RT := (.chk none (.fld 2) (.cons (.inp 3) .nil) (.eff (.ld false 1) (.cons (.op (.fld 2) (.cons (.inp 3) .nil)) .nil) r12_12))
@[simp] theorem r12_13_wp : type_of% (@wpR r12_13 _ r12_13.eq_1) := wpR r12_13.eq_1
@[simp] theorem r12_13_wpq : type_of% (@wpRq r12_13 _ r12_13.eq_1) := wpRq r12_13.eq_1
@[simp] theorem r12_13_wpm : type_of% (@wpRm r12_13 _ r12_13.eq_1) := wpRm r12_13.eq_1
def r12_14 : RT := (.eff (.ld false 1) (.cons (.ite (.bv 5) true (.op (.fld 2) (.cons (.inp 2) .nil)) (.cst (.tuple #[]))) .nil) r12_13)
@[simp] theorem r12_14_wp : type_of% (@wpR r12_14 _ r12_14.eq_1) := wpR r12_14.eq_1
@[simp] theorem r12_14_wpq : type_of% (@wpRq r12_14 _ r12_14.eq_1) := wpRq r12_14.eq_1
@[simp] theorem r12_14_wpm : type_of% (@wpRm r12_14 _ r12_14.eq_1) := wpRm r12_14.eq_1
def r12_15 : RT := (.chk none (.bin .eql) (.cons (.bv 3) (.cons (.bv 4) .nil)) (.isb none (.bv 2) (.bnd (.op (.bin .eql) (.cons (.bv 3) (.cons (.bv 4) .nil))) (.chk (some ((.bv 5), true)) (.fld 2) (.cons (.inp 2) .nil) (.ite (.bv 5) true r12_14 (.isb none (.bv 5) (.isb none (.cst (.bool false)) (.isb none (.cst (.bool false)) (.isb none (.cst (.bool false)) (.isb none (.cst (.bool false)) (.isb none (.cst (.bool false)) (.isb none (.cst (.bool false)) (.isb none (.cst (.bool false)) (.done [(4, (.cst (.bool false)))] none))))))))))))))
@[simp] theorem r12_15_wp : type_of% (@wpR r12_15 _ r12_15.eq_1) := wpR r12_15.eq_1
@[simp] theorem r12_15_wpq : type_of% (@wpRq r12_15 _ r12_15.eq_1) := wpRq r12_15.eq_1
@[simp] theorem r12_15_wpm : type_of% (@wpRm r12_15 _ r12_15.eq_1) := wpRm r12_15.eq_1
def r12_16 : RT := (.chk none (.fld 1) (.cons (.inp 3) .nil) (.eff (.ld false 1) (.cons (.op (.fld 1) (.cons (.inp 3) .nil)) .nil) r12_15))
@[simp] theorem r12_16_wp : type_of% (@wpR r12_16 _ r12_16.eq_1) := wpR r12_16.eq_1
@[simp] theorem r12_16_wpq : type_of% (@wpRq r12_16 _ r12_16.eq_1) := wpRq r12_16.eq_1
@[simp] theorem r12_16_wpm : type_of% (@wpRm r12_16 _ r12_16.eq_1) := wpRm r12_16.eq_1
def r12_17 : RT := (.eff (.ld false 1) (.cons (.ite (.bv 2) true (.op (.fld 1) (.cons (.inp 2) .nil)) (.cst (.tuple #[]))) .nil) r12_16)
@[simp] theorem r12_17_wp : type_of% (@wpR r12_17 _ r12_17.eq_1) := wpR r12_17.eq_1
@[simp] theorem r12_17_wpq : type_of% (@wpRq r12_17 _ r12_17.eq_1) := wpRq r12_17.eq_1
@[simp] theorem r12_17_wpm : type_of% (@wpRm r12_17 _ r12_17.eq_1) := wpRm r12_17.eq_1
def r12_18 : RT := (.isb none (.bv 2) (.isb none (.cst (.bool false)) (.isb none (.cst (.bool false)) (.isb none (.cst (.bool false)) (.isb none (.cst (.bool false)) (.isb none (.cst (.bool false)) (.isb none (.cst (.bool false)) (.isb none (.cst (.bool false)) (.isb none (.cst (.bool false)) (.done [(4, (.cst (.bool false)))] none))))))))))
@[simp] theorem r12_18_wp : type_of% (@wpR r12_18 _ r12_18.eq_1) := wpR r12_18.eq_1
@[simp] theorem r12_18_wpq : type_of% (@wpRq r12_18 _ r12_18.eq_1) := wpRq r12_18.eq_1
@[simp] theorem r12_18_wpm : type_of% (@wpRm r12_18 _ r12_18.eq_1) := wpRm r12_18.eq_1
def r12_19 : RT := (.chk none (.bin .eql) (.cons (.bv 0) (.cons (.bv 1) .nil)) (.bnd (.op (.bin .eql) (.cons (.bv 0) (.cons (.bv 1) .nil))) (.chk (some ((.bv 2), true)) (.fld 1) (.cons (.inp 2) .nil) (.ite (.bv 2) true r12_17 r12_18))))
@[simp] theorem r12_19_wp : type_of% (@wpR r12_19 _ r12_19.eq_1) := wpR r12_19.eq_1
@[simp] theorem r12_19_wpq : type_of% (@wpRq r12_19 _ r12_19.eq_1) := wpRq r12_19.eq_1
@[simp] theorem r12_19_wpm : type_of% (@wpRm r12_19 _ r12_19.eq_1) := wpRm r12_19.eq_1
def r12_20 : RT := (.chk none (.fld 0) (.cons (.inp 3) .nil) (.eff (.ld false 1) (.cons (.op (.fld 0) (.cons (.inp 3) .nil)) .nil) r12_19))
@[simp] theorem r12_20_wp : type_of% (@wpR r12_20 _ r12_20.eq_1) := wpR r12_20.eq_1
@[simp] theorem r12_20_wpq : type_of% (@wpRq r12_20 _ r12_20.eq_1) := wpRq r12_20.eq_1
@[simp] theorem r12_20_wpm : type_of% (@wpRm r12_20 _ r12_20.eq_1) := wpRm r12_20.eq_1
def h12_0 : HC := (.seq (.reg (.chk none (.fld 0) (.cons (.inp 2) .nil) (.eff (.ld false 1) (.cons (.op (.fld 0) (.cons (.inp 2) .nil)) .nil) r12_20))) .ret)
@[simp] theorem h12_0_wp : type_of% (@wpH h12_0 _ h12_0.eq_1) := wpH h12_0.eq_1
def l12 : Lifted := ⟨[0, 1, 2, 3, 4], 73, [.slot 4], (.seq (.reg (.eff (.box 46) (.cons (.inp 0) .nil) (.eff (.box 46) (.cons (.inp 1) .nil) (.done [(2, (.bv 0)), (3, (.bv 1)), (4, (.cst (.bool false)))] none)))) h12_0)⟩
theorem l12_ok : liftFn S0 12 400 = some l12 := by kernel_rfl
theorem num_spec (e : Int) (w : World) : CallW Tryz.prog 9 [.int .i64 e] (fun r w' => r = .int .i64 e ∧ w' = w) w := by
  refine go l9_ok ?_
  trivial
theorem lints_spec (x y : List Int) (v1 v2 : Value) (w0 w : World) (A : Asn) (hx : x.length ≤ 35184372088832) (h1 : Row w0 A v1 x.length 1 (ints x)) (h2 : Row w0 A v2 y.length 1 (ints y)) (s : St w0 A w) :
    CallW Tryz.prog 36 [v1, v2] (fun r w' => r = .bool (x == y) ∧ St w0 A w') w := by
  obtain ⟨a1, c1, rfl⟩ := h1.val
  obtain ⟨a2, c2, rfl⟩ := h2.val
  refine callC l36_ok (by simp [l36]) ?_
  simp [l36]
  refine cndI (fun h => ?_) (fun h => ?_)
  · simp at h
    have : (x == y) = false := by
      simp only [beq_eq_false_iff_ne]
      rintro rfl
      exact h rfl
    simp [this]
    exact s
  simp at h
  simp
  refine loopI (fun env w' => ∃ (i : Nat), env = [.slice a1 x.length c1, .slice a2 y.length c2, .bool false, .int .i64 i] ∧ i ≤ x.length ∧ x.take i = y.take i ∧ St w0 A w')
    (fun env _ => x.length - slotN env 3) ⟨0, rfl, by omega, rfl, s⟩ ?_
  rintro LQ env w' ⟨i, rfl, hi, ht, s'⟩ hN hE hR
  simp
  refine cndI (fun h3 => ?_) (fun h3 => ?_)
  · simp at h3
    obtain ⟨g1, o1, c1', e1, k1⟩ := h1.at (by omega)
    cases e1
    obtain ⟨g2, o2, c2', e2, k2⟩ := h2.at (by omega)
    cases e2
    have hy : i < y.length := by omega
    refine brqI s' ?_
    simp [h3]
    refine effq_ldc (fun w s => k1 w s i _ (ints_at h3)) ?_
    simp [hy]
    refine effq_ldc (fun w s => k2 w s i _ (ints_at hy)) ?_
    simp
    intro w2 s2
    refine cndI (fun h4 => ?_) (fun h4 => ?_)
    · simp at h4
      have : (x == y) = false := by
        simp only [beq_eq_false_iff_ne]
        rintro rfl
        exact h4 rfl
      simp
      refine hR _ _ ?_
      simp [this]
      exact s2
    · simp at h4
      have h4 : x[i] = y[i] := h4
      simp [thenQ]
      try simp (disch := omega) only [wrap64]
      refine hN _ _ ⟨i + 1, by simp, by omega, ?_, s2⟩ (by simp [slotN]; omega)
      rw [List.take_succ_eq_append_getElem h3, List.take_succ_eq_append_getElem hy, ht, h4]
  · simp at h3
    simp
    refine hE _ _ _ ?_
    simp
    have e : i = x.length := by omega
    have e2 : i = y.length := by omega
    rw [e, List.take_length, ← e, e2, List.take_length] at ht
    subst ht
    simp
    exact s'
theorem lentry_spec (e : PE) (v1 v2 : Value) (w0 w : World) (A : Asn) (he : e.ws.length ≤ 1048576) (h1 : WR w0 A v1 e.ws) (h2 : WR w0 A v2 e.ws) (s : St w0 A w) :
    CallW Tryz.prog 16 [.agg (e.cs v1).toArray, .agg (e.cs v2).toArray] (fun r w' => r = .bool true ∧ St w0 A w') w := by
  refine go l16_ok ?_
  refine bxB fun b w s => ?_
  refine bxB fun d w s => ?_
  repeat refine ldB ?_
  refine cl1 (lints_spec e.ws e.ws _ _ w0 w _ (by omega) (h1.mono fun w s => s.ent) (h2.mono fun w s => s.ent) s) fun w s => ?_
  exact s.ent
theorem lcontract_spec (c : PC) (v1 v2 : Value) (x1 x2 : List Value) (w0 w : World) (A : Asn) (hc : c.es.length ≤ 1048576) (he : ∀ e ∈ c.es, e.ws.length ≤ 1048576) (h1 : CV w0 A v1 x1 c.es) (h2 : CV w0 A v2 x2 c.es) (s : St w0 A w) :
    CallW Tryz.prog 7 [.agg (c.cs v1).toArray, .agg (c.cs v2).toArray] (fun r w' => r = .bool true ∧ St w0 A w') w := by
  have h1' := h1
  have h2' := h2
  obtain ⟨a1, c1, rfl⟩ := h1.row.val
  obtain ⟨a2, c2, rfl⟩ := h2.row.val
  refine go l7_ok ?_
  refine bxB fun b w s2 => ?_
  refine bxB fun d w s2 => ?_
  obtain ⟨D, hD⟩ : ∃ D, A * pt b (.cells (c.cs (.slice a1 c.es.length c1)).toArray 25 (0, 0)) * pt d (.cells (c.cs (.slice a2 c.es.length c2)).toArray 25 (0, 0)) = D := ⟨_, rfl⟩
  have fb : ∀ {w : World}, St w0 D w → ∀ j u, (c.cs (.slice a1 c.es.length c1))[j]? = some u → w.cell? ⟨b, j, none⟩ = some u := fun h j u hu => by
    rw [← hD] at h
    have := h.drop.row_cells j u hu; simpa using this
  have fd : ∀ {w : World}, St w0 D w → ∀ j u, (c.cs (.slice a2 c.es.length c2))[j]? = some u → w.cell? ⟨d, j, none⟩ = some u := fun h j u hu => by
    rw [← hD] at h
    have := h.row_cells j u hu; simpa using this
  have hDA : ∀ w, St w0 D w → St w0 A w := fun w h => by rw [← hD] at h; exact h.drop.drop
  repeat refine ldB ?_
  rw [hD] at s2
  refine loopI (fun env w' => ∃ (i : Nat), env = [.agg (c.cs (.slice a1 c.es.length c1)).toArray, .agg (c.cs (.slice a2 c.es.length c2)).toArray, .pointer (some ⟨b, 0, none⟩), .pointer (some ⟨d, 0, none⟩), .bool false, .int .i64 i] ∧ i ≤ c.es.length ∧ St w0 D w')
    (fun env _ => c.es.length - slotN env 5) ⟨0, rfl, by omega, s2⟩ ?_
  rintro LQ env w' ⟨i, rfl, hi, s3⟩ hN hE hR
  simp
  refine eff_ldc (v := .slice a1 c.es.length c1) (fb s3 10 _ rfl) ?_
  simp
  refine cndI (fun h3 => ?_) (fun h3 => ?_)
  · simp at h3
    obtain ⟨g1, o1, c1', e1, k1⟩ := h1.row.at (by omega)
    cases e1
    obtain ⟨g2, o2, c2', e2, k2⟩ := h2.row.at (by omega)
    cases e2
    have hl1 := h1.len
    have hl2 := h2.len
    have i1 : i < x1.length := by omega
    have i2 : i < x2.length := by omega
    have z1 : i < (c.es.zip x1).length := by simp; omega
    have z2 : i < (c.es.zip x2).length := by simp; omega
    have e1 := h1'.each i i1 h3
    have e2 := h2'.each i i2 h3
    obtain ⟨e, hee⟩ : ∃ e, c.es[i] = e := ⟨_, rfl⟩
    have hle := he e (by rw [← hee]; exact List.getElem_mem h3)
    rw [hee] at e1 e2
    have y1 : (c.es.zip x1)[i] = (e, x1[i]) := by simp [hee]
    have y2 : (c.es.zip x2)[i] = (e, x2[i]) := by simp [hee]
    refine brmI (fun vs w => (∀ v ∈ vs, v = .bool true) ∧ St w0 D w) ⟨by simp, s3.drew⟩ ?_
    simp [h3]
    refine effm_ldc (fun vs' w _ hw => fb hw.2 10 _ rfl) ?_
    simp [h3]
    refine effm_ldcs (us := e.cs x1[i]) (fun vs' w _ hw j u hu => by rw [Nat.add_assoc]; exact k1 w (hDA _ hw.2) _ _ (eflat_at z1 j u (by rw [y1]; exact hu))) rfl ?_
    simp [h3]
    refine effm_ldc (fun vs' w _ hw => fd hw.2 10 _ rfl) ?_
    simp [h3]
    refine effm_ldcs (us := e.cs x2[i]) (fun vs' w _ hw j u hu => by rw [Nat.add_assoc]; exact k2 w (hDA _ hw.2) _ _ (eflat_at z2 j u (by rw [y2]; exact hu))) rfl ?_
    simp
    refine effm_mv rfl (fun w hw => eff_call ((lentry_spec e _ _ w0 w _ hle (e1.mono hDA) (e2.mono hDA) hw.2).mono ?_)) (fun v hv => ?_)
    · rintro _ w5 ⟨rfl, s5⟩
      exact ⟨by simp, s5⟩
    obtain ⟨_, hv, _⟩ := hv
    obtain rfl : v = .bool true := hv v (by simp)
    simp
    intro w6 s6
    simp [thenQ]
    try simp (disch := omega) only [wrap64]
    exact hN _ _ ⟨i + 1, by simp, by omega, s6⟩ (by simp [slotN]; omega)
  · simp at h3
    simp
    refine hE _ _ _ ?_
    simp
    exact hDA _ s3
theorem lrecord_spec (r : PR) (ev1 ev2 v1 v2 : Value) (x1 x2 : List Value) (w0 w : World) (A : Asn) (he : r.en.ws.length ≤ 1048576) (hc : r.co.es.length ≤ 1048576) (hce : ∀ e ∈ r.co.es, e.ws.length ≤ 1048576) (h1 : WR w0 A ev1 r.en.ws) (h2 : WR w0 A ev2 r.en.ws) (h3 : CV w0 A v1 x1 r.co.es) (h4 : CV w0 A v2 x2 r.co.es) (s : St w0 A w) :
    CallW Tryz.prog 12 [.agg (r.cs ev1 v1).toArray, .agg (r.cs ev2 v2).toArray] (fun r w' => r = .bool true ∧ St w0 A w') w := by
  refine go l12_ok ?_
  refine bxB fun b w s => ?_
  refine bxB fun d w s => ?_
  repeat refine ldB ?_
  refine ldsB (vs := r.en.cs ev1) ?_
  refine ldsB (vs := r.en.cs ev2) ?_
  refine cl1 (lentry_spec r.en _ _ w0 w _ he (h1.mono fun w s => s.ent) (h2.mono fun w s => s.ent) s) fun w s => ?_
  refine ldsB (vs := r.co.cs v1) ?_
  refine ldsB (vs := r.co.cs v2) ?_
  refine cl1 (lcontract_spec r.co _ _ x1 x2 w0 w _ hc hce (h3.mono fun w s => s.ent) (h4.mono fun w s => s.ent) s) fun w s => ?_
  repeat refine ldB ?_
  exact s.ent
end Go.HL.Mk

namespace Go.HL.Mk
open Go.HL Go.HL.Tl Go.HL.Sr Go.HL.St0 Go.Proofs
set_option maxRecDepth 4000
set_option linter.unusedSimpArgs false
set_option linter.unusedVariables false
attribute [local irreducible] EffW

def r13_0 : RT := (.eff (.ld false 1) (.cons (.ite (.bv 14) true (.op (.fld 5) (.cons (.inp 2) .nil)) (.cst (.tuple #[]))) .nil) (.chk none (.fld 5) (.cons (.inp 3) .nil) (.eff (.ld false 1) (.cons (.op (.fld 5) (.cons (.inp 3) .nil)) .nil) (.chk none (.bin .eql) (.cons (.bv 15) (.cons (.bv 16) .nil)) (.isb none (.bv 14) (.bnd (.op (.bin .eql) (.cons (.bv 15) (.cons (.bv 16) .nil))) (.chk (some ((.bv 17), true)) (.fld 6) (.cons (.inp 2) .nil) (.ite (.bv 17) true (.eff (.ld false 1) (.cons (.ite (.bv 17) true (.op (.fld 6) (.cons (.inp 2) .nil)) (.cst (.tuple #[]))) .nil) (.chk none (.fld 6) (.cons (.inp 3) .nil) (.eff (.ld false 1) (.cons (.op (.fld 6) (.cons (.inp 3) .nil)) .nil) (.chk none (.bin .eql) (.cons (.bv 18) (.cons (.bv 19) .nil)) (.isb none (.bv 17) (.bnd (.op (.bin .eql) (.cons (.bv 18) (.cons (.bv 19) .nil))) (.chk (some ((.bv 20), true)) (.fld 7) (.cons (.inp 2) .nil) (.ite (.bv 20) true (.eff (.ld true 11) (.cons (.ite (.bv 20) true (.op (.fld 7) (.cons (.inp 2) .nil)) (.cst (.tuple #[]))) .nil) (.chk none (.fld 7) (.cons (.inp 3) .nil) (.eff (.ld true 11) (.cons (.op (.fld 7) (.cons (.inp 3) .nil)) .nil) (.eff (.call 7) (.cons (.bv 21) (.cons (.bv 22) .nil)) (.isb none (.bv 20) (.done [(4, (.bv 23))] none)))))) (.isb none (.bv 20) (.done [(4, (.cst (.bool false)))] none)))))))))) (.isb none (.bv 17) (.isb none (.cst (.bool false)) (.done [(4, (.cst (.bool false)))] none)))))))))))
@[simp] theorem r13_0_wp : type_of% (@wpR r13_0 _ r13_0.eq_1) := wpR r13_0.eq_1
@[simp] theorem r13_0_wpq : type_of% (@wpRq r13_0 _ r13_0.eq_1) := wpRq r13_0.eq_1
@[simp] theorem r13_0_wpm : type_of% (@wpRm r13_0 _ r13_0.eq_1) := wpRm r13_0.eq_1
def r13_1 : RT := (.isb none (.bv 11) (.chk (some ((.bv 14), true)) (.fld 5) (.cons (.inp 2) .nil) (.ite (.bv 14) true r13_0 (.isb none (.bv 14) (.isb none (.cst (.bool false)) (.isb none (.cst (.bool false)) (.done [(4, (.cst (.bool false)))] none)))))))
@[simp] theorem r13_1_wp : type_of% (@wpR r13_1 _ r13_1.eq_1) := wpR r13_1.eq_1
@[simp] theorem r13_1_wpq : type_of% (@wpRq r13_1 _ r13_1.eq_1) := wpRq r13_1.eq_1
@[simp] theorem r13_1_wpm : type_of% (@wpRm r13_1 _ r13_1.eq_1) := wpRm r13_1.eq_1
def r13_2 : RT := (.eff (.call 36) (.cons (.bv 12) (.cons (.bv 13) .nil)) r13_1)
@[simp] theorem r13_2_wp : type_of% (@wpR r13_2 _ r13_2.eq_1) := wpR r13_2.eq_1
@[simp] theorem r13_2_wpq : type_of% (@wpRq r13_2 _ r13_2.eq_1) := wpRq r13_2.eq_1
@[simp] theorem r13_2_wpm : type_of% (@wpRm r13_2 _ r13_2.eq_1) := wpRm r13_2.eq_1
def r13_3 : RT := (.chk none (.fld 4) (.cons (.inp 3) .nil) (.eff (.ld false 1) (.cons (.op (.fld 4) (.cons (.inp 3) .nil)) .nil) r13_2))
@[simp] theorem r13_3_wp : type_of% (@wpR r13_3 _ r13_3.eq_1) := wpR r13_3.eq_1
@[simp] theorem r13_3_wpq : type_of% (@wpRq r13_3 _ r13_3.eq_1) := wpRq r13_3.eq_1
@[simp] theorem r13_3_wpm : type_of% (@wpRm r13_3 _ r13_3.eq_1) := wpRm r13_3.eq_1
def r13_4 : RT := (.eff (.ld false 1) (.cons (.ite (.bv 11) true (.op (.fld 4) (.cons (.inp 2) .nil)) (.cst (.tuple #[]))) .nil) r13_3)
@[simp] theorem r13_4_wp : type_of% (@wpR r13_4 _ r13_4.eq_1) := wpR r13_4.eq_1
@[simp] theorem r13_4_wpq : type_of% (@wpRq r13_4 _ r13_4.eq_1) := wpRq r13_4.eq_1
@[simp] theorem r13_4_wpm : type_of% (@wpRm r13_4 _ r13_4.eq_1) := wpRm r13_4.eq_1
def r13_5 : RT := (.chk none (.bin .eql) (.cons (.bv 9) (.cons (.bv 10) .nil)) (.isb none (.bv 8) (.bnd (.op (.bin .eql) (.cons (.bv 9) (.cons (.bv 10) .nil))) (.chk (some ((.bv 11), true)) (.fld 4) (.cons (.inp 2) .nil) (.ite (.bv 11) true r13_4 (.isb none (.bv 11) (.isb none (.cst (.bool false)) (.isb none (.cst (.bool false)) (.isb none (.cst (.bool false)) (.done [(4, (.cst (.bool false)))] none))))))))))
@[simp] theorem r13_5_wp : type_of% (@wpR r13_5 _ r13_5.eq_1) := wpR r13_5.eq_1
@[simp] theorem r13_5_wpq : type_of% (@wpRq r13_5 _ r13_5.eq_1) := wpRq r13_5.eq_1
@[simp] theorem r13_5_wpm : type_of% (@wpRm r13_5 _ r13_5.eq_1) := wpRm r13_5.eq_1
def r13_6 : RT := (.chk none (.fld 3) (.cons (.inp 3) .nil) (.eff (.ld false 1) (.cons (.op (.fld 3) (.cons (.inp 3) .nil)) .nil) r13_5))
@[simp] theorem r13_6_wp : type_of% (@wpR r13_6 _ r13_6.eq_1) := wpR r13_6.eq_1
@[simp] theorem r13_6_wpq : type_of% (@wpRq r13_6 _ r13_6.eq_1) := wpRq r13_6.eq_1
@[simp] theorem r13_6_wpm : type_of% (@wpRm r13_6 _ r13_6.eq_1) := wpRm r13_6.eq_1
def r13_7 : RT := (.eff (.ld false 1) (.cons (.ite (.bv 8) true (.op (.fld 3) (.cons (.inp 2) .nil)) (.cst (.tuple #[]))) .nil) r13_6)
@[simp] theorem r13_7_wp : type_of% (@wpR r13_7 _ r13_7.eq_1) := wpR r13_7.eq_1
@[simp] theorem r13_7_wpq : type_of% (@wpRq r13_7 _ r13_7.eq_1) := wpRq r13_7.eq_1
@[simp] theorem r13_7_wpm : type_of% (@wpRm r13_7 _ r13_7.eq_1) := wpRm r13_7.eq_1
def r13_8 : RT := (.chk none (.bin .eql) (.cons (.bv 6) (.cons (.bv 7) .nil)) (.isb none (.bv 5) (.bnd (.op (.bin .eql) (.cons (.bv 6) (.cons (.bv 7) .nil))) (.chk (some ((.bv 8), true)) (.fld 3) (.cons (.inp 2) .nil) (.ite (.bv 8) true r13_7 (.isb none (.bv 8) (.isb none (.cst (.bool false)) (.isb none (.cst (.bool false)) (.isb none (.cst (.bool false)) (.isb none (.cst (.bool false)) (.done [(4, (.cst (.bool false)))] none)))))))))))
@[simp] theorem r13_8_wp : type_of% (@wpR r13_8 _ r13_8.eq_1) := wpR r13_8.eq_1
@[simp] theorem r13_8_wpq : type_of% (@wpRq r13_8 _ r13_8.eq_1) := wpRq r13_8.eq_1
@[simp] theorem r13_8_wpm : type_of% (@wpRm r13_8 _ r13_8.eq_1) := wpRm r13_8.eq_1
def r13_9 : RT := (.chk none (.fld 2) (.cons (.inp 3) .nil) (.eff (.ld false 1) (.cons (.op (.fld 2) (.cons (.inp 3) .nil)) .nil) r13_8))
@[simp] theorem r13_9_wp : type_of% (@wpR r13_9 _ r13_9.eq_1) := wpR r13_9.eq_1
@[simp] theorem r13_9_wpq : type_of% (@wpRq r13_9 _ r13_9.eq_1) := wpRq r13_9.eq_1
@[simp] theorem r13_9_wpm : type_of% (@wpRm r13_9 _ r13_9.eq_1) := wpRm r13_9.eq_1
def r13_10 : RT := (.eff (.ld false 1) (.cons (.ite (.bv 5) true (.op (.fld 2) (.cons (.inp 2) .nil)) (.cst (.tuple #[]))) .nil) r13_9)
@[simp] theorem r13_10_wp : type_of% (@wpR r13_10 _ r13_10.eq_1) := wpR r13_10.eq_1
@[simp] theorem r13_10_wpq : type_of% (@wpRq r13_10 _ r13_10.eq_1) := wpRq r13_10.eq_1
@[simp] theorem r13_10_wpm : type_of% (@wpRm r13_10 _ r13_10.eq_1) := wpRm r13_10.eq_1
def r13_11 : RT := (.chk none (.bin .eql) (.cons (.bv 3) (.cons (.bv 4) .nil)) (.isb none (.bv 2) (.bnd (.op (.bin .eql) (.cons (.bv 3) (.cons (.bv 4) .nil))) (.chk (some ((.bv 5), true)) (.fld 2) (.cons (.inp 2) .nil) (.ite (.bv 5) true r13_10 (.isb none (.bv 5) (.isb none (.cst (.bool false)) (.isb none (.cst (.bool false)) (.isb none (.cst (.bool false)) (.isb none (.cst (.bool false)) (.isb none (.cst (.bool false)) (.done [(4, (.cst (.bool false)))] none))))))))))))
@[simp] theorem r13_11_wp : type_of% (@wpR r13_11 _ r13_11.eq_1) := wpR r13_11.eq_1
@[simp] theorem r13_11_wpq : type_of% (@wpRq r13_11 _ r13_11.eq_1) := wpRq r13_11.eq_1
@[simp] theorem r13_11_wpm : type_of% (@wpRm r13_11 _ r13_11.eq_1) := wpRm r13_11.eq_1
def r13_12 : RT := (.chk none (.fld 1) (.cons (.inp 3) .nil) (.eff (.ld false 1) (.cons (.op (.fld 1) (.cons (.inp 3) .nil)) .nil) r13_11))
@[simp] theorem r13_12_wp : type_of% (@wpR r13_12 _ r13_12.eq_1) := wpR r13_12.eq_1
@[simp] theorem r13_12_wpq : type_of% (@wpRq r13_12 _ r13_12.eq_1) := wpRq r13_12.eq_1
@[simp] theorem r13_12_wpm : type_of% (@wpRm r13_12 _ r13_12.eq_1) := wpRm r13_12.eq_1
def r13_13 : RT := (.eff (.ld false 1) (.cons (.ite (.bv 2) true (.op (.fld 1) (.cons (.inp 2) .nil)) (.cst (.tuple #[]))) .nil) r13_12)
@[simp] theorem r13_13_wp : type_of% (@wpR r13_13 _ r13_13.eq_1) := wpR r13_13.eq_1
@[simp] theorem r13_13_wpq : type_of% (@wpRq r13_13 _ r13_13.eq_1) := wpRq r13_13.eq_1
@[simp] theorem r13_13_wpm : type_of% (@wpRm r13_13 _ r13_13.eq_1) := wpRm r13_13.eq_1
def r13_14 : RT := (.chk none (.bin .eql) (.cons (.bv 0) (.cons (.bv 1) .nil)) (.bnd (.op (.bin .eql) (.cons (.bv 0) (.cons (.bv 1) .nil))) (.chk (some ((.bv 2), true)) (.fld 1) (.cons (.inp 2) .nil) (.ite (.bv 2) true r13_13 (.isb none (.bv 2) (.isb none (.cst (.bool false)) (.isb none (.cst (.bool false)) (.isb none (.cst (.bool false)) (.isb none (.cst (.bool false)) (.isb none (.cst (.bool false)) (.isb none (.cst (.bool false)) (.done [(4, (.cst (.bool false)))] none))))))))))))
@[simp] theorem r13_14_wp : type_of% (@wpR r13_14 _ r13_14.eq_1) := wpR r13_14.eq_1
@[simp] theorem r13_14_wpq : type_of% (@wpRq r13_14 _ r13_14.eq_1) := wpRq r13_14.eq_1
@[simp] theorem r13_14_wpm : type_of% (@wpRm r13_14 _ r13_14.eq_1) := wpRm r13_14.eq_1
def r13_15 : RT := (.chk none (.fld 0) (.cons (.inp 3) .nil) (.eff (.ld false 1) (.cons (.op (.fld 0) (.cons (.inp 3) .nil)) .nil) r13_14))
@[simp] theorem r13_15_wp : type_of% (@wpR r13_15 _ r13_15.eq_1) := wpR r13_15.eq_1
@[simp] theorem r13_15_wpq : type_of% (@wpRq r13_15 _ r13_15.eq_1) := wpRq r13_15.eq_1
@[simp] theorem r13_15_wpm : type_of% (@wpRm r13_15 _ r13_15.eq_1) := wpRm r13_15.eq_1
def h13_0 : HC := (.seq (.reg (.chk none (.fld 0) (.cons (.inp 2) .nil) (.eff (.ld false 1) (.cons (.op (.fld 0) (.cons (.inp 2) .nil)) .nil) r13_15))) .ret)
@[simp] theorem h13_0_wp : type_of% (@wpH h13_0 _ h13_0.eq_1) := wpH h13_0.eq_1
def l13 : Lifted := ⟨[0, 1, 2, 3, 4], 59, [.slot 4], (.seq (.reg (.eff (.box 51) (.cons (.inp 0) .nil) (.eff (.box 51) (.cons (.inp 1) .nil) (.done [(2, (.bv 0)), (3, (.bv 1)), (4, (.cst (.bool false)))] none)))) h13_0)⟩
theorem l13_ok : liftFn S0 13 400 = some l13 := by kernel_rfl

def r4_0 : RT := (.chk none (.build (rl [(1, (.int .i64 0)), (1, (.string ⟨#[]⟩)), (2, (.int .i64 0)), (1, (.int .u64 0)), (4, (.int .i64 0)), (2, (.int .u64 0)), (1, (.slice none 0 0)), (6, (.int .i64 0)), (3, (.int .u64 0)), (1, (.int .i64 0)), (1, (.slice none 0 0)), (1, (.int .i64 0))]) [(0, 1), (1, 1), (2, 1), (3, 1), (4, 1), (5, 1), (6, 1), (7, 5), (12, 11), (23, 1)] [0, 3, 4]) (.cons (.cst (.int .i64 2)) (.cons (.cst (.int .i64 2)) (.cons (.cst (.int .u64 5)) .nil))) (.eff (.call 12) (.cons (.bv 4) (.cons (.op (.build (rl [(1, (.int .i64 0)), (1, (.string ⟨#[]⟩)), (2, (.int .i64 0)), (1, (.int .u64 0)), (4, (.int .i64 0)), (2, (.int .u64 0)), (1, (.slice none 0 0)), (6, (.int .i64 0)), (3, (.int .u64 0)), (1, (.int .i64 0)), (1, (.slice none 0 0)), (1, (.int .i64 0))]) [(0, 1), (1, 1), (2, 1), (3, 1), (4, 1), (5, 1), (6, 1), (7, 5), (12, 11), (23, 1)] [0, 3, 4]) (.cons (.cst (.int .i64 2)) (.cons (.cst (.int .i64 2)) (.cons (.cst (.int .u64 5)) .nil)))) .nil)) (.isb none (.bv 3) (.ite (.bv 5) true (.eff (.ld true 18) (.cons (.inp 7) .nil) (.chk none (.build (rl [(3, (.int .i64 0)), (1, (.int .u64 0)), (1, (.slice none 0 0)), (1, (.string ⟨#[]⟩)), (1, (.int .u32 0)), (6, (.int .i64 0)), (3, (.int .u64 0)), (1, (.int .i64 0)), (1, (.slice none 0 0))]) [(0, 1), (1, 1), (2, 1), (3, 1), (4, 1), (5, 1), (6, 1), (7, 11)] [0, 1]) (.cons (.cst (.int .i64 7)) (.cons (.cst (.int .i64 142)) .nil)) (.eff (.call 13) (.cons (.bv 6) (.cons (.op (.build (rl [(3, (.int .i64 0)), (1, (.int .u64 0)), (1, (.slice none 0 0)), (1, (.string ⟨#[]⟩)), (1, (.int .u32 0)), (6, (.int .i64 0)), (3, (.int .u64 0)), (1, (.int .i64 0)), (1, (.slice none 0 0))]) [(0, 1), (1, 1), (2, 1), (3, 1), (4, 1), (5, 1), (6, 1), (7, 11)] [0, 1]) (.cons (.cst (.int .i64 7)) (.cons (.cst (.int .i64 142)) .nil))) .nil)) (.isb none (.bv 5) (.done [(0, (.bv 7))] none))))) (.isb none (.bv 5) (.done [(0, (.cst (.bool false)))] none))))))
@[simp] theorem r4_0_wp : type_of% (@wpR r4_0 _ r4_0.eq_1) := wpR r4_0.eq_1
@[simp] theorem r4_0_wpq : type_of% (@wpRq r4_0 _ r4_0.eq_1) := wpRq r4_0.eq_1
@[simp] theorem r4_0_wpm : type_of% (@wpRm r4_0 _ r4_0.eq_1) := wpRm r4_0.eq_1
def r4_1 : RT := (.eff (.ld true 24) (.cons (.inp 5) .nil) r4_0)
@[simp] theorem r4_1_wp : type_of% (@wpR r4_1 _ r4_1.eq_1) := wpR r4_1.eq_1
@[simp] theorem r4_1_wpq : type_of% (@wpRq r4_1 _ r4_1.eq_1) := wpRq r4_1.eq_1
@[simp] theorem r4_1_wpm : type_of% (@wpRm r4_1 _ r4_1.eq_1) := wpRm r4_1.eq_1
def r4_2 : RT := (.chk none (.bin .eql) (.cons (.bv 2) (.cons (.cst (.int .i64 0)) .nil)) (.isb none (.bv 1) (.bnd (.op (.bin .eql) (.cons (.bv 2) (.cons (.cst (.int .i64 0)) .nil))) (.ite (.bv 3) true r4_1 (.isb none (.bv 3) (.isb none (.cst (.bool false)) (.done [(0, (.cst (.bool false)))] none)))))))
@[simp] theorem r4_2_wp : type_of% (@wpR r4_2 _ r4_2.eq_1) := wpR r4_2.eq_1
@[simp] theorem r4_2_wpq : type_of% (@wpRq r4_2 _ r4_2.eq_1) := wpRq r4_2.eq_1
@[simp] theorem r4_2_wpm : type_of% (@wpRm r4_2 _ r4_2.eq_1) := wpRm r4_2.eq_1
def r4_3 : RT := (.eff (.call 9) (.cons (.ite (.bv 1) true (.inp 6) (.cst (.tuple #[]))) .nil) r4_2)
@[simp] theorem r4_3_wp : type_of% (@wpR r4_3 _ r4_3.eq_1) := wpR r4_3.eq_1
@[simp] theorem r4_3_wpq : type_of% (@wpRq r4_3 _ r4_3.eq_1) := wpRq r4_3.eq_1
@[simp] theorem r4_3_wpm : type_of% (@wpRm r4_3 _ r4_3.eq_1) := wpRm r4_3.eq_1
def r4_4 : RT := (.chk none (.bin .eql) (.cons (.bv 0) (.cons (.cst (.int .i64 240)) .nil)) (.bnd (.op (.bin .eql) (.cons (.bv 0) (.cons (.cst (.int .i64 240)) .nil))) (.ite (.bv 1) true r4_3 (.isb none (.bv 1) (.isb none (.cst (.bool false)) (.isb none (.cst (.bool false)) (.done [(0, (.cst (.bool false)))] none)))))))
@[simp] theorem r4_4_wp : type_of% (@wpR r4_4 _ r4_4.eq_1) := wpR r4_4.eq_1
@[simp] theorem r4_4_wpq : type_of% (@wpRq r4_4 _ r4_4.eq_1) := wpRq r4_4.eq_1
@[simp] theorem r4_4_wpm : type_of% (@wpRm r4_4 _ r4_4.eq_1) := wpRm r4_4.eq_1
def h4_0 : HC := (.seq (.reg (.eff (.call 9) (.cons (.inp 4) .nil) r4_4)) .ret)
@[simp] theorem h4_0_wp : type_of% (@wpH h4_0 _ h4_0.eq_1) := wpH h4_0.eq_1
def h4_1 : HC := (.seq (.reg (.chk none (.build (rl [(2, (.int .i64 0)), (1, (.string ⟨#[]⟩)), (1, (.int .i64 0)), (1, (.int .u64 0)), (5, (.int .i64 0)), (2, (.int .u64 0)), (1, (.slice none 0 0)), (6, (.int .i64 0)), (3, (.int .u64 0)), (1, (.int .i64 0)), (1, (.slice none 0 0))]) [(0, 1), (1, 1), (2, 1), (3, 1), (4, 1), (5, 1), (6, 1), (7, 1), (8, 5), (13, 11)] [0, 1, 2]) (.cons (.cst (.int .i64 7)) (.cons (.cst (.int .i64 14)) (.cons (.cst (.string ⟨#[110, 111, 98, 111, 100, 121]⟩)) .nil))) (.eff (.call 11) (.cons (.inp 1) (.cons (.op (.build (rl [(2, (.int .i64 0)), (1, (.string ⟨#[]⟩)), (1, (.int .i64 0)), (1, (.int .u64 0)), (5, (.int .i64 0)), (2, (.int .u64 0)), (1, (.slice none 0 0)), (6, (.int .i64 0)), (3, (.int .u64 0)), (1, (.int .i64 0)), (1, (.slice none 0 0))]) [(0, 1), (1, 1), (2, 1), (3, 1), (4, 1), (5, 1), (6, 1), (7, 1), (8, 5), (13, 11)] [0, 1, 2]) (.cons (.cst (.int .i64 7)) (.cons (.cst (.int .i64 14)) (.cons (.cst (.string ⟨#[110, 111, 98, 111, 100, 121]⟩)) .nil)))) .nil)) (.eff (.new 51 (.agg #[(.int .i64 0), (.int .i64 0), (.int .i64 0), (.int .u64 0), (.slice none 0 0), (.string ⟨#[]⟩), (.int .u32 0), (.int .i64 0), (.int .i64 0), (.int .i64 0), (.int .i64 0), (.int .i64 0), (.int .i64 0), (.int .u64 0), (.int .u64 0), (.int .u64 0), (.int .i64 0), (.slice none 0 0)])) .nil (.eff (.st 18) (.cons (.bv 1) (.cons (.bv 0) .nil)) (.done [(7, (.bv 1))] none)))))) h4_0)
@[simp] theorem h4_1_wp : type_of% (@wpH h4_1 _ h4_1.eq_1) := wpH h4_1.eq_1
def h4_2 : HC := (.seq (.reg (.eff (.ld true 24) (.cons (.inp 3) .nil) (.eff (.call 10) (.cons (.inp 1) (.cons (.cst (.int .i64 0)) (.cons (.bv 0) .nil))) (.chk none (.ext 0) (.cons (.bv 1) .nil) (.chk none (.ext 1) (.cons (.bv 1) .nil) (.eff (.new 46 (.agg #[(.int .i64 0), (.string ⟨#[]⟩), (.int .i64 0), (.int .i64 0), (.int .u64 0), (.int .i64 0), (.int .i64 0), (.int .i64 0), (.int .i64 0), (.int .u64 0), (.int .u64 0), (.slice none 0 0), (.int .i64 0), (.int .i64 0), (.int .i64 0), (.int .i64 0), (.int .i64 0), (.int .i64 0), (.int .u64 0), (.int .u64 0), (.int .u64 0), (.int .i64 0), (.slice none 0 0), (.int .i64 0)])) .nil (.eff (.st 24) (.cons (.bv 2) (.cons (.op (.ext 0) (.cons (.bv 1) .nil)) .nil)) (.done [(5, (.bv 2)), (6, (.op (.ext 1) (.cons (.bv 1) .nil)))] none)))))))) h4_1)
@[simp] theorem h4_2_wp : type_of% (@wpH h4_2 _ h4_2.eq_1) := wpH h4_2.eq_1
def h4_3 : HC := (.seq (.reg (.eff (.ld true 24) (.cons (.inp 3) .nil) (.eff (.call 10) (.cons (.inp 1) (.cons (.cst (.int .i64 1)) (.cons (.bv 0) .nil))) (.chk none (.ext 0) (.cons (.bv 1) .nil) (.chk none (.ext 1) (.cons (.bv 1) .nil) (.eff (.new 46 (.agg #[(.int .i64 0), (.string ⟨#[]⟩), (.int .i64 0), (.int .i64 0), (.int .u64 0), (.int .i64 0), (.int .i64 0), (.int .i64 0), (.int .i64 0), (.int .u64 0), (.int .u64 0), (.slice none 0 0), (.int .i64 0), (.int .i64 0), (.int .i64 0), (.int .i64 0), (.int .i64 0), (.int .i64 0), (.int .u64 0), (.int .u64 0), (.int .u64 0), (.int .i64 0), (.slice none 0 0), (.int .i64 0)])) .nil (.eff (.st 24) (.cons (.bv 2) (.cons (.op (.ext 0) (.cons (.bv 1) .nil)) .nil)) (.done [(4, (.op (.ext 1) (.cons (.bv 1) .nil)))] none)))))))) h4_2)
@[simp] theorem h4_3_wp : type_of% (@wpH h4_3 _ h4_3.eq_1) := wpH h4_3.eq_1
def h4_4 : HC := (.seq (.reg (.chk none (.build (rl [(2, (.int .i64 0)), (1, (.string ⟨#[]⟩)), (1, (.int .i64 0)), (1, (.int .u64 0)), (5, (.int .i64 0)), (2, (.int .u64 0)), (1, (.slice none 0 0)), (6, (.int .i64 0)), (3, (.int .u64 0)), (1, (.int .i64 0)), (1, (.slice none 0 0))]) [(0, 1), (1, 1), (2, 1), (3, 1), (4, 1), (5, 1), (6, 1), (7, 1), (8, 5), (13, 11)] [0, 1, 3, 4]) (.cons (.cst (.int .i64 7)) (.cons (.cst (.int .i64 2)) (.cons (.cst (.int .i64 2)) (.cons (.cst (.int .u64 5)) .nil)))) (.eff (.new 44 (.agg #[(.int .i64 0), (.int .i64 0), (.string ⟨#[]⟩), (.int .i64 0), (.int .u64 0), (.int .i64 0), (.int .i64 0), (.int .i64 0), (.int .i64 0), (.int .i64 0), (.int .u64 0), (.int .u64 0), (.slice none 0 0), (.int .i64 0), (.int .i64 0), (.int .i64 0), (.int .i64 0), (.int .i64 0), (.int .i64 0), (.int .u64 0), (.int .u64 0), (.int .u64 0), (.int .i64 0), (.slice none 0 0)])) .nil (.eff (.st 24) (.cons (.bv 0) (.cons (.op (.build (rl [(2, (.int .i64 0)), (1, (.string ⟨#[]⟩)), (1, (.int .i64 0)), (1, (.int .u64 0)), (5, (.int .i64 0)), (2, (.int .u64 0)), (1, (.slice none 0 0)), (6, (.int .i64 0)), (3, (.int .u64 0)), (1, (.int .i64 0)), (1, (.slice none 0 0))]) [(0, 1), (1, 1), (2, 1), (3, 1), (4, 1), (5, 1), (6, 1), (7, 1), (8, 5), (13, 11)] [0, 1, 3, 4]) (.cons (.cst (.int .i64 7)) (.cons (.cst (.int .i64 2)) (.cons (.cst (.int .i64 2)) (.cons (.cst (.int .u64 5)) .nil))))) .nil)) (.done [(3, (.bv 0))] none))))) h4_3)
@[simp] theorem h4_4_wp : type_of% (@wpH h4_4 _ h4_4.eq_1) := wpH h4_4.eq_1
def h4_5 : HC := (.seq (.reg (.done [(0, (.cst (.bool false)))] none)) .ret)
@[simp] theorem h4_5_wp : type_of% (@wpH h4_5 _ h4_5.eq_1) := wpH h4_5.eq_1
def h4_6 : HC := (.seq (.br (.eff (.call 9) (.cons (.inp 2) .nil) (.chk none (.bin .neq) (.cons (.bv 0) (.cons (.cst (.int .i64 0)) .nil)) (.bnd (.op (.bin .neq) (.cons (.bv 0) (.cons (.cst (.int .i64 0)) .nil))) (.chk (some ((.bv 1), false)) (.eqNil false (.pointer 70) (.pointer none)) (.cons (.inp 1) .nil) (.isb none (.bv 1) (.done [] (some (.ite (.bv 1) true (.cst (.bool true)) (.op (.eqNil false (.pointer 70) (.pointer none)) (.cons (.inp 1) .nil)))))))))) h4_5 .skip) h4_4)
@[simp] theorem h4_6_wp : type_of% (@wpH h4_6 _ h4_6.eq_1) := wpH h4_6.eq_1
def h4_7 : HC := (.seq (.reg (.chk none (.build #[(.int .i64 0), (.int .i64 0), (.int .i64 0), (.int .i64 0), (.int .i64 0), (.int .i64 0), (.int .i64 0), (.int .i64 0), (.int .i64 0), (.int .i64 0), (.int .i64 0), (.int .i64 0)] [(0, 1), (1, 1), (2, 1), (3, 1), (4, 1), (5, 1), (6, 1), (7, 1), (8, 1), (9, 1), (10, 2)] [7, 8, 9]) (.cons (.cst (.int .i64 3)) (.cons (.cst (.int .i64 4)) (.cons (.cst (.int .i64 2)) .nil))) (.eff (.call 8) (.cons (.op (.build #[(.int .i64 0), (.int .i64 0), (.int .i64 0), (.int .i64 0), (.int .i64 0), (.int .i64 0), (.int .i64 0), (.int .i64 0), (.int .i64 0), (.int .i64 0), (.int .i64 0), (.int .i64 0)] [(0, 1), (1, 1), (2, 1), (3, 1), (4, 1), (5, 1), (6, 1), (7, 1), (8, 1), (9, 1), (10, 2)] [7, 8, 9]) (.cons (.cst (.int .i64 3)) (.cons (.cst (.int .i64 4)) (.cons (.cst (.int .i64 2)) .nil)))) .nil) (.chk none (.ext 0) (.cons (.bv 0) .nil) (.chk none (.ext 1) (.cons (.bv 0) .nil) (.done [(1, (.op (.ext 0) (.cons (.bv 0) .nil))), (2, (.op (.ext 1) (.cons (.bv 0) .nil)))] none)))))) h4_6)
@[simp] theorem h4_7_wp : type_of% (@wpH h4_7 _ h4_7.eq_1) := wpH h4_7.eq_1
def l4 : Lifted := ⟨[0, 1, 2, 3, 5, 6, 7, 8], 55, [.slot 0], (.seq (.reg (.done [(0, (.cst (.bool false)))] none)) h4_7)⟩
theorem l4_ok : liftFn S0 4 400 = some l4 := by kernel_rfl
theorem row_nil (w0 : World) (A : Asn) (size : Nat) : Row w0 A (.slice none 0 0) 0 size [] := ⟨by simp, none, 0, rfl, Nat.le_refl _, .inl rfl⟩
theorem cv_nil (w0 : World) (A : Asn) : CV w0 A (.slice none 0 0) [] [] := ⟨rfl, row_nil w0 A 5, fun i h => by simp at h⟩
theorem reply_spec (id e : Int) (w0 w : World) (A : Asn) (s : St w0 A w) :
    CallW Tryz.prog 13 [.agg (repC id e).toArray, .agg (repC id e).toArray] (fun r w' => r = .bool true ∧ St w0 A w') w := by
  refine go l13_ok ?_
  refine bxB fun b w s => ?_
  refine bxB fun d w s => ?_
  repeat refine ldB ?_
  refine cl1 (lints_spec [] [] _ _ w0 w _ (by decide) (row_nil w0 _ 1) (row_nil w0 _ 1) s) fun w s => ?_
  repeat refine ldB ?_
  refine ldsB (vs := PC.zero.cs (.slice none 0 0)) ?_
  refine ldsB (vs := PC.zero.cs (.slice none 0 0)) ?_
  refine cl1 (lcontract_spec PC.zero _ _ [] [] w0 w _ (by decide) (by intro e h; cases h) (cv_nil w0 _) (cv_nil w0 _) s) fun w s => ?_
  exact s.ent
set_option maxHeartbeats 1000000 in
theorem known_spec (w0 w : World) (A : Asn) (s : St w0 A w) : CallW Tryz.prog 4 [] (fun r w' => r = .bool true ∧ St w0 A w') w := by
  refine go l4_ok ?_
  refine eff_call ((New_spec ⟨0, 0, 0, 0, 0, 0, 0, 3, 4, 2, 0, 0⟩ w0 w A s).mono ?_)
  rintro _ w (⟨_, q, p, g, e, m, rfl, s⟩ | ⟨h, _⟩)
  case inr => exact absurd (by decide) h
  simp
  refine eff_call ((num_spec _ w).mono ?_)
  rintro _ w ⟨rfl, rfl⟩
  simp
  refine nwB fun c w s => ?_
  refine stsB (cs' := (cmdC 7 2 [] 2 5).toArray) fun w s => ?_
  refine ldsB (vs := cmdC 7 2 [] 2 5) ?_
  refine cl1 (Record_spec q 1 7 2 5 w0 w _ s) fun w s => ?_
  refine nwB fun d1 w s => ?_
  refine stsB (cs' := (recC 0 0 0).toArray) (h1 := by simp [recC, Value.oneCell']) fun w s => ?_
  refine ldsB (vs := cmdC 7 2 [] 2 5) ?_
  refine cl1 (Record_spec q 0 7 2 5 w0 w _ s) fun w s => ?_
  refine nwB fun d2 w s => ?_
  refine stsB (cs' := (recC 2 2 5).toArray) (h1 := by simp [recC, Value.oneCell']) fun w s => ?_
  have s : St w0 (A * stP q _ 0 0 p g e m * Es.ecoA p g e 4 _ * imap m [] 0 * _ * _ * _) w := s.to (by simp only [newA]; ac_rfl)
  refine cl1 (Ask_spec 7 q _ 0 0 p g e m _ [110, 111, 98, 111, 100, 121] w0 w _ (by decide) (by kernel_rfl) ((s.at p).at q)) fun w s => ?_
  refine nwB fun d3 w s => ?_
  refine stsB (cs' := (repC 7 142).toArray) (h1 := by simp [repC, Value.oneCell']) fun w s => ?_
  refine eff_call ((num_spec _ w).mono ?_)
  rintro _ w ⟨rfl, rfl⟩
  simp
  refine eff_call ((num_spec _ w).mono ?_)
  rintro _ w ⟨rfl, rfl⟩
  simp
  refine ldsB (vs := recC 2 2 5) ?_
  refine cl1 (lrecord_spec ⟨2, [], 0, 2, 5, 0, 0, PE.zero, PC.zero, 0⟩ _ _ _ _ [] [] w0 w _ (by decide) (by decide) (by intro e h; cases h) (row_nil w0 _ 1) (row_nil w0 _ 1) (cv_nil w0 _) (cv_nil w0 _) s) fun w s => ?_
  refine ldsB (vs := repC 7 142) ?_
  refine cl1 (reply_spec 7 142 w0 w _ s) fun w s => ?_
  exact s.ent
end Go.HL.Mk

namespace Go.HL.Mk
open Go.HL Go.HL.Tl Go.HL.Sr Go.HL.St0 Go.Proofs
set_option maxRecDepth 4000
set_option linter.unusedSimpArgs false
set_option linter.unusedVariables false
attribute [local irreducible] EffW
def imarks : List Value := [.int .i64 (-77), .int .i64 (-78)]
abbrev iwA (v : Value) (ws : List Int) : Asn := lenA 3 1 v ws.length 2 (ints ws) imarks
def cmark : List Value := [.int .i64 (-77), .int .i64 0, .int .u64 0, .int .u64 0, .slice none 0 0]
abbrev iwL (l : List (PE × Value)) : Asn := allA (fun x => iwA x.2 x.1.ws) l
abbrev ceA (cv : Value) (l : List (PE × Value)) : Asn := lenA 31 5 cv l.length 1 (eflat l) cmark * iwL l
theorem eflat_len (l : List (PE × Value)) : (eflat l).length = l.length * 5 := flat_length (fun y : PE × Value => y.1.cs y.2) 5 (fun _ => rfl) l
theorem eflat_snoc (l : List (PE × Value)) (e : PE) (v : Value) : eflat (l ++ [(e, v)]) = eflat l ++ e.cs v := by simp [eflat]
theorem ce_seen {w0 w : World} {A : Asn} {cv : Value} {l : List (PE × Value)} (s : St w0 (A * ceA cv l) w) : CV w0 (A * ceA cv l) cv (l.map (·.2)) (l.map (·.1)) := by
  refine ⟨by simp, ?_, fun i h1 h2 => ?_⟩
  · rw [Sr.zip_parts, List.length_map]
    exact len_in (e := 31) (k := 1) (ys := cmark) (B := A * iwL l) s (by simp only [ceA]; ac_rfl)
  · have hi : i < l.length := by simpa using h1
    obtain ⟨R, hR⟩ := allA_at (fun x : PE × Value => iwA x.2 x.1.ws) l i hi
    have := len_in (e := 3) (size := 1) (n := l[i].1.ws.length) (k := 2) (v := l[i].2) (xs := ints l[i].1.ws) (ys := imarks) (B := A * lenA 31 5 cv l.length 1 (eflat l) cmark * R) s (by simp only [ceA, iwL, hR]; ac_rfl)
    simpa using this
theorem iw_one {w0 w : World} {A : Asn} {v : Value} {ws : List Int} (s : St w0 (A * iwA v ws) w) : v.oneCell' = true := by obtain ⟨_, _, rfl, _⟩ := lopen s; rfl

def h14_0 : HC := (.seq (.reg (.eff (.bsl 3 0 1 #[] []) .nil (.eff (.app 29 29 3 1 8 (.int .i64 0)) (.cons (.bv 0) (.cons (.inp 0) .nil)) (.eff (.bsl 3 2 1 #[(.int .i64 0)] [0, 1]) (.cons (.cst (.int .i64 (-77))) (.cons (.cst (.int .i64 (-78))) .nil)) (.eff (.app 29 29 3 1 8 (.int .i64 0)) (.cons (.bv 1) (.cons (.bv 2) .nil)) (.chk none .lenL (.cons (.inp 0) .nil) (.chk none (.slL 1 false true false) (.cons (.bv 3) (.cons (.op .lenL (.cons (.inp 0) .nil)) .nil)) (.done [(1, (.op (.slL 1 false true false) (.cons (.bv 3) (.cons (.op .lenL (.cons (.inp 0) .nil)) .nil))))] none)))))))) .ret)
@[simp] theorem h14_0_wp : type_of% (@wpH h14_0 _ h14_0.eq_1) := wpH h14_0.eq_1
def l14 : Lifted := ⟨[0, 2], 11, [.slot 1], (.seq (.reg (.done [(1, (.cst (.slice none 0 0)))] none)) h14_0)⟩
theorem l14_ok : liftFn S0 14 400 = some l14 := by kernel_rfl

def h5_0 : HC := (.seq (.reg (.eff (.ld true 11) (.cons (.inp 1) .nil) (.eff (.st 11) (.cons (.inp 2) (.cons (.bv 0) .nil)) (.done [] none)))) .ret)
@[simp] theorem h5_0_wp : type_of% (@wpH h5_0 _ h5_0.eq_1) := wpH h5_0.eq_1
def h5_1 : HC := (.seq (.reg (.chk none (.fld 10) (.cons (.inp 1) .nil) (.eff (.ld false 1) (.cons (.op (.fld 10) (.cons (.inp 1) .nil)) .nil) (.chk none .lenL (.cons (.bv 0) .nil) (.chk none (.slL 5 false true false) (.cons (.inp 3) (.cons (.op .lenL (.cons (.bv 0) .nil)) .nil)) (.chk none (.fld 10) (.cons (.inp 1) .nil) (.eff (.st 1) (.cons (.op (.fld 10) (.cons (.inp 1) .nil)) (.cons (.op (.slL 5 false true false) (.cons (.inp 3) (.cons (.op .lenL (.cons (.bv 0) .nil)) .nil))) .nil)) (.done [] none)))))))) h5_0)
@[simp] theorem h5_1_wp : type_of% (@wpH h5_1 _ h5_1.eq_1) := wpH h5_1.eq_1
def h5_2 : HC := (.seq (.reg (.chk none (.build #[(.int .i64 0), (.int .i64 0), (.int .u64 0), (.int .u64 0), (.slice none 0 0)] [(0, 1), (1, 1), (2, 1), (3, 1), (4, 1)] [0]) (.cons (.cst (.int .i64 (-77))) .nil) (.eff (.bsl 31 1 5 #[(.int .i64 0), (.int .i64 0), (.int .u64 0), (.int .u64 0), (.slice none 0 0)] [0]) (.cons (.op (.build #[(.int .i64 0), (.int .i64 0), (.int .u64 0), (.int .u64 0), (.slice none 0 0)] [(0, 1), (1, 1), (2, 1), (3, 1), (4, 1)] [0]) (.cons (.cst (.int .i64 (-77))) .nil)) .nil) (.eff (.app 23 23 31 5 56 (.agg #[(.int .i64 0), (.int .i64 0), (.int .u64 0), (.int .u64 0), (.slice none 0 0)])) (.cons (.inp 3) (.cons (.bv 0) .nil)) (.done [(3, (.bv 1))] none))))) h5_1)
@[simp] theorem h5_2_wp : type_of% (@wpH h5_2 _ h5_2.eq_1) := wpH h5_2.eq_1
def h5_3 : HC := (.reg (.chk none (.bin .add) (.cons (.inp 4) (.cons (.cst (.int .i64 1)) .nil)) (.done [(4, (.op (.bin .add) (.cons (.inp 4) (.cons (.cst (.int .i64 1)) .nil))))] none)))
@[simp] theorem h5_3_wp : type_of% (@wpH h5_3 _ h5_3.eq_1) := wpH h5_3.eq_1
def h5_4 : HC := (.reg (.eff (.ld true 5) (.cons (.inp 5) .nil) (.eff (.bsl 31 1 5 #[(.int .i64 0), (.int .i64 0), (.int .u64 0), (.int .u64 0), (.slice none 0 0)] [0]) (.cons (.bv 0) .nil) (.eff (.app 23 23 31 5 56 (.agg #[(.int .i64 0), (.int .i64 0), (.int .u64 0), (.int .u64 0), (.slice none 0 0)])) (.cons (.inp 3) (.cons (.bv 1) .nil)) (.done [(3, (.bv 2))] none)))))
@[simp] theorem h5_4_wp : type_of% (@wpH h5_4 _ h5_4.eq_1) := wpH h5_4.eq_1
def h5_5 : HC := (.seq (.reg (.chk none (.fld 4) (.cons (.inp 5) .nil) (.eff (.ld false 1) (.cons (.op (.fld 4) (.cons (.inp 5) .nil)) .nil) (.eff (.call 14) (.cons (.bv 0) .nil) (.chk none (.fld 4) (.cons (.inp 5) .nil) (.eff (.st 1) (.cons (.op (.fld 4) (.cons (.inp 5) .nil)) (.cons (.bv 1) .nil)) (.done [] none))))))) h5_4)
@[simp] theorem h5_5_wp : type_of% (@wpH h5_5 _ h5_5.eq_1) := wpH h5_5.eq_1
def h5_6 : HC := (.seq (.reg (.chk none (.fld 10) (.cons (.inp 1) .nil) (.eff (.ld false 1) (.cons (.op (.fld 10) (.cons (.inp 1) .nil)) .nil) (.chk none (.idxL 5) (.cons (.bv 0) (.cons (.inp 4) .nil)) (.eff (.ld true 5) (.cons (.op (.idxL 5) (.cons (.bv 0) (.cons (.inp 4) .nil))) .nil) (.eff (.new 31 (.agg #[(.int .i64 0), (.int .i64 0), (.int .u64 0), (.int .u64 0), (.slice none 0 0)])) .nil (.eff (.st 5) (.cons (.bv 2) (.cons (.bv 1) .nil)) (.done [(5, (.bv 2))] none)))))))) h5_5)
@[simp] theorem h5_6_wp : type_of% (@wpH h5_6 _ h5_6.eq_1) := wpH h5_6.eq_1
def h5_7 : HC := (.seq (.block 1 h5_6) h5_3)
@[simp] theorem h5_7_wp : type_of% (@wpH h5_7 _ h5_7.eq_1) := wpH h5_7.eq_1
def h5_8 : HC := (.seq (.br (.chk none (.fld 10) (.cons (.inp 1) .nil) (.eff (.ld false 1) (.cons (.op (.fld 10) (.cons (.inp 1) .nil)) .nil) (.chk none .lenL (.cons (.bv 0) .nil) (.chk none (.bin .lss) (.cons (.inp 4) (.cons (.op .lenL (.cons (.bv 0) .nil)) .nil)) (.done [] (some (.op (.bin .lss) (.cons (.inp 4) (.cons (.op .lenL (.cons (.bv 0) .nil)) .nil))))))))) .skip (.exit 0)) h5_7)
@[simp] theorem h5_8_wp : type_of% (@wpH h5_8 _ h5_8.eq_1) := wpH h5_8.eq_1
def h5_9 : HC := (.loop h5_8)
@[simp] theorem h5_9_wp : type_of% (@wpH h5_9 _ h5_9.eq_1) := wpH h5_9.eq_1
def h5_10 : HC := (.seq (.block 0 h5_9) h5_2)
@[simp] theorem h5_10_wp : type_of% (@wpH h5_10 _ h5_10.eq_1) := wpH h5_10.eq_1
def h5_11 : HC := (.seq (.reg (.done [(4, (.cst (.int .i64 0)))] none)) h5_10)
@[simp] theorem h5_11_wp : type_of% (@wpH h5_11 _ h5_11.eq_1) := wpH h5_11.eq_1
def h5_12 : HC := (.seq (.reg (.done [(3, (.cst (.slice none 0 0)))] none)) h5_11)
@[simp] theorem h5_12_wp : type_of% (@wpH h5_12 _ h5_12.eq_1) := wpH h5_12.eq_1
def l5 : Lifted := ⟨[0, 1, 2, 3, 4, 5], 37, [.cell 2 true 11], (.seq (.reg (.eff (.box 25) (.cons (.inp 0) .nil) (.eff (.new 25 (.agg #[(.int .i64 0), (.int .i64 0), (.int .i64 0), (.int .i64 0), (.int .i64 0), (.int .i64 0), (.int .u64 0), (.int .u64 0), (.int .u64 0), (.int .i64 0), (.slice none 0 0)])) .nil (.done [(1, (.bv 0)), (2, (.bv 1))] none)))) h5_12)⟩
theorem l5_ok : liftFn S0 5 400 = some l5 := by kernel_rfl
theorem ownInts_spec (ws : List Int) (v : Value) (w0 w : World) (A : Asn) (hb : ws.length ≤ 1048576) (h : WR w0 A v ws) (s : St w0 A w) :
    CallW Tryz.prog 14 [v] (fun r w' => St w0 (A * iwA r ws) w') w := by
  have hbr := h
  obtain ⟨a, c, rfl⟩ := h.val
  refine go l14_ok ?_
  refine eff_bsl0 s fun v0 w s => ?_
  simp
  refine eff_appR s (hbr.mono fun w s => s.drop) (by simp [ints, Value.oneCell']) (by decide) rfl (by unfold maxLen; omega) (by omega) fun v1 w s => ?_
  simp
  refine eff_bslO (vs := imarks) s (by simp [imarks, Value.oneCell']) rfl rfl (by decide) fun v2 w s2 => ?_
  simp
  have s3 : St w0 (A * own 3 1 v2 2 imarks * own 3 1 v1 ws.length (ints ws)) w := by have := s2.swap; simpa using this
  refine eff_appR s3 (row_in (e := 3) (n := 2) (xs := imarks) (B := A * own 3 1 v1 ws.length (ints ws)) s3 (by ac_rfl)) (by simp [imarks, Value.oneCell']) (by decide) rfl (by unfold maxLen; omega) (by omega) fun v3 w s4 => ?_
  simp
  obtain ⟨g, cap, rfl, hcap, _⟩ := s4.own_at (by omega)
  have hle : ws.length ≤ cap := by omega
  simp [hle, addr0]
  exact lclose hcap (by simp) s4.swap.drop
abbrev cpt (b : Nat) (c : PC) (v : Value) : Asn := pt b (.cells (c.cs v).toArray 25 (0, 0))
abbrev ept (b : Nat) (e : PE) (v : Value) : Asn := pt b (.cells (e.cs v).toArray 31 (0, 0))
set_option maxHeartbeats 1000000 in
theorem ownContract_spec (c : PC) (cv : Value) (wvs : List Value) (w0 w : World) (A : Asn) (hlen : c.es.length ≤ 1048576) (hwe : ∀ e ∈ c.es, e.ws.length ≤ 1048576) (h : CV w0 A cv wvs c.es) (s : St w0 A w) :
    CallW Tryz.prog 5 [.agg (c.cs cv).toArray] (fun x w' => ∃ cv' l, x = .agg (c.cs cv').toArray ∧ l.map (·.1) = c.es ∧ St w0 (A * ceA cv' l) w') w := by
  have hcv := h
  have hwl := h.len
  obtain ⟨ca, cn, rfl⟩ := h.row.val
  refine go l5_ok ?_
  refine bxB fun b w s => ?_
  refine nwB fun d w s => ?_
  generalize hD : A * pt b (.cells (c.cs (.slice ca c.es.length cn)).toArray 25 (0, 0)) * _ = D at s
  have fb : ∀ {w : World}, St w0 D w → w.cell? ⟨b, 10, none⟩ = some (.slice ca c.es.length cn) := fun h => by
    rw [← hD] at h; have := (h.at b).row_cells 10 _ rfl; simpa using this
  have hDA : ∀ w, St w0 D w → St w0 A w := fun w h => by rw [← hD] at h; exact h.ent
  refine lpB [3, 4, 5] (fun x w => ∃ (i : Nat) (lv o : Value) (l : List (PE × Value)), x = [lv, .int .i64 i, o] ∧ i ≤ c.es.length ∧ l.map (·.1) = c.es.take i ∧ St w0 (D * iwL l * own 31 5 lv l.length (eflat l)) w)
    (fun env _ => c.es.length - slotN env 4) ⟨0, .slice none 0 0, _, [], rfl, by omega, rfl, ?_⟩ ?_
  · have h := s.own_nil 31 5
    have e : iwL [] = emp := rfl
    rw [e, sep_emp]; exact h
  rintro LQ _ w ⟨i, lv, o, l, rfl, hi, hl, t⟩ hN hX hR
  have hll : l.length = i := by
    have := congrArg List.length hl
    simp at this; omega
  simp
  refine eff_ldc (v := .slice ca c.es.length cn) (fb t.drop.drop) ?_
  simp
  refine cnB (fun k => ?_) (fun k => ?_)
  · have k : i < c.es.length := by simpa using k
    obtain ⟨g1, o1, c1', e1, k1⟩ := h.row.at (by omega)
    cases e1
    have i1 : i < wvs.length := by omega
    have z1 : i < (c.es.zip wvs).length := by simp; omega
    have e1 := hcv.each i i1 k
    obtain ⟨e, hee⟩ : ∃ e, c.es[i] = e := ⟨_, rfl⟩
    have hle := hwe e (by rw [← hee]; exact List.getElem_mem k)
    rw [hee] at e1
    have y1 : (c.es.zip wvs)[i] = (e, wvs[i]) := by simp [hee]
    have hwv : ∃ wv, wvs[i] = wv := ⟨_, rfl⟩
    obtain ⟨wv, hwv⟩ := hwv
    rw [hwv] at e1 y1
    have e1' := e1
    obtain ⟨wa, wc, rfl⟩ := e1.val
    refine eff_ldc (v := .slice (some ⟨g1, o1, none⟩) c.es.length cn) (fb t.drop.drop) ?_
    simp [k]
    refine eff_ldcs (vs := e.cs (.slice wa e.ws.length wc)) (fun j u hu => by rw [Nat.add_assoc]; exact k1 _ (hDA _ t.drop.drop) _ _ (eflat_at z1 j u (by rw [y1]; exact hu))) rfl ?_
    simp
    refine nwB fun p w t => ?_
    refine stsB (cs' := (e.cs (.slice wa e.ws.length wc)).toArray) (h1 := by simp [PE.cs, Value.oneCell']) fun w t => ?_
    refine ldB ?_
    refine eff_call ((ownInts_spec e.ws _ w0 w _ hle (e1'.mono fun w s => hDA _ s.drop.drop.drop) t).mono ?_)
    rintro v5 w t
    have hv5 := iw_one t
    simp
    refine stB (h1 := hv5) fun w t => ?_
    refine ldsB (vs := e.cs v5) ?_
    refine eff_bslV (v := .agg (e.cs v5).toArray) t rfl fun k2 w t => ?_
    simp
    refine apB (n := l.length) (xs := eflat l) (cs := (e.cs v5).toArray) (by omega) (h1 := pe_one _ _ hv5) fun u w t => ?_
    simp (disch := omega) only [wrap64]
    refine hN [u, .int .i64 (i + 1), _] _ ⟨i + 1, u, _, l ++ [(e, v5)], by simp; rfl, by omega, by rw [List.take_succ_eq_append_getElem k, hee, ← hl]; simp, ?_⟩ (by simp [slotN]; omega)
    have el : iwL (l ++ [(e, v5)]) = iwL l * iwA v5 e.ws := allA_snoc _ _ _
    rw [eflat_snoc, el, List.length_append]
    exact t.cut (pt p (.cells (e.cs v5).toArray 31 (0, 0)) * pt k2 (.cells (e.cs v5).toArray 31 (0, 0))) (by simp only [List.length_singleton, Value.cells]; ac_rfl)
  · refine hX _ _ _ ?_
    clear hX hR hN
    obtain rfl : i = c.es.length := by omega
    rw [List.take_length] at hl
    simp
    refine eff_bslV (v := .agg cmark.toArray) t rfl fun k w t => ?_
    simp
    refine apB (n := l.length) (xs := eflat l) (cs := cmark.toArray) (by omega) (h1 := by simp [cmark, Value.oneCell']) fun u w t => ?_
    have t : St w0 (D * iwL l * pt k (.cells cmark.toArray 31 (0, 0)) * own 31 5 u (l.length + 1) (eflat l ++ cmark)) w := t.to (by simp only [Value.cells])
    obtain ⟨g, cap, rfl, hcap, _⟩ := t.own_at (by omega)
    have t := lclose hcap (eflat_len l) t
    have hle : c.es.length ≤ cap := by omega
    have hle2 : (c.es.length : Int) ≤ cap := by omega
    rw [← hD] at t
    refine ldB ?_
    simp [hle, hle2, addr0]
    rw [← hll]
    refine stB fun w t => ?_
    refine ldsB (vs := c.cs (.slice (some ⟨g, 0, none⟩) l.length cap)) ?_
    refine stsB (cs' := (c.cs (.slice (some ⟨g, 0, none⟩) l.length cap)).toArray) (h1 := by simp [PC.cs, Value.oneCell']) fun w t => ?_
    refine rv_cellA (vs := c.cs (.slice (some ⟨g, 0, none⟩) l.length cap)) rfl (fun j u hu => (t.at d).row_cells j u hu) rfl ?_
    simp
    refine ⟨_, rfl, l, hl, ?_⟩
    exact t.ent
end Go.HL.Mk

namespace Go.HL.Mk
open Go.HL Go.HL.Tl Go.HL.Sr Go.HL.St0 Go.Proofs
set_option maxRecDepth 4000
set_option linter.unusedSimpArgs false
set_option linter.unusedVariables false
attribute [local irreducible] EffW

def h37_0 : HC := (.seq (.reg (.eff (.bsl 3 0 1 #[] []) .nil (.eff (.app 29 29 3 1 8 (.int .i64 0)) (.cons (.bv 0) (.cons (.inp 0) .nil)) (.done [(1, (.bv 1))] none)))) .ret)
@[simp] theorem h37_0_wp : type_of% (@wpH h37_0 _ h37_0.eq_1) := wpH h37_0.eq_1
def h37_1 : HC := (.seq (.reg (.done [(1, (.cst (.slice none 0 0)))] none)) .ret)
@[simp] theorem h37_1_wp : type_of% (@wpH h37_1 _ h37_1.eq_1) := wpH h37_1.eq_1
def h37_2 : HC := (.seq (.br (.chk none (.eqNil false (.slice 3) (.slice none 0 0)) (.cons (.inp 0) .nil) (.done [] (some (.op (.eqNil false (.slice 3) (.slice none 0 0)) (.cons (.inp 0) .nil))))) h37_1 .skip) h37_0)
@[simp] theorem h37_2_wp : type_of% (@wpH h37_2 _ h37_2.eq_1) := wpH h37_2.eq_1
def l37 : Lifted := ⟨[0, 2], 8, [.slot 1], (.seq (.reg (.done [(1, (.cst (.slice none 0 0)))] none)) h37_2)⟩
theorem l37_ok : liftFn S0 37 400 = some l37 := by kernel_rfl

def h15_0 : HC := (.seq (.reg (.eff (.ld true 5) (.cons (.inp 2) .nil) (.eff (.st 5) (.cons (.inp 3) (.cons (.bv 0) .nil)) (.done [] none)))) .ret)
@[simp] theorem h15_0_wp : type_of% (@wpH h15_0 _ h15_0.eq_1) := wpH h15_0.eq_1
def h15_1 : HC := (.seq (.reg (.chk none (.fld 4) (.cons (.inp 2) .nil) (.eff (.ld false 1) (.cons (.op (.fld 4) (.cons (.inp 2) .nil)) .nil) (.eff (.call 37) (.cons (.bv 0) .nil) (.chk none (.fld 0) (.cons (.inp 2) .nil) (.eff (.st 1) (.cons (.op (.fld 0) (.cons (.inp 2) .nil)) (.cons (.inp 1) .nil)) (.chk none (.fld 4) (.cons (.inp 2) .nil) (.eff (.st 1) (.cons (.op (.fld 4) (.cons (.inp 2) .nil)) (.cons (.bv 1) .nil)) (.done [] none))))))))) h15_0)
@[simp] theorem h15_1_wp : type_of% (@wpH h15_1 _ h15_1.eq_1) := wpH h15_1.eq_1
def l15 : Lifted := ⟨[0, 1, 2, 4], 12, [.cell 3 true 5], (.seq (.reg (.eff (.box 31) (.cons (.inp 0) .nil) (.eff (.new 31 (.agg #[(.int .i64 0), (.int .i64 0), (.int .u64 0), (.int .u64 0), (.slice none 0 0)])) .nil (.done [(2, (.bv 0)), (3, (.bv 1))] none)))) h15_1)⟩
theorem l15_ok : liftFn S0 15 400 = some l15 := by kernel_rfl

def h6_0 : HC := (.seq (.reg (.eff (.ld true 11) (.cons (.inp 1) .nil) (.eff (.st 11) (.cons (.inp 2) (.cons (.bv 0) .nil)) (.done [] none)))) .ret)
@[simp] theorem h6_0_wp : type_of% (@wpH h6_0 _ h6_0.eq_1) := wpH h6_0.eq_1
def h6_1 : HC := (.reg (.chk none (.bin .add) (.cons (.inp 8) (.cons (.cst (.int .i64 1)) .nil)) (.done [(8, (.op (.bin .add) (.cons (.inp 8) (.cons (.cst (.int .i64 1)) .nil))))] none)))
@[simp] theorem h6_1_wp : type_of% (@wpH h6_1 _ h6_1.eq_1) := wpH h6_1.eq_1
def h6_2 : HC := (.reg (.chk none (.fld 10) (.cons (.inp 1) .nil) (.eff (.ld false 1) (.cons (.op (.fld 10) (.cons (.inp 1) .nil)) .nil) (.eff (.ld true 5) (.cons (.inp 5) .nil) (.eff (.bsl 31 1 5 #[(.int .i64 0), (.int .i64 0), (.int .u64 0), (.int .u64 0), (.slice none 0 0)] [0]) (.cons (.bv 1) .nil) (.eff (.app 23 23 31 5 56 (.agg #[(.int .i64 0), (.int .i64 0), (.int .u64 0), (.int .u64 0), (.slice none 0 0)])) (.cons (.bv 0) (.cons (.bv 2) .nil)) (.chk none (.fld 10) (.cons (.inp 1) .nil) (.eff (.st 1) (.cons (.op (.fld 10) (.cons (.inp 1) .nil)) (.cons (.bv 3) .nil)) (.done [] none)))))))))
@[simp] theorem h6_2_wp : type_of% (@wpH h6_2 _ h6_2.eq_1) := wpH h6_2.eq_1
def h6_3 : HC := (.reg (.chk none (.fld 2) (.cons (.inp 5) .nil) (.eff (.st 1) (.cons (.op (.fld 2) (.cons (.inp 5) .nil)) (.cons (.cst (.int .u64 0)) .nil)) (.done [] none))))
@[simp] theorem h6_3_wp : type_of% (@wpH h6_3 _ h6_3.eq_1) := wpH h6_3.eq_1
def h6_4 : HC := (.seq (.br (.chk none (.fld 1) (.cons (.inp 1) .nil) (.eff (.ld false 1) (.cons (.op (.fld 1) (.cons (.inp 1) .nil)) .nil) (.chk none (.bin .eql) (.cons (.bv 0) (.cons (.cst (.int .i64 3)) .nil)) (.bnd (.op (.bin .eql) (.cons (.bv 0) (.cons (.cst (.int .i64 3)) .nil))) (.chk (some ((.bv 1), true)) (.bin .gtr) (.cons (.inp 4) (.cons (.cst (.int .i64 0)) .nil)) (.isb none (.bv 1) (.done [] (some (.ite (.bv 1) true (.op (.bin .gtr) (.cons (.inp 4) (.cons (.cst (.int .i64 0)) .nil))) (.cst (.bool false))))))))))) h6_3 .skip) h6_2)
@[simp] theorem h6_4_wp : type_of% (@wpH h6_4 _ h6_4.eq_1) := wpH h6_4.eq_1
def h6_5 : HC := (.seq (.reg (.eff (.ld true 5) (.cons (.inp 5) .nil) (.chk none (.fld 0) (.cons (.inp 5) .nil) (.eff (.ld false 1) (.cons (.op (.fld 0) (.cons (.inp 5) .nil)) .nil) (.eff (.call 15) (.cons (.bv 0) (.cons (.bv 1) .nil)) (.eff (.st 5) (.cons (.inp 5) (.cons (.bv 2) .nil)) (.done [] none))))))) h6_4)
@[simp] theorem h6_5_wp : type_of% (@wpH h6_5 _ h6_5.eq_1) := wpH h6_5.eq_1
def h6_6 : HC := (.seq (.reg (.chk none (.idxL 5) (.cons (.inp 6) (.cons (.inp 8) .nil)) (.eff (.ld true 5) (.cons (.op (.idxL 5) (.cons (.inp 6) (.cons (.inp 8) .nil))) .nil) (.eff (.new 31 (.agg #[(.int .i64 0), (.int .i64 0), (.int .u64 0), (.int .u64 0), (.slice none 0 0)])) .nil (.eff (.st 5) (.cons (.bv 1) (.cons (.bv 0) .nil)) (.done [(4, (.inp 8)), (5, (.bv 1))] none)))))) h6_5)
@[simp] theorem h6_6_wp : type_of% (@wpH h6_6 _ h6_6.eq_1) := wpH h6_6.eq_1
def h6_7 : HC := (.seq (.block 1 h6_6) h6_1)
@[simp] theorem h6_7_wp : type_of% (@wpH h6_7 _ h6_7.eq_1) := wpH h6_7.eq_1
def h6_8 : HC := (.seq (.br (.chk none (.bin .lss) (.cons (.inp 8) (.cons (.inp 7) .nil)) (.done [] (some (.op (.bin .lss) (.cons (.inp 8) (.cons (.inp 7) .nil)))))) .skip (.exit 0)) h6_7)
@[simp] theorem h6_8_wp : type_of% (@wpH h6_8 _ h6_8.eq_1) := wpH h6_8.eq_1
def h6_9 : HC := (.loop h6_8)
@[simp] theorem h6_9_wp : type_of% (@wpH h6_9 _ h6_9.eq_1) := wpH h6_9.eq_1
def h6_10 : HC := (.seq (.block 0 h6_9) h6_0)
@[simp] theorem h6_10_wp : type_of% (@wpH h6_10 _ h6_10.eq_1) := wpH h6_10.eq_1
def h6_11 : HC := (.seq (.reg (.chk none .lenL (.cons (.inp 3) .nil) (.done [(6, (.inp 3)), (7, (.op .lenL (.cons (.inp 3) .nil))), (8, (.cst (.int .i64 0)))] none))) h6_10)
@[simp] theorem h6_11_wp : type_of% (@wpH h6_11 _ h6_11.eq_1) := wpH h6_11.eq_1
def h6_12 : HC := (.seq (.reg (.chk none (.fld 10) (.cons (.inp 1) .nil) (.eff (.st 1) (.cons (.op (.fld 10) (.cons (.inp 1) .nil)) (.cons (.cst (.slice none 0 0)) .nil)) (.done [] none)))) h6_11)
@[simp] theorem h6_12_wp : type_of% (@wpH h6_12 _ h6_12.eq_1) := wpH h6_12.eq_1
def h6_13 : HC := (.seq (.reg (.chk none (.fld 10) (.cons (.inp 1) .nil) (.eff (.ld false 1) (.cons (.op (.fld 10) (.cons (.inp 1) .nil)) .nil) (.done [(3, (.bv 0))] none)))) h6_12)
@[simp] theorem h6_13_wp : type_of% (@wpH h6_13 _ h6_13.eq_1) := wpH h6_13.eq_1
def l6 : Lifted := ⟨[0, 1, 2, 3, 4, 5, 9, 10, 11], 36, [.cell 2 true 11], (.seq (.reg (.eff (.box 25) (.cons (.inp 0) .nil) (.eff (.new 25 (.agg #[(.int .i64 0), (.int .i64 0), (.int .i64 0), (.int .i64 0), (.int .i64 0), (.int .i64 0), (.int .u64 0), (.int .u64 0), (.int .u64 0), (.int .i64 0), (.slice none 0 0)])) .nil (.done [(1, (.bv 0)), (2, (.bv 1))] none)))) h6_13)⟩
theorem l6_ok : liftFn S0 6 400 = some l6 := by kernel_rfl
theorem ownV_one {w0 w : World} {A : Asn} {e z n : Nat} {v : Value} {xs : List Value} (s : St w0 (A * own e z v n xs) w) : v.oneCell' = true := by obtain ⟨_, _, rfl, _⟩ := s.own_val; rfl
theorem iclone_spec (ws : List Int) (v : Value) (w0 w : World) (A : Asn) (hb : ws.length ≤ 1048576) (h : WR w0 A v ws) (s : St w0 A w) :
    CallW Tryz.prog 37 [v] (fun r w' => St w0 (A * own 3 1 r ws.length (ints ws)) w') w := by
  have hbr := h
  have hlz := h.1
  obtain ⟨a, c, rfl⟩ := h.val
  refine go l37_ok ?_
  cases a with
  | none =>
    simp
    obtain ⟨_, a, cap, e, _, hc⟩ := h
    cases e
    have hw : ws = [] := by
      rcases hc with hc | ⟨_, _, hc, _⟩
      · exact List.eq_nil_of_length_eq_zero hc
      · cases hc
    subst hw
    exact s.own_nil _ _
  | some a =>
    simp
    refine eff_bsl0 s fun v0 w s => ?_
    simp
    refine eff_appR s (hbr.mono fun w s => s.drop) (by simp [ints, Value.oneCell']) (by decide) rfl (by unfold maxLen; omega) (by omega) fun v1 w s => ?_
    simp
    simpa using s
theorem owned_spec (e : PE) (k : Int) (v : Value) (w0 w : World) (A : Asn) (hb : e.ws.length ≤ 1048576) (h : WR w0 A v e.ws) (s : St w0 A w) :
    CallW Tryz.prog 15 [.agg (e.cs v).toArray, .int .i64 k] (fun r w' => ∃ v', r = .agg (({ e with acc := k } : PE).cs v').toArray ∧ St w0 (A * own 3 1 v' e.ws.length (ints e.ws)) w') w := by
  have hbr := h
  obtain ⟨a, c, rfl⟩ := h.val
  refine go l15_ok ?_
  refine bxB fun b w s => ?_
  refine nwB fun d w s => ?_
  refine ldB ?_
  refine eff_call ((iclone_spec e.ws _ w0 w _ hb (hbr.mono fun w s => s.ent) s).mono ?_)
  rintro v' w s
  have hv := ownV_one s
  simp
  refine stB fun w s => ?_
  refine stB (h1 := hv) fun w s => ?_
  refine ldsB (vs := ({ e with acc := k } : PE).cs v') ?_
  refine stsB (cs' := (({ e with acc := k } : PE).cs v').toArray) (h1 := pe_one _ _ hv) fun w s => ?_
  refine rv_cellA (vs := ({ e with acc := k } : PE).cs v') rfl (fun j u hu => (s.at d).row_cells j u hu) rfl ?_
  simp
  exact ⟨_, rfl, s.ent⟩
def shE (kd : Int) (i : Nat) (e : PE) : PE := if kd = 3 ∧ 0 < i then { e with coins := 0 } else e
def shL (kd : Int) (es : List PE) : List PE := es.mapIdx (shE kd)
@[simp] theorem shL_len (kd : Int) (es : List PE) : (shL kd es).length = es.length := by simp [shL]
theorem shL_at (kd : Int) (es : List PE) (i : Nat) (h : i < es.length) : (shL kd es)[i]'(by simpa using h) = shE kd i es[i] := by simp [shL]
theorem Show_spec (c : PC) (cv : Value) (wvs : List Value) (w0 w : World) (A : Asn) (hlen : c.es.length ≤ 1048576) (hwe : ∀ e ∈ c.es, e.ws.length ≤ 1048576) (h : CV w0 A cv wvs c.es) (s : St w0 A w) :
    CallW Tryz.prog 6 [.agg (c.cs cv).toArray] (fun x w' => ∃ cv' l, x = .agg (c.cs cv').toArray ∧ l.map (·.1) = shL c.kind c.es ∧ St w0 (A * esO cv' l) w') w := by
  have hcv := h
  have hwl := h.len
  obtain ⟨ca, cn, rfl⟩ := h.row.val
  refine go l6_ok ?_
  refine bxB fun b w s => ?_
  refine nwB fun d w s => ?_
  refine ldB ?_
  refine stB (cs' := (c.cs (.slice none 0 0)).toArray) fun w s => ?_
  generalize hD : A * pt d _ = D at s
  have hDA : ∀ w, St w0 D w → St w0 A w := fun w h => by rw [← hD] at h; exact h.ent
  refine lpB [4, 5, 8] (fun x w => ∃ (i : Nat) (lv o4 o5 : Value) (l : List (PE × Value)), x = [o4, o5, .int .i64 i] ∧ i ≤ c.es.length ∧ l.map (·.1) = (shL c.kind c.es).take i ∧ lv.oneCell' = true ∧ St w0 (D * cpt b c lv * esA l * own 31 5 lv l.length (eflat l)) w)
    (fun env _ => c.es.length - slotN env 8) ⟨0, .slice none 0 0, _, _, [], rfl, by omega, rfl, rfl, ?_⟩ ?_
  · have h := s.own_nil 31 5
    have e : esA [] = emp := rfl
    rw [e, sep_emp]; exact h
  rintro LQ _ w ⟨i, lv, o4, o5, l, rfl, hi, hl, hlv, t⟩ hN hX hR
  have hll : l.length = i := by
    have := congrArg List.length hl
    simp at this; omega
  simp
  refine cnB (fun k => ?_) (fun k => ?_)
  · have k : i < c.es.length := by simpa using k
    obtain ⟨g1, o1, c1', e1, k1⟩ := h.row.at (by omega)
    cases e1
    have i1 : i < wvs.length := by omega
    have z1 : i < (c.es.zip wvs).length := by simp; omega
    have e1 := hcv.each i i1 k
    obtain ⟨e, hee⟩ : ∃ e, c.es[i] = e := ⟨_, rfl⟩
    have hle := hwe e (by rw [← hee]; exact List.getElem_mem k)
    rw [hee] at e1
    have y1 : (c.es.zip wvs)[i] = (e, wvs[i]) := by simp [hee]
    have hwv : ∃ wv, wvs[i] = wv := ⟨_, rfl⟩
    obtain ⟨wv, hwv⟩ := hwv
    rw [hwv] at e1 y1
    have e1' := e1
    obtain ⟨wa, wc, rfl⟩ := e1.val
    simp [k]
    refine eff_ldcs (vs := e.cs (.slice wa e.ws.length wc)) (fun j u hu => by rw [Nat.add_assoc]; exact k1 _ (hDA _ t.drop.drop.drop) _ _ (eflat_at z1 j u (by rw [y1]; exact hu))) rfl ?_
    simp
    refine nwB fun p w t => ?_
    refine stsB (cs' := (e.cs (.slice wa e.ws.length wc)).toArray) (h1 := by simp [PE.cs, Value.oneCell']) fun w t => ?_
    refine ldsB (vs := e.cs (.slice wa e.ws.length wc)) ?_
    refine ldB ?_
    refine eff_call ((owned_spec e e.acc _ w0 w _ hle (e1'.mono fun w s => hDA _ s.ent) t).mono ?_)
    rintro _ w ⟨v5, rfl, t⟩
    have hv5 := ownV_one t
    simp
    refine stsB (cs' := (e.cs v5).toArray) (h1 := pe_one _ _ hv5) fun w t => ?_
    refine ldB ?_
    obtain ⟨T, hT⟩ : ∃ T, T = fun e' : PE => D * cpt b c lv * esA l * own 31 5 lv l.length (eflat l) * own 3 1 v5 e.ws.length (ints e.ws) * ept p e' v5 := ⟨_, rfl⟩
    refine cnB (fun q => ?c1) (fun q => ?c2)
    case' c1 => refine stB (cs' := (({ e with coins := 0 } : PE).cs v5).toArray) fun w t => ?_
    case' c1 => obtain ⟨e', he', hw', t⟩ : ∃ e', e' = shE c.kind i e ∧ e'.ws = e.ws ∧ St w0 (T e') w := ⟨{ e with coins := 0 }, by simp [shE, q], rfl, by rw [hT]; exact t.ent⟩
    case' c2 => obtain ⟨e', he', hw', t⟩ : ∃ e', e' = shE c.kind i e ∧ e'.ws = e.ws ∧ St w0 (T e') w := ⟨e, by simp only [shE]; rw [if_neg (fun h => by have := q h.1; omega)], rfl, by rw [hT]; exact t.ent⟩
    all_goals
      rw [hT] at t
      simp only at t
      refine ldB ?_
      refine ldsB (vs := e'.cs v5) ?_
      refine eff_bslV (v := .agg (e'.cs v5).toArray) t rfl fun k2 w t => ?_
      simp
      refine apB (n := l.length) (xs := eflat l) (cs := (e'.cs v5).toArray) (by omega) (h1 := pe_one _ _ hv5) fun u w t => ?_
      have hu := ownV_one t
      refine stB (cs' := (c.cs u).toArray) (h1 := hu) fun w t => ?_
      simp (disch := omega) only [wrap64]
      refine hN [_, _, .int .i64 (i + 1)] _ ⟨i + 1, u, _, _, l ++ [(e', v5)], by simp <;> exact ⟨rfl, rfl⟩, by omega, ?_, hu, ?_⟩ (by simp [slotN]; omega)
      · rw [List.take_succ_eq_append_getElem (by simpa using k), shL_at _ _ _ k, hee, ← he', ← hl]
        simp
      · rw [eflat_snoc, esA_snoc, List.length_append]
        simp only [List.length_singleton, hw']
        exact t.ent
  · refine hX _ _ _ ?_
    clear hX hR hN
    obtain rfl : i = c.es.length := by omega
    rw [List.take_of_length_le (by simp)] at hl
    simp
    refine ldsB (vs := c.cs lv) ?_
    rw [← hD] at t
    refine stsB (cs' := (c.cs lv).toArray) (h1 := pc_one _ _ hlv) fun w t => ?_
    refine rv_cellA (vs := c.cs lv) rfl (fun j u hu => (t.at d).row_cells j u hu) rfl ?_
    simp
    exact ⟨_, rfl, l, hl, t.ent⟩
end Go.HL.Mk

namespace Go.HL.Mk
open Go.HL Go.HL.Tl Go.HL.Sr Go.HL.St0 Go.Proofs
set_option maxRecDepth 4000
set_option linter.unusedSimpArgs false
set_option linter.unusedVariables false
attribute [local irreducible] EffW

def h3_0 : HC := (.seq (.reg (.done [(3, (.cst (.bool true)))] none)) .ret)
@[simp] theorem h3_0_wp : type_of% (@wpH h3_0 _ h3_0.eq_1) := wpH h3_0.eq_1
def h3_1 : HC := (.reg (.chk none (.bin .add) (.cons (.inp 9) (.cons (.cst (.int .i64 1)) .nil)) (.done [(9, (.op (.bin .add) (.cons (.inp 9) (.cons (.cst (.int .i64 1)) .nil))))] none)))
@[simp] theorem h3_1_wp : type_of% (@wpH h3_1 _ h3_1.eq_1) := wpH h3_1.eq_1
def h3_2 : HC := (.seq (.reg (.done [(3, (.cst (.bool false)))] none)) .ret)
@[simp] theorem h3_2_wp : type_of% (@wpH h3_2 _ h3_2.eq_1) := wpH h3_2.eq_1
def r3_0 : RT := (.chk none (.idxL 5) (.cons (.bv 2) (.cons (.inp 9) .nil)) (.chk none (.fld 0) (.cons (.op (.idxL 5) (.cons (.bv 2) (.cons (.inp 9) .nil))) .nil) (.eff (.ld false 1) (.cons (.op (.fld 0) (.cons (.op (.idxL 5) (.cons (.bv 2) (.cons (.inp 9) .nil))) .nil)) .nil) (.chk none (.bin .neq) (.cons (.bv 1) (.cons (.bv 3) .nil)) (.bnd (.op (.bin .neq) (.cons (.bv 1) (.cons (.bv 3) .nil))) (.chk (some ((.bv 4), false)) (.bin .gtr) (.cons (.inp 9) (.cons (.cst (.int .i64 0)) .nil)) (.bnd (.ite (.bv 4) false (.op (.bin .gtr) (.cons (.inp 9) (.cons (.cst (.int .i64 0)) .nil))) (.cst (.tuple #[]))) (.chk (some ((.bv 5), true)) (.fld 10) (.cons (.inp 7) .nil) (.ite (.bv 5) true (.eff (.ld false 1) (.cons (.ite (.bv 5) true (.op (.fld 10) (.cons (.inp 7) .nil)) (.cst (.tuple #[]))) .nil) (.chk none (.idxL 5) (.cons (.bv 6) (.cons (.inp 9) .nil)) (.chk none (.fld 2) (.cons (.op (.idxL 5) (.cons (.bv 6) (.cons (.inp 9) .nil))) .nil) (.eff (.ld false 1) (.cons (.op (.fld 2) (.cons (.op (.idxL 5) (.cons (.bv 6) (.cons (.inp 9) .nil))) .nil)) .nil) (.chk none (.bin .neq) (.cons (.bv 7) (.cons (.cst (.int .u64 0)) .nil)) (.isb (some ((.bv 4), false)) (.bv 5) (.isb none (.bv 4) (.done [] (some (.ite (.bv 4) true (.cst (.bool true)) (.op (.bin .neq) (.cons (.bv 7) (.cons (.cst (.int .u64 0)) .nil))))))))))))) (.isb (some ((.bv 4), false)) (.bv 5) (.isb none (.bv 4) (.done [] (some (.ite (.bv 4) true (.cst (.bool true)) (.cst (.bool false))))))))))))))))
@[simp] theorem r3_0_wp : type_of% (@wpR r3_0 _ r3_0.eq_1) := wpR r3_0.eq_1
@[simp] theorem r3_0_wpq : type_of% (@wpRq r3_0 _ r3_0.eq_1) := wpRq r3_0.eq_1
@[simp] theorem r3_0_wpm : type_of% (@wpRm r3_0 _ r3_0.eq_1) := wpRm r3_0.eq_1
def r3_1 : RT := (.chk none (.fld 10) (.cons (.inp 2) .nil) (.eff (.ld false 1) (.cons (.op (.fld 10) (.cons (.inp 2) .nil)) .nil) r3_0))
@[simp] theorem r3_1_wp : type_of% (@wpR r3_1 _ r3_1.eq_1) := wpR r3_1.eq_1
@[simp] theorem r3_1_wpq : type_of% (@wpRq r3_1 _ r3_1.eq_1) := wpRq r3_1.eq_1
@[simp] theorem r3_1_wpm : type_of% (@wpRm r3_1 _ r3_1.eq_1) := wpRm r3_1.eq_1
def r3_2 : RT := (.chk none (.idxL 5) (.cons (.bv 0) (.cons (.inp 9) .nil)) (.chk none (.fld 0) (.cons (.op (.idxL 5) (.cons (.bv 0) (.cons (.inp 9) .nil))) .nil) (.eff (.ld false 1) (.cons (.op (.fld 0) (.cons (.op (.idxL 5) (.cons (.bv 0) (.cons (.inp 9) .nil))) .nil)) .nil) r3_1)))
@[simp] theorem r3_2_wp : type_of% (@wpR r3_2 _ r3_2.eq_1) := wpR r3_2.eq_1
@[simp] theorem r3_2_wpq : type_of% (@wpRq r3_2 _ r3_2.eq_1) := wpRq r3_2.eq_1
@[simp] theorem r3_2_wpm : type_of% (@wpRm r3_2 _ r3_2.eq_1) := wpRm r3_2.eq_1
def h3_3 : HC := (.brq (.some 0) (.chk none (.fld 10) (.cons (.inp 7) .nil) (.eff (.ld false 1) (.cons (.op (.fld 10) (.cons (.inp 7) .nil)) .nil) r3_2)) h3_2 .skip)
@[simp] theorem h3_3_wp : type_of% (@wpH h3_3 _ h3_3.eq_1) := wpH h3_3.eq_1
def h3_4 : HC := (.seq (.block 3 h3_3) h3_1)
@[simp] theorem h3_4_wp : type_of% (@wpH h3_4 _ h3_4.eq_1) := wpH h3_4.eq_1
def h3_5 : HC := (.seq (.br (.chk none (.fld 10) (.cons (.inp 7) .nil) (.eff (.ld false 1) (.cons (.op (.fld 10) (.cons (.inp 7) .nil)) .nil) (.chk none .lenL (.cons (.bv 0) .nil) (.chk none (.bin .lss) (.cons (.inp 9) (.cons (.op .lenL (.cons (.bv 0) .nil)) .nil)) (.done [] (some (.op (.bin .lss) (.cons (.inp 9) (.cons (.op .lenL (.cons (.bv 0) .nil)) .nil))))))))) .skip (.exit 2)) h3_4)
@[simp] theorem h3_5_wp : type_of% (@wpH h3_5 _ h3_5.eq_1) := wpH h3_5.eq_1
def h3_6 : HC := (.loop h3_5)
@[simp] theorem h3_6_wp : type_of% (@wpH h3_6 _ h3_6.eq_1) := wpH h3_6.eq_1
def h3_7 : HC := (.seq (.block 2 h3_6) h3_0)
@[simp] theorem h3_7_wp : type_of% (@wpH h3_7 _ h3_7.eq_1) := wpH h3_7.eq_1
def h3_8 : HC := (.seq (.reg (.done [(9, (.cst (.int .i64 0)))] none)) h3_7)
@[simp] theorem h3_8_wp : type_of% (@wpH h3_8 _ h3_8.eq_1) := wpH h3_8.eq_1
def h3_9 : HC := (.seq (.reg (.done [(3, (.cst (.bool false)))] none)) .ret)
@[simp] theorem h3_9_wp : type_of% (@wpH h3_9 _ h3_9.eq_1) := wpH h3_9.eq_1
def h3_10 : HC := (.seq (.br (.eff (.ld true 11) (.cons (.inp 7) .nil) (.eff (.ld true 11) (.cons (.inp 8) .nil) (.eff (.call 7) (.cons (.bv 0) (.cons (.bv 1) .nil)) (.chk none (.un .not) (.cons (.bv 2) .nil) (.bnd (.op (.un .not) (.cons (.bv 2) .nil)) (.chk (some ((.bv 3), false)) (.fld 10) (.cons (.inp 7) .nil) (.ite (.bv 3) false (.eff (.ld false 1) (.cons (.ite (.bv 3) false (.op (.fld 10) (.cons (.inp 7) .nil)) (.cst (.tuple #[]))) .nil) (.chk none .lenL (.cons (.bv 4) .nil) (.chk none (.fld 10) (.cons (.inp 2) .nil) (.eff (.ld false 1) (.cons (.op (.fld 10) (.cons (.inp 2) .nil)) .nil) (.chk none .lenL (.cons (.bv 5) .nil) (.chk none (.bin .neq) (.cons (.op .lenL (.cons (.bv 4) .nil)) (.cons (.op .lenL (.cons (.bv 5) .nil)) .nil)) (.isb none (.bv 3) (.done [] (some (.op (.bin .neq) (.cons (.op .lenL (.cons (.bv 4) .nil)) (.cons (.op .lenL (.cons (.bv 5) .nil)) .nil)))))))))))) (.isb none (.bv 3) (.done [] (some (.cst (.bool true)))))))))))) h3_9 .skip) h3_8)
@[simp] theorem h3_10_wp : type_of% (@wpH h3_10 _ h3_10.eq_1) := wpH h3_10.eq_1
def h3_11 : HC := (.seq (.regq (.free [(0, []), (1, []), (2, []), (3, [1]), (4, []), (5, []), (6, [1, 3, 4, 5]), (7, [1, 3, 4, 5, 6])]) (.eff (.ld true 11) (.cons (.inp 4) .nil) (.eff (.call 6) (.cons (.bv 0) .nil) (.eff (.ld true 11) (.cons (.inp 5) .nil) (.eff (.call 6) (.cons (.bv 2) .nil) (.eff (.new 25 (.agg #[(.int .i64 0), (.int .i64 0), (.int .i64 0), (.int .i64 0), (.int .i64 0), (.int .i64 0), (.int .u64 0), (.int .u64 0), (.int .u64 0), (.int .i64 0), (.slice none 0 0)])) .nil (.eff (.new 25 (.agg #[(.int .i64 0), (.int .i64 0), (.int .i64 0), (.int .i64 0), (.int .i64 0), (.int .i64 0), (.int .u64 0), (.int .u64 0), (.int .u64 0), (.int .i64 0), (.slice none 0 0)])) .nil (.eff (.st 11) (.cons (.bv 4) (.cons (.bv 1) .nil)) (.eff (.st 11) (.cons (.bv 5) (.cons (.bv 3) .nil)) (.done [(7, (.bv 4)), (8, (.bv 5))] none)))))))))) h3_10)
@[simp] theorem h3_11_wp : type_of% (@wpH h3_11 _ h3_11.eq_1) := wpH h3_11.eq_1
def h3_12 : HC := (.reg (.chk none (.bin .add) (.cons (.inp 6) (.cons (.cst (.int .i64 1)) .nil)) (.done [(6, (.op (.bin .add) (.cons (.inp 6) (.cons (.cst (.int .i64 1)) .nil))))] none)))
@[simp] theorem h3_12_wp : type_of% (@wpH h3_12 _ h3_12.eq_1) := wpH h3_12.eq_1
def h3_13 : HC := (.regq (.some 1) (.chk none (.fld 10) (.cons (.inp 5) .nil) (.eff (.ld false 1) (.cons (.op (.fld 10) (.cons (.inp 5) .nil)) .nil) (.chk none (.bin .sub) (.cons (.inp 6) (.cons (.cst (.int .i64 1)) .nil)) (.chk none (.idxL 1) (.cons (.inp 1) (.cons (.op (.bin .sub) (.cons (.inp 6) (.cons (.cst (.int .i64 1)) .nil))) .nil)) (.eff (.ld false 1) (.cons (.op (.idxL 1) (.cons (.inp 1) (.cons (.op (.bin .sub) (.cons (.inp 6) (.cons (.cst (.int .i64 1)) .nil))) .nil))) .nil) (.chk none (.idxL 5) (.cons (.bv 0) (.cons (.inp 6) .nil)) (.chk none (.fld 2) (.cons (.op (.idxL 5) (.cons (.bv 0) (.cons (.inp 6) .nil))) .nil) (.eff (.st 1) (.cons (.op (.fld 2) (.cons (.op (.idxL 5) (.cons (.bv 0) (.cons (.inp 6) .nil))) .nil)) (.cons (.bv 1) .nil)) (.done [] none))))))))))
@[simp] theorem h3_13_wp : type_of% (@wpH h3_13 _ h3_13.eq_1) := wpH h3_13.eq_1
def h3_14 : HC := (.br (.chk none .lenL (.cons (.inp 1) .nil) (.chk none (.bin .leq) (.cons (.inp 6) (.cons (.op .lenL (.cons (.inp 1) .nil)) .nil)) (.done [] (some (.op (.bin .leq) (.cons (.inp 6) (.cons (.op .lenL (.cons (.inp 1) .nil)) .nil))))))) h3_13 .skip)
@[simp] theorem h3_14_wp : type_of% (@wpH h3_14 _ h3_14.eq_1) := wpH h3_14.eq_1
def h3_15 : HC := (.seq (.reg (.chk none (.fld 10) (.cons (.inp 5) .nil) (.eff (.ld false 1) (.cons (.op (.fld 10) (.cons (.inp 5) .nil)) .nil) (.chk none (.idxL 5) (.cons (.bv 0) (.cons (.inp 6) .nil)) (.chk none (.fld 2) (.cons (.op (.idxL 5) (.cons (.bv 0) (.cons (.inp 6) .nil))) .nil) (.eff (.st 1) (.cons (.op (.fld 2) (.cons (.op (.idxL 5) (.cons (.bv 0) (.cons (.inp 6) .nil))) .nil)) (.cons (.cst (.int .u64 0)) .nil)) (.done [] none))))))) h3_14)
@[simp] theorem h3_15_wp : type_of% (@wpH h3_15 _ h3_15.eq_1) := wpH h3_15.eq_1
def h3_16 : HC := (.seq (.block 1 h3_15) h3_12)
@[simp] theorem h3_16_wp : type_of% (@wpH h3_16 _ h3_16.eq_1) := wpH h3_16.eq_1
def h3_17 : HC := (.seq (.br (.chk none (.fld 10) (.cons (.inp 5) .nil) (.eff (.ld false 1) (.cons (.op (.fld 10) (.cons (.inp 5) .nil)) .nil) (.chk none .lenL (.cons (.bv 0) .nil) (.chk none (.bin .lss) (.cons (.inp 6) (.cons (.op .lenL (.cons (.bv 0) .nil)) .nil)) (.done [] (some (.op (.bin .lss) (.cons (.inp 6) (.cons (.op .lenL (.cons (.bv 0) .nil)) .nil))))))))) .skip (.exit 0)) h3_16)
@[simp] theorem h3_17_wp : type_of% (@wpH h3_17 _ h3_17.eq_1) := wpH h3_17.eq_1
def h3_18 : HC := (.loop h3_17)
@[simp] theorem h3_18_wp : type_of% (@wpH h3_18 _ h3_18.eq_1) := wpH h3_18.eq_1
def h3_19 : HC := (.seq (.block 0 h3_18) h3_11)
@[simp] theorem h3_19_wp : type_of% (@wpH h3_19 _ h3_19.eq_1) := wpH h3_19.eq_1
def h3_20 : HC := (.seq (.reg (.done [(6, (.cst (.int .i64 1)))] none)) h3_19)
@[simp] theorem h3_20_wp : type_of% (@wpH h3_20 _ h3_20.eq_1) := wpH h3_20.eq_1
def h3_21 : HC := (.seq (.reg (.chk none (.fld 1) (.cons (.inp 4) .nil) (.eff (.st 1) (.cons (.op (.fld 1) (.cons (.inp 4) .nil)) (.cons (.cst (.int .i64 3)) .nil)) (.chk none (.fld 1) (.cons (.inp 5) .nil) (.eff (.st 1) (.cons (.op (.fld 1) (.cons (.inp 5) .nil)) (.cons (.cst (.int .i64 3)) .nil)) (.done [] none)))))) h3_20)
@[simp] theorem h3_21_wp : type_of% (@wpH h3_21 _ h3_21.eq_1) := wpH h3_21.eq_1
def h3_22 : HC := (.seq (.regq (.free [(0, []), (1, []), (2, []), (3, [1]), (4, []), (5, []), (6, [1, 3, 4, 5]), (7, [1, 3, 4, 5, 6])]) (.eff (.ld true 11) (.cons (.inp 2) .nil) (.eff (.call 5) (.cons (.bv 0) .nil) (.eff (.ld true 11) (.cons (.inp 2) .nil) (.eff (.call 5) (.cons (.bv 2) .nil) (.eff (.new 25 (.agg #[(.int .i64 0), (.int .i64 0), (.int .i64 0), (.int .i64 0), (.int .i64 0), (.int .i64 0), (.int .u64 0), (.int .u64 0), (.int .u64 0), (.int .i64 0), (.slice none 0 0)])) .nil (.eff (.new 25 (.agg #[(.int .i64 0), (.int .i64 0), (.int .i64 0), (.int .i64 0), (.int .i64 0), (.int .i64 0), (.int .u64 0), (.int .u64 0), (.int .u64 0), (.int .i64 0), (.slice none 0 0)])) .nil (.eff (.st 11) (.cons (.bv 4) (.cons (.bv 1) .nil)) (.eff (.st 11) (.cons (.bv 5) (.cons (.bv 3) .nil)) (.done [(4, (.bv 4)), (5, (.bv 5))] none)))))))))) h3_21)
@[simp] theorem h3_22_wp : type_of% (@wpH h3_22 _ h3_22.eq_1) := wpH h3_22.eq_1
def h3_23 : HC := (.seq (.reg (.done [(3, (.cst (.bool false)))] none)) .ret)
@[simp] theorem h3_23_wp : type_of% (@wpH h3_23 _ h3_23.eq_1) := wpH h3_23.eq_1
def h3_24 : HC := (.seq (.br (.eff (.call 4) .nil (.chk none (.un .not) (.cons (.bv 0) .nil) (.done [] (some (.op (.un .not) (.cons (.bv 0) .nil)))))) h3_23 .skip) h3_22)
@[simp] theorem h3_24_wp : type_of% (@wpH h3_24 _ h3_24.eq_1) := wpH h3_24.eq_1
def l3 : Lifted := ⟨[0, 1, 2, 4, 5, 6, 7, 8, 9, 10], 95, [.slot 3], (.seq (.reg (.eff (.box 25) (.cons (.inp 0) .nil) (.done [(2, (.bv 0)), (3, (.cst (.bool false)))] none))) h3_24)⟩
theorem l3_ok : liftFn S0 3 400 = some l3 := by kernel_rfl
def coA (c : PC) (v : Value) : Asn := exA fun x : Value × List (PE × Value) => fun h => v = .agg (c.cs x.1).toArray ∧ x.2.map (·.1) = c.es ∧ ceA x.1 x.2 h
def soA (c : PC) (v : Value) : Asn := exA fun x : Value × List (PE × Value) => fun h => v = .agg (c.cs x.1).toArray ∧ x.2.map (·.1) = c.es ∧ esO x.1 x.2 h
def boC : Option Value → Option Value → Array Value
  | some _, some (.agg cs) => cs
  | _, _ => (PC.zero.cs (.slice none 0 0)).toArray
def boA (s r : Option Value) (p : Value) : Asn := ptP p (.cells (boC s r) 25 (0, 0))
def bo0 (p : Value) : Asn := ptP p (.cells (PC.zero.cs (.slice none 0 0)).toArray 25 (0, 0))
@[simp] theorem boA_none (r : Option Value) : boA none r = bo0 := by cases r <;> rfl
@[simp] theorem bo0_ptr (b : Nat) : bo0 (.pointer (some ⟨b, 0, none⟩)) = pt b (.cells (PC.zero.cs (.slice none 0 0)).toArray 25 (0, 0)) := ptP_eq b _
@[simp] theorem boC_some (u : Value) (cs : Array Value) : boC (some u) (some (.agg cs)) = cs := rfl
@[simp] theorem boA_ptr (s r : Option Value) (b : Nat) : boA s r (.pointer (some ⟨b, 0, none⟩)) = pt b (.cells (boC s r) 25 (0, 0)) := ptP_eq b _
theorem coA_mk {w0 w : World} {Z : Asn} {c : PC} {cv : Value} {l : List (PE × Value)} (s : St w0 (Z * ceA cv l) w) (hl : l.map (·.1) = c.es) : St w0 (Z * coA c (.agg (c.cs cv).toArray)) w := s.mono (sep_mono (fun _ h => h) fun h hh => ⟨(cv, l), rfl, hl, hh⟩)
theorem coA_op {w0 w : World} {Z : Asn} {c : PC} {v : Value} (s : St w0 (Z * coA c v) w) : ∃ g cap l, v = .agg (c.cs (.slice (some ⟨g, 0, none⟩) c.es.length cap)).toArray ∧ l.map (·.1) = c.es ∧ St w0 (Z * ceA (.slice (some ⟨g, 0, none⟩) c.es.length cap) l) w := by
  obtain ⟨⟨cv, l⟩, s⟩ := exA_open s
  obtain ⟨g, h1, h2, h3, d, e, a, rfl, hl, hx⟩ := s.holds
  have hn : c.es.length = l.length := by rw [← hl]; simp
  have s' : St w0 (Z * ceA cv l) w := s.of ⟨g, h1, h2, h3, d, e, a, hx⟩
  obtain ⟨g, cap, rfl, _⟩ := lopen (s'.to (B := Z * iwL l * lenA 31 5 cv l.length 1 (eflat l) cmark) (by simp only [ceA]; ac_rfl))
  rw [hn]
  exact ⟨g, cap, l, rfl, hl, s'⟩
theorem coA_at {w0 w : World} {Z : Asn} {c : PC} {cv : Value} (s : St w0 (Z * coA c (.agg (c.cs cv).toArray)) w) : ∃ l, l.map (·.1) = c.es ∧ St w0 (Z * ceA cv l) w := by
  obtain ⟨⟨cv', l⟩, s⟩ := exA_open s
  obtain ⟨g, h1, h2, h3, d, e, a, he, hl, hx⟩ := s.holds
  have : cv' = cv := by simp [PC.cs] at he; exact he.symm
  subst this
  exact ⟨l, hl, s.of ⟨g, h1, h2, h3, d, e, a, hx⟩⟩
theorem soA_at {w0 w : World} {Z : Asn} {c : PC} {cv : Value} (s : St w0 (Z * soA c (.agg (c.cs cv).toArray)) w) : ∃ l, l.map (·.1) = c.es ∧ St w0 (Z * esO cv l) w := by
  obtain ⟨⟨cv', l⟩, s⟩ := exA_open s
  obtain ⟨g, h1, h2, h3, d, e, a, he, hl, hx⟩ := s.holds
  have : cv' = cv := by simp [PC.cs] at he; exact he.symm
  subst this
  exact ⟨l, hl, s.of ⟨g, h1, h2, h3, d, e, a, hx⟩⟩
theorem iwL_set (l : List (PE × Value)) (i : Nat) (e : PE) (h : i < l.length) (hw : e.ws = l[i].1.ws) : iwL (l.set i (e, l[i].2)) = iwL l := by
  induction l generalizing i with
  | nil => simp at h
  | cons x t ih =>
    cases i with
    | zero => simp at hw; simp [iwL, allA, hw]
    | succ i =>
      have := ih i (by simpa using h) (by simpa using hw)
      simp only [iwL] at this
      simp [iwL, allA, this]
theorem eff_stL {P : Program} {K : Value → World → Prop} {w w0 : World} {F : Asn} {e size n k g cap j : Nat} {u : Value} {xs ys : List Value} (s : St w0 (F * lenA e size (.slice (some ⟨g, 0, none⟩) n cap) n k xs ys) w) (hj : j < xs.length) (h1 : u.oneCell' = true)
    (hk : ∀ w', St w0 (F * lenA e size (.slice (some ⟨g, 0, none⟩) n cap) n k (xs.set j u) ys) w' → K undef w') : EffW P (.st 1) [.pointer (some ⟨g, j, none⟩), u] K w := by
  obtain ⟨g', cap', hv, hc, hl, t⟩ := lopen s
  cases hv
  refine eff_stC t (by rw [List.length_append]; omega) h1 fun w' t => hk w' (lclose hc (by simpa using hl) ?_)
  rwa [List.set_append_left _ _ hj] at t
theorem eflat_coins (l : List (PE × Value)) (i : Nat) (n : Int) (h : i < l.length) : (eflat l).set (i * 5 + 2) (.int .u64 n) = eflat (l.set i ({ l[i].1 with coins := n }, l[i].2)) := by
  induction l generalizing i with
  | nil => simp at h
  | cons x t ih =>
    cases i with
    | zero => simp [eflat, PE.cs]
    | succ i =>
      have := ih i (by simpa using h)
      have e1 : (i + 1) * 5 + 2 = i * 5 + 2 + 1 + 1 + 1 + 1 + 1 := by omega
      have e2 : eflat (x :: t) = x.1.cs x.2 ++ eflat t := by simp [eflat]
      have e3 : ∀ y, eflat ((x :: t).set (i + 1) y) = x.1.cs x.2 ++ eflat (t.set i y) := fun y => by simp [eflat]
      rw [e2, e3, e1]
      simp only [PE.cs, List.cons_append, List.nil_append, List.set_cons_succ, this]
      rfl
theorem shL_coins (es : List PE) (i : Nat) (n : Int) (h : i < es.length) (h0 : 0 < i) : shL 3 (es.set i { es[i] with coins := n }) = shL 3 es := by
  apply List.ext_getElem (by simp)
  intro j h1 h2
  simp at h1 h2
  rw [shL_at 3 _ j (by simpa using h1), shL_at 3 _ j h2, List.getElem_set]
  split
  · rename_i e; subst e; simp [shE, h0]
  · rfl
theorem soA_mk {w0 w : World} {Z : Asn} {c : PC} {cv : Value} {l : List (PE × Value)} (s : St w0 (Z * esO cv l) w) (hl : l.map (·.1) = c.es) : St w0 (Z * soA c (.agg (c.cs cv).toArray)) w := s.mono (sep_mono (fun _ h => h) fun h hh => ⟨(cv, l), rfl, hl, hh⟩)
theorem soA_op {w0 w : World} {Z : Asn} {c : PC} {v : Value} (s : St w0 (Z * soA c v) w) : ∃ a cap l, v = .agg (c.cs (.slice a c.es.length cap)).toArray ∧ l.map (·.1) = c.es ∧ St w0 (Z * esO (.slice a c.es.length cap) l) w := by
  obtain ⟨⟨cv, l⟩, s⟩ := exA_open s
  obtain ⟨g, h1, h2, h3, d, e, a, rfl, hl, hx⟩ := s.holds
  have hn : c.es.length = l.length := by rw [← hl]; simp
  have s' : St w0 (Z * esO cv l) w := s.of ⟨g, h1, h2, h3, d, e, a, hx⟩
  obtain ⟨a, cap, rfl, _⟩ := (s'.to (B := Z * esA l * own 31 5 cv l.length (eflat l)) (by simp only [esO]; ac_rfl)).own_val
  rw [hn]
  exact ⟨a, cap, l, rfl, hl, s'⟩
theorem boA_op {w0 w : World} {Z : Asn} {s r : Option Value} {p : Value} (t : St w0 (Z * boA s r p) w) : ∃ b, p = .pointer (some ⟨b, 0, none⟩) := t.ptr
theorem hides (c : PC) (cv kv : Value) (wvs : List Value) (coins : List Int) (w0 w : World) (A : Asn) (hlen : c.es.length ≤ 1048576) (hwe : ∀ e ∈ c.es, e.ws.length ≤ 1048576) (hcl : coins.length ≤ 1048576) (h : CV w0 A cv wvs c.es) (hk : Row w0 A kv coins.length 1 (coins.map fun x => .int .u64 x)) (s : St w0 A w) :
    CallW Tryz.prog 3 [.agg (c.cs cv).toArray, kv] (fun r w' => r = .bool true ∧ St w0 A w') w := by
  have hcv := h
  obtain ⟨ca, cn, rfl⟩ := h.row.val
  obtain ⟨ka, kn, rfl⟩ := hk.val
  refine go l3_ok ?_
  refine bxB fun b w s => ?_
  refine cl1 (known_spec w0 w _ s) fun w s => ?_
  obtain ⟨M, hM⟩ : ∃ M : Fm → Asn, M = fun ρ => A * cpt b c (.slice ca c.es.length cn) * opA (coA c) (ρ 1) * opA (coA c) (ρ 3) * opA (boA (ρ 6) (ρ 1)) (ρ 4) * opA (boA (ρ 7) (ρ 3)) (ρ 5) := ⟨_, rfl⟩
  refine regF M ?_ (h0 := by rw [hM]; simp [sep_emp])
  have fb : ∀ (ρ : Fm) w, St w0 (M ρ) w → ∀ j u, (c.cs (.slice ca c.es.length cn))[j]? = some u → w.cell? ⟨b, 0 + j, none⟩ = some u := fun ρ w s j u hu => by
    rw [hM] at s; exact (s.at b).row_cells j u hu
  have fA : ∀ (ρ : Fm) w, St w0 (M ρ) w → St w0 A w := fun ρ w s => by rw [hM] at s; exact s.ent
  have f1 : ∀ (ρ : Fm) w v, ρ 1 = some v → St w0 (M ρ) w → St w0 (A * coA c v) w := fun ρ w v h s => by
    rw [hM] at s; simp only [h, opA_some] at s; exact s.ent
  have f3 : ∀ (ρ : Fm) w v, ρ 3 = some v → St w0 (M ρ) w → St w0 (A * coA c v) w := fun ρ w v h s => by
    rw [hM] at s; simp only [h, opA_some] at s; exact s.ent
  have f4 : ∀ (ρ : Fm) w v, ρ 4 = some v → St w0 (M ρ) w → St w0 (A * boA (ρ 6) (ρ 1) v) w := fun ρ w v h s => by
    rw [hM] at s; simp only [h, opA_some] at s; exact s.ent
  have f5 : ∀ (ρ : Fm) w v, ρ 5 = some v → St w0 (M ρ) w → St w0 (A * boA (ρ 7) (ρ 3) v) w := fun ρ w v h s => by
    rw [hM] at s; simp only [h, opA_some] at s; exact s.ent
  refine ldsF (us := c.cs (.slice ca c.es.length cn)) (fun ρ' w _ s => fb ρ' w s) ?_
  refine mvB (fun ρ' w hq h1 hp s => ?_) (fun v1 ⟨ρ', w, hle, s⟩ => ?_)
  · simp at hp
    obtain ⟨h3, h6, h7⟩ := hp
    rw [hM] at s
    simp only [h1, h3, h6, h7, opA_none, sep_emp, boA_none] at s
    refine eff_call ((ownContract_spec c _ wvs w0 w _ hlen hwe (hcv.mono fun w s => s.ent) s).mono ?_)
    rintro _ w ⟨cv', l, rfl, hl, s⟩
    have s := coA_mk s hl
    rw [hM]
    simp [h1, h3, h6, h7, sep_emp]
    exact s.ent
  obtain ⟨g1, p1, _, rfl, _⟩ := coA_op (f1 ρ' w v1 (hle 1 v1 rfl) s)
  refine ldsF (us := c.cs (.slice ca c.es.length cn)) (fun ρ' w _ s => fb ρ' w s) ?_
  refine mvB (fun ρ' w hq h3 hp s => ?_) (fun v3 ⟨ρ', w, hle, s⟩ => ?_)
  · simp at hp hq
    obtain ⟨h6, h7⟩ := hp
    rw [hM] at s
    simp only [hq, h3, h6, h7, opA_none, opA_some, sep_emp, boA_none] at s
    refine eff_call ((ownContract_spec c _ wvs w0 w _ hlen hwe (hcv.mono fun w s => s.ent) s).mono ?_)
    rintro _ w ⟨cv', l, rfl, hl, s⟩
    have s := coA_mk s hl
    rw [hM]
    simp [hq, h3, h6, h7, sep_emp]
    exact s.ent
  obtain ⟨g3, p3, _, rfl, _⟩ := coA_op (f3 ρ' w v3 (hle 3 v3 rfl) s)
  refine mvB (fun ρ' w hq h4 hp s => ?_) (fun v4 ⟨ρ', w, hle, s⟩ => ?_)
  · simp at hp
    obtain ⟨h6, h7⟩ := hp
    rw [hM] at s
    simp only [h4, h6, h7, opA_none, sep_emp, boA_none] at s
    refine eff_new s fun p w s => ?_
    have s : St w0 (_ * pt p (.cells (PC.zero.cs (.slice none 0 0)).toArray 25 (0, 0))) w := s
    rw [hM]
    simp [h4, h6, h7, sep_emp]
    exact s.ent
  obtain ⟨q4, rfl⟩ := boA_op (f4 ρ' w v4 (hle 4 v4 rfl) s)
  refine mvB (fun ρ' w hq h5 hp s => ?_) (fun v5 ⟨ρ', w, hle, s⟩ => ?_)
  · simp at hp
    rw [hM] at s
    simp only [h5, hp, opA_none, sep_emp, boA_none] at s
    refine eff_new s fun p w s => ?_
    have s : St w0 (_ * pt p (.cells (PC.zero.cs (.slice none 0 0)).toArray 25 (0, 0))) w := s
    rw [hM]
    simp [h5, hp, sep_emp]
    exact s.ent
  obtain ⟨q5, rfl⟩ := boA_op (f5 ρ' w v5 (hle 5 v5 rfl) s)
  refine mvB (fun ρ' w hq h6 hp s => ?_) (fun v6 _ => ?_)
  · simp at hp hq
    rw [hM] at s
    simp only [hq, h6, hp, opA_none, opA_some, sep_emp, boA_none, bo0_ptr] at s
    refine stsB (cs' := (c.cs (.slice (some ⟨g1, 0, none⟩) c.es.length p1)).toArray) (fun w s => ?_) (s := s) (h1 := pc_one _ _ rfl) (e := fun w' => rfl)
    rw [hM]
    simp [hq, h6, hp, sep_emp]
    exact s.ent
  refine mvB (fun ρ' w hq h7 hp s => ?_) (fun v7 _ => ?_)
  · simp at hp hq
    rw [hM] at s
    simp only [hq, h7, hp, opA_none, opA_some, sep_emp, boA_none, bo0_ptr, boA_ptr, boC_some] at s
    refine stsB (cs' := (c.cs (.slice (some ⟨g3, 0, none⟩) c.es.length p3)).toArray) (fun w s => ?_) (s := s) (h1 := pc_one _ _ rfl) (e := fun w' => rfl)
    rw [hM]
    simp [hq, h7, hp, sep_emp]
    exact s.ent
  intro w s
  rw [hM] at s
  simp at s
  refine stB (cs' := (({ c with kind := 3 } : PC).cs (.slice (some ⟨g1, 0, none⟩) c.es.length p1)).toArray) fun w s => ?_
  refine stB (cs' := (({ c with kind := 3 } : PC).cs (.slice (some ⟨g3, 0, none⟩) c.es.length p3)).toArray) fun w s => ?_
  have s : St w0 (A * cpt b c (.slice ca c.es.length cn) * pt q4 _ * coA c (.agg (c.cs (.slice (some ⟨g1, 0, none⟩) c.es.length p1)).toArray) * pt q5 _ * coA c (.agg (c.cs (.slice (some ⟨g3, 0, none⟩) c.es.length p3)).toArray)) w := s.to (by ac_rfl)
  obtain ⟨l3, hl3, s⟩ := coA_at s
  generalize hD : A * cpt b c (.slice ca c.es.length cn) * pt q4 _ * coA c (.agg (c.cs (.slice (some ⟨g1, 0, none⟩) c.es.length p1)).toArray) = D at s
  have hDA : ∀ w, St w0 D w → St w0 A w := fun w h => by rw [← hD] at h; exact h.ent
  refine lpB [6] (fun x w => ∃ (i : Nat) (l : List (PE × Value)), x = [.int .i64 i] ∧ 1 ≤ i ∧ i ≤ 1 + c.es.length ∧ l.length = c.es.length ∧ shL 3 (l.map (·.1)) = shL 3 c.es ∧ (∀ x ∈ l, x.1.ws.length ≤ 1048576) ∧ St w0 (D * cpt q5 { c with kind := 3 } (.slice (some ⟨g3, 0, none⟩) c.es.length p3) * ceA (.slice (some ⟨g3, 0, none⟩) c.es.length p3) l) w)
    (fun env _ => 1 + c.es.length - slotN env 6) ⟨1, l3, rfl, by omega, by omega, by rw [← hl3]; simp, by rw [hl3], fun x hx => hwe x.1 (by rw [← hl3]; exact List.mem_map_of_mem hx), s.ent⟩ ?_
  · rintro LQ _ w ⟨i, l, rfl, hi1, hi, hll, hsh, hlw, t⟩ hN hX hR
    simp
    refine ldB ?_
    refine cnB (fun k => ?_) (fun k => ?_)
    · have k : i < c.es.length := by simpa using k
      clear hX hR
      have kl : i < l.length := by omega
      obtain ⟨T, hT⟩ : ∃ T : Int → Asn, T = fun n => D * cpt q5 { c with kind := 3 } (.slice (some ⟨g3, 0, none⟩) c.es.length p3) * ceA (.slice (some ⟨g3, 0, none⟩) c.es.length p3) (l.set i ({ l[i].1 with coins := n }, l[i].2)) := ⟨_, rfl⟩
      have hst : ∀ (n : Int) (l' : List (PE × Value)) (K : Value → World → Prop) (w : World), l'.length = l.length → iwL l' = iwL l → (eflat l').set (i * 5 + 2) (.int .u64 n) = eflat (l.set i ({ l[i].1 with coins := n }, l[i].2)) → St w0 (D * cpt q5 { c with kind := 3 } (.slice (some ⟨g3, 0, none⟩) c.es.length p3) * ceA (.slice (some ⟨g3, 0, none⟩) c.es.length p3) l') w → (∀ w', St w0 (T n) w' → K undef w') →
          EffW Tryz.prog (.st 1) [.pointer (some ⟨g3, i * 5 + 2, none⟩), .int .u64 n] K w := fun n l' K w h1 h2 h3 t hk => by
        have t : St w0 (D * cpt q5 { c with kind := 3 } (.slice (some ⟨g3, 0, none⟩) c.es.length p3) * iwL l' * lenA 31 5 (.slice (some ⟨g3, 0, none⟩) c.es.length p3) l'.length 1 (eflat l') cmark) w := t.to (by simp only [ceA]; ac_rfl)
        rw [h1, hll] at t
        refine eff_stL t (by rw [eflat_len]; omega) rfl fun w' t => hk w' ?_
        rw [h3, h2] at t
        rw [hT]
        simp only [ceA, List.length_set, hll, iwL_set l i { l[i].1 with coins := n } kl rfl]
        exact t.to (by ac_rfl)
      refine ldB ?_
      simp [k]
      refine hst 0 l _ _ rfl rfl (eflat_coins l i 0 kl) t fun w t => ?_
      simp
      refine cnB (fun q => ?c1) (fun q => ?c2)
      case' c1 =>
        have q : i ≤ coins.length := by simpa using q
        obtain ⟨kg, ko, kn', ek, kk⟩ := hk.at (by omega)
        cases ek
        have c1 : i - 1 < coins.length := by omega
        have w1 : IntKind.i64.wrap ((i : Int) - 1) = ((i - 1 : Nat) : Int) := by rw [wrap64 (by omega) (by omega)]; omega
        refine regmI (fun vs w => St w0 (T (if vs = [] then 0 else coins[i - 1])) w) t.drew ?_
        have f1 : ∀ n w, St w0 (T n) w → w.cell? ⟨q5, 10, none⟩ = some (.slice (some ⟨g3, 0, none⟩) c.es.length p3) := fun n w h => by
          rw [hT] at h; have := (h.at q5).row_cells 10 _ rfl; simpa using this
        have f2 : ∀ n w, St w0 (T n) w → w.cell? ⟨kg, ko + (i - 1), none⟩ = some (.int .u64 coins[i - 1]) := fun n w h => by
          rw [hT] at h; exact kk w (hDA _ h.ent) _ _ (by simp [c1])
        simp [w1, c1, k]
        refine effm_ldc (fun vs' w _ hw => f1 _ w hw) ?_
        simp [w1, c1, k]
        refine effm_ldc (fun vs' w _ hw => f2 _ w hw) ?_
        simp [w1, c1, k]
        refine effm_mv rfl (fun w hw => ?_) (fun v hv => ?_)
        · simp at hw
          rw [hT] at hw
          simp only at hw
          refine hst coins[i - 1] (l.set i ({ l[i].1 with coins := 0 }, l[i].2)) _ _ (by simp) (iwL_set l i _ kl rfl) ?_ hw fun w t => by simpa using t
          rw [eflat_coins _ i _ (by simpa using kl)]
          simp
        simp
        intro w t
        obtain ⟨n, t⟩ : ∃ n, St w0 (T n) w := ⟨_, t⟩
      case' c2 => obtain ⟨n, t⟩ : ∃ n, St w0 (T n) w := ⟨_, t⟩
      all_goals
        simp (disch := omega) only [wrap64]
        rw [hT] at t
        refine hN [.int .i64 (i + 1)] _ ⟨i + 1, _, rfl, by omega, by omega, by simp [hll], ?_, ?_, t⟩ (by simp [slotN]; omega)
        · have := shL_coins (l.map (·.1)) i n (by simpa using kl) (by omega)
          rw [← hsh, ← this, List.map_set]
          simp
        · intro x hx
          rcases List.mem_or_eq_of_mem_set hx with hx | rfl
          · exact hlw x hx
          · exact hlw l[i] (List.getElem_mem kl)
    · clear hR hN
      refine hX _ _ _ ?_
      clear hX
      rw [← hD] at t
      have t : St w0 (A * cpt b c (.slice ca c.es.length cn) * cpt q4 { c with kind := 3 } (.slice (some ⟨g1, 0, none⟩) c.es.length p1) * cpt q5 { c with kind := 3 } (.slice (some ⟨g3, 0, none⟩) c.es.length p3) * ceA (.slice (some ⟨g3, 0, none⟩) c.es.length p3) l * coA c (.agg (c.cs (.slice (some ⟨g1, 0, none⟩) c.es.length p1)).toArray)) w := t.ent
      obtain ⟨l1, hl1, t⟩ := coA_at t
      have hl1n : l1.length = c.es.length := by rw [← hl1]; simp
      obtain ⟨sc, hsc⟩ : ∃ sc : PC, sc = { c with kind := 3, es := shL 3 c.es } := ⟨_, rfl⟩
      have hcs : ∀ es v, ({ c with kind := 3, es := es } : PC).cs v = sc.cs v := fun es v => by rw [hsc]; rfl
      have hse : sc.es = shL 3 c.es := by rw [hsc]
      generalize hE : A * cpt b c (.slice ca c.es.length cn) * _ * _ * _ * ceA _ l1 = E at t
      have hEA : ∀ w, St w0 E w → St w0 A w := fun w h => by rw [← hE] at h; exact h.ent
      have sv4 : ∀ w, St w0 E w → CV w0 E (.slice (some ⟨g1, 0, none⟩) c.es.length p1) (l1.map (·.2)) (l1.map (·.1)) := fun w s => by
        rw [← hE] at s ⊢; exact ce_seen s
      have sv5 : ∀ w, St w0 E w → CV w0 E (.slice (some ⟨g3, 0, none⟩) c.es.length p3) (l.map (·.2)) (l.map (·.1)) := fun w s => by
        have e : E = (A * cpt b c (.slice ca c.es.length cn) * cpt q4 { c with kind := 3 } (.slice (some ⟨g1, 0, none⟩) c.es.length p1) * cpt q5 { c with kind := 3 } (.slice (some ⟨g3, 0, none⟩) c.es.length p3) * ceA (.slice (some ⟨g1, 0, none⟩) c.es.length p1) l1) * ceA (.slice (some ⟨g3, 0, none⟩) c.es.length p3) l := by rw [← hE]; ac_rfl
        exact (ce_seen (s.to e)).mono fun w s => s.to e
      have c4 : ∀ w, St w0 E w → ∀ j u, (({ c with kind := 3 } : PC).cs (.slice (some ⟨g1, 0, none⟩) c.es.length p1))[j]? = some u → w.cell? ⟨q4, 0 + j, none⟩ = some u := fun w h j u hu => by
        rw [← hE] at h; exact (h.at q4).row_cells j u hu
      have c5 : ∀ w, St w0 E w → ∀ j u, (({ c with kind := 3 } : PC).cs (.slice (some ⟨g3, 0, none⟩) c.es.length p3))[j]? = some u → w.cell? ⟨q5, 0 + j, none⟩ = some u := fun w h j u hu => by
        rw [← hE] at h; exact (h.at q5).row_cells j u hu
      obtain ⟨M2, hM2⟩ : ∃ M : Fm → Asn, M = fun ρ => E * opA (soA sc) (ρ 1) * opA (soA sc) (ρ 3) * opA (boA (ρ 6) (ρ 1)) (ρ 4) * opA (boA (ρ 7) (ρ 3)) (ρ 5) := ⟨_, rfl⟩
      have hEb : ∀ w, St w0 E w → w.cell? ⟨b, 10, none⟩ = some (.slice ca c.es.length cn) := fun w h => by
        rw [← hE] at h; have := (h.at b).row_cells 10 _ rfl; simpa using this
      clear hE f1 f3 f4 f5 fb
      simp
      refine regF M2 ?_ (h0 := by rw [hM2]; simp [sep_emp])
      have fE : ∀ (ρ : Fm) w, St w0 (M2 ρ) w → St w0 E w := fun ρ w s => by rw [hM2] at s; exact s.ent
      have f1 : ∀ (ρ : Fm) w v, ρ 1 = some v → St w0 (M2 ρ) w → St w0 (E * soA sc v) w := fun ρ w v h s => by
        rw [hM2] at s; simp only [h, opA_some] at s; exact s.ent
      have f3 : ∀ (ρ : Fm) w v, ρ 3 = some v → St w0 (M2 ρ) w → St w0 (E * soA sc v) w := fun ρ w v h s => by
        rw [hM2] at s; simp only [h, opA_some] at s; exact s.ent
      have f4 : ∀ (ρ : Fm) w v, ρ 4 = some v → St w0 (M2 ρ) w → St w0 (E * boA (ρ 6) (ρ 1) v) w := fun ρ w v h s => by
        rw [hM2] at s; simp only [h, opA_some] at s; exact s.ent
      have f5 : ∀ (ρ : Fm) w v, ρ 5 = some v → St w0 (M2 ρ) w → St w0 (E * boA (ρ 7) (ρ 3) v) w := fun ρ w v h s => by
        rw [hM2] at s; simp only [h, opA_some] at s; exact s.ent
      refine ldsF (us := ({ c with kind := 3 } : PC).cs _) (fun ρ' w _ s => c4 w (fE ρ' w s)) ?_
      refine mvB (fun ρ' w hq h1 hp s => ?_) (fun v1 ⟨ρ', w, hle, s⟩ => ?_)
      · simp at hp
        obtain ⟨h3, h6, h7⟩ := hp
        rw [hM2] at s
        simp only [h1, h3, h6, h7, opA_none, sep_emp, boA_none] at s
        refine eff_call ((Show_spec { c with kind := 3, es := l1.map (·.1) } _ _ w0 w _ (by rw [hl1]; exact hlen) (by rw [hl1]; exact hwe) ((sv4 w s.ent).mono fun w s => s.ent) s).mono ?_)
        rintro x w ⟨cv', l', hx, hl', s⟩
        rw [hcs] at hx
        subst hx
        have s := soA_mk (c := sc) s (by rw [hse, hl', hl1])
        rw [hM2]
        simp [h1, h3, h6, h7, sep_emp]
        exact s.ent
      obtain ⟨x1, y1, _, rfl, _⟩ := soA_op (f1 ρ' w v1 (hle 1 v1 rfl) s)
      refine ldsF (us := ({ c with kind := 3 } : PC).cs _) (fun ρ' w _ s => c5 w (fE ρ' w s)) ?_
      refine mvB (fun ρ' w hq h3 hp s => ?_) (fun v3 ⟨ρ', w, hle, s⟩ => ?_)
      · simp at hp hq
        obtain ⟨h6, h7⟩ := hp
        rw [hM2] at s
        simp only [hq, h3, h6, h7, opA_none, opA_some, sep_emp, boA_none] at s
        refine eff_call ((Show_spec { c with kind := 3, es := l.map (·.1) } _ _ w0 w _ (by rw [List.length_map, hll]; exact hlen) (fun e he => by obtain ⟨x, hx, rfl⟩ := List.mem_map.1 he; exact hlw x hx) ((sv5 w s.ent).mono fun w s => s.ent) s).mono ?_)
        rintro x w ⟨cv', l', hx, hl', s⟩
        rw [hcs] at hx
        subst hx
        have s := soA_mk (c := sc) s (by rw [hse, hl', hsh])
        rw [hM2]
        simp [hq, h3, h6, h7, sep_emp]
        exact s.ent
      obtain ⟨x3, y3, _, rfl, _⟩ := soA_op (f3 ρ' w v3 (hle 3 v3 rfl) s)
      refine mvB (fun ρ' w hq h4 hp s => ?_) (fun v4 ⟨ρ', w, hle, s⟩ => ?_)
      · simp at hp
        obtain ⟨h6, h7⟩ := hp
        rw [hM2] at s
        simp only [h4, h6, h7, opA_none, sep_emp, boA_none] at s
        refine eff_new s fun p w s => ?_
        have s : St w0 (_ * pt p (.cells (PC.zero.cs (.slice none 0 0)).toArray 25 (0, 0))) w := s
        rw [hM2]
        simp [h4, h6, h7, sep_emp]
        exact s.ent
      obtain ⟨q7, rfl⟩ := boA_op (f4 ρ' w v4 (hle 4 v4 rfl) s)
      refine mvB (fun ρ' w hq h5 hp s => ?_) (fun v5 ⟨ρ', w, hle, s⟩ => ?_)
      · simp at hp
        rw [hM2] at s
        simp only [h5, hp, opA_none, sep_emp, boA_none] at s
        refine eff_new s fun p w s => ?_
        have s : St w0 (_ * pt p (.cells (PC.zero.cs (.slice none 0 0)).toArray 25 (0, 0))) w := s
        rw [hM2]
        simp [h5, hp, sep_emp]
        exact s.ent
      obtain ⟨q8, rfl⟩ := boA_op (f5 ρ' w v5 (hle 5 v5 rfl) s)
      refine mvB (fun ρ' w hq h6 hp s => ?_) (fun v6 _ => ?_)
      · simp at hp hq
        rw [hM2] at s
        simp only [hq, h6, hp, opA_none, opA_some, sep_emp, boA_none, bo0_ptr] at s
        refine stsB (cs' := (sc.cs (.slice x1 sc.es.length y1)).toArray) (fun w s => ?_) (s := s) (h1 := pc_one _ _ rfl) (e := fun w' => rfl)
        rw [hM2]
        simp [hq, h6, hp, sep_emp]
        exact s.ent
      refine mvB (fun ρ' w hq h7 hp s => ?_) (fun v7 _ => ?_)
      · simp at hp hq
        rw [hM2] at s
        simp only [hq, h7, hp, opA_none, opA_some, sep_emp, boA_none, bo0_ptr, boA_ptr, boC_some] at s
        refine stsB (cs' := (sc.cs (.slice x3 sc.es.length y3)).toArray) (fun w s => ?_) (s := s) (h1 := pc_one _ _ rfl) (e := fun w' => rfl)
        rw [hM2]
        simp [hq, h7, hp, sep_emp]
        exact s.ent
      intro w s
      rw [hM2] at s
      simp at s
      have s : St w0 (E * pt q7 (.cells (sc.cs (.slice x1 sc.es.length y1)).toArray 25 (0, 0)) * pt q8 (.cells (sc.cs (.slice x3 sc.es.length y3)).toArray 25 (0, 0)) * soA sc (.agg (sc.cs (.slice x3 sc.es.length y3)).toArray) * soA sc (.agg (sc.cs (.slice x1 sc.es.length y1)).toArray)) w := s.ent
      obtain ⟨la, hla, s⟩ := soA_at s
      have s : St w0 (E * pt q7 (.cells (sc.cs (.slice x1 sc.es.length y1)).toArray 25 (0, 0)) * pt q8 (.cells (sc.cs (.slice x3 sc.es.length y3)).toArray 25 (0, 0)) * esO (.slice x1 sc.es.length y1) la * soA sc (.agg (sc.cs (.slice x3 sc.es.length y3)).toArray)) w := s.ent
      obtain ⟨lb, hlb, s⟩ := soA_at s
      have hlc : sc.es.length = c.es.length := by rw [hse]; simp
      have hwc : ∀ e ∈ sc.es, e.ws.length ≤ 1048576 := by
        rw [hse]
        intro e he
        obtain ⟨j, hj, rfl⟩ := List.mem_iff_getElem.1 he
        have hj' : j < c.es.length := by simpa using hj
        rw [shL_at 3 c.es j hj']
        have := hwe _ (List.getElem_mem hj')
        unfold shE; split <;> exact this
      have va := es_seen s.swap
      have vb := es_seen s
      rw [hla] at va
      rw [hlb] at vb
      refine ldsB (vs := sc.cs (.slice x1 sc.es.length y1)) ?_
      refine ldsB (vs := sc.cs (.slice x3 sc.es.length y3)) ?_
      have va := va.mono (B := _) fun w s => s.swap
      generalize hZ : E * pt q7 _ * pt q8 _ * esO _ la * esO _ lb = Z at s va
      have vb : CV w0 Z (.slice x3 sc.es.length y3) (lb.map (·.2)) sc.es := hZ ▸ vb
      have hZA : ∀ w, St w0 Z w → St w0 A w := fun w h => hEA w (by rw [← hZ] at h; exact h.ent)
      have fb : ∀ w, St w0 Z w → w.cell? ⟨b, 10, none⟩ = some (.slice ca c.es.length cn) := fun w h => hEb w (by rw [← hZ] at h; exact h.ent)
      have f7 : ∀ w, St w0 Z w → w.cell? ⟨q7, 10, none⟩ = some (.slice x1 sc.es.length y1) := fun w h => by
        rw [← hZ] at h; have := (h.at q7).row_cells 10 _ rfl; simpa using this
      refine cl1 (lcontract_spec sc _ _ _ _ w0 w _ (by omega) hwc va vb s) fun w s => ?_
      refine eff_ldc (v := .slice x1 sc.es.length y1) (f7 w s) ?_
      simp
      refine eff_ldc (v := .slice ca c.es.length cn) (fb w s) ?_
      simp [hlc]
      refine lpB [9] (fun x w => ∃ i : Nat, x = [.int .i64 i] ∧ i ≤ c.es.length ∧ St w0 Z w) (fun env _ => c.es.length - slotN env 9) ⟨0, rfl, by omega, s⟩ ?_
      rintro LQ _ w ⟨i, rfl, hi, tz⟩ hN hX hR
      simp
      refine eff_ldc (v := .slice x1 sc.es.length y1) (f7 w tz) ?_
      simp
      refine cnB (fun k => ?_) (fun k => ?_)
      · have k : i < c.es.length := by omega
        clear hX hR
        obtain ⟨g1, o1, z1, e1, k1⟩ := h.row.at (by omega)
        cases e1
        obtain ⟨g2, o2, z2, e2, k2⟩ := va.row.at (by omega)
        cases e2
        have hwl := h.len
        have hvl := va.len
        have i1 : i < (c.es.zip wvs).length := by simp; omega
        have i2 : i < (sc.es.zip (la.map (·.2))).length := by simp at hvl ⊢; omega
        refine brqI tz ?_
        simp [k, hlc]
        have is' : i < sc.es.length := by omega
        have hei : sc.es[i] = shE 3 i c.es[i] := by simp only [hse]; exact shL_at 3 c.es i k
        have hac : (shE 3 i c.es[i]).acc = c.es[i].acc := by unfold shE; split <;> rfl
        have x1 : ∀ w, St w0 Z w → ∀ j u, ((shE 3 i c.es[i]).cs ((la.map (·.2))[i]'(by omega)))[j]? = some u → w.cell? ⟨g2, o2 + (i * 5 + j), none⟩ = some u := fun w h j u hu =>
          k2 w h _ _ (eflat_at i2 j u (by rw [List.getElem_zip, hei]; exact hu))
        have x2 : ∀ w, St w0 Z w → ∀ j u, (c.es[i].cs (wvs[i]'(by omega)))[j]? = some u → w.cell? ⟨g1, o1 + (i * 5 + j), none⟩ = some u := fun w h j u hu =>
          k1 w (hZA w h) _ _ (eflat_at i1 j u (by rw [List.getElem_zip]; exact hu))
        refine effq_ldc (v := .slice (some ⟨g2, o2, none⟩) sc.es.length y1) (fun w h => f7 w h) ?_
        simp [k, hlc]
        refine effq_ldc (v := .int .i64 c.es[i].acc) (fun w h => by have := x1 w h 0 _ rfl; rw [hac] at this; simpa [Nat.add_assoc] using this) ?_
        simp
        refine effq_ldc (v := .slice (some ⟨g1, o1, none⟩) c.es.length cn) (fun w h => fb w h) ?_
        simp [k]
        refine effq_ldc (v := .int .i64 c.es[i].acc) (fun w h => by have := x2 w h 0 _ rfl; simpa [Nat.add_assoc] using this) ?_
        simp
        have nxt : ∀ w, St w0 Z w → LQ .nrm [.agg (c.cs (.slice (some ⟨g1, o1, none⟩) c.es.length cn)).toArray, .slice ka coins.length kn, .pointer (some ⟨b, 0, none⟩), .bool false, .pointer (some ⟨q4, 0, none⟩), .pointer (some ⟨q5, 0, none⟩), _, .pointer (some ⟨q7, 0, none⟩), .pointer (some ⟨q8, 0, none⟩), .int .i64 (IntKind.i64.wrap ((i : Int) + 1))] w := fun w h => by
          simp (disch := omega) only [wrap64]
          exact hN [.int .i64 (i + 1)] _ ⟨i + 1, rfl, by omega, h⟩ (by simp [slotN]; omega)
        by_cases h0 : 0 < i
        · have hco : (shE 3 i c.es[i]).coins = 0 := by simp [shE, h0]
          simp [h0]
          refine effq_ldc (v := .slice (some ⟨g2, o2, none⟩) sc.es.length y1) (fun w h => f7 w h) ?_
          simp [k, hlc]
          refine effq_ldc (v := .int .u64 0) (fun w h => by have := x1 w h 2 _ rfl; rw [hco] at this; simpa [Nat.add_assoc] using this) ?_
          simp
          exact nxt
        · simp [h0]
          exact nxt
      · refine hX _ _ _ ?_
        simp
        exact hZA _ tz
end Go.HL.Mk

namespace Go.HL.Mk
open Go.HL Go.HL.Tl Go.HL.Sr Go.Proofs Go.Deep
set_option maxRecDepth 4000
set_option linter.unusedSimpArgs false
set_option linter.unusedVariables false
theorem open_con {H : Type} {enc : TypeId × Value → H} {W : World} {spare : Nat → Bool} {v : Value} {d : DataW H} {ps : List MemPlace} (h : DataW.Trod enc Tryz.prog W 0 spare true 25 v d ps) {base : Nat} (hval : Value.okWide Tryz.prog W .any base 25 v)
    (hb : Go.Proofs.YtdeidghdeijcaaaGreat.Rows.uptoBulk d ≤ 1048576) : ∃ (c : PC) (cv : Value) (wvs : List Value), v = .agg (c.cs cv).toArray ∧ CV W (old W) cv wvs c.es ∧ c.ok := by
  obtain ⟨cs, rfl, _⟩ := Go.WideShapes.okWide_struct Tryz.underlying25 hval
  obtain ⟨n, h⟩ := h
  obtain ⟨c, cv, wvs, h1, _, h2, h3⟩ := open_contract hb h
  exact ⟨c, cv, wvs, by rw [← h1]; simp, h2, h3⟩
theorem open_nums {H : Type} {enc : TypeId × Value → H} {W : World} {spare : Nat → Bool} {v : Value} {d : DataW H} {ps : List MemPlace} (h : DataW.Trod enc Tryz.prog W 0 spare true 26 v d ps) {base : Nat} (hval : Value.okWide Tryz.prog W .any base 26 v) :
    ∃ l : List Int, Row W (old W) v l.length 1 (l.map fun x => .int .u64 x) ∧ l.length ≤ Go.Proofs.YtdeidghdeijcaaaGreat.Rows.uptoBulk d := by
  obtain ⟨va, vl, vc, rfl⟩ := Go.WideShapes.okWide_slice Tryz.underlying26 hval
  obtain ⟨n, h⟩ := h
  obtain ⟨v, l, h1, h2, h3, h4, h5, h6⟩ := open_erows (α := Int) (fun x => [Value.int .u64 x]) 1 (fun _ => True) (fun _ => 0) Tryz.underlying26 (by kernel_rfl) (by decide) (fun _ => rfl) (fun n cs x hx => by
    obtain ⟨m, e, _, _⟩ := DataW.trod_int Tryz.underlying22 hx
    exact ⟨m, e, trivial, Nat.zero_le _⟩) h
  have h1 : [Value.slice va vl vc] = [v] := by simpa [Value.cells] using h1
  cases h1
  refine ⟨l, ?_, h5⟩
  have : l.flatMap (fun x => [Value.int .u64 x]) = l.map (fun x => Value.int .u64 x) := by
    clear h4 h3 h5 h6
    induction l with
    | nil => rfl
    | cons a l ih => simp [List.flatMap_cons, ih]
  rw [this] at h4
  exact h4
end Go.HL.Mk

namespace Go.Proofs.YtdeidghdeijcaaaGreat.marketHides
open Go.ChangeShapes Go.WideShapes Go.ChangeAt Go.RowKit Go.WideMaps Go.WideElems
open Go.ChangeMaps (open_string shut_string)
set_option linter.unusedVariables false
theorem own : ownKnob Tryz.prog.godebug = none := by kernel_rfl
theorem keeps : Go.HL.keepB Tryz.prog [25, 3, 22, 31, 29, 23, 26] = true := by kernel_rfl
set_option maxRecDepth 10000 in
theorem contract (H : Type) (enc : TypeId × Value → H) (W : World) (base : Nat) (args : Array Value) (ds gs : List (DataW H)) (before : List MemPlace)
    (hval : ∀ (j : Nat) t v, Tryz.f3.params[j]? = some t → args[j]? = some v → Value.okWide Tryz.prog W .any base t v)
    (hW : DataW.Whole enc Tryz.prog Tryz.f3.params.toList Rows.marketHidesSpec.vars false W args.toList ds gs before) (hk : Rows.uptoSmall H (ds ++ gs) = true) :
    Calls Tryz.prog 3 args W fun e W' => ∃ v, e = .returned v ∧ Rows.marketHidesSpec.post enc Tryz.prog Tryz.f3 false true false false W args v W' := by
  have hW' := hW
  have hlt := hW.lt
  obtain ⟨p, q, hA0, hV, rfl, hfz, hnd⟩ := hW
  have hA : DataW.TrodAll enc Tryz.prog W 0 (fun _ => true) true Tryz.f3.params.toList args.toList ds p := hA0
  have hA1 := hA
  rw [Tryz.params3] at hA hval
  obtain ⟨v0, vs0, d0, ds0, p0, q0, hargs, rfl, rfl, h0, r0⟩ := trodAll_cons hA
  obtain ⟨v1, vs1, d1, ds1, p1, q1, rfl, rfl, rfl, h1, r1⟩ := trodAll_cons r0
  obtain ⟨rfl, rfl, rfl⟩ := trodAll_nil r1
  obtain rfl : args = #[v0, v1] := by cases args; simp_all
  obtain ⟨rfl, rfl⟩ := trodVars_none hV
  simp only [List.append_nil, List.nil_append] at hW' hlt hA1
  have hb := Go.HL.bulk_bound hk
  simp only [List.append_nil, Rows.uptoBulkAll, Go.HL.bulk_string, Go.HL.bulk_int] at hb
  obtain ⟨a0, c0, x0, rfl, cv0, ok0⟩ := Go.HL.Mk.open_con h0 (hval 0 25 v0 rfl rfl) (by omega)
  obtain ⟨a1, nk1, bl1⟩ := Go.HL.Mk.open_nums h1 (hval 1 26 v1 rfl rfl)
  have hwalk := Go.HL.Mk.hides a0 c0 v1 x0 a1 W W (Go.HL.old W) ok0.len (fun e he => (ok0.each e he).len) (by omega) cv0 nk1 (Go.HL.St.start W)
  refine Calls.mono hwalk fun e W' ⟨v, he, hv, hst⟩ => ?_
  subst hv
  refine ⟨_, he, Go.HL.post_of_old hst (pv := []) hW' (fun _ _ _ => (trodAll_cons_mk (shut_bool Tryz.underlying4 _) trodAll_mk0))
    (fun sp hsp => Go.HL.trodAll_keep keeps (by decide) hA1 (fun x hx => hst.same (hlt x hx)) hsp) (fun _ _ => rfl) (by simp)
    (ok_one (by kernel_rfl) rfl (okWide_bool_mk Tryz.underlying4 _))⟩
set_option maxRecDepth 100000 in
theorem lifted (os : Os) (started : os.Started) (H : Type) (enc : TypeId × Value → H) (F : Stop.Interp) :
    ReturnsInHanded {} Tryz.checked os 3 .any ((Rows.OpenSpec.upto Rows.marketHidesSpec).pre6 enc Tryz.prog Tryz.f3 Rows.marketHidesUptoRow.domain false) (((Rows.OpenSpec.upto Rows.marketHidesSpec).at F).post enc Tryz.prog Tryz.f3 false true false false) := by
  refine returnsInHanded_of_cond (C := Tryz.checked) (s := Rows.OpenSpec.upto Rows.marketHidesSpec) (k := Rows.uptoSmall) rfl own started (by kernel_rfl) Tryz.func3
    (OpenSpec.witness (enc := enc) (C := Tryz.checked) (s := Rows.OpenSpec.upto Rows.marketHidesSpec) (k := Rows.uptoSmall) rfl false ⟨#[], #[.agg #[.int .i64 0, .int .i64 0, .int .i64 0, .int .i64 0, .int .i64 0, .int .i64 0, .int .u64 0, .int .u64 0, .int .u64 0, .int .i64 0, .slice none 0 0], .slice none 0 0], []⟩ 8 (by kernel_rfl) (by kernel_rfl) (by kernel_rfl)
      (x := ([.agg [.lit (.int .i64 0), .lit (.int .i64 0), .lit (.int .i64 0), .lit (.int .i64 0), .lit (.int .i64 0), .lit (.int .i64 0), .lit (.int .u64 0), .lit (.int .u64 0), .lit (.int .u64 0), .lit (.int .i64 0), .nil], .nil], [], [])) (by kernel_rfl) rfl (by kernel_rfl)) ?_
  intro W base args ds gs before hval hW _ hk _
  exact contract H enc W base args ds gs before hval hW hk
theorem over : Rows.marketHidesUptoRow.holds Tryz.pinned (Rows.OpenSpec.upto Rows.marketHidesSpec) :=
  OpenClaim.holds_of_cond 3 Tryz.f3 rfl rfl rfl rfl rfl rfl rfl ⟨rfl, rfl, rfl, rfl, rfl⟩ rfl rfl rfl rfl rfl (by kernel_rfl) Tryz.func3 (by kernel_rfl)
    (of_decide_eq_true (by kernel_rfl)) (by unfold Func.isWrapper; first | (rw [if_pos (by decide +kernel)]; kernel_rfl) | (rw [if_neg (by decide +kernel)]; exact ⟨rfl, rfl⟩))
    (fun os started H enc _ F => lifted os started H enc F)
theorem proved : Rows.MarketHidesUptoSaid :=
  over
end Go.Proofs.YtdeidghdeijcaaaGreat.marketHides
