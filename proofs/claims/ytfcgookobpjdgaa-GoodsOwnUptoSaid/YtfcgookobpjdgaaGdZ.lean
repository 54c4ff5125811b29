/-
  Goods: every script of goods, copies, nil ones. Conditions: so many rows in a step.
-/
import Derived.Test.YtfcgookobpjdgaaGdY
namespace Go.HL.Gd
open Go.HL Go.Proofs
set_option maxRecDepth 4000
set_option linter.unusedSimpArgs false
set_option linter.unusedVariables false
/-- a step of a script, as it lies in memory -/
structure Sp where
  kd : Int
  who : Int
  a : Int
  b : Int
  rv : Value
  rows : List It
def Sp.cs (x : Sp) : List Value := [.int .i64 x.kd, .int .i64 x.who, .int .i64 x.a, .int .i64 x.b, x.rv]
def Sp.ok (w0 : World) (A : Asn) (x : Sp) : Prop := x.rows.length ≤ 1048575 ∧ x.rv.oneCell' = true ∧ Row w0 A x.rv x.rows.length 4 (flat x.rows)
def sps (l : List Sp) : List Value := l.flatMap Sp.cs
theorem sps_len (l : List Sp) : (sps l).length = l.length * 5 := flat_length Sp.cs 5 (fun _ => rfl) l
theorem sps_at {l : List Sp} {i : Nat} (h : i < l.length) (j : Nat) (u : Value) (hu : (l[i]).cs[j]? = some u) : (sps l)[i * 5 + j]? = some u := by
  have hj : j < 5 := (List.getElem?_eq_some_iff.1 hu).1
  rw [sps, flat_get Sp.cs 5 (fun _ => rfl) l i j h hj, hu]
theorem desk_looks (dd : Nat) (k : Nat) (T : Desk) (a b : Int) (w0 w : World) (A : Asn) (hk : k < 4) (hT : deskOK T) (s : St w0 (A * deskA dd T) w) :
    CallW Try.prog 25 [.pointer (some ⟨dd, 0, none⟩), .int .i64 k, .int .i64 a, .int .i64 b] (fun r w' => r = .bool true ∧ St w0 (A * deskA dd T) w') w := by
  have hd := desk_at dd T hT.1 hk
  refine (looks_spec dd k (T k) a b w0 w (A * pt dd (.cells (deskC T) 58 (0, 0)) * restA T k) hk (hT.2 k) (fun w s => ?_) (s.to (by rw [hd]; ac_rfl))).mono ?_
  · have s' := s.to (B := A * restA T k * slotA (T k) * pt dd (.cells (deskC T) 58 (0, 0))) (by ac_rfl)
    exact ⟨by rw [cell_of s'.look]; exact (desk_g hk).1, by rw [cell_of s'.look]; exact (desk_g hk).2⟩
  · rintro r w' ⟨rfl, t⟩
    exact ⟨rfl, t.to (by rw [hd]; ac_rfl)⟩
-- bazaar/bazaarlaw15.GoodsPlays
def h6_0 : HC := (.seq (.reg (.eff (.call 25) (.cons (.inp 3) (.cons (.cst (.int .i64 0)) (.cons (.cst (.int .i64 0)) (.cons (.cst (.int .i64 0)) .nil)))) (.ite (.bv 0) true (.eff (.call 25) (.cons (.ite (.bv 0) true (.inp 3) (.cst (.tuple #[]))) (.cons (.cst (.int .i64 1)) (.cons (.cst (.int .i64 0)) (.cons (.cst (.int .i64 0)) .nil)))) (.isb none (.bv 0) (.ite (.bv 1) true (.eff (.call 25) (.cons (.ite (.bv 1) true (.inp 3) (.cst (.tuple #[]))) (.cons (.cst (.int .i64 2)) (.cons (.cst (.int .i64 0)) (.cons (.cst (.int .i64 0)) .nil)))) (.isb none (.bv 1) (.ite (.bv 2) true (.eff (.call 25) (.cons (.ite (.bv 2) true (.inp 3) (.cst (.tuple #[]))) (.cons (.cst (.int .i64 3)) (.cons (.cst (.int .i64 0)) (.cons (.cst (.int .i64 0)) .nil)))) (.isb none (.bv 2) (.done [(2, (.bv 3))] none))) (.isb none (.bv 2) (.done [(2, (.cst (.bool false)))] none))))) (.isb none (.bv 1) (.isb none (.cst (.bool false)) (.done [(2, (.cst (.bool false)))] none)))))) (.isb none (.bv 0) (.isb none (.cst (.bool false)) (.isb none (.cst (.bool false)) (.done [(2, (.cst (.bool false)))] none))))))) .ret)
@[simp] theorem h6_0_wp {P : Program} {F : PF P} {Q : EX → List Value → World → Prop} {env : List Value} {w : World} : h6_0.wp F Q env w = HC.wp F (.seq (.reg (.eff (.call 25) (.cons (.inp 3) (.cons (.cst (.int .i64 0)) (.cons (.cst (.int .i64 0)) (.cons (.cst (.int .i64 0)) .nil)))) (.ite (.bv 0) true (.eff (.call 25) (.cons (.ite (.bv 0) true (.inp 3) (.cst (.tuple #[]))) (.cons (.cst (.int .i64 1)) (.cons (.cst (.int .i64 0)) (.cons (.cst (.int .i64 0)) .nil)))) (.isb none (.bv 0) (.ite (.bv 1) true (.eff (.call 25) (.cons (.ite (.bv 1) true (.inp 3) (.cst (.tuple #[]))) (.cons (.cst (.int .i64 2)) (.cons (.cst (.int .i64 0)) (.cons (.cst (.int .i64 0)) .nil)))) (.isb none (.bv 1) (.ite (.bv 2) true (.eff (.call 25) (.cons (.ite (.bv 2) true (.inp 3) (.cst (.tuple #[]))) (.cons (.cst (.int .i64 3)) (.cons (.cst (.int .i64 0)) (.cons (.cst (.int .i64 0)) .nil)))) (.isb none (.bv 2) (.done [(2, (.bv 3))] none))) (.isb none (.bv 2) (.done [(2, (.cst (.bool false)))] none))))) (.isb none (.bv 1) (.isb none (.cst (.bool false)) (.done [(2, (.cst (.bool false)))] none)))))) (.isb none (.bv 0) (.isb none (.cst (.bool false)) (.isb none (.cst (.bool false)) (.done [(2, (.cst (.bool false)))] none))))))) .ret) Q env w := rfl
def h6_1 : HC := (.reg (.chk none (.bin .add) (.cons (.inp 9) (.cons (.cst (.int .i64 1)) .nil)) (.done [(9, (.op (.bin .add) (.cons (.inp 9) (.cons (.cst (.int .i64 1)) .nil))))] none)))
@[simp] theorem h6_1_wp {P : Program} {F : PF P} {Q : EX → List Value → World → Prop} {env : List Value} {w : World} : h6_1.wp F Q env w = HC.wp F (.reg (.chk none (.bin .add) (.cons (.inp 9) (.cons (.cst (.int .i64 1)) .nil)) (.done [(9, (.op (.bin .add) (.cons (.inp 9) (.cons (.cst (.int .i64 1)) .nil))))] none))) Q env w := rfl
def h6_2 : HC := (.seq (.reg (.done [(2, (.cst (.bool false)))] none)) .ret)
@[simp] theorem h6_2_wp {P : Program} {F : PF P} {Q : EX → List Value → World → Prop} {env : List Value} {w : World} : h6_2.wp F Q env w = HC.wp F (.seq (.reg (.done [(2, (.cst (.bool false)))] none)) .ret) Q env w := rfl
def h6_3 : HC := (.br (.chk none (.idxL 5) (.cons (.inp 1) (.cons (.inp 9) .nil)) (.eff (.ld true 5) (.cons (.op (.idxL 5) (.cons (.inp 1) (.cons (.inp 9) .nil))) .nil) (.eff (.call 24) (.cons (.inp 3) (.cons (.bv 0) .nil)) (.chk none (.un .not) (.cons (.bv 1) .nil) (.done [] (some (.op (.un .not) (.cons (.bv 1) .nil)))))))) h6_2 .skip)
@[simp] theorem h6_3_wp {P : Program} {F : PF P} {Q : EX → List Value → World → Prop} {env : List Value} {w : World} : h6_3.wp F Q env w = HC.wp F (.br (.chk none (.idxL 5) (.cons (.inp 1) (.cons (.inp 9) .nil)) (.eff (.ld true 5) (.cons (.op (.idxL 5) (.cons (.inp 1) (.cons (.inp 9) .nil))) .nil) (.eff (.call 24) (.cons (.inp 3) (.cons (.bv 0) .nil)) (.chk none (.un .not) (.cons (.bv 1) .nil) (.done [] (some (.op (.un .not) (.cons (.bv 1) .nil)))))))) h6_2 .skip) Q env w := rfl
def h6_4 : HC := (.seq (.block 3 h6_3) h6_1)
@[simp] theorem h6_4_wp {P : Program} {F : PF P} {Q : EX → List Value → World → Prop} {env : List Value} {w : World} : h6_4.wp F Q env w = HC.wp F (.seq (.block 3 h6_3) h6_1) Q env w := rfl
def h6_5 : HC := (.seq (.br (.chk none .lenL (.cons (.inp 1) .nil) (.chk none (.bin .lss) (.cons (.inp 9) (.cons (.op .lenL (.cons (.inp 1) .nil)) .nil)) (.done [] (some (.op (.bin .lss) (.cons (.inp 9) (.cons (.op .lenL (.cons (.inp 1) .nil)) .nil))))))) .skip (.exit 2)) h6_4)
@[simp] theorem h6_5_wp {P : Program} {F : PF P} {Q : EX → List Value → World → Prop} {env : List Value} {w : World} : h6_5.wp F Q env w = HC.wp F (.seq (.br (.chk none .lenL (.cons (.inp 1) .nil) (.chk none (.bin .lss) (.cons (.inp 9) (.cons (.op .lenL (.cons (.inp 1) .nil)) .nil)) (.done [] (some (.op (.bin .lss) (.cons (.inp 9) (.cons (.op .lenL (.cons (.inp 1) .nil)) .nil))))))) .skip (.exit 2)) h6_4) Q env w := rfl
def h6_6 : HC := (.loop h6_5)
@[simp] theorem h6_6_wp {P : Program} {F : PF P} {Q : EX → List Value → World → Prop} {env : List Value} {w : World} : h6_6.wp F Q env w = HC.wp F (.loop h6_5) Q env w := rfl
def h6_7 : HC := (.seq (.block 2 h6_6) h6_0)
@[simp] theorem h6_7_wp {P : Program} {F : PF P} {Q : EX → List Value → World → Prop} {env : List Value} {w : World} : h6_7.wp F Q env w = HC.wp F (.seq (.block 2 h6_6) h6_0) Q env w := rfl
def h6_8 : HC := (.seq (.reg (.done [(9, (.cst (.int .i64 0)))] none)) h6_7)
@[simp] theorem h6_8_wp {P : Program} {F : PF P} {Q : EX → List Value → World → Prop} {env : List Value} {w : World} : h6_8.wp F Q env w = HC.wp F (.seq (.reg (.done [(9, (.cst (.int .i64 0)))] none)) h6_7) Q env w := rfl
def h6_9 : HC := (.reg (.chk none (.bin .add) (.cons (.inp 4) (.cons (.cst (.int .i64 1)) .nil)) (.done [(4, (.op (.bin .add) (.cons (.inp 4) (.cons (.cst (.int .i64 1)) .nil))))] none)))
@[simp] theorem h6_9_wp {P : Program} {F : PF P} {Q : EX → List Value → World → Prop} {env : List Value} {w : World} : h6_9.wp F Q env w = HC.wp F (.reg (.chk none (.bin .add) (.cons (.inp 4) (.cons (.cst (.int .i64 1)) .nil)) (.done [(4, (.op (.bin .add) (.cons (.inp 4) (.cons (.cst (.int .i64 1)) .nil))))] none))) Q env w := rfl
def h6_10 : HC := (.regq (some 2) (.chk none .chkp (.cons (.inp 3) .nil) (.chk none (.fld 0) (.cons (.op .chkp (.cons (.inp 3) .nil)) .nil) (.chk none (.idxP 4 1) (.cons (.op (.fld 0) (.cons (.op .chkp (.cons (.inp 3) .nil)) .nil)) (.cons (.inp 4) .nil)) (.eff (.st 1) (.cons (.op (.idxP 4 1) (.cons (.op (.fld 0) (.cons (.op .chkp (.cons (.inp 3) .nil)) .nil)) (.cons (.inp 4) .nil))) (.cons (.inp 5) .nil)) (.chk none .chkp (.cons (.inp 3) .nil) (.chk none (.fld 4) (.cons (.op .chkp (.cons (.inp 3) .nil)) .nil) (.chk none (.idxP 4 1) (.cons (.op (.fld 4) (.cons (.op .chkp (.cons (.inp 3) .nil)) .nil)) (.cons (.inp 4) .nil)) (.eff (.st 1) (.cons (.op (.idxP 4 1) (.cons (.op (.fld 4) (.cons (.op .chkp (.cons (.inp 3) .nil)) .nil)) (.cons (.inp 4) .nil))) (.cons (.inp 7) .nil)) (.done [] none))))))))))
@[simp] theorem h6_10_wp {P : Program} {F : PF P} {Q : EX → List Value → World → Prop} {env : List Value} {w : World} : h6_10.wp F Q env w = HC.wp F (.regq (some 2) (.chk none .chkp (.cons (.inp 3) .nil) (.chk none (.fld 0) (.cons (.op .chkp (.cons (.inp 3) .nil)) .nil) (.chk none (.idxP 4 1) (.cons (.op (.fld 0) (.cons (.op .chkp (.cons (.inp 3) .nil)) .nil)) (.cons (.inp 4) .nil)) (.eff (.st 1) (.cons (.op (.idxP 4 1) (.cons (.op (.fld 0) (.cons (.op .chkp (.cons (.inp 3) .nil)) .nil)) (.cons (.inp 4) .nil))) (.cons (.inp 5) .nil)) (.chk none .chkp (.cons (.inp 3) .nil) (.chk none (.fld 4) (.cons (.op .chkp (.cons (.inp 3) .nil)) .nil) (.chk none (.idxP 4 1) (.cons (.op (.fld 4) (.cons (.op .chkp (.cons (.inp 3) .nil)) .nil)) (.cons (.inp 4) .nil)) (.eff (.st 1) (.cons (.op (.idxP 4 1) (.cons (.op (.fld 4) (.cons (.op .chkp (.cons (.inp 3) .nil)) .nil)) (.cons (.inp 4) .nil))) (.cons (.inp 7) .nil)) (.done [] none)))))))))) Q env w := rfl
def h6_11 : HC := (.seq (.reg (.done [(2, (.cst (.bool false)))] none)) .ret)
@[simp] theorem h6_11_wp {P : Program} {F : PF P} {Q : EX → List Value → World → Prop} {env : List Value} {w : World} : h6_11.wp F Q env w = HC.wp F (.seq (.reg (.done [(2, (.cst (.bool false)))] none)) .ret) Q env w := rfl
def h6_12 : HC := (.seq (.br (.chk none (.cal 10) (.cons (.inp 6) .nil) (.chk none (.bin .neq) (.cons (.op (.cal 10) (.cons (.inp 6) .nil)) (.cons (.inp 8) .nil)) (.bnd (.op (.bin .neq) (.cons (.op (.cal 10) (.cons (.inp 6) .nil)) (.cons (.inp 8) .nil))) (.chk (some ((.bv 0), false)) (.eqNil false (.pointer 71) (.pointer none)) (.cons (.inp 5) .nil) (.chk (some ((.bv 0), false)) (.eqNil false (.pointer 84) (.pointer none)) (.cons (.inp 7) .nil) (.chk (some ((.bv 0), false)) (.eqB true) (.cons (.op (.eqNil false (.pointer 71) (.pointer none)) (.cons (.inp 5) .nil)) (.cons (.op (.eqNil false (.pointer 84) (.pointer none)) (.cons (.inp 7) .nil)) .nil)) (.isb none (.bv 0) (.done [] (some (.ite (.bv 0) true (.cst (.bool true)) (.op (.eqB true) (.cons (.op (.eqNil false (.pointer 71) (.pointer none)) (.cons (.inp 5) .nil)) (.cons (.op (.eqNil false (.pointer 84) (.pointer none)) (.cons (.inp 7) .nil)) .nil))))))))))))) h6_11 .skip) h6_10)
@[simp] theorem h6_12_wp {P : Program} {F : PF P} {Q : EX → List Value → World → Prop} {env : List Value} {w : World} : h6_12.wp F Q env w = HC.wp F (.seq (.br (.chk none (.cal 10) (.cons (.inp 6) .nil) (.chk none (.bin .neq) (.cons (.op (.cal 10) (.cons (.inp 6) .nil)) (.cons (.inp 8) .nil)) (.bnd (.op (.bin .neq) (.cons (.op (.cal 10) (.cons (.inp 6) .nil)) (.cons (.inp 8) .nil))) (.chk (some ((.bv 0), false)) (.eqNil false (.pointer 71) (.pointer none)) (.cons (.inp 5) .nil) (.chk (some ((.bv 0), false)) (.eqNil false (.pointer 84) (.pointer none)) (.cons (.inp 7) .nil) (.chk (some ((.bv 0), false)) (.eqB true) (.cons (.op (.eqNil false (.pointer 71) (.pointer none)) (.cons (.inp 5) .nil)) (.cons (.op (.eqNil false (.pointer 84) (.pointer none)) (.cons (.inp 7) .nil)) .nil)) (.isb none (.bv 0) (.done [] (some (.ite (.bv 0) true (.cst (.bool true)) (.op (.eqB true) (.cons (.op (.eqNil false (.pointer 71) (.pointer none)) (.cons (.inp 5) .nil)) (.cons (.op (.eqNil false (.pointer 84) (.pointer none)) (.cons (.inp 7) .nil)) .nil))))))))))))) h6_11 .skip) h6_10) Q env w := rfl
def h6_13 : HC := (.seq (.reg (.eff (.call 23) (.cons (.inp 0) .nil) (.chk none (.ext 0) (.cons (.bv 0) .nil) (.chk none (.ext 1) (.cons (.bv 0) .nil) (.done [(7, (.op (.ext 0) (.cons (.bv 0) .nil))), (8, (.op (.ext 1) (.cons (.bv 0) .nil)))] none))))) h6_12)
@[simp] theorem h6_13_wp {P : Program} {F : PF P} {Q : EX → List Value → World → Prop} {env : List Value} {w : World} : h6_13.wp F Q env w = HC.wp F (.seq (.reg (.eff (.call 23) (.cons (.inp 0) .nil) (.chk none (.ext 0) (.cons (.bv 0) .nil) (.chk none (.ext 1) (.cons (.bv 0) .nil) (.done [(7, (.op (.ext 0) (.cons (.bv 0) .nil))), (8, (.op (.ext 1) (.cons (.bv 0) .nil)))] none))))) h6_12) Q env w := rfl
def h6_14 : HC := (.seq (.reg (.eff (.call 8) (.cons (.inp 0) .nil) (.chk none (.ext 0) (.cons (.bv 0) .nil) (.chk none (.ext 1) (.cons (.bv 0) .nil) (.done [(5, (.op (.ext 0) (.cons (.bv 0) .nil))), (6, (.op (.ext 1) (.cons (.bv 0) .nil)))] none))))) h6_13)
@[simp] theorem h6_14_wp {P : Program} {F : PF P} {Q : EX → List Value → World → Prop} {env : List Value} {w : World} : h6_14.wp F Q env w = HC.wp F (.seq (.reg (.eff (.call 8) (.cons (.inp 0) .nil) (.chk none (.ext 0) (.cons (.bv 0) .nil) (.chk none (.ext 1) (.cons (.bv 0) .nil) (.done [(5, (.op (.ext 0) (.cons (.bv 0) .nil))), (6, (.op (.ext 1) (.cons (.bv 0) .nil)))] none))))) h6_13) Q env w := rfl
def h6_15 : HC := (.seq (.block 1 h6_14) h6_9)
@[simp] theorem h6_15_wp {P : Program} {F : PF P} {Q : EX → List Value → World → Prop} {env : List Value} {w : World} : h6_15.wp F Q env w = HC.wp F (.seq (.block 1 h6_14) h6_9) Q env w := rfl
def h6_16 : HC := (.seq (.br (.chk none (.bin .lss) (.cons (.inp 4) (.cons (.cst (.int .i64 3)) .nil)) (.done [] (some (.op (.bin .lss) (.cons (.inp 4) (.cons (.cst (.int .i64 3)) .nil)))))) .skip (.exit 0)) h6_15)
@[simp] theorem h6_16_wp {P : Program} {F : PF P} {Q : EX → List Value → World → Prop} {env : List Value} {w : World} : h6_16.wp F Q env w = HC.wp F (.seq (.br (.chk none (.bin .lss) (.cons (.inp 4) (.cons (.cst (.int .i64 3)) .nil)) (.done [] (some (.op (.bin .lss) (.cons (.inp 4) (.cons (.cst (.int .i64 3)) .nil)))))) .skip (.exit 0)) h6_15) Q env w := rfl
def h6_17 : HC := (.loop h6_16)
@[simp] theorem h6_17_wp {P : Program} {F : PF P} {Q : EX → List Value → World → Prop} {env : List Value} {w : World} : h6_17.wp F Q env w = HC.wp F (.loop h6_16) Q env w := rfl
def h6_18 : HC := (.seq (.block 0 h6_17) h6_8)
@[simp] theorem h6_18_wp {P : Program} {F : PF P} {Q : EX → List Value → World → Prop} {env : List Value} {w : World} : h6_18.wp F Q env w = HC.wp F (.seq (.block 0 h6_17) h6_8) Q env w := rfl
def h6_19 : HC := (.seq (.reg (.done [(4, (.cst (.int .i64 0)))] none)) h6_18)
@[simp] theorem h6_19_wp {P : Program} {F : PF P} {Q : EX → List Value → World → Prop} {env : List Value} {w : World} : h6_19.wp F Q env w = HC.wp F (.seq (.reg (.done [(4, (.cst (.int .i64 0)))] none)) h6_18) Q env w := rfl
def h6_20 : HC := (.seq (.reg (.chk none (.build #[(.pointer none), (.pointer none), (.pointer none), (.pointer none), (.pointer none), (.pointer none), (.pointer none), (.pointer none)] [(0, 4), (4, 4)] []) .nil (.eff (.box 58) (.cons (.op (.build #[(.pointer none), (.pointer none), (.pointer none), (.pointer none), (.pointer none), (.pointer none), (.pointer none), (.pointer none)] [(0, 4), (4, 4)] []) .nil) .nil) (.done [(3, (.bv 0))] none)))) h6_19)
@[simp] theorem h6_20_wp {P : Program} {F : PF P} {Q : EX → List Value → World → Prop} {env : List Value} {w : World} : h6_20.wp F Q env w = HC.wp F (.seq (.reg (.chk none (.build #[(.pointer none), (.pointer none), (.pointer none), (.pointer none), (.pointer none), (.pointer none), (.pointer none), (.pointer none)] [(0, 4), (4, 4)] []) .nil (.eff (.box 58) (.cons (.op (.build #[(.pointer none), (.pointer none), (.pointer none), (.pointer none), (.pointer none), (.pointer none), (.pointer none), (.pointer none)] [(0, 4), (4, 4)] []) .nil) .nil) (.done [(3, (.bv 0))] none)))) h6_19) Q env w := rfl
def l6 : Lifted := ⟨[0, 1, 4, 5, 6, 7, 8, 9, 10, 11], 78, [.slot 2], (.seq (.reg (.done [(2, (.cst (.bool false)))] none)) h6_20)⟩
theorem l6_ok : liftFn G2 6 400 = some l6 := by kernel_rfl


theorem goodsPlays_walk (lim : Int) (ops : List Sp) (v : Value) (w0 w : World) (A : Asn) (hlim : -9223372036854775808 ≤ lim ∧ lim ≤ 9223372036854775807) (hl : ops.length ≤ 1048575) (hrow : Row w0 A v ops.length 5 (sps ops)) (hops : ∀ x ∈ ops, x.ok w0 A) (s : St w0 A w) :
    CallW Try.prog 6 [.int .i64 lim, v] (fun r w' => r = .bool true ∧ St w0 A w') w := by
  obtain ⟨a, cap, rfl⟩ := hrow.val
  refine callW_of_lift l6_ok (by simp [l6]) ?_
  simp [l6]
  simp [Instr.fill]
  refine eff_box s ?_
  intro dd w1 s1
  simp
  have s2 : St w0 (A * deskA dd (fun _ => none)) w1 := by
    refine s1.to ?_
    simp only [deskA, slot_none]
    rfl
  refine loopI (fun env w' => ∃ (i : Nat) (T : Desk) (o5 o6 o7 o8 : Value), env = [.int .i64 lim, .slice a ops.length cap, .bool false, .pointer (some ⟨dd, 0, none⟩), .int .i64 i, o5, o6, o7, o8, undef] ∧ i ≤ 3 ∧ deskOK T ∧ St w0 (A * deskA dd T) w')
    (fun env _ => 3 - slotN env 4) ⟨0, fun _ => none, _, _, _, _, rfl, by omega, ⟨rfl, fun _ => trivial⟩, s2⟩ ?_
  rintro LQ env w' ⟨i, T, o5, o6, o7, o8, rfl, hi, hT, s'⟩ hN hE hR
  simp
  refine cndI (fun h => ?_) (fun h => ?_)
  · simp at h
    simp
    have hk : i < 4 := by omega
    have hk3 : i < 3 := by omega
    have hk4i : (i : Int) < 4 := by omega
    refine eff_call ((New_spec lim w0 w' _ s').mono ?_)
    intro r w4 h4
    by_cases hE2 : 0 ≤ lim ∧ lim ≤ 512
    · rw [if_pos hE2] at h4
      obtain ⟨p, rfl, t1⟩ := h4
      simp
      refine eff_call ((rNew_spec lim w0 w4 _ t1).mono ?_)
      intro r w5 h5
      rw [if_pos hE2] at h5
      obtain ⟨q, rfl, t2⟩ := h5
      simp
      have f := (t2.to (by rw [desk_at dd T hT.1 hk]) : St w0 (A * (pt dd (.cells (deskC T) 58 (0, 0)) * restA T i * slotA (T i)) * gds p lim [] * rgs q lim []) w5)
      have f2 := St.cut (slotA (T i)) f (B := A * restA T i * (gds p lim [] * rgs q lim []) * pt dd (.cells (deskC T) 58 (0, 0))) (by ac_rfl)
      refine regmI (fun vs w => match vs with
        | [] => St w0 (A * restA T i * (gds p lim [] * rgs q lim []) * pt dd (.cells (deskC T) 58 (0, 0))) w
        | [_] => St w0 (A * restA T i * (gds p lim [] * rgs q lim []) * pt dd (.cells ((deskC T).setIfInBounds i (gp (some ⟨p, q, lim, []⟩))) 58 (0, 0))) w
        | _ => St w0 (A * restA T i * (gds p lim [] * rgs q lim []) * pt dd (.cells (((deskC T).setIfInBounds i (gp (some ⟨p, q, lim, []⟩))).setIfInBounds (4 + i) (mp (some ⟨p, q, lim, []⟩))) 58 (0, 0))) w) f2.drew ?_
      simp [hk4i]
      refine effm_mv rfl (fun w hw => eff_st1 hw rfl (by simp [deskC]; omega) fun w' h => h) (fun v _ => ?_)
      simp [hk4i]
      refine effm_mv rfl (fun w hw => eff_st1 hw rfl (by simp [deskC]; omega) fun w' h => h) (fun v _ => ?_)
      simp
      try simp (disch := omega) only [wrap64]
      intro w9 f9
      rw [desk_set hk] at f9
      have ht : slotOK (some ⟨p, q, lim, []⟩) := gi_nil hE2.1 hE2.2
      have hU := upd_ok hT hk3 ht
      have hu : (upd T i (some ⟨p, q, lim, []⟩)) i = some ⟨p, q, lim, []⟩ := by simp [upd]
      have hr : restA (upd T i (some ⟨p, q, lim, []⟩)) i = restA T i := by rw [rest_upd T i _ hk, if_neg (by omega)]
      exact hN _ _ ⟨i + 1, upd T i (some ⟨p, q, lim, []⟩), .pointer (some ⟨p, 0, none⟩), .int .i64 0, .pointer (some ⟨q, 0, none⟩), .int .i64 0, by simp, by omega, hU, f9.to (by rw [desk_at dd _ hU.1 hk, hu, hr]; simp only [slotA]; ac_rfl)⟩ (by simp [slotN]; omega)
    · rw [if_neg hE2] at h4
      obtain ⟨rfl, t1⟩ := h4
      simp
      refine eff_call ((rNew_spec lim w0 w4 _ t1).mono ?_)
      intro r w5 h5
      rw [if_neg hE2] at h5
      obtain ⟨rfl, t2⟩ := h5
      simp
      have f := (t2.to (by rw [desk_at dd T hT.1 hk]) : St w0 (A * (pt dd (.cells (deskC T) 58 (0, 0)) * restA T i * slotA (T i))) w5)
      have f2 := St.cut (slotA (T i)) f (B := A * restA T i * pt dd (.cells (deskC T) 58 (0, 0))) (by ac_rfl)
      refine regmI (fun vs w => match vs with
        | [] => St w0 (A * restA T i * pt dd (.cells (deskC T) 58 (0, 0))) w
        | [_] => St w0 (A * restA T i * pt dd (.cells ((deskC T).setIfInBounds i (gp none)) 58 (0, 0))) w
        | _ => St w0 (A * restA T i * pt dd (.cells (((deskC T).setIfInBounds i (gp none)).setIfInBounds (4 + i) (mp none)) 58 (0, 0))) w) f2.drew ?_
      simp [hk4i]
      refine effm_mv rfl (fun w hw => eff_st1 hw rfl (by simp [deskC]; omega) fun w' h => h) (fun v _ => ?_)
      simp [hk4i]
      refine effm_mv rfl (fun w hw => eff_st1 hw rfl (by simp [deskC]; omega) fun w' h => h) (fun v _ => ?_)
      simp
      try simp (disch := omega) only [wrap64]
      intro w9 f9
      rw [desk_set hk] at f9
      have hU := upd_ok hT hk3 (t := none) trivial
      have hu : (upd T i none) i = none := by simp [upd]
      have hr : restA (upd T i none) i = restA T i := by rw [rest_upd T i _ hk, if_neg (by omega)]
      exact hN _ _ ⟨i + 1, upd T i none, .pointer none, .int .i64 2, .pointer none, .int .i64 2, by simp, by omega, hU, f9.to (by rw [desk_at dd _ hU.1 hk, hu, hr, slot_none]; ac_rfl)⟩ (by simp [slotN]; omega)
  · simp at h
    simp
    refine hE _ _ _ ?_
    simp
    refine loopI (fun env w' => ∃ (i : Nat) (T : Desk), env = [.int .i64 lim, .slice a ops.length cap, .bool false, .pointer (some ⟨dd, 0, none⟩), .int .i64 3, o5, o6, o7, o8, .int .i64 i] ∧ i ≤ ops.length ∧ deskOK T ∧ St w0 (A * deskA dd T) w')
      (fun env _ => ops.length - slotN env 9) ⟨0, _, by simp; omega, by omega, hT, s'⟩ ?_
    rintro LQ env w' ⟨k, T, rfl, hk, hT, s'⟩ hN hE hR
    simp
    refine cndI (fun h => ?_) (fun h => ?_)
    · simp at h
      obtain ⟨g, o, cap', hv, hc⟩ := hrow.at (by omega)
      cases hv
      simp [h]
      refine eff_ldcs (vs := ops[k].cs) (fun j u hu => by rw [Nat.add_assoc]; exact hc _ s'.drop _ _ (sps_at h j u hu)) rfl ?_
      simp
      obtain ⟨h1, h2, h3⟩ := hops _ (List.getElem_mem h)
      generalize ops[k] = x at h1 h2 h3
      refine eff_call ((step_spec dd T x.kd x.who x.a x.b x.rv x.rows w0 w' A hT h1 h2 h3 s').mono ?_)
      rintro r w5 ⟨rfl, U, hU, t5⟩
      simp
      try simp (disch := omega) only [wrap64]
      exact hN _ _ ⟨k + 1, U, by simp, by omega, hU, t5⟩ (by simp [slotN]; omega)
    · simp at h
      simp
      refine hE _ _ _ ?_
      simp
      refine eff_call ((desk_looks dd 0 T 0 0 w0 w' A (by omega) hT s').mono ?_)
      rintro r w5 ⟨rfl, t5⟩
      simp
      refine eff_call ((desk_looks dd 1 T 0 0 w0 w5 A (by omega) hT t5).mono ?_)
      rintro r w6 ⟨rfl, t6⟩
      simp
      refine eff_call ((desk_looks dd 2 T 0 0 w0 w6 A (by omega) hT t6).mono ?_)
      rintro r w7 ⟨rfl, t7⟩
      simp
      refine eff_call ((desk_looks dd 3 T 0 0 w0 w7 A (by omega) hT t7).mono ?_)
      rintro r w8 ⟨rfl, t8⟩
      simp
      exact t8.drop
end Go.HL.Gd
