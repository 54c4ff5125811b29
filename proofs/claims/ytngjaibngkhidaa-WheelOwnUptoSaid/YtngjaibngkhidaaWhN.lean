/-
  Wheel: a wheel that the document names. No condition.
-/
import Derived.Test.YtngjaibngkhidaaWhM
namespace Go.HL.Wh
open Go.HL Go.Proofs
set_option maxRecDepth 4000
set_option linter.unusedSimpArgs false
set_option linter.unusedVariables false
-- bazaar/bazaarlaw09.known
def h7_0 : HC := (.seq (.reg (.chk none (.cal 10) (.cons (.inp 5) .nil) (.chk none (.bin .eql) (.cons (.op (.cal 10) (.cons (.inp 5) .nil)) (.cons (.cst (.int .i64 0)) .nil)) (.bnd (.op (.bin .eql) (.cons (.op (.cal 10) (.cons (.inp 5) .nil)) (.cons (.cst (.int .i64 0)) .nil))) (.chk (some ((.bv 0), true)) (.bin .eql) (.cons (.inp 3) (.cons (.cst (.int .i64 1)) .nil)) (.isb none (.bv 0) (.bnd (.ite (.bv 0) true (.op (.bin .eql) (.cons (.inp 3) (.cons (.cst (.int .i64 1)) .nil))) (.cst (.bool false))) (.chk (some ((.bv 1), true)) (.bin .eql) (.cons (.inp 4) (.cons (.cst (.int .i64 1)) .nil)) (.isb none (.bv 1) (.bnd (.ite (.bv 1) true (.op (.bin .eql) (.cons (.inp 4) (.cons (.cst (.int .i64 1)) .nil))) (.cst (.bool false))) (.chk (some ((.bv 2), true)) (.cal 10) (.cons (.inp 7) .nil) (.chk (some ((.bv 2), true)) (.bin .eql) (.cons (.op (.cal 10) (.cons (.inp 7) .nil)) (.cons (.cst (.int .i64 0)) .nil)) (.isb none (.bv 2) (.bnd (.ite (.bv 2) true (.op (.bin .eql) (.cons (.op (.cal 10) (.cons (.inp 7) .nil)) (.cons (.cst (.int .i64 0)) .nil))) (.cst (.bool false))) (.chk (some ((.bv 3), true)) .lenL (.cons (.inp 6) .nil) (.chk (some ((.bv 3), true)) (.bin .eql) (.cons (.op .lenL (.cons (.inp 6) .nil)) (.cons (.cst (.int .i64 2)) .nil)) (.isb none (.bv 3) (.bnd (.ite (.bv 3) true (.op (.bin .eql) (.cons (.op .lenL (.cons (.inp 6) .nil)) (.cons (.cst (.int .i64 2)) .nil))) (.cst (.bool false))) (.chk (some ((.bv 4), true)) (.idxL 2) (.cons (.inp 6) (.cons (.cst (.int .i64 0)) .nil)) (.ite (.bv 4) true (.eff (.ld true 2) (.cons (.ite (.bv 4) true (.op (.idxL 2) (.cons (.inp 6) (.cons (.cst (.int .i64 0)) .nil))) (.cst (.tuple #[]))) .nil) (.chk none (.build #[(.int .i64 0), (.int .i64 0)] [(0, 1), (1, 1)] [0, 1]) (.cons (.cst (.int .i64 7)) (.cons (.cst (.int .i64 61)) .nil)) (.eff (.bin .eql 32 (.tmp 68) (.tmp 69)) (.cons (.bv 5) (.cons (.op (.build #[(.int .i64 0), (.int .i64 0)] [(0, 1), (1, 1)] [0, 1]) (.cons (.cst (.int .i64 7)) (.cons (.cst (.int .i64 61)) .nil))) .nil)) (.isb none (.bv 4) (.chk (some ((.bv 6), true)) (.idxL 2) (.cons (.inp 6) (.cons (.cst (.int .i64 1)) .nil)) (.ite (.bv 6) true (.eff (.ld true 2) (.cons (.ite (.bv 6) true (.op (.idxL 2) (.cons (.inp 6) (.cons (.cst (.int .i64 1)) .nil))) (.cst (.tuple #[]))) .nil) (.chk none (.build #[(.int .i64 0), (.int .i64 0)] [(0, 1), (1, 1)] [0, 1]) (.cons (.cst (.int .i64 5)) (.cons (.cst (.int .i64 64)) .nil)) (.eff (.bin .eql 32 (.tmp 75) (.tmp 76)) (.cons (.bv 7) (.cons (.op (.build #[(.int .i64 0), (.int .i64 0)] [(0, 1), (1, 1)] [0, 1]) (.cons (.cst (.int .i64 5)) (.cons (.cst (.int .i64 64)) .nil))) .nil)) (.isb none (.bv 6) (.ite (.bv 8) true (.eff (.call 17) (.cons (.ite (.bv 8) true (.inp 1) (.cst (.tuple #[]))) .nil) (.chk none (.bin .eql) (.cons (.bv 9) (.cons (.cst (.int .i64 1)) .nil)) (.isb none (.bv 8) (.done [(0, (.op (.bin .eql) (.cons (.bv 9) (.cons (.cst (.int .i64 1)) .nil))))] none)))) (.isb none (.bv 8) (.done [(0, (.cst (.bool false)))] none))))))) (.isb none (.bv 6) (.isb none (.cst (.bool false)) (.done [(0, (.cst (.bool false)))] none))))))))) (.isb none (.bv 4) (.isb none (.cst (.bool false)) (.isb none (.cst (.bool false)) (.done [(0, (.cst (.bool false)))] none)))))))))))))))))))))))) .ret)
@[simp] theorem h7_0_wp {P : Program} {F : PF P} {Q : EX → List Value → World → Prop} {env : List Value} {w : World} : h7_0.wp F Q env w = HC.wp F (.seq (.reg (.chk none (.cal 10) (.cons (.inp 5) .nil) (.chk none (.bin .eql) (.cons (.op (.cal 10) (.cons (.inp 5) .nil)) (.cons (.cst (.int .i64 0)) .nil)) (.bnd (.op (.bin .eql) (.cons (.op (.cal 10) (.cons (.inp 5) .nil)) (.cons (.cst (.int .i64 0)) .nil))) (.chk (some ((.bv 0), true)) (.bin .eql) (.cons (.inp 3) (.cons (.cst (.int .i64 1)) .nil)) (.isb none (.bv 0) (.bnd (.ite (.bv 0) true (.op (.bin .eql) (.cons (.inp 3) (.cons (.cst (.int .i64 1)) .nil))) (.cst (.bool false))) (.chk (some ((.bv 1), true)) (.bin .eql) (.cons (.inp 4) (.cons (.cst (.int .i64 1)) .nil)) (.isb none (.bv 1) (.bnd (.ite (.bv 1) true (.op (.bin .eql) (.cons (.inp 4) (.cons (.cst (.int .i64 1)) .nil))) (.cst (.bool false))) (.chk (some ((.bv 2), true)) (.cal 10) (.cons (.inp 7) .nil) (.chk (some ((.bv 2), true)) (.bin .eql) (.cons (.op (.cal 10) (.cons (.inp 7) .nil)) (.cons (.cst (.int .i64 0)) .nil)) (.isb none (.bv 2) (.bnd (.ite (.bv 2) true (.op (.bin .eql) (.cons (.op (.cal 10) (.cons (.inp 7) .nil)) (.cons (.cst (.int .i64 0)) .nil))) (.cst (.bool false))) (.chk (some ((.bv 3), true)) .lenL (.cons (.inp 6) .nil) (.chk (some ((.bv 3), true)) (.bin .eql) (.cons (.op .lenL (.cons (.inp 6) .nil)) (.cons (.cst (.int .i64 2)) .nil)) (.isb none (.bv 3) (.bnd (.ite (.bv 3) true (.op (.bin .eql) (.cons (.op .lenL (.cons (.inp 6) .nil)) (.cons (.cst (.int .i64 2)) .nil))) (.cst (.bool false))) (.chk (some ((.bv 4), true)) (.idxL 2) (.cons (.inp 6) (.cons (.cst (.int .i64 0)) .nil)) (.ite (.bv 4) true (.eff (.ld true 2) (.cons (.ite (.bv 4) true (.op (.idxL 2) (.cons (.inp 6) (.cons (.cst (.int .i64 0)) .nil))) (.cst (.tuple #[]))) .nil) (.chk none (.build #[(.int .i64 0), (.int .i64 0)] [(0, 1), (1, 1)] [0, 1]) (.cons (.cst (.int .i64 7)) (.cons (.cst (.int .i64 61)) .nil)) (.eff (.bin .eql 32 (.tmp 68) (.tmp 69)) (.cons (.bv 5) (.cons (.op (.build #[(.int .i64 0), (.int .i64 0)] [(0, 1), (1, 1)] [0, 1]) (.cons (.cst (.int .i64 7)) (.cons (.cst (.int .i64 61)) .nil))) .nil)) (.isb none (.bv 4) (.chk (some ((.bv 6), true)) (.idxL 2) (.cons (.inp 6) (.cons (.cst (.int .i64 1)) .nil)) (.ite (.bv 6) true (.eff (.ld true 2) (.cons (.ite (.bv 6) true (.op (.idxL 2) (.cons (.inp 6) (.cons (.cst (.int .i64 1)) .nil))) (.cst (.tuple #[]))) .nil) (.chk none (.build #[(.int .i64 0), (.int .i64 0)] [(0, 1), (1, 1)] [0, 1]) (.cons (.cst (.int .i64 5)) (.cons (.cst (.int .i64 64)) .nil)) (.eff (.bin .eql 32 (.tmp 75) (.tmp 76)) (.cons (.bv 7) (.cons (.op (.build #[(.int .i64 0), (.int .i64 0)] [(0, 1), (1, 1)] [0, 1]) (.cons (.cst (.int .i64 5)) (.cons (.cst (.int .i64 64)) .nil))) .nil)) (.isb none (.bv 6) (.ite (.bv 8) true (.eff (.call 17) (.cons (.ite (.bv 8) true (.inp 1) (.cst (.tuple #[]))) .nil) (.chk none (.bin .eql) (.cons (.bv 9) (.cons (.cst (.int .i64 1)) .nil)) (.isb none (.bv 8) (.done [(0, (.op (.bin .eql) (.cons (.bv 9) (.cons (.cst (.int .i64 1)) .nil))))] none)))) (.isb none (.bv 8) (.done [(0, (.cst (.bool false)))] none))))))) (.isb none (.bv 6) (.isb none (.cst (.bool false)) (.done [(0, (.cst (.bool false)))] none))))))))) (.isb none (.bv 4) (.isb none (.cst (.bool false)) (.isb none (.cst (.bool false)) (.done [(0, (.cst (.bool false)))] none)))))))))))))))))))))))) .ret) Q env w := rfl
def h7_1 : HC := (.seq (.reg (.eff (.call 14) (.cons (.inp 1) (.cons (.cst (.int .i64 64)) .nil)) (.chk none (.ext 0) (.cons (.bv 0) .nil) (.chk none (.ext 1) (.cons (.bv 0) .nil) (.done [(6, (.op (.ext 0) (.cons (.bv 0) .nil))), (7, (.op (.ext 1) (.cons (.bv 0) .nil)))] none))))) h7_0)
@[simp] theorem h7_1_wp {P : Program} {F : PF P} {Q : EX → List Value → World → Prop} {env : List Value} {w : World} : h7_1.wp F Q env w = HC.wp F (.seq (.reg (.eff (.call 14) (.cons (.inp 1) (.cons (.cst (.int .i64 64)) .nil)) (.chk none (.ext 0) (.cons (.bv 0) .nil) (.chk none (.ext 1) (.cons (.bv 0) .nil) (.done [(6, (.op (.ext 0) (.cons (.bv 0) .nil))), (7, (.op (.ext 1) (.cons (.bv 0) .nil)))] none))))) h7_0) Q env w := rfl
def h7_2 : HC := (.seq (.reg (.eff (.call 25) (.cons (.inp 1) (.cons (.cst (.int .i64 3)) .nil)) (.chk none (.ext 0) (.cons (.bv 0) .nil) (.chk none (.ext 1) (.cons (.bv 0) .nil) (.chk none (.ext 2) (.cons (.bv 0) .nil) (.done [(3, (.op (.ext 0) (.cons (.bv 0) .nil))), (4, (.op (.ext 1) (.cons (.bv 0) .nil))), (5, (.op (.ext 2) (.cons (.bv 0) .nil)))] none)))))) h7_1)
@[simp] theorem h7_2_wp {P : Program} {F : PF P} {Q : EX → List Value → World → Prop} {env : List Value} {w : World} : h7_2.wp F Q env w = HC.wp F (.seq (.reg (.eff (.call 25) (.cons (.inp 1) (.cons (.cst (.int .i64 3)) .nil)) (.chk none (.ext 0) (.cons (.bv 0) .nil) (.chk none (.ext 1) (.cons (.bv 0) .nil) (.chk none (.ext 2) (.cons (.bv 0) .nil) (.done [(3, (.op (.ext 0) (.cons (.bv 0) .nil))), (4, (.op (.ext 1) (.cons (.bv 0) .nil))), (5, (.op (.ext 2) (.cons (.bv 0) .nil)))] none)))))) h7_1) Q env w := rfl
def h7_3 : HC := (.seq (.reg (.done [(0, (.cst (.bool false)))] none)) .ret)
@[simp] theorem h7_3_wp {P : Program} {F : PF P} {Q : EX → List Value → World → Prop} {env : List Value} {w : World} : h7_3.wp F Q env w = HC.wp F (.seq (.reg (.done [(0, (.cst (.bool false)))] none)) .ret) Q env w := rfl
def h7_4 : HC := (.seq (.br (.chk none (.cal 10) (.cons (.inp 2) .nil) (.chk none (.bin .neq) (.cons (.op (.cal 10) (.cons (.inp 2) .nil)) (.cons (.cst (.int .i64 0)) .nil)) (.bnd (.op (.bin .neq) (.cons (.op (.cal 10) (.cons (.inp 2) .nil)) (.cons (.cst (.int .i64 0)) .nil))) (.ite (.bv 0) false (.eff (.call 12) (.cons (.ite (.bv 0) false (.inp 1) (.cst (.tuple #[]))) (.cons (.cst (.int .i64 7)) (.cons (.cst (.int .i64 61)) .nil))) (.chk none (.cal 10) (.cons (.bv 1) .nil) (.chk none (.bin .neq) (.cons (.op (.cal 10) (.cons (.bv 1) .nil)) (.cons (.cst (.int .i64 0)) .nil)) (.isb none (.bv 0) (.bnd (.op (.bin .neq) (.cons (.op (.cal 10) (.cons (.bv 1) .nil)) (.cons (.cst (.int .i64 0)) .nil))) (.ite (.bv 2) false (.eff (.call 12) (.cons (.ite (.bv 2) false (.inp 1) (.cst (.tuple #[]))) (.cons (.cst (.int .i64 5)) (.cons (.cst (.int .i64 64)) .nil))) (.chk none (.cal 10) (.cons (.bv 3) .nil) (.chk none (.bin .neq) (.cons (.op (.cal 10) (.cons (.bv 3) .nil)) (.cons (.cst (.int .i64 0)) .nil)) (.isb none (.bv 2) (.bnd (.op (.bin .neq) (.cons (.op (.cal 10) (.cons (.bv 3) .nil)) (.cons (.cst (.int .i64 0)) .nil))) (.ite (.bv 4) false (.eff (.call 12) (.cons (.ite (.bv 4) false (.inp 1) (.cst (.tuple #[]))) (.cons (.cst (.int .i64 3)) (.cons (.cst (.int .i64 127)) .nil))) (.chk none (.cal 10) (.cons (.bv 5) .nil) (.chk none (.bin .neq) (.cons (.op (.cal 10) (.cons (.bv 5) .nil)) (.cons (.cst (.int .i64 0)) .nil)) (.isb none (.bv 4) (.done [] (some (.op (.bin .neq) (.cons (.op (.cal 10) (.cons (.bv 5) .nil)) (.cons (.cst (.int .i64 0)) .nil))))))))) (.isb none (.bv 4) (.done [] (some (.cst (.bool true))))))))))) (.isb none (.bv 2) (.isb none (.cst (.bool true)) (.done [] (some (.cst (.bool true)))))))))))) (.isb none (.bv 0) (.isb none (.cst (.bool true)) (.isb none (.cst (.bool true)) (.done [] (some (.cst (.bool true))))))))))) h7_3 .skip) h7_2)
@[simp] theorem h7_4_wp {P : Program} {F : PF P} {Q : EX → List Value → World → Prop} {env : List Value} {w : World} : h7_4.wp F Q env w = HC.wp F (.seq (.br (.chk none (.cal 10) (.cons (.inp 2) .nil) (.chk none (.bin .neq) (.cons (.op (.cal 10) (.cons (.inp 2) .nil)) (.cons (.cst (.int .i64 0)) .nil)) (.bnd (.op (.bin .neq) (.cons (.op (.cal 10) (.cons (.inp 2) .nil)) (.cons (.cst (.int .i64 0)) .nil))) (.ite (.bv 0) false (.eff (.call 12) (.cons (.ite (.bv 0) false (.inp 1) (.cst (.tuple #[]))) (.cons (.cst (.int .i64 7)) (.cons (.cst (.int .i64 61)) .nil))) (.chk none (.cal 10) (.cons (.bv 1) .nil) (.chk none (.bin .neq) (.cons (.op (.cal 10) (.cons (.bv 1) .nil)) (.cons (.cst (.int .i64 0)) .nil)) (.isb none (.bv 0) (.bnd (.op (.bin .neq) (.cons (.op (.cal 10) (.cons (.bv 1) .nil)) (.cons (.cst (.int .i64 0)) .nil))) (.ite (.bv 2) false (.eff (.call 12) (.cons (.ite (.bv 2) false (.inp 1) (.cst (.tuple #[]))) (.cons (.cst (.int .i64 5)) (.cons (.cst (.int .i64 64)) .nil))) (.chk none (.cal 10) (.cons (.bv 3) .nil) (.chk none (.bin .neq) (.cons (.op (.cal 10) (.cons (.bv 3) .nil)) (.cons (.cst (.int .i64 0)) .nil)) (.isb none (.bv 2) (.bnd (.op (.bin .neq) (.cons (.op (.cal 10) (.cons (.bv 3) .nil)) (.cons (.cst (.int .i64 0)) .nil))) (.ite (.bv 4) false (.eff (.call 12) (.cons (.ite (.bv 4) false (.inp 1) (.cst (.tuple #[]))) (.cons (.cst (.int .i64 3)) (.cons (.cst (.int .i64 127)) .nil))) (.chk none (.cal 10) (.cons (.bv 5) .nil) (.chk none (.bin .neq) (.cons (.op (.cal 10) (.cons (.bv 5) .nil)) (.cons (.cst (.int .i64 0)) .nil)) (.isb none (.bv 4) (.done [] (some (.op (.bin .neq) (.cons (.op (.cal 10) (.cons (.bv 5) .nil)) (.cons (.cst (.int .i64 0)) .nil))))))))) (.isb none (.bv 4) (.done [] (some (.cst (.bool true))))))))))) (.isb none (.bv 2) (.isb none (.cst (.bool true)) (.done [] (some (.cst (.bool true)))))))))))) (.isb none (.bv 0) (.isb none (.cst (.bool true)) (.isb none (.cst (.bool true)) (.done [] (some (.cst (.bool true))))))))))) h7_3 .skip) h7_2) Q env w := rfl
def h7_5 : HC := (.seq (.reg (.eff (.call 9) (.cons (.cst (.int .i64 60)) .nil) (.chk none (.ext 0) (.cons (.bv 0) .nil) (.chk none (.ext 1) (.cons (.bv 0) .nil) (.done [(1, (.op (.ext 0) (.cons (.bv 0) .nil))), (2, (.op (.ext 1) (.cons (.bv 0) .nil)))] none))))) h7_4)
@[simp] theorem h7_5_wp {P : Program} {F : PF P} {Q : EX → List Value → World → Prop} {env : List Value} {w : World} : h7_5.wp F Q env w = HC.wp F (.seq (.reg (.eff (.call 9) (.cons (.cst (.int .i64 60)) .nil) (.chk none (.ext 0) (.cons (.bv 0) .nil) (.chk none (.ext 1) (.cons (.bv 0) .nil) (.done [(1, (.op (.ext 0) (.cons (.bv 0) .nil))), (2, (.op (.ext 1) (.cons (.bv 0) .nil)))] none))))) h7_4) Q env w := rfl
def l7 : Lifted := ⟨[0, 1, 2, 3, 4, 5, 6, 7], 84, [.slot 0], (.seq (.reg (.done [(0, (.cst (.bool false)))] none)) h7_5)⟩
theorem l7_ok : liftFn U2 7 400 = some l7 := by kernel_rfl


theorem tmT : PrimStruct Try.prog 32 [.int .i64, .int .i64] := ⟨by kernel_rfl, by kernel_rfl, by kernel_rfl, by kernel_rfl⟩
theorem known_spec (w0 w : World) (A : Asn) (s : St w0 A w) : CallW Try.prog 7 [] (fun r w' => r = .bool true ∧ St w0 A w') w := by
  refine callW_of_lift l7_ok (by simp [l7]) ?_
  simp [l7]
  refine eff_call (New_spec 60 w0 w A s fun r w1 h1 => ?_)
  rw [if_pos (by decide)] at h1
  obtain ⟨p, rfl, s1⟩ := h1
  have s1 : St w0 (A * whl p 60 0 []) w1 := s1
  simp
  refine eff_call (Schedule_spec p 60 0 [] 7 61 w0 w1 A (by decide) s1 fun r w2 h2 => ?_)
  rw [if_pos (by simp)] at h2
  obtain ⟨rfl, b1, s2⟩ := h2
  have s2 : St w0 (A * whl p 60 0 [⟨7, 61, 0, 61, b1⟩]) w2 := by simpa [hgT, lvF, digF] using s2
  simp
  refine eff_call (Schedule_spec p 60 0 _ 5 64 w0 w2 A (by decide) s2 fun r w3 h3 => ?_)
  rw [if_pos (by simp)] at h3
  obtain ⟨rfl, b2, s3⟩ := h3
  have s3 : St w0 (A * whl p 60 0 [⟨7, 61, 0, 61, b1⟩, ⟨5, 64, 1, 1, b2⟩]) w3 := by simpa [hgT, lvF, digF] using s3
  simp
  refine eff_call (Schedule_spec p 60 0 _ 3 127 w0 w3 A (by decide) s3 fun r w4 h4 => ?_)
  rw [if_pos (by simp)] at h4
  obtain ⟨rfl, b3, s4⟩ := h4
  have s4 : St w0 (A * whl p 60 0 [⟨7, 61, 0, 61, b1⟩, ⟨5, 64, 1, 1, b2⟩, ⟨3, 127, 1, 1, b3⟩]) w4 := by simpa [hgT, lvF, digF] using s4
  simp
  refine eff_call ((Place_spec p 60 0 _ 3 w0 w4 A s4).mono ?_)
  rintro r w5 ⟨rfl, s5⟩
  have e1 : fnd [⟨7, 61, 0, 61, b1⟩, ⟨5, 64, 1, 1, b2⟩, ⟨3, 127, 1, 1, b3⟩] 3 = some ⟨3, 127, 1, 1, b3⟩ := rfl
  simp [e1, fpl, fer]
  refine eff_call (Advance_spec p 60 0 _ 64 w0 w5 A ?_ (by decide) (by simp) (by decide) s5 fun r w6 h6 => ?_)
  · refine ⟨by simp, ?_, ?_, ?_⟩ <;> simp [lvF, digF]
  rw [if_pos (by decide)] at h6
  obtain ⟨v, rfl, s6⟩ := h6
  have e2 : sortT ((dueT (64 : Int).toNat [⟨7, 61, 0, 61, b1⟩, ⟨5, 64, 1, 1, b2⟩, ⟨3, 127, 1, 1, b3⟩]).map tmr) = [(7, 61), (5, 64)] := by
    refine List.Perm.eq_of_pairwise (fun x y _ _ h1 h2 => ordT x y h2 h1) (sortT_pw _) (by simp [ltOrd]) (sortT_perm _)
  rw [e2] at s6
  have e3 : (movedT (64 : Int).toNat [⟨7, 61, 0, 61, b1⟩, ⟨5, 64, 1, 1, b2⟩, ⟨3, 127, 1, 1, b3⟩]).length = 1 := by simp [movedT, movB, lvF, digF]
  rw [e3] at s6
  obtain ⟨R, hR⟩ : ∃ R, restT (64 : Int).toNat [⟨7, 61, 0, 61, b1⟩, ⟨5, 64, 1, 1, b2⟩, ⟨3, 127, 1, 1, b3⟩] = R := ⟨_, rfl⟩
  rw [hR] at s6
  have s6 : St w0 (A * whl p 64 1 R * own 32 2 v 2 (encT (7, 61) ++ encT (5, 64))) w6 := s6
  obtain ⟨g, cap, rfl, hcap, hc⟩ := s6.own_at (by omega)
  simp
  refine eff_ldcs (vs := encT (7, 61)) (fun j u hu => ?_) rfl ?_
  · rw [Nat.zero_add]
    refine hc j u ?_
    match j, hu with
    | 0, hu => exact hu
    | 1, hu => exact hu
  simp [Instr.fill, Value.cells]
  refine eff_eqlP tmT [.int .i64 7, .int .i64 61] [.int .i64 7, .int .i64 61] rfl rfl ?_
  simp
  refine eff_ldcs (vs := encT (5, 64)) (fun j u hu => ?_) rfl ?_
  · refine hc (2 + j) u ?_
    match j, hu with
    | 0, hu => exact hu
    | 1, hu => exact hu
  simp [Instr.fill, Value.cells]
  refine eff_eqlP tmT [.int .i64 5, .int .i64 64] [.int .i64 5, .int .i64 64] rfl rfl ?_
  simp
  refine eff_call ((Moves_spec p 64 1 R w0 w6 _ s6.swap).mono ?_)
  rintro r w7 ⟨rfl, s7⟩
  simp
  exact s7.drop.drop
end Go.HL.Wh
