/-
  One of bazaarref04 answers the unit at a place, by the plain law; Letter, HasPrefix, at, looks. No condition but that the place lies in the text, and the text within the bound.
-/
import Derived.Test.YtliofpihaemglaaNmB
namespace Go.HL.Nm
open Go.HL Go.Proofs
set_option maxRecDepth 4000
set_option linter.unusedSimpArgs false
set_option linter.unusedVariables false
-- bazaar/bazaarref04.One
def h89_0 : HC := (.seq (.reg (.chk none (.bin .add) (.cons (.cst (.int .i64 1)) (.cons (.inp 6) .nil)) (.done [(2, (.inp 5)), (3, (.op (.bin .add) (.cons (.cst (.int .i64 1)) (.cons (.inp 6) .nil))))] none))) .ret)
@[simp] theorem h89_0_wp {P : Program} {F : PF P} {Q : EX → List Value → World → Prop} {env : List Value} {w : World} : h89_0.wp F Q env w = HC.wp F (.seq (.reg (.chk none (.bin .add) (.cons (.cst (.int .i64 1)) (.cons (.inp 6) .nil)) (.done [(2, (.inp 5)), (3, (.op (.bin .add) (.cons (.cst (.int .i64 1)) (.cons (.inp 6) .nil))))] none))) .ret) Q env w := rfl
def h89_1 : HC := (.seq (.reg (.chk none (.bin .add) (.cons (.cst (.int .i64 2097152)) (.cons (.inp 4) .nil)) (.done [(2, (.op (.bin .add) (.cons (.cst (.int .i64 2097152)) (.cons (.inp 4) .nil)))), (3, (.cst (.int .i64 1)))] none))) .ret)
@[simp] theorem h89_1_wp {P : Program} {F : PF P} {Q : EX → List Value → World → Prop} {env : List Value} {w : World} : h89_1.wp F Q env w = HC.wp F (.seq (.reg (.chk none (.bin .add) (.cons (.cst (.int .i64 2097152)) (.cons (.inp 4) .nil)) (.done [(2, (.op (.bin .add) (.cons (.cst (.int .i64 2097152)) (.cons (.inp 4) .nil)))), (3, (.cst (.int .i64 1)))] none))) .ret) Q env w := rfl
def h89_2 : HC := (.seq (.br (.chk none (.un .not) (.cons (.inp 8) .nil) (.bnd (.op (.un .not) (.cons (.inp 8) .nil)) (.chk (some ((.bv 0), false)) (.bin .lss) (.cons (.inp 5) (.cons (.inp 7) .nil)) (.isb none (.bv 0) (.bnd (.ite (.bv 0) true (.cst (.bool true)) (.op (.bin .lss) (.cons (.inp 5) (.cons (.inp 7) .nil)))) (.chk (some ((.bv 1), false)) (.bin .gtr) (.cons (.inp 5) (.cons (.cst (.int .i64 1114111)) .nil)) (.isb none (.bv 1) (.bnd (.ite (.bv 1) true (.cst (.bool true)) (.op (.bin .gtr) (.cons (.inp 5) (.cons (.cst (.int .i64 1114111)) .nil)))) (.chk (some ((.bv 2), false)) (.bin .geq) (.cons (.inp 5) (.cons (.cst (.int .i64 55296)) .nil)) (.bnd (.ite (.bv 2) false (.op (.bin .geq) (.cons (.inp 5) (.cons (.cst (.int .i64 55296)) .nil))) (.cst (.tuple #[]))) (.chk (some ((.bv 3), true)) (.bin .leq) (.cons (.inp 5) (.cons (.cst (.int .i64 57343)) .nil)) (.isb (some ((.bv 2), false)) (.bv 3) (.isb none (.bv 2) (.done [] (some (.ite (.bv 2) true (.cst (.bool true)) (.ite (.bv 3) true (.op (.bin .leq) (.cons (.inp 5) (.cons (.cst (.int .i64 57343)) .nil))) (.cst (.bool false))))))))))))))))))) h89_1 .skip) h89_0)
@[simp] theorem h89_2_wp {P : Program} {F : PF P} {Q : EX → List Value → World → Prop} {env : List Value} {w : World} : h89_2.wp F Q env w = HC.wp F (.seq (.br (.chk none (.un .not) (.cons (.inp 8) .nil) (.bnd (.op (.un .not) (.cons (.inp 8) .nil)) (.chk (some ((.bv 0), false)) (.bin .lss) (.cons (.inp 5) (.cons (.inp 7) .nil)) (.isb none (.bv 0) (.bnd (.ite (.bv 0) true (.cst (.bool true)) (.op (.bin .lss) (.cons (.inp 5) (.cons (.inp 7) .nil)))) (.chk (some ((.bv 1), false)) (.bin .gtr) (.cons (.inp 5) (.cons (.cst (.int .i64 1114111)) .nil)) (.isb none (.bv 1) (.bnd (.ite (.bv 1) true (.cst (.bool true)) (.op (.bin .gtr) (.cons (.inp 5) (.cons (.cst (.int .i64 1114111)) .nil)))) (.chk (some ((.bv 2), false)) (.bin .geq) (.cons (.inp 5) (.cons (.cst (.int .i64 55296)) .nil)) (.bnd (.ite (.bv 2) false (.op (.bin .geq) (.cons (.inp 5) (.cons (.cst (.int .i64 55296)) .nil))) (.cst (.tuple #[]))) (.chk (some ((.bv 3), true)) (.bin .leq) (.cons (.inp 5) (.cons (.cst (.int .i64 57343)) .nil)) (.isb (some ((.bv 2), false)) (.bv 3) (.isb none (.bv 2) (.done [] (some (.ite (.bv 2) true (.cst (.bool true)) (.ite (.bv 3) true (.op (.bin .leq) (.cons (.inp 5) (.cons (.cst (.int .i64 57343)) .nil))) (.cst (.bool false))))))))))))))))))) h89_1 .skip) h89_0) Q env w := rfl
def h89_3 : HC := (.seq (.reg (.eff (.call 95) (.cons (.inp 0) (.cons (.inp 1) (.cons (.inp 6) (.cons (.inp 5) .nil)))) (.chk none (.ext 0) (.cons (.bv 0) .nil) (.chk none (.ext 1) (.cons (.bv 0) .nil) (.done [(5, (.op (.ext 0) (.cons (.bv 0) .nil))), (8, (.op (.ext 1) (.cons (.bv 0) .nil)))] none))))) h89_2)
@[simp] theorem h89_3_wp {P : Program} {F : PF P} {Q : EX → List Value → World → Prop} {env : List Value} {w : World} : h89_3.wp F Q env w = HC.wp F (.seq (.reg (.eff (.call 95) (.cons (.inp 0) (.cons (.inp 1) (.cons (.inp 6) (.cons (.inp 5) .nil)))) (.chk none (.ext 0) (.cons (.bv 0) .nil) (.chk none (.ext 1) (.cons (.bv 0) .nil) (.done [(5, (.op (.ext 0) (.cons (.bv 0) .nil))), (8, (.op (.ext 1) (.cons (.bv 0) .nil)))] none))))) h89_2) Q env w := rfl
def h89_4 : HC := (.seq (.reg (.done [(2, (.inp 4)), (3, (.cst (.int .i64 1)))] none)) .ret)
@[simp] theorem h89_4_wp {P : Program} {F : PF P} {Q : EX → List Value → World → Prop} {env : List Value} {w : World} : h89_4.wp F Q env w = HC.wp F (.seq (.reg (.done [(2, (.inp 4)), (3, (.cst (.int .i64 1)))] none)) .ret) Q env w := rfl
def h89_5 : HC := (.reg (.chk none (.bin .sub) (.cons (.inp 4) (.cons (.cst (.int .i64 192)) .nil)) (.done [(5, (.op (.bin .sub) (.cons (.inp 4) (.cons (.cst (.int .i64 192)) .nil)))), (6, (.cst (.int .i64 1))), (7, (.cst (.int .i64 128)))] none)))
@[simp] theorem h89_5_wp {P : Program} {F : PF P} {Q : EX → List Value → World → Prop} {env : List Value} {w : World} : h89_5.wp F Q env w = HC.wp F (.reg (.chk none (.bin .sub) (.cons (.inp 4) (.cons (.cst (.int .i64 192)) .nil)) (.done [(5, (.op (.bin .sub) (.cons (.inp 4) (.cons (.cst (.int .i64 192)) .nil)))), (6, (.cst (.int .i64 1))), (7, (.cst (.int .i64 128)))] none))) Q env w := rfl
def h89_6 : HC := (.reg (.chk none (.bin .sub) (.cons (.inp 4) (.cons (.cst (.int .i64 224)) .nil)) (.done [(5, (.op (.bin .sub) (.cons (.inp 4) (.cons (.cst (.int .i64 224)) .nil)))), (6, (.cst (.int .i64 2))), (7, (.cst (.int .i64 2048)))] none)))
@[simp] theorem h89_6_wp {P : Program} {F : PF P} {Q : EX → List Value → World → Prop} {env : List Value} {w : World} : h89_6.wp F Q env w = HC.wp F (.reg (.chk none (.bin .sub) (.cons (.inp 4) (.cons (.cst (.int .i64 224)) .nil)) (.done [(5, (.op (.bin .sub) (.cons (.inp 4) (.cons (.cst (.int .i64 224)) .nil)))), (6, (.cst (.int .i64 2))), (7, (.cst (.int .i64 2048)))] none))) Q env w := rfl
def h89_7 : HC := (.reg (.chk none (.bin .sub) (.cons (.inp 4) (.cons (.cst (.int .i64 240)) .nil)) (.done [(5, (.op (.bin .sub) (.cons (.inp 4) (.cons (.cst (.int .i64 240)) .nil)))), (6, (.cst (.int .i64 3))), (7, (.cst (.int .i64 65536)))] none)))
@[simp] theorem h89_7_wp {P : Program} {F : PF P} {Q : EX → List Value → World → Prop} {env : List Value} {w : World} : h89_7.wp F Q env w = HC.wp F (.reg (.chk none (.bin .sub) (.cons (.inp 4) (.cons (.cst (.int .i64 240)) .nil)) (.done [(5, (.op (.bin .sub) (.cons (.inp 4) (.cons (.cst (.int .i64 240)) .nil)))), (6, (.cst (.int .i64 3))), (7, (.cst (.int .i64 65536)))] none))) Q env w := rfl
def h89_8 : HC := (.seq (.reg (.chk none (.bin .add) (.cons (.cst (.int .i64 2097152)) (.cons (.inp 4) .nil)) (.done [(2, (.op (.bin .add) (.cons (.cst (.int .i64 2097152)) (.cons (.inp 4) .nil)))), (3, (.cst (.int .i64 1)))] none))) .ret)
@[simp] theorem h89_8_wp {P : Program} {F : PF P} {Q : EX → List Value → World → Prop} {env : List Value} {w : World} : h89_8.wp F Q env w = HC.wp F (.seq (.reg (.chk none (.bin .add) (.cons (.cst (.int .i64 2097152)) (.cons (.inp 4) .nil)) (.done [(2, (.op (.bin .add) (.cons (.cst (.int .i64 2097152)) (.cons (.inp 4) .nil)))), (3, (.cst (.int .i64 1)))] none))) .ret) Q env w := rfl
def h89_9 : HC := (.br (.chk none (.bin .geq) (.cons (.inp 4) (.cons (.cst (.int .i64 240)) .nil)) (.bnd (.op (.bin .geq) (.cons (.inp 4) (.cons (.cst (.int .i64 240)) .nil))) (.chk (some ((.bv 0), true)) (.bin .lss) (.cons (.inp 4) (.cons (.cst (.int .i64 248)) .nil)) (.isb none (.bv 0) (.done [] (some (.ite (.bv 0) true (.op (.bin .lss) (.cons (.inp 4) (.cons (.cst (.int .i64 248)) .nil))) (.cst (.bool false))))))))) h89_7 h89_8)
@[simp] theorem h89_9_wp {P : Program} {F : PF P} {Q : EX → List Value → World → Prop} {env : List Value} {w : World} : h89_9.wp F Q env w = HC.wp F (.br (.chk none (.bin .geq) (.cons (.inp 4) (.cons (.cst (.int .i64 240)) .nil)) (.bnd (.op (.bin .geq) (.cons (.inp 4) (.cons (.cst (.int .i64 240)) .nil))) (.chk (some ((.bv 0), true)) (.bin .lss) (.cons (.inp 4) (.cons (.cst (.int .i64 248)) .nil)) (.isb none (.bv 0) (.done [] (some (.ite (.bv 0) true (.op (.bin .lss) (.cons (.inp 4) (.cons (.cst (.int .i64 248)) .nil))) (.cst (.bool false))))))))) h89_7 h89_8) Q env w := rfl
def h89_10 : HC := (.br (.chk none (.bin .geq) (.cons (.inp 4) (.cons (.cst (.int .i64 224)) .nil)) (.bnd (.op (.bin .geq) (.cons (.inp 4) (.cons (.cst (.int .i64 224)) .nil))) (.chk (some ((.bv 0), true)) (.bin .lss) (.cons (.inp 4) (.cons (.cst (.int .i64 240)) .nil)) (.isb none (.bv 0) (.done [] (some (.ite (.bv 0) true (.op (.bin .lss) (.cons (.inp 4) (.cons (.cst (.int .i64 240)) .nil))) (.cst (.bool false))))))))) h89_6 h89_9)
@[simp] theorem h89_10_wp {P : Program} {F : PF P} {Q : EX → List Value → World → Prop} {env : List Value} {w : World} : h89_10.wp F Q env w = HC.wp F (.br (.chk none (.bin .geq) (.cons (.inp 4) (.cons (.cst (.int .i64 224)) .nil)) (.bnd (.op (.bin .geq) (.cons (.inp 4) (.cons (.cst (.int .i64 224)) .nil))) (.chk (some ((.bv 0), true)) (.bin .lss) (.cons (.inp 4) (.cons (.cst (.int .i64 240)) .nil)) (.isb none (.bv 0) (.done [] (some (.ite (.bv 0) true (.op (.bin .lss) (.cons (.inp 4) (.cons (.cst (.int .i64 240)) .nil))) (.cst (.bool false))))))))) h89_6 h89_9) Q env w := rfl
def h89_11 : HC := (.br (.chk none (.bin .geq) (.cons (.inp 4) (.cons (.cst (.int .i64 192)) .nil)) (.bnd (.op (.bin .geq) (.cons (.inp 4) (.cons (.cst (.int .i64 192)) .nil))) (.chk (some ((.bv 0), true)) (.bin .lss) (.cons (.inp 4) (.cons (.cst (.int .i64 224)) .nil)) (.isb none (.bv 0) (.done [] (some (.ite (.bv 0) true (.op (.bin .lss) (.cons (.inp 4) (.cons (.cst (.int .i64 224)) .nil))) (.cst (.bool false))))))))) h89_5 h89_10)
@[simp] theorem h89_11_wp {P : Program} {F : PF P} {Q : EX → List Value → World → Prop} {env : List Value} {w : World} : h89_11.wp F Q env w = HC.wp F (.br (.chk none (.bin .geq) (.cons (.inp 4) (.cons (.cst (.int .i64 192)) .nil)) (.bnd (.op (.bin .geq) (.cons (.inp 4) (.cons (.cst (.int .i64 192)) .nil))) (.chk (some ((.bv 0), true)) (.bin .lss) (.cons (.inp 4) (.cons (.cst (.int .i64 224)) .nil)) (.isb none (.bv 0) (.done [] (some (.ite (.bv 0) true (.op (.bin .lss) (.cons (.inp 4) (.cons (.cst (.int .i64 224)) .nil))) (.cst (.bool false))))))))) h89_5 h89_10) Q env w := rfl
def h89_12 : HC := (.br (.chk none (.bin .lss) (.cons (.inp 4) (.cons (.cst (.int .i64 128)) .nil)) (.done [] (some (.op (.bin .lss) (.cons (.inp 4) (.cons (.cst (.int .i64 128)) .nil)))))) h89_4 h89_11)
@[simp] theorem h89_12_wp {P : Program} {F : PF P} {Q : EX → List Value → World → Prop} {env : List Value} {w : World} : h89_12.wp F Q env w = HC.wp F (.br (.chk none (.bin .lss) (.cons (.inp 4) (.cons (.cst (.int .i64 128)) .nil)) (.done [] (some (.op (.bin .lss) (.cons (.inp 4) (.cons (.cst (.int .i64 128)) .nil)))))) h89_4 h89_11) Q env w := rfl
def h89_13 : HC := (.seq (.block 0 h89_12) h89_3)
@[simp] theorem h89_13_wp {P : Program} {F : PF P} {Q : EX → List Value → World → Prop} {env : List Value} {w : World} : h89_13.wp F Q env w = HC.wp F (.seq (.block 0 h89_12) h89_3) Q env w := rfl
def h89_14 : HC := (.seq (.reg (.done [(5, (.inp 4)), (6, (.cst (.int .i64 0))), (7, (.cst (.int .i64 0)))] none)) h89_13)
@[simp] theorem h89_14_wp {P : Program} {F : PF P} {Q : EX → List Value → World → Prop} {env : List Value} {w : World} : h89_14.wp F Q env w = HC.wp F (.seq (.reg (.done [(5, (.inp 4)), (6, (.cst (.int .i64 0))), (7, (.cst (.int .i64 0)))] none)) h89_13) Q env w := rfl
def h89_15 : HC := (.seq (.reg (.chk none .chS (.cons (.inp 0) (.cons (.inp 1) .nil)) (.chk none (.convI .i64) (.cons (.op .chS (.cons (.inp 0) (.cons (.inp 1) .nil))) .nil) (.done [(4, (.op (.convI .i64) (.cons (.op .chS (.cons (.inp 0) (.cons (.inp 1) .nil))) .nil)))] none)))) h89_14)
@[simp] theorem h89_15_wp {P : Program} {F : PF P} {Q : EX → List Value → World → Prop} {env : List Value} {w : World} : h89_15.wp F Q env w = HC.wp F (.seq (.reg (.chk none .chS (.cons (.inp 0) (.cons (.inp 1) .nil)) (.chk none (.convI .i64) (.cons (.op .chS (.cons (.inp 0) (.cons (.inp 1) .nil))) .nil) (.done [(4, (.op (.convI .i64) (.cons (.op .chS (.cons (.inp 0) (.cons (.inp 1) .nil))) .nil)))] none)))) h89_14) Q env w := rfl
def l89 : Lifted := ⟨[0, 1, 4, 5, 6, 7, 8, 9, 10], 81, [.slot 2, .slot 3], (.seq (.reg (.done [(2, (.cst (.int .i64 0))), (3, (.cst (.int .i64 0)))] none)) h89_15)⟩
theorem l89_ok : liftFn F0 89 400 = some l89 := by kernel_rfl



theorem one_spec (l : List UInt8) (i : Nat) (w : World) (hi : i < l.length) (hl : l.length ≤ 1048576) :
    CallW Try.prog 89 [.string (mk l), .int .i64 i] (fun r w' => r = .tuple #[.int .i64 (oneF (l.drop i)).1, .int .i64 (oneF (l.drop i)).2] ∧ w' = w) w := by
  have hd : l.drop i = l[i] :: l.drop (i + 1) := by rw [List.drop_eq_getElem_cons hi]
  have hg : l[i]?.getD 0 = l[i] := by simp [hi]
  rw [hd]
  have hc := l[i].toNat_lt
  generalize l[i] = c at *
  refine callW_of_lift l89_ok (by simp [l89]) ?_
  simp [l89]
  simp only [hg]
  refine ⟨hi, ?_⟩
  try simp (disch := omega) only [wrap64]
  -- what follows the switch
  have rest : ∀ (v least : Int) (n : Nat) (Q : EX → List Value → World → Prop), n ≤ 3 → 0 ≤ v → v < 32 → (∀ env : List Value, env[2]?.getD undef = .int .i64 (chkF c.toNat (l.drop (i + 1)) v n least).1 → env[3]?.getD undef = .int .i64 (chkF c.toNat (l.drop (i + 1)) v n least).2 → Q .ret env w) →
      HC.wp F0 h89_3 Q [.string (mk l), .int .i64 i, .int .i64 0, .int .i64 0, .int .i64 c.toNat, .int .i64 v, .int .i64 n, .int .i64 least, undef] w := by
    intro v least n Q hn hv hv2 hQ
    simp
    refine eff_call ((tail_spec l i n v w hi hn hv hv2 hl).mono ?_)
    rintro r w' ⟨rfl, rfl⟩
    unfold chkF at hQ
    cases ht : tailF (l.drop (i + 1)) n v with
    | none =>
      simp only [ht] at hQ
      simp [condC_ite]
      try simp (disch := omega) only [wrap64]
      exact hQ _ rfl rfl
    | some u =>
      simp only [ht] at hQ
      by_cases q : least ≤ u ∧ u ≤ 1114111
      · simp [q.1, q.2, Int.not_lt.2 q.1, Int.not_lt.2 q.2]
        refine cndI (fun h => ?_) (fun h => ?_)
        · simp at h
          rw [if_pos (by omega)] at hQ
          simp
          try simp (disch := omega) only [wrap64]
          exact hQ _ rfl rfl
        · simp at h
          rw [if_neg (by omega)] at hQ
          simp
          try simp (disch := omega) only [wrap64]
          exact hQ _ rfl (by simp)
      · have q' : u < least ∨ 1114111 < u := by omega
        simp [q]
        refine cndI (fun h => ?_) (fun h => ?_)
        · rw [if_pos (by omega)] at hQ
          simp
          try simp (disch := omega) only [wrap64]
          exact hQ _ rfl rfl
        · exfalso; simp at h; omega
  rw [oneF_cons]
  refine cndI (fun h => ?_) (fun h => ?_)
  · simp at h
    rw [if_pos (by omega)]
    simp
  simp at h
  rw [if_neg (by omega)]
  simp
  refine cndI (fun h2 => ?_) (fun h2 => ?_)
  · simp at h2
    rw [if_pos (by omega)]
    simp
    try simp (disch := omega) only [wrap64]
    exact rest _ 128 1 _ (by omega) (by omega) (by omega) (fun env e1 e2 => by simp [e1, e2])
  simp at h2
  rw [if_neg (by omega)]
  simp
  refine cndI (fun h3 => ?_) (fun h3 => ?_)
  · simp at h3
    rw [if_pos (by omega)]
    simp
    try simp (disch := omega) only [wrap64]
    exact rest _ 2048 2 _ (by omega) (by omega) (by omega) (fun env e1 e2 => by simp [e1, e2])
  simp at h3
  rw [if_neg (by omega)]
  simp
  refine cndI (fun h4 => ?_) (fun h4 => ?_)
  · simp at h4
    rw [if_pos (by omega)]
    simp
    try simp (disch := omega) only [wrap64]
    exact rest _ 65536 3 _ (by omega) (by omega) (by omega) (fun env e1 e2 => by simp [e1, e2])
  simp at h4
  rw [if_neg (by omega)]
  simp
  try simp (disch := omega) only [wrap64]
  trace_state
end Go.HL.Nm
