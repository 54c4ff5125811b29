/-
  Wheel: lists that share no memory. Conditions: so many, so long.
-/
import Derived.Test.YtngjaibngkhidaaWhX
namespace Go.HL.Wh
open Go.HL Go.Proofs
set_option maxRecDepth 4000
set_option linter.unusedSimpArgs false
set_option linter.unusedVariables false
def flat (l : List (Int × Int)) : List Value := l.flatMap encT
def ints (l : List Int) : List Value := l.map (Value.int .i64)
theorem flat_len (l : List (Int × Int)) : (flat l).length = l.length * 2 := flat_length encT 2 (fun _ => rfl) l
theorem flat_at {l : List (Int × Int)} {k : Nat} (h : k < l.length) (j : Nat) (u : Value) (hu : (encT l[k])[j]? = some u) : (flat l)[k * 2 + j]? = some u := flatT_at h j u hu
theorem ints_at2 {l : List Int} {i : Nat} (h : i < l.length) : (ints l)[i]? = some (.int .i64 l[i]) := by simp [ints, h]
theorem range_at {R : Nat → Value} {n i : Nat} (h : i < n) : ((List.range n).map R)[i]? = some (R i) := by simp [h]
def fresh (i m : Nat) : List (Int × Int) := (List.range m).map fun (k : Nat) => (1000 + i, (k : Int))
theorem fresh_succ (i m : Nat) : flat (fresh i m) ++ encT (1000 + i, m) = flat (fresh i (m + 1)) := by simp [fresh, flat, List.range_succ]
def freshI (i m : Nat) : List Int := (List.range m).map fun (k : Nat) => 1000 * (i : Int) + k
theorem freshI_succ (i m : Nat) : ints (freshI i m) ++ [.int .i64 (1000 * (i : Int) + m)] = ints (freshI i (m + 1)) := by simp [freshI, ints, List.range_succ]
def gv (o : Option Value) : Value := o.getD (.slice none 0 0)
theorem gv_succ (G : Nat → Option Value) (i : Nat) (g : Value) : (List.range i).map (fun j => gv (G j)) ++ [g] = (List.range (i + 1)).map (fun j => gv (upF G i (some g) j)) := by
  rw [List.range_succ, List.map_append]
  congr 1
  · refine List.map_congr_left fun j hj => ?_
    rw [upF_ne _ _ (by have := List.mem_range.1 hj; omega)]
  · simp [upF_at, gv]
def GRf (R : Nat → Value) (Y : Nat → List (Int × Int)) (j : Nat) : Option Value → Asn
  | none => own 32 2 (R j) (Y j).length (flat (Y j))
  | some g => grw 32 2 (R j) g (Y j).length 80 (flat (Y j)) (flat (fresh j 80))
def GLf (L : Nat → Value) (Z : Nat → List Int) (j : Nat) : Option Value → Asn
  | none => own 3 1 (L j) (Z j).length (ints (Z j))
  | some g => grw 3 1 (L j) g (Z j).length 80 (ints (Z j)) (ints (freshI j 80))
-- bazaar/bazaarlaw09.apart
def h24_0 : HC := (.seq (.reg (.done [(2, (.cst (.bool true)))] none)) .ret)
@[simp] theorem h24_0_wp {P : Program} {F : PF P} {Q : EX → List Value → World → Prop} {env : List Value} {w : World} : h24_0.wp F Q env w = HC.wp F (.seq (.reg (.done [(2, (.cst (.bool true)))] none)) .ret) Q env w := rfl
def h24_1 : HC := (.reg (.chk none (.bin .add) (.cons (.inp 18) (.cons (.cst (.int .i64 1)) .nil)) (.done [(18, (.op (.bin .add) (.cons (.inp 18) (.cons (.cst (.int .i64 1)) .nil))))] none)))
@[simp] theorem h24_1_wp {P : Program} {F : PF P} {Q : EX → List Value → World → Prop} {env : List Value} {w : World} : h24_1.wp F Q env w = HC.wp F (.reg (.chk none (.bin .add) (.cons (.inp 18) (.cons (.cst (.int .i64 1)) .nil)) (.done [(18, (.op (.bin .add) (.cons (.inp 18) (.cons (.cst (.int .i64 1)) .nil))))] none))) Q env w := rfl
def h24_2 : HC := (.reg (.chk none (.bin .add) (.cons (.inp 20) (.cons (.cst (.int .i64 1)) .nil)) (.done [(20, (.op (.bin .add) (.cons (.inp 20) (.cons (.cst (.int .i64 1)) .nil))))] none)))
@[simp] theorem h24_2_wp {P : Program} {F : PF P} {Q : EX → List Value → World → Prop} {env : List Value} {w : World} : h24_2.wp F Q env w = HC.wp F (.reg (.chk none (.bin .add) (.cons (.inp 20) (.cons (.cst (.int .i64 1)) .nil)) (.done [(20, (.op (.bin .add) (.cons (.inp 20) (.cons (.cst (.int .i64 1)) .nil))))] none))) Q env w := rfl
def h24_3 : HC := (.seq (.reg (.done [(2, (.cst (.bool false)))] none)) .ret)
@[simp] theorem h24_3_wp {P : Program} {F : PF P} {Q : EX → List Value → World → Prop} {env : List Value} {w : World} : h24_3.wp F Q env w = HC.wp F (.seq (.reg (.done [(2, (.cst (.bool false)))] none)) .ret) Q env w := rfl
def h24_4 : HC := (.br (.chk none (.bin .lss) (.cons (.inp 20) (.cons (.inp 19) .nil)) (.bnd (.op (.bin .lss) (.cons (.inp 20) (.cons (.inp 19) .nil))) (.chk (some ((.bv 0), true)) (.idxL 1) (.cons (.inp 1) (.cons (.inp 18) .nil)) (.ite (.bv 0) true (.eff (.ld false 1) (.cons (.ite (.bv 0) true (.op (.idxL 1) (.cons (.inp 1) (.cons (.inp 18) .nil))) (.cst (.tuple #[]))) .nil) (.chk none (.idxL 1) (.cons (.bv 1) (.cons (.inp 20) .nil)) (.eff (.ld false 1) (.cons (.op (.idxL 1) (.cons (.bv 1) (.cons (.inp 20) .nil))) .nil) (.chk none (.bin .mul) (.cons (.cst (.int .i64 (-1000))) (.cons (.inp 18) .nil)) (.chk none (.bin .sub) (.cons (.op (.bin .mul) (.cons (.cst (.int .i64 (-1000))) (.cons (.inp 18) .nil))) (.cons (.inp 20) .nil)) (.chk none (.bin .sub) (.cons (.op (.bin .sub) (.cons (.op (.bin .mul) (.cons (.cst (.int .i64 (-1000))) (.cons (.inp 18) .nil))) (.cons (.inp 20) .nil))) (.cons (.cst (.int .i64 1)) .nil)) (.chk none (.bin .neq) (.cons (.bv 2) (.cons (.op (.bin .sub) (.cons (.op (.bin .sub) (.cons (.op (.bin .mul) (.cons (.cst (.int .i64 (-1000))) (.cons (.inp 18) .nil))) (.cons (.inp 20) .nil))) (.cons (.cst (.int .i64 1)) .nil))) .nil)) (.isb none (.bv 0) (.bnd (.op (.bin .neq) (.cons (.bv 2) (.cons (.op (.bin .sub) (.cons (.op (.bin .sub) (.cons (.op (.bin .mul) (.cons (.cst (.int .i64 (-1000))) (.cons (.inp 18) .nil))) (.cons (.inp 20) .nil))) (.cons (.cst (.int .i64 1)) .nil))) .nil))) (.chk (some ((.bv 3), false)) (.bin .geq) (.cons (.inp 20) (.cons (.inp 19) .nil)) (.bnd (.ite (.bv 3) false (.op (.bin .geq) (.cons (.inp 20) (.cons (.inp 19) .nil))) (.cst (.tuple #[]))) (.chk (some ((.bv 4), true)) (.idxL 1) (.cons (.inp 11) (.cons (.inp 18) .nil)) (.ite (.bv 4) true (.eff (.ld false 1) (.cons (.ite (.bv 4) true (.op (.idxL 1) (.cons (.inp 11) (.cons (.inp 18) .nil))) (.cst (.tuple #[]))) .nil) (.chk none (.idxL 1) (.cons (.bv 5) (.cons (.inp 20) .nil)) (.eff (.ld false 1) (.cons (.op (.idxL 1) (.cons (.bv 5) (.cons (.inp 20) .nil))) .nil) (.chk none (.bin .mul) (.cons (.cst (.int .i64 1000)) (.cons (.inp 18) .nil)) (.chk none (.bin .add) (.cons (.op (.bin .mul) (.cons (.cst (.int .i64 1000)) (.cons (.inp 18) .nil))) (.cons (.inp 20) .nil)) (.chk none (.bin .sub) (.cons (.op (.bin .add) (.cons (.op (.bin .mul) (.cons (.cst (.int .i64 1000)) (.cons (.inp 18) .nil))) (.cons (.inp 20) .nil))) (.cons (.inp 19) .nil)) (.chk none (.bin .neq) (.cons (.bv 6) (.cons (.op (.bin .sub) (.cons (.op (.bin .add) (.cons (.op (.bin .mul) (.cons (.cst (.int .i64 1000)) (.cons (.inp 18) .nil))) (.cons (.inp 20) .nil))) (.cons (.inp 19) .nil))) .nil)) (.isb (some ((.bv 3), false)) (.bv 4) (.isb none (.bv 3) (.done [] (some (.ite (.bv 3) true (.cst (.bool true)) (.op (.bin .neq) (.cons (.bv 6) (.cons (.op (.bin .sub) (.cons (.op (.bin .add) (.cons (.op (.bin .mul) (.cons (.cst (.int .i64 1000)) (.cons (.inp 18) .nil))) (.cons (.inp 20) .nil))) (.cons (.inp 19) .nil))) .nil))))))))))))))) (.isb (some ((.bv 3), false)) (.bv 4) (.isb none (.bv 3) (.done [] (some (.ite (.bv 3) true (.cst (.bool true)) (.cst (.bool false)))))))))))))))))))) (.isb none (.bv 0) (.chk none (.bin .geq) (.cons (.inp 20) (.cons (.inp 19) .nil)) (.bnd (.op (.bin .geq) (.cons (.inp 20) (.cons (.inp 19) .nil))) (.chk (some ((.bv 1), true)) (.idxL 1) (.cons (.inp 11) (.cons (.inp 18) .nil)) (.ite (.bv 1) true (.eff (.ld false 1) (.cons (.ite (.bv 1) true (.op (.idxL 1) (.cons (.inp 11) (.cons (.inp 18) .nil))) (.cst (.tuple #[]))) .nil) (.chk none (.idxL 1) (.cons (.bv 2) (.cons (.inp 20) .nil)) (.eff (.ld false 1) (.cons (.op (.idxL 1) (.cons (.bv 2) (.cons (.inp 20) .nil))) .nil) (.chk none (.bin .mul) (.cons (.cst (.int .i64 1000)) (.cons (.inp 18) .nil)) (.chk none (.bin .add) (.cons (.op (.bin .mul) (.cons (.cst (.int .i64 1000)) (.cons (.inp 18) .nil))) (.cons (.inp 20) .nil)) (.chk none (.bin .sub) (.cons (.op (.bin .add) (.cons (.op (.bin .mul) (.cons (.cst (.int .i64 1000)) (.cons (.inp 18) .nil))) (.cons (.inp 20) .nil))) (.cons (.inp 19) .nil)) (.chk none (.bin .neq) (.cons (.bv 3) (.cons (.op (.bin .sub) (.cons (.op (.bin .add) (.cons (.op (.bin .mul) (.cons (.cst (.int .i64 1000)) (.cons (.inp 18) .nil))) (.cons (.inp 20) .nil))) (.cons (.inp 19) .nil))) .nil)) (.isb none (.bv 1) (.isb none (.cst (.bool false)) (.done [] (some (.op (.bin .neq) (.cons (.bv 3) (.cons (.op (.bin .sub) (.cons (.op (.bin .add) (.cons (.op (.bin .mul) (.cons (.cst (.int .i64 1000)) (.cons (.inp 18) .nil))) (.cons (.inp 20) .nil))) (.cons (.inp 19) .nil))) .nil)))))))))))))) (.isb none (.bv 1) (.isb none (.cst (.bool false)) (.done [] (some (.cst (.bool false))))))))))))))) h24_3 .skip)
@[simp] theorem h24_4_wp {P : Program} {F : PF P} {Q : EX → List Value → World → Prop} {env : List Value} {w : World} : h24_4.wp F Q env w = HC.wp F (.br (.chk none (.bin .lss) (.cons (.inp 20) (.cons (.inp 19) .nil)) (.bnd (.op (.bin .lss) (.cons (.inp 20) (.cons (.inp 19) .nil))) (.chk (some ((.bv 0), true)) (.idxL 1) (.cons (.inp 1) (.cons (.inp 18) .nil)) (.ite (.bv 0) true (.eff (.ld false 1) (.cons (.ite (.bv 0) true (.op (.idxL 1) (.cons (.inp 1) (.cons (.inp 18) .nil))) (.cst (.tuple #[]))) .nil) (.chk none (.idxL 1) (.cons (.bv 1) (.cons (.inp 20) .nil)) (.eff (.ld false 1) (.cons (.op (.idxL 1) (.cons (.bv 1) (.cons (.inp 20) .nil))) .nil) (.chk none (.bin .mul) (.cons (.cst (.int .i64 (-1000))) (.cons (.inp 18) .nil)) (.chk none (.bin .sub) (.cons (.op (.bin .mul) (.cons (.cst (.int .i64 (-1000))) (.cons (.inp 18) .nil))) (.cons (.inp 20) .nil)) (.chk none (.bin .sub) (.cons (.op (.bin .sub) (.cons (.op (.bin .mul) (.cons (.cst (.int .i64 (-1000))) (.cons (.inp 18) .nil))) (.cons (.inp 20) .nil))) (.cons (.cst (.int .i64 1)) .nil)) (.chk none (.bin .neq) (.cons (.bv 2) (.cons (.op (.bin .sub) (.cons (.op (.bin .sub) (.cons (.op (.bin .mul) (.cons (.cst (.int .i64 (-1000))) (.cons (.inp 18) .nil))) (.cons (.inp 20) .nil))) (.cons (.cst (.int .i64 1)) .nil))) .nil)) (.isb none (.bv 0) (.bnd (.op (.bin .neq) (.cons (.bv 2) (.cons (.op (.bin .sub) (.cons (.op (.bin .sub) (.cons (.op (.bin .mul) (.cons (.cst (.int .i64 (-1000))) (.cons (.inp 18) .nil))) (.cons (.inp 20) .nil))) (.cons (.cst (.int .i64 1)) .nil))) .nil))) (.chk (some ((.bv 3), false)) (.bin .geq) (.cons (.inp 20) (.cons (.inp 19) .nil)) (.bnd (.ite (.bv 3) false (.op (.bin .geq) (.cons (.inp 20) (.cons (.inp 19) .nil))) (.cst (.tuple #[]))) (.chk (some ((.bv 4), true)) (.idxL 1) (.cons (.inp 11) (.cons (.inp 18) .nil)) (.ite (.bv 4) true (.eff (.ld false 1) (.cons (.ite (.bv 4) true (.op (.idxL 1) (.cons (.inp 11) (.cons (.inp 18) .nil))) (.cst (.tuple #[]))) .nil) (.chk none (.idxL 1) (.cons (.bv 5) (.cons (.inp 20) .nil)) (.eff (.ld false 1) (.cons (.op (.idxL 1) (.cons (.bv 5) (.cons (.inp 20) .nil))) .nil) (.chk none (.bin .mul) (.cons (.cst (.int .i64 1000)) (.cons (.inp 18) .nil)) (.chk none (.bin .add) (.cons (.op (.bin .mul) (.cons (.cst (.int .i64 1000)) (.cons (.inp 18) .nil))) (.cons (.inp 20) .nil)) (.chk none (.bin .sub) (.cons (.op (.bin .add) (.cons (.op (.bin .mul) (.cons (.cst (.int .i64 1000)) (.cons (.inp 18) .nil))) (.cons (.inp 20) .nil))) (.cons (.inp 19) .nil)) (.chk none (.bin .neq) (.cons (.bv 6) (.cons (.op (.bin .sub) (.cons (.op (.bin .add) (.cons (.op (.bin .mul) (.cons (.cst (.int .i64 1000)) (.cons (.inp 18) .nil))) (.cons (.inp 20) .nil))) (.cons (.inp 19) .nil))) .nil)) (.isb (some ((.bv 3), false)) (.bv 4) (.isb none (.bv 3) (.done [] (some (.ite (.bv 3) true (.cst (.bool true)) (.op (.bin .neq) (.cons (.bv 6) (.cons (.op (.bin .sub) (.cons (.op (.bin .add) (.cons (.op (.bin .mul) (.cons (.cst (.int .i64 1000)) (.cons (.inp 18) .nil))) (.cons (.inp 20) .nil))) (.cons (.inp 19) .nil))) .nil))))))))))))))) (.isb (some ((.bv 3), false)) (.bv 4) (.isb none (.bv 3) (.done [] (some (.ite (.bv 3) true (.cst (.bool true)) (.cst (.bool false)))))))))))))))))))) (.isb none (.bv 0) (.chk none (.bin .geq) (.cons (.inp 20) (.cons (.inp 19) .nil)) (.bnd (.op (.bin .geq) (.cons (.inp 20) (.cons (.inp 19) .nil))) (.chk (some ((.bv 1), true)) (.idxL 1) (.cons (.inp 11) (.cons (.inp 18) .nil)) (.ite (.bv 1) true (.eff (.ld false 1) (.cons (.ite (.bv 1) true (.op (.idxL 1) (.cons (.inp 11) (.cons (.inp 18) .nil))) (.cst (.tuple #[]))) .nil) (.chk none (.idxL 1) (.cons (.bv 2) (.cons (.inp 20) .nil)) (.eff (.ld false 1) (.cons (.op (.idxL 1) (.cons (.bv 2) (.cons (.inp 20) .nil))) .nil) (.chk none (.bin .mul) (.cons (.cst (.int .i64 1000)) (.cons (.inp 18) .nil)) (.chk none (.bin .add) (.cons (.op (.bin .mul) (.cons (.cst (.int .i64 1000)) (.cons (.inp 18) .nil))) (.cons (.inp 20) .nil)) (.chk none (.bin .sub) (.cons (.op (.bin .add) (.cons (.op (.bin .mul) (.cons (.cst (.int .i64 1000)) (.cons (.inp 18) .nil))) (.cons (.inp 20) .nil))) (.cons (.inp 19) .nil)) (.chk none (.bin .neq) (.cons (.bv 3) (.cons (.op (.bin .sub) (.cons (.op (.bin .add) (.cons (.op (.bin .mul) (.cons (.cst (.int .i64 1000)) (.cons (.inp 18) .nil))) (.cons (.inp 20) .nil))) (.cons (.inp 19) .nil))) .nil)) (.isb none (.bv 1) (.isb none (.cst (.bool false)) (.done [] (some (.op (.bin .neq) (.cons (.bv 3) (.cons (.op (.bin .sub) (.cons (.op (.bin .add) (.cons (.op (.bin .mul) (.cons (.cst (.int .i64 1000)) (.cons (.inp 18) .nil))) (.cons (.inp 20) .nil))) (.cons (.inp 19) .nil))) .nil)))))))))))))) (.isb none (.bv 1) (.isb none (.cst (.bool false)) (.done [] (some (.cst (.bool false))))))))))))))) h24_3 .skip) Q env w := rfl
def h24_5 : HC := (.seq (.block 23 h24_4) h24_2)
@[simp] theorem h24_5_wp {P : Program} {F : PF P} {Q : EX → List Value → World → Prop} {env : List Value} {w : World} : h24_5.wp F Q env w = HC.wp F (.seq (.block 23 h24_4) h24_2) Q env w := rfl
def h24_6 : HC := (.seq (.br (.chk none (.bin .add) (.cons (.inp 19) (.cons (.cst (.int .i64 80)) .nil)) (.chk none (.bin .lss) (.cons (.inp 20) (.cons (.op (.bin .add) (.cons (.inp 19) (.cons (.cst (.int .i64 80)) .nil))) .nil)) (.done [] (some (.op (.bin .lss) (.cons (.inp 20) (.cons (.op (.bin .add) (.cons (.inp 19) (.cons (.cst (.int .i64 80)) .nil))) .nil))))))) .skip (.exit 22)) h24_5)
@[simp] theorem h24_6_wp {P : Program} {F : PF P} {Q : EX → List Value → World → Prop} {env : List Value} {w : World} : h24_6.wp F Q env w = HC.wp F (.seq (.br (.chk none (.bin .add) (.cons (.inp 19) (.cons (.cst (.int .i64 80)) .nil)) (.chk none (.bin .lss) (.cons (.inp 20) (.cons (.op (.bin .add) (.cons (.inp 19) (.cons (.cst (.int .i64 80)) .nil))) .nil)) (.done [] (some (.op (.bin .lss) (.cons (.inp 20) (.cons (.op (.bin .add) (.cons (.inp 19) (.cons (.cst (.int .i64 80)) .nil))) .nil))))))) .skip (.exit 22)) h24_5) Q env w := rfl
def h24_7 : HC := (.loop h24_6)
@[simp] theorem h24_7_wp {P : Program} {F : PF P} {Q : EX → List Value → World → Prop} {env : List Value} {w : World} : h24_7.wp F Q env w = HC.wp F (.loop h24_6) Q env w := rfl
def h24_8 : HC := (.block 22 h24_7)
@[simp] theorem h24_8_wp {P : Program} {F : PF P} {Q : EX → List Value → World → Prop} {env : List Value} {w : World} : h24_8.wp F Q env w = HC.wp F (.block 22 h24_7) Q env w := rfl
def h24_9 : HC := (.seq (.reg (.done [(20, (.cst (.int .i64 0)))] none)) h24_8)
@[simp] theorem h24_9_wp {P : Program} {F : PF P} {Q : EX → List Value → World → Prop} {env : List Value} {w : World} : h24_9.wp F Q env w = HC.wp F (.seq (.reg (.done [(20, (.cst (.int .i64 0)))] none)) h24_8) Q env w := rfl
def h24_10 : HC := (.seq (.reg (.chk none (.idxL 1) (.cons (.inp 1) (.cons (.inp 18) .nil)) (.eff (.ld false 1) (.cons (.op (.idxL 1) (.cons (.inp 1) (.cons (.inp 18) .nil))) .nil) (.chk none .lenL (.cons (.bv 0) .nil) (.done [(19, (.op .lenL (.cons (.bv 0) .nil)))] none))))) h24_9)
@[simp] theorem h24_10_wp {P : Program} {F : PF P} {Q : EX → List Value → World → Prop} {env : List Value} {w : World} : h24_10.wp F Q env w = HC.wp F (.seq (.reg (.chk none (.idxL 1) (.cons (.inp 1) (.cons (.inp 18) .nil)) (.eff (.ld false 1) (.cons (.op (.idxL 1) (.cons (.inp 1) (.cons (.inp 18) .nil))) .nil) (.chk none .lenL (.cons (.bv 0) .nil) (.done [(19, (.op .lenL (.cons (.bv 0) .nil)))] none))))) h24_9) Q env w := rfl
def h24_11 : HC := (.seq (.block 21 h24_10) h24_1)
@[simp] theorem h24_11_wp {P : Program} {F : PF P} {Q : EX → List Value → World → Prop} {env : List Value} {w : World} : h24_11.wp F Q env w = HC.wp F (.seq (.block 21 h24_10) h24_1) Q env w := rfl
def h24_12 : HC := (.seq (.br (.chk none .lenL (.cons (.inp 1) .nil) (.chk none (.bin .lss) (.cons (.inp 18) (.cons (.op .lenL (.cons (.inp 1) .nil)) .nil)) (.done [] (some (.op (.bin .lss) (.cons (.inp 18) (.cons (.op .lenL (.cons (.inp 1) .nil)) .nil))))))) .skip (.exit 20)) h24_11)
@[simp] theorem h24_12_wp {P : Program} {F : PF P} {Q : EX → List Value → World → Prop} {env : List Value} {w : World} : h24_12.wp F Q env w = HC.wp F (.seq (.br (.chk none .lenL (.cons (.inp 1) .nil) (.chk none (.bin .lss) (.cons (.inp 18) (.cons (.op .lenL (.cons (.inp 1) .nil)) .nil)) (.done [] (some (.op (.bin .lss) (.cons (.inp 18) (.cons (.op .lenL (.cons (.inp 1) .nil)) .nil))))))) .skip (.exit 20)) h24_11) Q env w := rfl
def h24_13 : HC := (.loop h24_12)
@[simp] theorem h24_13_wp {P : Program} {F : PF P} {Q : EX → List Value → World → Prop} {env : List Value} {w : World} : h24_13.wp F Q env w = HC.wp F (.loop h24_12) Q env w := rfl
def h24_14 : HC := (.seq (.block 20 h24_13) h24_0)
@[simp] theorem h24_14_wp {P : Program} {F : PF P} {Q : EX → List Value → World → Prop} {env : List Value} {w : World} : h24_14.wp F Q env w = HC.wp F (.seq (.block 20 h24_13) h24_0) Q env w := rfl
def h24_15 : HC := (.seq (.reg (.done [(18, (.cst (.int .i64 0)))] none)) h24_14)
@[simp] theorem h24_15_wp {P : Program} {F : PF P} {Q : EX → List Value → World → Prop} {env : List Value} {w : World} : h24_15.wp F Q env w = HC.wp F (.seq (.reg (.done [(18, (.cst (.int .i64 0)))] none)) h24_14) Q env w := rfl
def h24_16 : HC := (.reg (.chk none (.bin .add) (.cons (.inp 15) (.cons (.cst (.int .i64 1)) .nil)) (.done [(15, (.op (.bin .add) (.cons (.inp 15) (.cons (.cst (.int .i64 1)) .nil))))] none)))
@[simp] theorem h24_16_wp {P : Program} {F : PF P} {Q : EX → List Value → World → Prop} {env : List Value} {w : World} : h24_16.wp F Q env w = HC.wp F (.reg (.chk none (.bin .add) (.cons (.inp 15) (.cons (.cst (.int .i64 1)) .nil)) (.done [(15, (.op (.bin .add) (.cons (.inp 15) (.cons (.cst (.int .i64 1)) .nil))))] none))) Q env w := rfl
def h24_17 : HC := (.reg (.chk none (.bin .add) (.cons (.inp 17) (.cons (.cst (.int .i64 1)) .nil)) (.done [(17, (.op (.bin .add) (.cons (.inp 17) (.cons (.cst (.int .i64 1)) .nil))))] none)))
@[simp] theorem h24_17_wp {P : Program} {F : PF P} {Q : EX → List Value → World → Prop} {env : List Value} {w : World} : h24_17.wp F Q env w = HC.wp F (.reg (.chk none (.bin .add) (.cons (.inp 17) (.cons (.cst (.int .i64 1)) .nil)) (.done [(17, (.op (.bin .add) (.cons (.inp 17) (.cons (.cst (.int .i64 1)) .nil))))] none))) Q env w := rfl
def h24_18 : HC := (.seq (.reg (.done [(2, (.cst (.bool false)))] none)) .ret)
@[simp] theorem h24_18_wp {P : Program} {F : PF P} {Q : EX → List Value → World → Prop} {env : List Value} {w : World} : h24_18.wp F Q env w = HC.wp F (.seq (.reg (.done [(2, (.cst (.bool false)))] none)) .ret) Q env w := rfl
def h24_19 : HC := (.br (.chk none (.bin .lss) (.cons (.inp 17) (.cons (.inp 16) .nil)) (.bnd (.op (.bin .lss) (.cons (.inp 17) (.cons (.inp 16) .nil))) (.chk (some ((.bv 0), true)) (.idxL 1) (.cons (.inp 0) (.cons (.inp 15) .nil)) (.ite (.bv 0) true (.eff (.ld false 1) (.cons (.ite (.bv 0) true (.op (.idxL 1) (.cons (.inp 0) (.cons (.inp 15) .nil))) (.cst (.tuple #[]))) .nil) (.chk none (.idxL 2) (.cons (.bv 1) (.cons (.inp 17) .nil)) (.eff (.ld true 2) (.cons (.op (.idxL 2) (.cons (.bv 1) (.cons (.inp 17) .nil))) .nil) (.chk none (.un .neg) (.cons (.inp 15) .nil) (.chk none (.build #[(.int .i64 0), (.int .i64 0)] [(0, 1), (1, 1)] [0, 1]) (.cons (.op (.un .neg) (.cons (.inp 15) .nil)) (.cons (.inp 17) .nil)) (.eff (.bin .neq 32 (.tmp 151) (.tmp 155)) (.cons (.bv 2) (.cons (.op (.build #[(.int .i64 0), (.int .i64 0)] [(0, 1), (1, 1)] [0, 1]) (.cons (.op (.un .neg) (.cons (.inp 15) .nil)) (.cons (.inp 17) .nil))) .nil)) (.isb none (.bv 0) (.chk (some ((.bv 3), false)) (.bin .geq) (.cons (.inp 17) (.cons (.inp 16) .nil)) (.bnd (.ite (.bv 3) false (.op (.bin .geq) (.cons (.inp 17) (.cons (.inp 16) .nil))) (.cst (.tuple #[]))) (.chk (some ((.bv 4), true)) (.idxL 1) (.cons (.inp 7) (.cons (.inp 15) .nil)) (.ite (.bv 4) true (.eff (.ld false 1) (.cons (.ite (.bv 4) true (.op (.idxL 1) (.cons (.inp 7) (.cons (.inp 15) .nil))) (.cst (.tuple #[]))) .nil) (.chk none (.idxL 2) (.cons (.bv 5) (.cons (.inp 17) .nil)) (.eff (.ld true 2) (.cons (.op (.idxL 2) (.cons (.bv 5) (.cons (.inp 17) .nil))) .nil) (.chk none (.bin .add) (.cons (.cst (.int .i64 1000)) (.cons (.inp 15) .nil)) (.chk none (.bin .sub) (.cons (.inp 17) (.cons (.inp 16) .nil)) (.chk none (.build #[(.int .i64 0), (.int .i64 0)] [(0, 1), (1, 1)] [0, 1]) (.cons (.op (.bin .add) (.cons (.cst (.int .i64 1000)) (.cons (.inp 15) .nil))) (.cons (.op (.bin .sub) (.cons (.inp 17) (.cons (.inp 16) .nil))) .nil)) (.eff (.bin .neq 32 (.tmp 169) (.tmp 175)) (.cons (.bv 6) (.cons (.op (.build #[(.int .i64 0), (.int .i64 0)] [(0, 1), (1, 1)] [0, 1]) (.cons (.op (.bin .add) (.cons (.cst (.int .i64 1000)) (.cons (.inp 15) .nil))) (.cons (.op (.bin .sub) (.cons (.inp 17) (.cons (.inp 16) .nil))) .nil))) .nil)) (.isb (some ((.bv 3), false)) (.bv 4) (.isb none (.bv 3) (.done [] (some (.ite (.bv 3) true (.cst (.bool true)) (.bv 7))))))))))))) (.isb (some ((.bv 3), false)) (.bv 4) (.isb none (.bv 3) (.done [] (some (.ite (.bv 3) true (.cst (.bool true)) (.cst (.bool false)))))))))))))))))) (.isb none (.bv 0) (.chk none (.bin .geq) (.cons (.inp 17) (.cons (.inp 16) .nil)) (.bnd (.op (.bin .geq) (.cons (.inp 17) (.cons (.inp 16) .nil))) (.chk (some ((.bv 1), true)) (.idxL 1) (.cons (.inp 7) (.cons (.inp 15) .nil)) (.ite (.bv 1) true (.eff (.ld false 1) (.cons (.ite (.bv 1) true (.op (.idxL 1) (.cons (.inp 7) (.cons (.inp 15) .nil))) (.cst (.tuple #[]))) .nil) (.chk none (.idxL 2) (.cons (.bv 2) (.cons (.inp 17) .nil)) (.eff (.ld true 2) (.cons (.op (.idxL 2) (.cons (.bv 2) (.cons (.inp 17) .nil))) .nil) (.chk none (.bin .add) (.cons (.cst (.int .i64 1000)) (.cons (.inp 15) .nil)) (.chk none (.bin .sub) (.cons (.inp 17) (.cons (.inp 16) .nil)) (.chk none (.build #[(.int .i64 0), (.int .i64 0)] [(0, 1), (1, 1)] [0, 1]) (.cons (.op (.bin .add) (.cons (.cst (.int .i64 1000)) (.cons (.inp 15) .nil))) (.cons (.op (.bin .sub) (.cons (.inp 17) (.cons (.inp 16) .nil))) .nil)) (.eff (.bin .neq 32 (.tmp 169) (.tmp 175)) (.cons (.bv 3) (.cons (.op (.build #[(.int .i64 0), (.int .i64 0)] [(0, 1), (1, 1)] [0, 1]) (.cons (.op (.bin .add) (.cons (.cst (.int .i64 1000)) (.cons (.inp 15) .nil))) (.cons (.op (.bin .sub) (.cons (.inp 17) (.cons (.inp 16) .nil))) .nil))) .nil)) (.isb none (.bv 1) (.isb none (.cst (.bool false)) (.done [] (some (.bv 4)))))))))))) (.isb none (.bv 1) (.isb none (.cst (.bool false)) (.done [] (some (.cst (.bool false))))))))))))))) h24_18 .skip)
@[simp] theorem h24_19_wp {P : Program} {F : PF P} {Q : EX → List Value → World → Prop} {env : List Value} {w : World} : h24_19.wp F Q env w = HC.wp F (.br (.chk none (.bin .lss) (.cons (.inp 17) (.cons (.inp 16) .nil)) (.bnd (.op (.bin .lss) (.cons (.inp 17) (.cons (.inp 16) .nil))) (.chk (some ((.bv 0), true)) (.idxL 1) (.cons (.inp 0) (.cons (.inp 15) .nil)) (.ite (.bv 0) true (.eff (.ld false 1) (.cons (.ite (.bv 0) true (.op (.idxL 1) (.cons (.inp 0) (.cons (.inp 15) .nil))) (.cst (.tuple #[]))) .nil) (.chk none (.idxL 2) (.cons (.bv 1) (.cons (.inp 17) .nil)) (.eff (.ld true 2) (.cons (.op (.idxL 2) (.cons (.bv 1) (.cons (.inp 17) .nil))) .nil) (.chk none (.un .neg) (.cons (.inp 15) .nil) (.chk none (.build #[(.int .i64 0), (.int .i64 0)] [(0, 1), (1, 1)] [0, 1]) (.cons (.op (.un .neg) (.cons (.inp 15) .nil)) (.cons (.inp 17) .nil)) (.eff (.bin .neq 32 (.tmp 151) (.tmp 155)) (.cons (.bv 2) (.cons (.op (.build #[(.int .i64 0), (.int .i64 0)] [(0, 1), (1, 1)] [0, 1]) (.cons (.op (.un .neg) (.cons (.inp 15) .nil)) (.cons (.inp 17) .nil))) .nil)) (.isb none (.bv 0) (.chk (some ((.bv 3), false)) (.bin .geq) (.cons (.inp 17) (.cons (.inp 16) .nil)) (.bnd (.ite (.bv 3) false (.op (.bin .geq) (.cons (.inp 17) (.cons (.inp 16) .nil))) (.cst (.tuple #[]))) (.chk (some ((.bv 4), true)) (.idxL 1) (.cons (.inp 7) (.cons (.inp 15) .nil)) (.ite (.bv 4) true (.eff (.ld false 1) (.cons (.ite (.bv 4) true (.op (.idxL 1) (.cons (.inp 7) (.cons (.inp 15) .nil))) (.cst (.tuple #[]))) .nil) (.chk none (.idxL 2) (.cons (.bv 5) (.cons (.inp 17) .nil)) (.eff (.ld true 2) (.cons (.op (.idxL 2) (.cons (.bv 5) (.cons (.inp 17) .nil))) .nil) (.chk none (.bin .add) (.cons (.cst (.int .i64 1000)) (.cons (.inp 15) .nil)) (.chk none (.bin .sub) (.cons (.inp 17) (.cons (.inp 16) .nil)) (.chk none (.build #[(.int .i64 0), (.int .i64 0)] [(0, 1), (1, 1)] [0, 1]) (.cons (.op (.bin .add) (.cons (.cst (.int .i64 1000)) (.cons (.inp 15) .nil))) (.cons (.op (.bin .sub) (.cons (.inp 17) (.cons (.inp 16) .nil))) .nil)) (.eff (.bin .neq 32 (.tmp 169) (.tmp 175)) (.cons (.bv 6) (.cons (.op (.build #[(.int .i64 0), (.int .i64 0)] [(0, 1), (1, 1)] [0, 1]) (.cons (.op (.bin .add) (.cons (.cst (.int .i64 1000)) (.cons (.inp 15) .nil))) (.cons (.op (.bin .sub) (.cons (.inp 17) (.cons (.inp 16) .nil))) .nil))) .nil)) (.isb (some ((.bv 3), false)) (.bv 4) (.isb none (.bv 3) (.done [] (some (.ite (.bv 3) true (.cst (.bool true)) (.bv 7))))))))))))) (.isb (some ((.bv 3), false)) (.bv 4) (.isb none (.bv 3) (.done [] (some (.ite (.bv 3) true (.cst (.bool true)) (.cst (.bool false)))))))))))))))))) (.isb none (.bv 0) (.chk none (.bin .geq) (.cons (.inp 17) (.cons (.inp 16) .nil)) (.bnd (.op (.bin .geq) (.cons (.inp 17) (.cons (.inp 16) .nil))) (.chk (some ((.bv 1), true)) (.idxL 1) (.cons (.inp 7) (.cons (.inp 15) .nil)) (.ite (.bv 1) true (.eff (.ld false 1) (.cons (.ite (.bv 1) true (.op (.idxL 1) (.cons (.inp 7) (.cons (.inp 15) .nil))) (.cst (.tuple #[]))) .nil) (.chk none (.idxL 2) (.cons (.bv 2) (.cons (.inp 17) .nil)) (.eff (.ld true 2) (.cons (.op (.idxL 2) (.cons (.bv 2) (.cons (.inp 17) .nil))) .nil) (.chk none (.bin .add) (.cons (.cst (.int .i64 1000)) (.cons (.inp 15) .nil)) (.chk none (.bin .sub) (.cons (.inp 17) (.cons (.inp 16) .nil)) (.chk none (.build #[(.int .i64 0), (.int .i64 0)] [(0, 1), (1, 1)] [0, 1]) (.cons (.op (.bin .add) (.cons (.cst (.int .i64 1000)) (.cons (.inp 15) .nil))) (.cons (.op (.bin .sub) (.cons (.inp 17) (.cons (.inp 16) .nil))) .nil)) (.eff (.bin .neq 32 (.tmp 169) (.tmp 175)) (.cons (.bv 3) (.cons (.op (.build #[(.int .i64 0), (.int .i64 0)] [(0, 1), (1, 1)] [0, 1]) (.cons (.op (.bin .add) (.cons (.cst (.int .i64 1000)) (.cons (.inp 15) .nil))) (.cons (.op (.bin .sub) (.cons (.inp 17) (.cons (.inp 16) .nil))) .nil))) .nil)) (.isb none (.bv 1) (.isb none (.cst (.bool false)) (.done [] (some (.bv 4)))))))))))) (.isb none (.bv 1) (.isb none (.cst (.bool false)) (.done [] (some (.cst (.bool false))))))))))))))) h24_18 .skip) Q env w := rfl
def h24_20 : HC := (.seq (.block 19 h24_19) h24_17)
@[simp] theorem h24_20_wp {P : Program} {F : PF P} {Q : EX → List Value → World → Prop} {env : List Value} {w : World} : h24_20.wp F Q env w = HC.wp F (.seq (.block 19 h24_19) h24_17) Q env w := rfl
def h24_21 : HC := (.seq (.br (.chk none (.bin .add) (.cons (.inp 16) (.cons (.cst (.int .i64 80)) .nil)) (.chk none (.bin .lss) (.cons (.inp 17) (.cons (.op (.bin .add) (.cons (.inp 16) (.cons (.cst (.int .i64 80)) .nil))) .nil)) (.done [] (some (.op (.bin .lss) (.cons (.inp 17) (.cons (.op (.bin .add) (.cons (.inp 16) (.cons (.cst (.int .i64 80)) .nil))) .nil))))))) .skip (.exit 18)) h24_20)
@[simp] theorem h24_21_wp {P : Program} {F : PF P} {Q : EX → List Value → World → Prop} {env : List Value} {w : World} : h24_21.wp F Q env w = HC.wp F (.seq (.br (.chk none (.bin .add) (.cons (.inp 16) (.cons (.cst (.int .i64 80)) .nil)) (.chk none (.bin .lss) (.cons (.inp 17) (.cons (.op (.bin .add) (.cons (.inp 16) (.cons (.cst (.int .i64 80)) .nil))) .nil)) (.done [] (some (.op (.bin .lss) (.cons (.inp 17) (.cons (.op (.bin .add) (.cons (.inp 16) (.cons (.cst (.int .i64 80)) .nil))) .nil))))))) .skip (.exit 18)) h24_20) Q env w := rfl
def h24_22 : HC := (.loop h24_21)
@[simp] theorem h24_22_wp {P : Program} {F : PF P} {Q : EX → List Value → World → Prop} {env : List Value} {w : World} : h24_22.wp F Q env w = HC.wp F (.loop h24_21) Q env w := rfl
def h24_23 : HC := (.block 18 h24_22)
@[simp] theorem h24_23_wp {P : Program} {F : PF P} {Q : EX → List Value → World → Prop} {env : List Value} {w : World} : h24_23.wp F Q env w = HC.wp F (.block 18 h24_22) Q env w := rfl
def h24_24 : HC := (.seq (.reg (.done [(17, (.cst (.int .i64 0)))] none)) h24_23)
@[simp] theorem h24_24_wp {P : Program} {F : PF P} {Q : EX → List Value → World → Prop} {env : List Value} {w : World} : h24_24.wp F Q env w = HC.wp F (.seq (.reg (.done [(17, (.cst (.int .i64 0)))] none)) h24_23) Q env w := rfl
def h24_25 : HC := (.seq (.reg (.chk none (.idxL 1) (.cons (.inp 0) (.cons (.inp 15) .nil)) (.eff (.ld false 1) (.cons (.op (.idxL 1) (.cons (.inp 0) (.cons (.inp 15) .nil))) .nil) (.chk none .lenL (.cons (.bv 0) .nil) (.done [(16, (.op .lenL (.cons (.bv 0) .nil)))] none))))) h24_24)
@[simp] theorem h24_25_wp {P : Program} {F : PF P} {Q : EX → List Value → World → Prop} {env : List Value} {w : World} : h24_25.wp F Q env w = HC.wp F (.seq (.reg (.chk none (.idxL 1) (.cons (.inp 0) (.cons (.inp 15) .nil)) (.eff (.ld false 1) (.cons (.op (.idxL 1) (.cons (.inp 0) (.cons (.inp 15) .nil))) .nil) (.chk none .lenL (.cons (.bv 0) .nil) (.done [(16, (.op .lenL (.cons (.bv 0) .nil)))] none))))) h24_24) Q env w := rfl
def h24_26 : HC := (.seq (.block 17 h24_25) h24_16)
@[simp] theorem h24_26_wp {P : Program} {F : PF P} {Q : EX → List Value → World → Prop} {env : List Value} {w : World} : h24_26.wp F Q env w = HC.wp F (.seq (.block 17 h24_25) h24_16) Q env w := rfl
def h24_27 : HC := (.seq (.br (.chk none .lenL (.cons (.inp 0) .nil) (.chk none (.bin .lss) (.cons (.inp 15) (.cons (.op .lenL (.cons (.inp 0) .nil)) .nil)) (.done [] (some (.op (.bin .lss) (.cons (.inp 15) (.cons (.op .lenL (.cons (.inp 0) .nil)) .nil))))))) .skip (.exit 16)) h24_26)
@[simp] theorem h24_27_wp {P : Program} {F : PF P} {Q : EX → List Value → World → Prop} {env : List Value} {w : World} : h24_27.wp F Q env w = HC.wp F (.seq (.br (.chk none .lenL (.cons (.inp 0) .nil) (.chk none (.bin .lss) (.cons (.inp 15) (.cons (.op .lenL (.cons (.inp 0) .nil)) .nil)) (.done [] (some (.op (.bin .lss) (.cons (.inp 15) (.cons (.op .lenL (.cons (.inp 0) .nil)) .nil))))))) .skip (.exit 16)) h24_26) Q env w := rfl
def h24_28 : HC := (.loop h24_27)
@[simp] theorem h24_28_wp {P : Program} {F : PF P} {Q : EX → List Value → World → Prop} {env : List Value} {w : World} : h24_28.wp F Q env w = HC.wp F (.loop h24_27) Q env w := rfl
def h24_29 : HC := (.seq (.block 16 h24_28) h24_15)
@[simp] theorem h24_29_wp {P : Program} {F : PF P} {Q : EX → List Value → World → Prop} {env : List Value} {w : World} : h24_29.wp F Q env w = HC.wp F (.seq (.block 16 h24_28) h24_15) Q env w := rfl
def h24_30 : HC := (.seq (.reg (.done [(15, (.cst (.int .i64 0)))] none)) h24_29)
@[simp] theorem h24_30_wp {P : Program} {F : PF P} {Q : EX → List Value → World → Prop} {env : List Value} {w : World} : h24_30.wp F Q env w = HC.wp F (.seq (.reg (.done [(15, (.cst (.int .i64 0)))] none)) h24_29) Q env w := rfl
def h24_31 : HC := (.reg (.chk none (.bin .add) (.cons (.inp 12) (.cons (.cst (.int .i64 1)) .nil)) (.done [(12, (.op (.bin .add) (.cons (.inp 12) (.cons (.cst (.int .i64 1)) .nil))))] none)))
@[simp] theorem h24_31_wp {P : Program} {F : PF P} {Q : EX → List Value → World → Prop} {env : List Value} {w : World} : h24_31.wp F Q env w = HC.wp F (.reg (.chk none (.bin .add) (.cons (.inp 12) (.cons (.cst (.int .i64 1)) .nil)) (.done [(12, (.op (.bin .add) (.cons (.inp 12) (.cons (.cst (.int .i64 1)) .nil))))] none))) Q env w := rfl
def h24_32 : HC := (.reg (.eff (.bsl 47 1 1 #[(.slice none 0 0)] [0]) (.cons (.inp 13) .nil) (.eff (.app 49 49 47 1 24 (.slice none 0 0)) (.cons (.inp 11) (.cons (.bv 0) .nil)) (.done [(11, (.bv 1))] none))))
@[simp] theorem h24_32_wp {P : Program} {F : PF P} {Q : EX → List Value → World → Prop} {env : List Value} {w : World} : h24_32.wp F Q env w = HC.wp F (.reg (.eff (.bsl 47 1 1 #[(.slice none 0 0)] [0]) (.cons (.inp 13) .nil) (.eff (.app 49 49 47 1 24 (.slice none 0 0)) (.cons (.inp 11) (.cons (.bv 0) .nil)) (.done [(11, (.bv 1))] none)))) Q env w := rfl
def h24_33 : HC := (.reg (.chk none (.bin .add) (.cons (.inp 14) (.cons (.cst (.int .i64 1)) .nil)) (.done [(14, (.op (.bin .add) (.cons (.inp 14) (.cons (.cst (.int .i64 1)) .nil))))] none)))
@[simp] theorem h24_33_wp {P : Program} {F : PF P} {Q : EX → List Value → World → Prop} {env : List Value} {w : World} : h24_33.wp F Q env w = HC.wp F (.reg (.chk none (.bin .add) (.cons (.inp 14) (.cons (.cst (.int .i64 1)) .nil)) (.done [(14, (.op (.bin .add) (.cons (.inp 14) (.cons (.cst (.int .i64 1)) .nil))))] none))) Q env w := rfl
def h24_34 : HC := (.reg (.chk none (.bin .mul) (.cons (.cst (.int .i64 1000)) (.cons (.inp 12) .nil)) (.chk none (.bin .add) (.cons (.op (.bin .mul) (.cons (.cst (.int .i64 1000)) (.cons (.inp 12) .nil))) (.cons (.inp 14) .nil)) (.eff (.bsl 3 1 1 #[(.int .i64 0)] [0]) (.cons (.op (.bin .add) (.cons (.op (.bin .mul) (.cons (.cst (.int .i64 1000)) (.cons (.inp 12) .nil))) (.cons (.inp 14) .nil))) .nil) (.eff (.app 47 47 3 1 8 (.int .i64 0)) (.cons (.inp 13) (.cons (.bv 0) .nil)) (.done [(13, (.bv 1))] none))))))
@[simp] theorem h24_34_wp {P : Program} {F : PF P} {Q : EX → List Value → World → Prop} {env : List Value} {w : World} : h24_34.wp F Q env w = HC.wp F (.reg (.chk none (.bin .mul) (.cons (.cst (.int .i64 1000)) (.cons (.inp 12) .nil)) (.chk none (.bin .add) (.cons (.op (.bin .mul) (.cons (.cst (.int .i64 1000)) (.cons (.inp 12) .nil))) (.cons (.inp 14) .nil)) (.eff (.bsl 3 1 1 #[(.int .i64 0)] [0]) (.cons (.op (.bin .add) (.cons (.op (.bin .mul) (.cons (.cst (.int .i64 1000)) (.cons (.inp 12) .nil))) (.cons (.inp 14) .nil))) .nil) (.eff (.app 47 47 3 1 8 (.int .i64 0)) (.cons (.inp 13) (.cons (.bv 0) .nil)) (.done [(13, (.bv 1))] none)))))) Q env w := rfl
def h24_35 : HC := (.seq (.block 15 h24_34) h24_33)
@[simp] theorem h24_35_wp {P : Program} {F : PF P} {Q : EX → List Value → World → Prop} {env : List Value} {w : World} : h24_35.wp F Q env w = HC.wp F (.seq (.block 15 h24_34) h24_33) Q env w := rfl
def h24_36 : HC := (.seq (.br (.chk none (.bin .lss) (.cons (.inp 14) (.cons (.cst (.int .i64 80)) .nil)) (.done [] (some (.op (.bin .lss) (.cons (.inp 14) (.cons (.cst (.int .i64 80)) .nil)))))) .skip (.exit 14)) h24_35)
@[simp] theorem h24_36_wp {P : Program} {F : PF P} {Q : EX → List Value → World → Prop} {env : List Value} {w : World} : h24_36.wp F Q env w = HC.wp F (.seq (.br (.chk none (.bin .lss) (.cons (.inp 14) (.cons (.cst (.int .i64 80)) .nil)) (.done [] (some (.op (.bin .lss) (.cons (.inp 14) (.cons (.cst (.int .i64 80)) .nil)))))) .skip (.exit 14)) h24_35) Q env w := rfl
def h24_37 : HC := (.loop h24_36)
@[simp] theorem h24_37_wp {P : Program} {F : PF P} {Q : EX → List Value → World → Prop} {env : List Value} {w : World} : h24_37.wp F Q env w = HC.wp F (.loop h24_36) Q env w := rfl
def h24_38 : HC := (.seq (.block 14 h24_37) h24_32)
@[simp] theorem h24_38_wp {P : Program} {F : PF P} {Q : EX → List Value → World → Prop} {env : List Value} {w : World} : h24_38.wp F Q env w = HC.wp F (.seq (.block 14 h24_37) h24_32) Q env w := rfl
def h24_39 : HC := (.seq (.reg (.done [(14, (.cst (.int .i64 0)))] none)) h24_38)
@[simp] theorem h24_39_wp {P : Program} {F : PF P} {Q : EX → List Value → World → Prop} {env : List Value} {w : World} : h24_39.wp F Q env w = HC.wp F (.seq (.reg (.done [(14, (.cst (.int .i64 0)))] none)) h24_38) Q env w := rfl
def h24_40 : HC := (.seq (.reg (.chk none (.idxL 1) (.cons (.inp 1) (.cons (.inp 12) .nil)) (.eff (.ld false 1) (.cons (.op (.idxL 1) (.cons (.inp 1) (.cons (.inp 12) .nil))) .nil) (.done [(13, (.bv 0))] none)))) h24_39)
@[simp] theorem h24_40_wp {P : Program} {F : PF P} {Q : EX → List Value → World → Prop} {env : List Value} {w : World} : h24_40.wp F Q env w = HC.wp F (.seq (.reg (.chk none (.idxL 1) (.cons (.inp 1) (.cons (.inp 12) .nil)) (.eff (.ld false 1) (.cons (.op (.idxL 1) (.cons (.inp 1) (.cons (.inp 12) .nil))) .nil) (.done [(13, (.bv 0))] none)))) h24_39) Q env w := rfl
def h24_41 : HC := (.seq (.block 13 h24_40) h24_31)
@[simp] theorem h24_41_wp {P : Program} {F : PF P} {Q : EX → List Value → World → Prop} {env : List Value} {w : World} : h24_41.wp F Q env w = HC.wp F (.seq (.block 13 h24_40) h24_31) Q env w := rfl
def h24_42 : HC := (.seq (.br (.chk none .lenL (.cons (.inp 1) .nil) (.chk none (.bin .lss) (.cons (.inp 12) (.cons (.op .lenL (.cons (.inp 1) .nil)) .nil)) (.done [] (some (.op (.bin .lss) (.cons (.inp 12) (.cons (.op .lenL (.cons (.inp 1) .nil)) .nil))))))) .skip (.exit 12)) h24_41)
@[simp] theorem h24_42_wp {P : Program} {F : PF P} {Q : EX → List Value → World → Prop} {env : List Value} {w : World} : h24_42.wp F Q env w = HC.wp F (.seq (.br (.chk none .lenL (.cons (.inp 1) .nil) (.chk none (.bin .lss) (.cons (.inp 12) (.cons (.op .lenL (.cons (.inp 1) .nil)) .nil)) (.done [] (some (.op (.bin .lss) (.cons (.inp 12) (.cons (.op .lenL (.cons (.inp 1) .nil)) .nil))))))) .skip (.exit 12)) h24_41) Q env w := rfl
def h24_43 : HC := (.loop h24_42)
@[simp] theorem h24_43_wp {P : Program} {F : PF P} {Q : EX → List Value → World → Prop} {env : List Value} {w : World} : h24_43.wp F Q env w = HC.wp F (.loop h24_42) Q env w := rfl
def h24_44 : HC := (.seq (.block 12 h24_43) h24_30)
@[simp] theorem h24_44_wp {P : Program} {F : PF P} {Q : EX → List Value → World → Prop} {env : List Value} {w : World} : h24_44.wp F Q env w = HC.wp F (.seq (.block 12 h24_43) h24_30) Q env w := rfl
def h24_45 : HC := (.seq (.reg (.done [(12, (.cst (.int .i64 0)))] none)) h24_44)
@[simp] theorem h24_45_wp {P : Program} {F : PF P} {Q : EX → List Value → World → Prop} {env : List Value} {w : World} : h24_45.wp F Q env w = HC.wp F (.seq (.reg (.done [(12, (.cst (.int .i64 0)))] none)) h24_44) Q env w := rfl
def h24_46 : HC := (.seq (.reg (.done [(11, (.cst (.slice none 0 0)))] none)) h24_45)
@[simp] theorem h24_46_wp {P : Program} {F : PF P} {Q : EX → List Value → World → Prop} {env : List Value} {w : World} : h24_46.wp F Q env w = HC.wp F (.seq (.reg (.done [(11, (.cst (.slice none 0 0)))] none)) h24_45) Q env w := rfl
def h24_47 : HC := (.reg (.chk none (.bin .add) (.cons (.inp 8) (.cons (.cst (.int .i64 1)) .nil)) (.done [(8, (.op (.bin .add) (.cons (.inp 8) (.cons (.cst (.int .i64 1)) .nil))))] none)))
@[simp] theorem h24_47_wp {P : Program} {F : PF P} {Q : EX → List Value → World → Prop} {env : List Value} {w : World} : h24_47.wp F Q env w = HC.wp F (.reg (.chk none (.bin .add) (.cons (.inp 8) (.cons (.cst (.int .i64 1)) .nil)) (.done [(8, (.op (.bin .add) (.cons (.inp 8) (.cons (.cst (.int .i64 1)) .nil))))] none))) Q env w := rfl
def h24_48 : HC := (.reg (.eff (.bsl 38 1 1 #[(.slice none 0 0)] [0]) (.cons (.inp 9) .nil) (.eff (.app 46 46 38 1 24 (.slice none 0 0)) (.cons (.inp 7) (.cons (.bv 0) .nil)) (.done [(7, (.bv 1))] none))))
@[simp] theorem h24_48_wp {P : Program} {F : PF P} {Q : EX → List Value → World → Prop} {env : List Value} {w : World} : h24_48.wp F Q env w = HC.wp F (.reg (.eff (.bsl 38 1 1 #[(.slice none 0 0)] [0]) (.cons (.inp 9) .nil) (.eff (.app 46 46 38 1 24 (.slice none 0 0)) (.cons (.inp 7) (.cons (.bv 0) .nil)) (.done [(7, (.bv 1))] none)))) Q env w := rfl
def h24_49 : HC := (.reg (.chk none (.bin .add) (.cons (.inp 10) (.cons (.cst (.int .i64 1)) .nil)) (.done [(10, (.op (.bin .add) (.cons (.inp 10) (.cons (.cst (.int .i64 1)) .nil))))] none)))
@[simp] theorem h24_49_wp {P : Program} {F : PF P} {Q : EX → List Value → World → Prop} {env : List Value} {w : World} : h24_49.wp F Q env w = HC.wp F (.reg (.chk none (.bin .add) (.cons (.inp 10) (.cons (.cst (.int .i64 1)) .nil)) (.done [(10, (.op (.bin .add) (.cons (.inp 10) (.cons (.cst (.int .i64 1)) .nil))))] none))) Q env w := rfl
def h24_50 : HC := (.reg (.chk none (.bin .add) (.cons (.cst (.int .i64 1000)) (.cons (.inp 8) .nil)) (.chk none (.build #[(.int .i64 0), (.int .i64 0)] [(0, 1), (1, 1)] [0, 1]) (.cons (.op (.bin .add) (.cons (.cst (.int .i64 1000)) (.cons (.inp 8) .nil))) (.cons (.inp 10) .nil)) (.eff (.bsl 32 1 2 #[(.int .i64 0), (.int .i64 0)] [0]) (.cons (.op (.build #[(.int .i64 0), (.int .i64 0)] [(0, 1), (1, 1)] [0, 1]) (.cons (.op (.bin .add) (.cons (.cst (.int .i64 1000)) (.cons (.inp 8) .nil))) (.cons (.inp 10) .nil))) .nil) (.eff (.app 38 38 32 2 16 (.agg #[(.int .i64 0), (.int .i64 0)])) (.cons (.inp 9) (.cons (.bv 0) .nil)) (.done [(9, (.bv 1))] none))))))
@[simp] theorem h24_50_wp {P : Program} {F : PF P} {Q : EX → List Value → World → Prop} {env : List Value} {w : World} : h24_50.wp F Q env w = HC.wp F (.reg (.chk none (.bin .add) (.cons (.cst (.int .i64 1000)) (.cons (.inp 8) .nil)) (.chk none (.build #[(.int .i64 0), (.int .i64 0)] [(0, 1), (1, 1)] [0, 1]) (.cons (.op (.bin .add) (.cons (.cst (.int .i64 1000)) (.cons (.inp 8) .nil))) (.cons (.inp 10) .nil)) (.eff (.bsl 32 1 2 #[(.int .i64 0), (.int .i64 0)] [0]) (.cons (.op (.build #[(.int .i64 0), (.int .i64 0)] [(0, 1), (1, 1)] [0, 1]) (.cons (.op (.bin .add) (.cons (.cst (.int .i64 1000)) (.cons (.inp 8) .nil))) (.cons (.inp 10) .nil))) .nil) (.eff (.app 38 38 32 2 16 (.agg #[(.int .i64 0), (.int .i64 0)])) (.cons (.inp 9) (.cons (.bv 0) .nil)) (.done [(9, (.bv 1))] none)))))) Q env w := rfl
def h24_51 : HC := (.seq (.block 11 h24_50) h24_49)
@[simp] theorem h24_51_wp {P : Program} {F : PF P} {Q : EX → List Value → World → Prop} {env : List Value} {w : World} : h24_51.wp F Q env w = HC.wp F (.seq (.block 11 h24_50) h24_49) Q env w := rfl
def h24_52 : HC := (.seq (.br (.chk none (.bin .lss) (.cons (.inp 10) (.cons (.cst (.int .i64 80)) .nil)) (.done [] (some (.op (.bin .lss) (.cons (.inp 10) (.cons (.cst (.int .i64 80)) .nil)))))) .skip (.exit 10)) h24_51)
@[simp] theorem h24_52_wp {P : Program} {F : PF P} {Q : EX → List Value → World → Prop} {env : List Value} {w : World} : h24_52.wp F Q env w = HC.wp F (.seq (.br (.chk none (.bin .lss) (.cons (.inp 10) (.cons (.cst (.int .i64 80)) .nil)) (.done [] (some (.op (.bin .lss) (.cons (.inp 10) (.cons (.cst (.int .i64 80)) .nil)))))) .skip (.exit 10)) h24_51) Q env w := rfl
def h24_53 : HC := (.loop h24_52)
@[simp] theorem h24_53_wp {P : Program} {F : PF P} {Q : EX → List Value → World → Prop} {env : List Value} {w : World} : h24_53.wp F Q env w = HC.wp F (.loop h24_52) Q env w := rfl
def h24_54 : HC := (.seq (.block 10 h24_53) h24_48)
@[simp] theorem h24_54_wp {P : Program} {F : PF P} {Q : EX → List Value → World → Prop} {env : List Value} {w : World} : h24_54.wp F Q env w = HC.wp F (.seq (.block 10 h24_53) h24_48) Q env w := rfl
def h24_55 : HC := (.seq (.reg (.done [(10, (.cst (.int .i64 0)))] none)) h24_54)
@[simp] theorem h24_55_wp {P : Program} {F : PF P} {Q : EX → List Value → World → Prop} {env : List Value} {w : World} : h24_55.wp F Q env w = HC.wp F (.seq (.reg (.done [(10, (.cst (.int .i64 0)))] none)) h24_54) Q env w := rfl
def h24_56 : HC := (.seq (.reg (.chk none (.idxL 1) (.cons (.inp 0) (.cons (.inp 8) .nil)) (.eff (.ld false 1) (.cons (.op (.idxL 1) (.cons (.inp 0) (.cons (.inp 8) .nil))) .nil) (.done [(9, (.bv 0))] none)))) h24_55)
@[simp] theorem h24_56_wp {P : Program} {F : PF P} {Q : EX → List Value → World → Prop} {env : List Value} {w : World} : h24_56.wp F Q env w = HC.wp F (.seq (.reg (.chk none (.idxL 1) (.cons (.inp 0) (.cons (.inp 8) .nil)) (.eff (.ld false 1) (.cons (.op (.idxL 1) (.cons (.inp 0) (.cons (.inp 8) .nil))) .nil) (.done [(9, (.bv 0))] none)))) h24_55) Q env w := rfl
def h24_57 : HC := (.seq (.block 9 h24_56) h24_47)
@[simp] theorem h24_57_wp {P : Program} {F : PF P} {Q : EX → List Value → World → Prop} {env : List Value} {w : World} : h24_57.wp F Q env w = HC.wp F (.seq (.block 9 h24_56) h24_47) Q env w := rfl
def h24_58 : HC := (.seq (.br (.chk none .lenL (.cons (.inp 0) .nil) (.chk none (.bin .lss) (.cons (.inp 8) (.cons (.op .lenL (.cons (.inp 0) .nil)) .nil)) (.done [] (some (.op (.bin .lss) (.cons (.inp 8) (.cons (.op .lenL (.cons (.inp 0) .nil)) .nil))))))) .skip (.exit 8)) h24_57)
@[simp] theorem h24_58_wp {P : Program} {F : PF P} {Q : EX → List Value → World → Prop} {env : List Value} {w : World} : h24_58.wp F Q env w = HC.wp F (.seq (.br (.chk none .lenL (.cons (.inp 0) .nil) (.chk none (.bin .lss) (.cons (.inp 8) (.cons (.op .lenL (.cons (.inp 0) .nil)) .nil)) (.done [] (some (.op (.bin .lss) (.cons (.inp 8) (.cons (.op .lenL (.cons (.inp 0) .nil)) .nil))))))) .skip (.exit 8)) h24_57) Q env w := rfl
def h24_59 : HC := (.loop h24_58)
@[simp] theorem h24_59_wp {P : Program} {F : PF P} {Q : EX → List Value → World → Prop} {env : List Value} {w : World} : h24_59.wp F Q env w = HC.wp F (.loop h24_58) Q env w := rfl
def h24_60 : HC := (.seq (.block 8 h24_59) h24_46)
@[simp] theorem h24_60_wp {P : Program} {F : PF P} {Q : EX → List Value → World → Prop} {env : List Value} {w : World} : h24_60.wp F Q env w = HC.wp F (.seq (.block 8 h24_59) h24_46) Q env w := rfl
def h24_61 : HC := (.seq (.reg (.done [(8, (.cst (.int .i64 0)))] none)) h24_60)
@[simp] theorem h24_61_wp {P : Program} {F : PF P} {Q : EX → List Value → World → Prop} {env : List Value} {w : World} : h24_61.wp F Q env w = HC.wp F (.seq (.reg (.done [(8, (.cst (.int .i64 0)))] none)) h24_60) Q env w := rfl
def h24_62 : HC := (.seq (.reg (.done [(7, (.cst (.slice none 0 0)))] none)) h24_61)
@[simp] theorem h24_62_wp {P : Program} {F : PF P} {Q : EX → List Value → World → Prop} {env : List Value} {w : World} : h24_62.wp F Q env w = HC.wp F (.seq (.reg (.done [(7, (.cst (.slice none 0 0)))] none)) h24_61) Q env w := rfl
def h24_63 : HC := (.reg (.chk none (.bin .add) (.cons (.inp 5) (.cons (.cst (.int .i64 1)) .nil)) (.done [(5, (.op (.bin .add) (.cons (.inp 5) (.cons (.cst (.int .i64 1)) .nil))))] none)))
@[simp] theorem h24_63_wp {P : Program} {F : PF P} {Q : EX → List Value → World → Prop} {env : List Value} {w : World} : h24_63.wp F Q env w = HC.wp F (.reg (.chk none (.bin .add) (.cons (.inp 5) (.cons (.cst (.int .i64 1)) .nil)) (.done [(5, (.op (.bin .add) (.cons (.inp 5) (.cons (.cst (.int .i64 1)) .nil))))] none))) Q env w := rfl
def h24_64 : HC := (.reg (.chk none (.bin .add) (.cons (.inp 6) (.cons (.cst (.int .i64 1)) .nil)) (.done [(6, (.op (.bin .add) (.cons (.inp 6) (.cons (.cst (.int .i64 1)) .nil))))] none)))
@[simp] theorem h24_64_wp {P : Program} {F : PF P} {Q : EX → List Value → World → Prop} {env : List Value} {w : World} : h24_64.wp F Q env w = HC.wp F (.reg (.chk none (.bin .add) (.cons (.inp 6) (.cons (.cst (.int .i64 1)) .nil)) (.done [(6, (.op (.bin .add) (.cons (.inp 6) (.cons (.cst (.int .i64 1)) .nil))))] none))) Q env w := rfl
def h24_65 : HC := (.reg (.chk none (.idxL 1) (.cons (.inp 1) (.cons (.inp 5) .nil)) (.eff (.ld false 1) (.cons (.op (.idxL 1) (.cons (.inp 1) (.cons (.inp 5) .nil))) .nil) (.chk none (.bin .mul) (.cons (.cst (.int .i64 (-1000))) (.cons (.inp 5) .nil)) (.chk none (.bin .sub) (.cons (.op (.bin .mul) (.cons (.cst (.int .i64 (-1000))) (.cons (.inp 5) .nil))) (.cons (.inp 6) .nil)) (.chk none (.bin .sub) (.cons (.op (.bin .sub) (.cons (.op (.bin .mul) (.cons (.cst (.int .i64 (-1000))) (.cons (.inp 5) .nil))) (.cons (.inp 6) .nil))) (.cons (.cst (.int .i64 1)) .nil)) (.chk none (.idxL 1) (.cons (.bv 0) (.cons (.inp 6) .nil)) (.eff (.st 1) (.cons (.op (.idxL 1) (.cons (.bv 0) (.cons (.inp 6) .nil))) (.cons (.op (.bin .sub) (.cons (.op (.bin .sub) (.cons (.op (.bin .mul) (.cons (.cst (.int .i64 (-1000))) (.cons (.inp 5) .nil))) (.cons (.inp 6) .nil))) (.cons (.cst (.int .i64 1)) .nil))) .nil)) (.done [] none)))))))))
@[simp] theorem h24_65_wp {P : Program} {F : PF P} {Q : EX → List Value → World → Prop} {env : List Value} {w : World} : h24_65.wp F Q env w = HC.wp F (.reg (.chk none (.idxL 1) (.cons (.inp 1) (.cons (.inp 5) .nil)) (.eff (.ld false 1) (.cons (.op (.idxL 1) (.cons (.inp 1) (.cons (.inp 5) .nil))) .nil) (.chk none (.bin .mul) (.cons (.cst (.int .i64 (-1000))) (.cons (.inp 5) .nil)) (.chk none (.bin .sub) (.cons (.op (.bin .mul) (.cons (.cst (.int .i64 (-1000))) (.cons (.inp 5) .nil))) (.cons (.inp 6) .nil)) (.chk none (.bin .sub) (.cons (.op (.bin .sub) (.cons (.op (.bin .mul) (.cons (.cst (.int .i64 (-1000))) (.cons (.inp 5) .nil))) (.cons (.inp 6) .nil))) (.cons (.cst (.int .i64 1)) .nil)) (.chk none (.idxL 1) (.cons (.bv 0) (.cons (.inp 6) .nil)) (.eff (.st 1) (.cons (.op (.idxL 1) (.cons (.bv 0) (.cons (.inp 6) .nil))) (.cons (.op (.bin .sub) (.cons (.op (.bin .sub) (.cons (.op (.bin .mul) (.cons (.cst (.int .i64 (-1000))) (.cons (.inp 5) .nil))) (.cons (.inp 6) .nil))) (.cons (.cst (.int .i64 1)) .nil))) .nil)) (.done [] none))))))))) Q env w := rfl
def h24_66 : HC := (.seq (.block 7 h24_65) h24_64)
@[simp] theorem h24_66_wp {P : Program} {F : PF P} {Q : EX → List Value → World → Prop} {env : List Value} {w : World} : h24_66.wp F Q env w = HC.wp F (.seq (.block 7 h24_65) h24_64) Q env w := rfl
def h24_67 : HC := (.seq (.br (.chk none (.idxL 1) (.cons (.inp 1) (.cons (.inp 5) .nil)) (.eff (.ld false 1) (.cons (.op (.idxL 1) (.cons (.inp 1) (.cons (.inp 5) .nil))) .nil) (.chk none .lenL (.cons (.bv 0) .nil) (.chk none (.bin .lss) (.cons (.inp 6) (.cons (.op .lenL (.cons (.bv 0) .nil)) .nil)) (.done [] (some (.op (.bin .lss) (.cons (.inp 6) (.cons (.op .lenL (.cons (.bv 0) .nil)) .nil))))))))) .skip (.exit 6)) h24_66)
@[simp] theorem h24_67_wp {P : Program} {F : PF P} {Q : EX → List Value → World → Prop} {env : List Value} {w : World} : h24_67.wp F Q env w = HC.wp F (.seq (.br (.chk none (.idxL 1) (.cons (.inp 1) (.cons (.inp 5) .nil)) (.eff (.ld false 1) (.cons (.op (.idxL 1) (.cons (.inp 1) (.cons (.inp 5) .nil))) .nil) (.chk none .lenL (.cons (.bv 0) .nil) (.chk none (.bin .lss) (.cons (.inp 6) (.cons (.op .lenL (.cons (.bv 0) .nil)) .nil)) (.done [] (some (.op (.bin .lss) (.cons (.inp 6) (.cons (.op .lenL (.cons (.bv 0) .nil)) .nil))))))))) .skip (.exit 6)) h24_66) Q env w := rfl
def h24_68 : HC := (.loop h24_67)
@[simp] theorem h24_68_wp {P : Program} {F : PF P} {Q : EX → List Value → World → Prop} {env : List Value} {w : World} : h24_68.wp F Q env w = HC.wp F (.loop h24_67) Q env w := rfl
def h24_69 : HC := (.block 6 h24_68)
@[simp] theorem h24_69_wp {P : Program} {F : PF P} {Q : EX → List Value → World → Prop} {env : List Value} {w : World} : h24_69.wp F Q env w = HC.wp F (.block 6 h24_68) Q env w := rfl
def h24_70 : HC := (.seq (.reg (.done [(6, (.cst (.int .i64 0)))] none)) h24_69)
@[simp] theorem h24_70_wp {P : Program} {F : PF P} {Q : EX → List Value → World → Prop} {env : List Value} {w : World} : h24_70.wp F Q env w = HC.wp F (.seq (.reg (.done [(6, (.cst (.int .i64 0)))] none)) h24_69) Q env w := rfl
def h24_71 : HC := (.seq (.block 5 h24_70) h24_63)
@[simp] theorem h24_71_wp {P : Program} {F : PF P} {Q : EX → List Value → World → Prop} {env : List Value} {w : World} : h24_71.wp F Q env w = HC.wp F (.seq (.block 5 h24_70) h24_63) Q env w := rfl
def h24_72 : HC := (.seq (.br (.chk none .lenL (.cons (.inp 1) .nil) (.chk none (.bin .lss) (.cons (.inp 5) (.cons (.op .lenL (.cons (.inp 1) .nil)) .nil)) (.done [] (some (.op (.bin .lss) (.cons (.inp 5) (.cons (.op .lenL (.cons (.inp 1) .nil)) .nil))))))) .skip (.exit 4)) h24_71)
@[simp] theorem h24_72_wp {P : Program} {F : PF P} {Q : EX → List Value → World → Prop} {env : List Value} {w : World} : h24_72.wp F Q env w = HC.wp F (.seq (.br (.chk none .lenL (.cons (.inp 1) .nil) (.chk none (.bin .lss) (.cons (.inp 5) (.cons (.op .lenL (.cons (.inp 1) .nil)) .nil)) (.done [] (some (.op (.bin .lss) (.cons (.inp 5) (.cons (.op .lenL (.cons (.inp 1) .nil)) .nil))))))) .skip (.exit 4)) h24_71) Q env w := rfl
def h24_73 : HC := (.loop h24_72)
@[simp] theorem h24_73_wp {P : Program} {F : PF P} {Q : EX → List Value → World → Prop} {env : List Value} {w : World} : h24_73.wp F Q env w = HC.wp F (.loop h24_72) Q env w := rfl
def h24_74 : HC := (.seq (.block 4 h24_73) h24_62)
@[simp] theorem h24_74_wp {P : Program} {F : PF P} {Q : EX → List Value → World → Prop} {env : List Value} {w : World} : h24_74.wp F Q env w = HC.wp F (.seq (.block 4 h24_73) h24_62) Q env w := rfl
def h24_75 : HC := (.seq (.reg (.done [(5, (.cst (.int .i64 0)))] none)) h24_74)
@[simp] theorem h24_75_wp {P : Program} {F : PF P} {Q : EX → List Value → World → Prop} {env : List Value} {w : World} : h24_75.wp F Q env w = HC.wp F (.seq (.reg (.done [(5, (.cst (.int .i64 0)))] none)) h24_74) Q env w := rfl
def h24_76 : HC := (.reg (.chk none (.bin .add) (.cons (.inp 3) (.cons (.cst (.int .i64 1)) .nil)) (.done [(3, (.op (.bin .add) (.cons (.inp 3) (.cons (.cst (.int .i64 1)) .nil))))] none)))
@[simp] theorem h24_76_wp {P : Program} {F : PF P} {Q : EX → List Value → World → Prop} {env : List Value} {w : World} : h24_76.wp F Q env w = HC.wp F (.reg (.chk none (.bin .add) (.cons (.inp 3) (.cons (.cst (.int .i64 1)) .nil)) (.done [(3, (.op (.bin .add) (.cons (.inp 3) (.cons (.cst (.int .i64 1)) .nil))))] none))) Q env w := rfl
def h24_77 : HC := (.reg (.chk none (.bin .add) (.cons (.inp 4) (.cons (.cst (.int .i64 1)) .nil)) (.done [(4, (.op (.bin .add) (.cons (.inp 4) (.cons (.cst (.int .i64 1)) .nil))))] none)))
@[simp] theorem h24_77_wp {P : Program} {F : PF P} {Q : EX → List Value → World → Prop} {env : List Value} {w : World} : h24_77.wp F Q env w = HC.wp F (.reg (.chk none (.bin .add) (.cons (.inp 4) (.cons (.cst (.int .i64 1)) .nil)) (.done [(4, (.op (.bin .add) (.cons (.inp 4) (.cons (.cst (.int .i64 1)) .nil))))] none))) Q env w := rfl
def h24_78 : HC := (.reg (.chk none (.idxL 1) (.cons (.inp 0) (.cons (.inp 3) .nil)) (.eff (.ld false 1) (.cons (.op (.idxL 1) (.cons (.inp 0) (.cons (.inp 3) .nil))) .nil) (.chk none (.un .neg) (.cons (.inp 3) .nil) (.chk none (.build #[(.int .i64 0), (.int .i64 0)] [(0, 1), (1, 1)] [0, 1]) (.cons (.op (.un .neg) (.cons (.inp 3) .nil)) (.cons (.inp 4) .nil)) (.chk none (.idxL 2) (.cons (.bv 0) (.cons (.inp 4) .nil)) (.eff (.st 2) (.cons (.op (.idxL 2) (.cons (.bv 0) (.cons (.inp 4) .nil))) (.cons (.op (.build #[(.int .i64 0), (.int .i64 0)] [(0, 1), (1, 1)] [0, 1]) (.cons (.op (.un .neg) (.cons (.inp 3) .nil)) (.cons (.inp 4) .nil))) .nil)) (.done [] none))))))))
@[simp] theorem h24_78_wp {P : Program} {F : PF P} {Q : EX → List Value → World → Prop} {env : List Value} {w : World} : h24_78.wp F Q env w = HC.wp F (.reg (.chk none (.idxL 1) (.cons (.inp 0) (.cons (.inp 3) .nil)) (.eff (.ld false 1) (.cons (.op (.idxL 1) (.cons (.inp 0) (.cons (.inp 3) .nil))) .nil) (.chk none (.un .neg) (.cons (.inp 3) .nil) (.chk none (.build #[(.int .i64 0), (.int .i64 0)] [(0, 1), (1, 1)] [0, 1]) (.cons (.op (.un .neg) (.cons (.inp 3) .nil)) (.cons (.inp 4) .nil)) (.chk none (.idxL 2) (.cons (.bv 0) (.cons (.inp 4) .nil)) (.eff (.st 2) (.cons (.op (.idxL 2) (.cons (.bv 0) (.cons (.inp 4) .nil))) (.cons (.op (.build #[(.int .i64 0), (.int .i64 0)] [(0, 1), (1, 1)] [0, 1]) (.cons (.op (.un .neg) (.cons (.inp 3) .nil)) (.cons (.inp 4) .nil))) .nil)) (.done [] none)))))))) Q env w := rfl
def h24_79 : HC := (.seq (.block 3 h24_78) h24_77)
@[simp] theorem h24_79_wp {P : Program} {F : PF P} {Q : EX → List Value → World → Prop} {env : List Value} {w : World} : h24_79.wp F Q env w = HC.wp F (.seq (.block 3 h24_78) h24_77) Q env w := rfl
def h24_80 : HC := (.seq (.br (.chk none (.idxL 1) (.cons (.inp 0) (.cons (.inp 3) .nil)) (.eff (.ld false 1) (.cons (.op (.idxL 1) (.cons (.inp 0) (.cons (.inp 3) .nil))) .nil) (.chk none .lenL (.cons (.bv 0) .nil) (.chk none (.bin .lss) (.cons (.inp 4) (.cons (.op .lenL (.cons (.bv 0) .nil)) .nil)) (.done [] (some (.op (.bin .lss) (.cons (.inp 4) (.cons (.op .lenL (.cons (.bv 0) .nil)) .nil))))))))) .skip (.exit 2)) h24_79)
@[simp] theorem h24_80_wp {P : Program} {F : PF P} {Q : EX → List Value → World → Prop} {env : List Value} {w : World} : h24_80.wp F Q env w = HC.wp F (.seq (.br (.chk none (.idxL 1) (.cons (.inp 0) (.cons (.inp 3) .nil)) (.eff (.ld false 1) (.cons (.op (.idxL 1) (.cons (.inp 0) (.cons (.inp 3) .nil))) .nil) (.chk none .lenL (.cons (.bv 0) .nil) (.chk none (.bin .lss) (.cons (.inp 4) (.cons (.op .lenL (.cons (.bv 0) .nil)) .nil)) (.done [] (some (.op (.bin .lss) (.cons (.inp 4) (.cons (.op .lenL (.cons (.bv 0) .nil)) .nil))))))))) .skip (.exit 2)) h24_79) Q env w := rfl
def h24_81 : HC := (.loop h24_80)
@[simp] theorem h24_81_wp {P : Program} {F : PF P} {Q : EX → List Value → World → Prop} {env : List Value} {w : World} : h24_81.wp F Q env w = HC.wp F (.loop h24_80) Q env w := rfl
def h24_82 : HC := (.block 2 h24_81)
@[simp] theorem h24_82_wp {P : Program} {F : PF P} {Q : EX → List Value → World → Prop} {env : List Value} {w : World} : h24_82.wp F Q env w = HC.wp F (.block 2 h24_81) Q env w := rfl
def h24_83 : HC := (.seq (.reg (.done [(4, (.cst (.int .i64 0)))] none)) h24_82)
@[simp] theorem h24_83_wp {P : Program} {F : PF P} {Q : EX → List Value → World → Prop} {env : List Value} {w : World} : h24_83.wp F Q env w = HC.wp F (.seq (.reg (.done [(4, (.cst (.int .i64 0)))] none)) h24_82) Q env w := rfl
def h24_84 : HC := (.seq (.block 1 h24_83) h24_76)
@[simp] theorem h24_84_wp {P : Program} {F : PF P} {Q : EX → List Value → World → Prop} {env : List Value} {w : World} : h24_84.wp F Q env w = HC.wp F (.seq (.block 1 h24_83) h24_76) Q env w := rfl
def h24_85 : HC := (.seq (.br (.chk none .lenL (.cons (.inp 0) .nil) (.chk none (.bin .lss) (.cons (.inp 3) (.cons (.op .lenL (.cons (.inp 0) .nil)) .nil)) (.done [] (some (.op (.bin .lss) (.cons (.inp 3) (.cons (.op .lenL (.cons (.inp 0) .nil)) .nil))))))) .skip (.exit 0)) h24_84)
@[simp] theorem h24_85_wp {P : Program} {F : PF P} {Q : EX → List Value → World → Prop} {env : List Value} {w : World} : h24_85.wp F Q env w = HC.wp F (.seq (.br (.chk none .lenL (.cons (.inp 0) .nil) (.chk none (.bin .lss) (.cons (.inp 3) (.cons (.op .lenL (.cons (.inp 0) .nil)) .nil)) (.done [] (some (.op (.bin .lss) (.cons (.inp 3) (.cons (.op .lenL (.cons (.inp 0) .nil)) .nil))))))) .skip (.exit 0)) h24_84) Q env w := rfl
def h24_86 : HC := (.loop h24_85)
@[simp] theorem h24_86_wp {P : Program} {F : PF P} {Q : EX → List Value → World → Prop} {env : List Value} {w : World} : h24_86.wp F Q env w = HC.wp F (.loop h24_85) Q env w := rfl
def h24_87 : HC := (.seq (.block 0 h24_86) h24_75)
@[simp] theorem h24_87_wp {P : Program} {F : PF P} {Q : EX → List Value → World → Prop} {env : List Value} {w : World} : h24_87.wp F Q env w = HC.wp F (.seq (.block 0 h24_86) h24_75) Q env w := rfl
def h24_88 : HC := (.seq (.reg (.done [(3, (.cst (.int .i64 0)))] none)) h24_87)
@[simp] theorem h24_88_wp {P : Program} {F : PF P} {Q : EX → List Value → World → Prop} {env : List Value} {w : World} : h24_88.wp F Q env w = HC.wp F (.seq (.reg (.done [(3, (.cst (.int .i64 0)))] none)) h24_87) Q env w := rfl
def l24 : Lifted := ⟨[0, 1, 4, 5, 6, 7, 8, 9, 10, 11, 12, 13, 14, 15, 16, 17, 18, 19, 20, 21, 22], 235, [.slot 2], (.seq (.reg (.done [(2, (.cst (.bool false)))] none)) h24_88)⟩
theorem l24_ok : liftFn U2 24 400 = some l24 := by kernel_rfl


theorem apart_spec (R L : Nat → Value) (Y : Nat → List (Int × Int)) (Z : Nat → List Int) (nr nl : Nat) (v1 v2 : Value) (w0 w : World) (A : Asn) (hnr : nr ≤ 1000) (hnl : nl ≤ 1000) (hY : ∀ j, (Y j).length ≤ 1048576) (hZ : ∀ j, (Z j).length ≤ 1048576)
    (h1 : Row w0 A v1 nr 1 ((List.range nr).map R)) (h2 : Row w0 A v2 nl 1 ((List.range nl).map L))
    (s : St w0 (A * bigA (fun j ys => own 32 2 (R j) (Y j).length (flat ys)) Y nr * bigA (fun j zs => own 3 1 (L j) (Z j).length (ints zs)) Z nl) w) :
    CallW Try.prog 24 [v1, v2] (fun r w' => r = .bool true ∧ St w0 A w') w := by
  obtain ⟨a1, c1, rfl⟩ := h1.val
  obtain ⟨a2, c2, rfl⟩ := h2.val
  generalize hFR : (fun (j : Nat) (ys : List (Int × Int)) => own 32 2 (R j) (Y j).length (flat ys)) = FR at s
  generalize hFL : (fun (j : Nat) (zs : List Int) => own 3 1 (L j) (Z j).length (ints zs)) = FL at s
  have eFR : ∀ j ys, FR j ys = own 32 2 (R j) (Y j).length (flat ys) := fun j ys => by rw [← hFR]
  have eFL : ∀ j zs, FL j zs = own 3 1 (L j) (Z j).length (ints zs) := fun j zs => by rw [← hFL]
  refine callW_of_lift l24_ok (by simp [l24]) ?_
  simp [l24]
  -- all rows are marked
  refine loopI (fun env w' => ∃ (i : Nat) (Y' : Nat → List (Int × Int)) (o4 : Value), env = [.slice a1 nr c1, .slice a2 nl c2, .bool false, .int .i64 i, o4, undef, undef, undef, undef, undef, undef, undef, undef, undef, undef, undef, undef, undef, undef, undef, undef] ∧ i ≤ nr ∧
      (∀ j, (Y' j).length = (Y j).length) ∧ (∀ j, j < i → ∀ k, k < (Y j).length → (Y' j)[k]? = some (-(j : Int), (k : Int))) ∧ St w0 (A * bigA FR Y' nr * bigA FL Z nl) w')
    (fun env _ => nr - slotN env 3) ⟨0, Y, _, rfl, by omega, fun _ => rfl, fun j hj => by omega, s⟩ ?_
  rintro LQ env w' ⟨i, Y', o4, rfl, hi, hYl, hYm, s'⟩ hN hE hR
  simp
  refine cndI (fun h => ?_) (fun h => ?_)
  · simp at h
    obtain ⟨g1, b1, c1', hv, hc1⟩ := h1.at (by omega)
    cases hv
    simp
    rw [big_at h] at s'
    have s1 := s'.to (B := A * bigH FR Y' i nr * bigA FL Z nl * FR i (Y' i)) (by ac_rfl)
    refine loopI (fun env w' => ∃ (k : Nat) (ys : List (Int × Int)), env = [.slice (some ⟨g1, b1, none⟩) nr c1, .slice a2 nl c2, .bool false, .int .i64 i, .int .i64 k, undef, undef, undef, undef, undef, undef, undef, undef, undef, undef, undef, undef, undef, undef, undef, undef] ∧ k ≤ (Y i).length ∧
        ys.length = (Y i).length ∧ (∀ j, j < k → ys[j]? = some (-(i : Int), (j : Int))) ∧ St w0 (A * bigH FR Y' i nr * bigA FL Z nl * FR i ys) w')
      (fun env _ => (Y i).length - slotN env 4) ⟨0, Y' i, rfl, by omega, hYl i, fun j hj => by omega, s1⟩ ?_
    rintro LQ2 env w2 ⟨k, ys, rfl, hk, hyl, hym, s2⟩ hN2 hE2 hR2
    rw [eFR] at s2
    obtain ⟨ra, rc, hR', hrc, _⟩ := s2.own_val
    have hload : w2.cell? ⟨g1, b1 + i, none⟩ = some (.slice ra (Y i).length rc) := by rw [← hR']; exact hc1 _ s2.drop.drop.drop i _ (range_at h)
    simp [h]
    refine eff_ldc hload ?_
    simp
    refine cndI (fun h3 => ?_) (fun h3 => ?_)
    · simp at h3
      have hyL := hY i
      rw [hR'] at s2
      obtain ⟨g, cap, hv, _⟩ := s2.own_at (by omega)
      cases hv
      simp [h]
      refine eff_ldc hload ?_
      simp [h3, Instr.fill, Value.cells]
      try simp (disch := omega) only [wrap64]
      have hfl := flat_len ys
      refine eff_stR (vs := encT (-(i : Int), k)) s2 rfl rfl (encT_one _) (by omega) ?_
      intro w3 s3
      rw [show flat ys = ys.flatMap encT from rfl, flat_set encT 2 (fun _ => rfl) _ ys k (by omega)] at s3
      simp
      try simp (disch := omega) only [wrap64]
      refine hN2 _ _ ⟨k + 1, ys.set k (-(i : Int), (k : Int)), by simp, by omega, by simp [hyl], fun j hj => ?_, by rw [eFR, hR']; exact s3⟩ (by simp [slotN]; omega)
      by_cases e : j = k
      · subst e; rw [List.getElem?_set_self (by omega)]
      · rw [List.getElem?_set_ne (by omega)]; exact hym j (by omega)
    · simp at h3
      simp
      refine hE2 _ _ _ ?_
      simp
      try simp (disch := omega) only [wrap64]
      refine hN _ _ ⟨i + 1, upF Y' i ys, .int .i64 k, by simp, by omega, fun j => ?_, fun j hj k' hk' => ?_, ?_⟩ (by simp [slotN]; omega)
      · by_cases e : j = i
        · subst e; rw [upF_at, hyl]
        · rw [upF_ne _ _ e, hYl]
      · by_cases e : j = i
        · subst e; rw [upF_at]; exact hym k' (by omega)
        · rw [upF_ne _ _ e]; exact hYm j (by omega) k' hk'
      · rw [big_set h, eFR]; exact s2.to (by ac_rfl)
  simp at h
  simp
  refine hE _ _ _ ?_
  simp
  have hin : i = nr := by omega
  subst hin
  clear hN hE hR s
  -- all lists are marked
  refine loopI (fun env w' => ∃ (i' : Nat) (Z' : Nat → List Int) (o6 : Value), env = [.slice a1 i c1, .slice a2 nl c2, .bool false, .int .i64 i, o4, .int .i64 i', o6, undef, undef, undef, undef, undef, undef, undef, undef, undef, undef, undef, undef, undef, undef] ∧ i' ≤ nl ∧
      (∀ j, (Z' j).length = (Z j).length) ∧ (∀ j, j < i' → ∀ k, k < (Z j).length → (Z' j)[k]? = some (-1000 * (j : Int) - k - 1)) ∧ St w0 (A * bigA FR Y' i * bigA FL Z' nl) w')
    (fun env _ => nl - slotN env 5) ⟨0, Z, _, rfl, by omega, fun _ => rfl, fun j hj => by omega, s'⟩ ?_
  clear s'
  rintro LQ env w' ⟨i', Z', o6, rfl, hi', hZl, hZm, s'⟩ hN hE hR
  simp
  refine cndI (fun h => ?_) (fun h => ?_)
  · simp at h
    obtain ⟨g2, b2, c2', hv, hc2⟩ := h2.at (by omega)
    cases hv
    simp
    rw [big_at h] at s'
    have s1 := s'.to (B := A * bigH FL Z' i' nl * bigA FR Y' i * FL i' (Z' i')) (by ac_rfl)
    refine loopI (fun env w' => ∃ (k : Nat) (zs : List Int), env = [.slice a1 i c1, .slice (some ⟨g2, b2, none⟩) nl c2, .bool false, .int .i64 i, o4, .int .i64 i', .int .i64 k, undef, undef, undef, undef, undef, undef, undef, undef, undef, undef, undef, undef, undef, undef] ∧ k ≤ (Z i').length ∧
        zs.length = (Z i').length ∧ (∀ j, j < k → zs[j]? = some (-1000 * (i' : Int) - j - 1)) ∧ St w0 (A * bigH FL Z' i' nl * bigA FR Y' i * FL i' zs) w')
      (fun env _ => (Z i').length - slotN env 6) ⟨0, Z' i', rfl, by omega, hZl i', fun j hj => by omega, s1⟩ ?_
    rintro LQ2 env w2 ⟨k, zs, rfl, hk, hzl, hzm, s2⟩ hN2 hE2 hR2
    rw [eFL] at s2
    obtain ⟨ra, rc, hR', hrc, _⟩ := s2.own_val
    have hload : w2.cell? ⟨g2, b2 + i', none⟩ = some (.slice ra (Z i').length rc) := by rw [← hR']; exact hc2 _ s2.drop.drop.drop i' _ (range_at h)
    simp [h]
    refine eff_ldc hload ?_
    simp
    refine cndI (fun h3 => ?_) (fun h3 => ?_)
    · simp at h3
      have hzL := hZ i'
      rw [hR'] at s2
      obtain ⟨g, cap, hv, _⟩ := s2.own_at (by omega)
      cases hv
      simp [h]
      refine eff_ldc hload ?_
      simp [h3]
      try simp (disch := omega) only [wrap64]
      refine eff_stC (u := .int .i64 (-1000 * (i' : Int) - k - 1)) s2 (by simp [ints]; omega) rfl ?_
      intro w3 s3
      rw [show (ints zs).set k (.int .i64 (-1000 * (i' : Int) - k - 1)) = ints (zs.set k (-1000 * (i' : Int) - k - 1)) by simp [ints, List.map_set]] at s3
      simp
      try simp (disch := omega) only [wrap64]
      refine hN2 _ _ ⟨k + 1, zs.set k (-1000 * (i' : Int) - k - 1), by simp, by omega, by simp [hzl], fun j hj => ?_, by rw [eFL, hR']; exact s3⟩ (by simp [slotN]; omega)
      by_cases e : j = k
      · subst e; rw [List.getElem?_set_self (by omega)]
      · rw [List.getElem?_set_ne (by omega)]; exact hzm j (by omega)
    · simp at h3
      simp
      refine hE2 _ _ _ ?_
      simp
      try simp (disch := omega) only [wrap64]
      refine hN _ _ ⟨i' + 1, upF Z' i' zs, .int .i64 k, by simp, by omega, fun j => ?_, fun j hj k' hk' => ?_, ?_⟩ (by simp [slotN]; omega)
      · by_cases e : j = i'
        · subst e; rw [upF_at, hzl]
        · rw [upF_ne _ _ e, hZl]
      · by_cases e : j = i'
        · subst e; rw [upF_at]; exact hzm k' (by omega)
        · rw [upF_ne _ _ e]; exact hZm j (by omega) k' hk'
      · rw [big_set h, eFL]; exact s2.to (by ac_rfl)
  simp at h
  simp
  refine hE _ _ _ ?_
  simp
  have hin : i' = nl := by omega
  subst hin
  clear hN hE hR
  have s3 : St w0 (A * bigA (GLf L Z') (fun _ => none) i' * bigA (GRf R Y') (fun _ => none) i) w' := by
    have e1 : bigA FR Y' i = bigA (GRf R Y') (fun _ => none) i := big_congr fun j hj => by rw [eFR]; simp only [GRf]; rw [hYl]
    have e2 : bigA FL Z' i' = bigA (GLf L Z') (fun _ => none) i' := big_congr fun j hj => by rw [eFL]; simp only [GLf]; rw [hZl]
    rw [e1, e2] at s'
    exact s'.swap
  clear s'
  have hY' : ∀ j, (Y' j).length ≤ 1048576 := fun j => by rw [hYl]; exact hY j
  have hZ' : ∀ j, (Z' j).length ≤ 1048576 := fun j => by rw [hZl]; exact hZ j
  have hYm' : ∀ j, j < i → ∀ k, k < (Y' j).length → (Y' j)[k]? = some (-(j : Int), (k : Int)) := fun j hj k hk => hYm j hj k (by rw [← hYl]; exact hk)
  have hZm' : ∀ j, j < i' → ∀ k, k < (Z' j).length → (Z' j)[k]? = some (-1000 * (j : Int) - k - 1) := fun j hj k hk => hZm j hj k (by rw [← hZl]; exact hk)
  generalize hGR : GRf R Y' = GR at s3
  generalize hGL : GLf L Z' = GL at s3
  have eRn : ∀ j, GR j none = own 32 2 (R j) (Y' j).length (flat (Y' j)) := fun j => by rw [← hGR]; rfl
  have eRs : ∀ j g, GR j (some g) = grw 32 2 (R j) g (Y' j).length 80 (flat (Y' j)) (flat (fresh j 80)) := fun j g => by rw [← hGR]; rfl
  have eLn : ∀ j, GL j none = own 3 1 (L j) (Z' j).length (ints (Z' j)) := fun j => by rw [← hGL]; rfl
  have eLs : ∀ j g, GL j (some g) = grw 3 1 (L j) g (Z' j).length 80 (ints (Z' j)) (ints (freshI j 80)) := fun j g => by rw [← hGL]; rfl
  -- all rows are gone on with
  refine loopI (fun env w' => ∃ (n : Nat) (G : Nat → Option Value) (lv o9 o10 : Value), env = [.slice a1 i c1, .slice a2 i' c2, .bool false, .int .i64 i, o4, .int .i64 i', o6, lv, .int .i64 n, o9, o10, undef, undef, undef, undef, undef, undef, undef, undef, undef, undef] ∧ n ≤ i ∧
      (∀ j, j < n → ∃ g, G j = some g) ∧ (∀ j, n ≤ j → G j = none) ∧ St w0 (A * bigA GL (fun _ => none) i' * bigA GR G i * own 38 1 lv n ((List.range n).map fun j => gv (G j))) w')
    (fun env _ => i - slotN env 8) ⟨0, fun _ => none, _, _, _, rfl, by omega, fun j hj => by omega, fun _ _ => rfl, s3.own_nil _ _⟩ ?_
  rintro LQ env w' ⟨n, G, lv, o9, o10, rfl, hn, hG1, hG2, s'⟩ hN hE hR
  simp
  refine cndI (fun h => ?_) (fun h => ?_)
  · simp at h
    obtain ⟨g1, b1, c1', hv, hc1⟩ := h1.at (by omega)
    cases hv
    simp [h]
    refine eff_ldc (hc1 _ s'.drop.drop.drop n _ (range_at h)) ?_
    simp
    rw [big_at h, hG2 n (Nat.le_refl n), eRn] at s'
    have s1 := grw_start (s'.to (B := A * bigA GL (fun _ => none) i' * bigH GR G n i * own 38 1 lv n ((List.range n).map fun j => gv (G j)) * own 32 2 (R n) (Y' n).length (flat (Y' n))) (by ac_rfl))
    refine loopI (fun env w' => ∃ (k : Nat) (g : Value), env = [.slice (some ⟨g1, b1, none⟩) i c1, .slice a2 i' c2, .bool false, .int .i64 i, o4, .int .i64 i', o6, lv, .int .i64 n, g, .int .i64 k, undef, undef, undef, undef, undef, undef, undef, undef, undef, undef] ∧ k ≤ 80 ∧
        St w0 (A * bigA GL (fun _ => none) i' * bigH GR G n i * own 38 1 lv n ((List.range n).map fun j => gv (G j)) * grw 32 2 (R n) g (Y' n).length k (flat (Y' n)) (flat (fresh n k))) w')
      (fun env _ => 80 - slotN env 10) ⟨0, R n, rfl, by omega, by have e0 : flat (fresh n 0) = [] := rfl; rw [e0]; exact s1⟩ ?_
    rintro LQ2 env w2 ⟨k, g, rfl, hk, s2⟩ hN2 hE2 hR2
    simp
    have hyL := hY' n
    refine cndI (fun h3 => ?_) (fun h3 => ?_)
    · simp at h3
      obtain ⟨X, sX⟩ := grw_new s2
      obtain ⟨ga, gc, rfl, _⟩ := sX.own_val
      simp [Instr.fill, Value.cells]
      try simp (disch := omega) only [wrap64]
      refine eff_bslV s2 rfl ?_
      intro c w3 s3
      simp
      have s3' : St w0 (A * bigA GL (fun _ => none) i' * bigH GR G n i * own 38 1 lv n ((List.range n).map fun j => gv (G j)) * pt c (.cells (encT (1000 + n, k)).toArray 32 (0, 0)) * grw 32 2 (R n) (.slice ga ((Y' n).length + k) gc) (Y' n).length k (flat (Y' n)) (flat (fresh n k))) w3 := s3.swap
      refine eff_appG (k := 1) (news := encT (1000 + n, k)) s3' rfl s3.cells_look (encT_one _) (by decide) rfl (by omega) (by unfold maxLen; omega) (by omega) ?_
      intro v2 w4 s4
      rw [fresh_succ] at s4
      simp
      try simp (disch := omega) only [wrap64]
      exact hN2 _ _ ⟨k + 1, v2, by simp, by omega, s4.swap.drop⟩ (by simp [slotN]; omega)
    · simp at h3
      simp
      refine hE2 _ _ _ ?_
      simp
      have hk80 : k = 80 := by omega
      subst hk80
      obtain ⟨X, sX⟩ := grw_new s2
      obtain ⟨ga, gc, rfl, _⟩ := sX.own_val
      refine eff_bsl1 s2 rfl ?_
      intro c w3 s3
      simp
      have s3' := s3.to (B := A * bigA GL (fun _ => none) i' * bigH GR G n i * pt c (.cells #[.slice ga ((Y' n).length + 80) gc] 38 (0, 0)) * grw 32 2 (R n) (.slice ga ((Y' n).length + 80) gc) (Y' n).length 80 (flat (Y' n)) (flat (fresh n 80)) * own 38 1 lv n ((List.range n).map fun j => gv (G j))) (by ac_rfl)
      refine eff_app (m := 1) (news := [.slice ga ((Y' n).length + 80) gc]) s3' rfl s3.cells_look (by simp [Value.oneCell']) (by decide) rfl (by unfold maxLen; omega) (by omega) ?_
      intro lv2 w4 s4
      simp
      try simp (disch := omega) only [wrap64]
      rw [gv_succ] at s4
      refine hN _ _ ⟨n + 1, upF G n (some (.slice ga ((Y' n).length + 80) gc)), lv2, .slice ga ((Y' n).length + 80) gc, .int .i64 80, by simp, by omega, fun j hj => ?_, fun j hj => ?_, ?_⟩ (by simp [slotN]; omega)
      · by_cases e : j = n
        · subst e; exact ⟨_, upF_at _ _ _⟩
        · rw [upF_ne _ _ e]; exact hG1 j (by omega)
      · rw [upF_ne _ _ (by omega)]; exact hG2 j (by omega)
      · rw [big_set h, eRs]
        exact St.cut (pt c (.cells #[.slice ga ((Y' n).length + 80) gc] 38 (0, 0))) s4 (by ac_rfl)
  simp at h
  simp
  refine hE _ _ _ ?_
  simp
  have hin : n = i := by omega
  subst hin
  clear hN hE hR s3 hG2
  -- all lists are gone on with
  obtain ⟨la, lc, rfl, _⟩ := s'.own_val
  generalize hLV : own 38 1 (.slice la n lc) n ((List.range n).map fun j => gv (G j)) = LV at s'
  refine loopI (fun env w' => ∃ (m : Nat) (G2 : Nat → Option Value) (gl o13 o14 : Value), env = [.slice a1 n c1, .slice a2 i' c2, .bool false, .int .i64 n, o4, .int .i64 i', o6, .slice la n lc, .int .i64 n, o9, o10, gl, .int .i64 m, o13, o14, undef, undef, undef, undef, undef, undef] ∧ m ≤ i' ∧
      (∀ j, j < m → ∃ g, G2 j = some g) ∧ (∀ j, m ≤ j → G2 j = none) ∧ St w0 (A * bigA GL G2 i' * (bigA GR G n * LV) * own 47 1 gl m ((List.range m).map fun j => gv (G2 j))) w')
    (fun env _ => i' - slotN env 12) ⟨0, fun _ => none, _, _, _, rfl, by omega, fun j hj => by omega, fun _ _ => rfl, (s'.to (by ac_rfl)).own_nil _ _⟩ ?_
  clear s'
  rintro LQ env w' ⟨m, G2', gl, o13, o14, rfl, hm, hL1, hL2, s'⟩ hN hE hR
  simp
  refine cndI (fun h => ?_) (fun h => ?_)
  · simp at h
    obtain ⟨g2, b2, c2', hv, hc2⟩ := h2.at (by omega)
    cases hv
    simp [h]
    refine eff_ldc (hc2 _ s'.drop.drop.drop m _ (range_at h)) ?_
    simp
    rw [big_at h, hL2 m (Nat.le_refl m), eLn] at s'
    have s1 := grw_start (s'.to (B := A * bigH GL G2' m i' * (bigA GR G n * LV) * own 47 1 gl m ((List.range m).map fun j => gv (G2' j)) * own 3 1 (L m) (Z' m).length (ints (Z' m))) (by ac_rfl))
    refine loopI (fun env w' => ∃ (k : Nat) (g : Value), env = [.slice a1 n c1, .slice (some ⟨g2, b2, none⟩) i' c2, .bool false, .int .i64 n, o4, .int .i64 i', o6, .slice la n lc, .int .i64 n, o9, o10, gl, .int .i64 m, g, .int .i64 k, undef, undef, undef, undef, undef, undef] ∧ k ≤ 80 ∧
        St w0 (A * bigH GL G2' m i' * (bigA GR G n * LV) * own 47 1 gl m ((List.range m).map fun j => gv (G2' j)) * grw 3 1 (L m) g (Z' m).length k (ints (Z' m)) (ints (freshI m k))) w')
      (fun env _ => 80 - slotN env 14) ⟨0, L m, rfl, by omega, by have e0 : ints (freshI m 0) = [] := rfl; rw [e0]; exact s1⟩ ?_
    rintro LQ2 env w2 ⟨k, g, rfl, hk, s2⟩ hN2 hE2 hR2
    simp
    have hzL := hZ' m
    refine cndI (fun h3 => ?_) (fun h3 => ?_)
    · simp at h3
      obtain ⟨X, sX⟩ := grw_new s2
      obtain ⟨ga, gc, rfl, _⟩ := sX.own_val
      simp
      try simp (disch := omega) only [wrap64]
      refine eff_bsl1 s2 rfl ?_
      intro c w3 s3
      simp
      refine eff_appG (k := 1) (news := [.int .i64 (1000 * (m : Int) + k)]) s3.swap rfl s3.cells_look (by simp [Value.oneCell']) (by decide) rfl (by omega) (by unfold maxLen; omega) (by omega) ?_
      intro v2 w4 s4
      rw [freshI_succ] at s4
      simp
      try simp (disch := omega) only [wrap64]
      exact hN2 _ _ ⟨k + 1, v2, by simp, by omega, s4.swap.drop⟩ (by simp [slotN]; omega)
    · simp at h3
      simp
      refine hE2 _ _ _ ?_
      simp
      have hk80 : k = 80 := by omega
      subst hk80
      obtain ⟨X, sX⟩ := grw_new s2
      obtain ⟨ga, gc, rfl, _⟩ := sX.own_val
      refine eff_bsl1 s2 rfl ?_
      intro c w3 s3
      simp
      have s3' := s3.to (B := A * bigH GL G2' m i' * (bigA GR G n * LV) * pt c (.cells #[.slice ga ((Z' m).length + 80) gc] 47 (0, 0)) * grw 3 1 (L m) (.slice ga ((Z' m).length + 80) gc) (Z' m).length 80 (ints (Z' m)) (ints (freshI m 80)) * own 47 1 gl m ((List.range m).map fun j => gv (G2' j))) (by ac_rfl)
      refine eff_app (m := 1) (news := [.slice ga ((Z' m).length + 80) gc]) s3' rfl s3.cells_look (by simp [Value.oneCell']) (by decide) rfl (by unfold maxLen; omega) (by omega) ?_
      intro lv2 w4 s4
      simp
      try simp (disch := omega) only [wrap64]
      rw [gv_succ] at s4
      refine hN _ _ ⟨m + 1, upF G2' m (some (.slice ga ((Z' m).length + 80) gc)), lv2, .slice ga ((Z' m).length + 80) gc, .int .i64 80, by simp, by omega, fun j hj => ?_, fun j hj => ?_, ?_⟩ (by simp [slotN]; omega)
      · by_cases e : j = m
        · subst e; exact ⟨_, upF_at _ _ _⟩
        · rw [upF_ne _ _ e]; exact hL1 j (by omega)
      · rw [upF_ne _ _ (by omega)]; exact hL2 j (by omega)
      · rw [big_set h, eLs]
        exact St.cut (pt c (.cells #[.slice ga ((Z' m).length + 80) gc] 47 (0, 0))) s4 (by ac_rfl)
  simp at h
  simp
  refine hE _ _ _ ?_
  simp
  have hin : m = i' := by omega
  subst hin
  clear hN hE hR hL2
  -- all rows are looked at
  obtain ⟨ga0, gc0, rfl, _⟩ := s'.own_val
  generalize hLG : own 47 1 (.slice ga0 m gc0) m ((List.range m).map fun j => gv (G2' j)) = LG at s'
  have longAt : ∀ {j : Nat} {w : World}, j < n → St w0 (A * bigA GL G2' m * (bigA GR G n * LV) * LG) w → ∃ b, la = some ⟨b, 0, none⟩ ∧ w.cell? ⟨b, j, none⟩ = some (gv (G j)) := by
    intro j w hj s
    rw [← hLV] at s
    have t := s.to (B := A * bigA GL G2' m * bigA GR G n * LG * own 38 1 (.slice la n lc) n ((List.range n).map fun j => gv (G j))) (by ac_rfl)
    obtain ⟨b, cap, e1, _, hc⟩ := t.own_at (by omega)
    cases e1
    exact ⟨b, rfl, hc j _ (range_at (R := fun j => gv (G j)) hj)⟩
  have rowsAt : ∀ {j : Nat} {w : World}, j < n → St w0 (A * bigA GL G2' m * (bigA GR G n * LV) * LG) w → ∃ (g : Value) (ra : Option Addr) (rc : Nat) (ga : Option Addr) (gc : Nat), G j = some g ∧ R j = .slice ra (Y' j).length rc ∧ g = .slice ga ((Y' j).length + 80) gc ∧
      (∀ (k : Nat), k < (Y' j).length → ∃ b, ra = some ⟨b, 0, none⟩ ∧ ∀ i u, (encT (-(j : Int), k))[i]? = some u → w.cell? ⟨b, k * 2 + i, none⟩ = some u) ∧
      (∀ (k : Nat), k < 80 → ∃ b, ga = some ⟨b, 0, none⟩ ∧ ∀ i u, (encT (1000 + (j : Int), k))[i]? = some u → w.cell? ⟨b, ((Y' j).length + k) * 2 + i, none⟩ = some u) := by
    intro j w hj s
    obtain ⟨g, eg⟩ := hG1 j hj
    have t := s.to (B := A * bigA GL G2' m * LV * LG * bigH GR G j n * GR j (G j)) (by rw [big_at hj]; ac_rfl)
    rw [eg, eRs] at t
    obtain ⟨X, tX⟩ := grw_old t
    obtain ⟨X2, tX2⟩ := grw_new t
    obtain ⟨ra, rc, er, _⟩ := tX.own_val
    obtain ⟨ga, gc, eg2, _⟩ := tX2.own_val
    refine ⟨g, ra, rc, ga, gc, eg, er, eg2, fun k hk => ?_, fun k hk => ?_⟩
    · obtain ⟨b, cap, e1, _, hc⟩ := tX.own_at (by omega)
      rw [er] at e1
      cases e1
      refine ⟨b, rfl, fun i u hu => hc _ _ ?_⟩
      have hm := hYm' j hj k hk
      have hget : (Y' j)[k] = (-(j : Int), (k : Int)) := by rw [List.getElem?_eq_getElem hk] at hm; simpa using hm
      exact flat_at hk i u (by rw [hget]; exact hu)
    · obtain ⟨b, cap, e1, _, hc⟩ := tX2.own_at (by omega)
      rw [eg2] at e1
      cases e1
      refine ⟨b, rfl, fun i u hu => hc _ _ ?_⟩
      have hfl := flat_len (Y' j)
      have h80 : k < (fresh j 80).length := by simp [fresh]; exact hk
      have hget : (fresh j 80)[k] = (1000 + (j : Int), (k : Int)) := by simp [fresh]
      rw [List.getElem?_append_right (by omega), hfl, show ((Y' j).length + k) * 2 + i - (Y' j).length * 2 = k * 2 + i by omega]
      exact flat_at h80 i u (by rw [hget]; exact hu)
  refine loopI (fun env w' => ∃ (q : Nat) (o16 o17 : Value), env = [.slice a1 n c1, .slice a2 m c2, .bool false, .int .i64 n, o4, .int .i64 m, o6, .slice la n lc, .int .i64 n, o9, o10, .slice ga0 m gc0, .int .i64 m, o13, o14, .int .i64 q, o16, o17, undef, undef, undef] ∧ q ≤ n ∧
      St w0 (A * bigA GL G2' m * (bigA GR G n * LV) * LG) w')
    (fun env _ => n - slotN env 15) ⟨0, _, _, rfl, by omega, s'⟩ ?_
  clear s'
  rintro LQ env w' ⟨q0, o16, o17, rfl, hq, s'⟩ hN hE hR
  simp
  refine cndI (fun h => ?_) (fun h => ?_)
  · simp at h
    obtain ⟨g1, b1, c1', hv, hc1⟩ := h1.at (by omega)
    cases hv
    simp [h]
    obtain ⟨g, ra, rc, ga, gc, eg, er, eg2, _, _⟩ := rowsAt h s'
    have hload : ∀ w, St w0 (A * bigA GL G2' m * (bigA GR G n * LV) * LG) w → w.cell? ⟨g1, b1 + q0, none⟩ = some (.slice ra (Y' q0).length rc) := fun w s => by
      rw [← er]; exact hc1 _ s.drop.drop.drop q0 _ (range_at h)
    refine eff_ldc (hload _ s') ?_
    simp
    refine loopI (fun env w' => ∃ (k : Nat), env = [.slice (some ⟨g1, b1, none⟩) n c1, .slice a2 m c2, .bool false, .int .i64 n, o4, .int .i64 m, o6, .slice la n lc, .int .i64 n, o9, o10, .slice ga0 m gc0, .int .i64 m, o13, o14, .int .i64 q0, .int .i64 (Y' q0).length, .int .i64 k, undef, undef, undef] ∧ k ≤ (Y' q0).length + 80 ∧
        St w0 (A * bigA GL G2' m * (bigA GR G n * LV) * LG) w')
      (fun env _ => (Y' q0).length + 80 - slotN env 17) ⟨0, rfl, by omega, s'⟩ ?_
    clear s'
    rintro LQ2 env w2 ⟨k, rfl, hk, s2⟩ hN2 hE2 hR2
    have hyL := hY' q0
    simp
    try simp (disch := omega) only [wrap64]
    refine cndI (fun h3 => ?_) (fun h3 => ?_)
    · simp at h3
      obtain ⟨g', ra', rc', ga', gc', eg', er', eg2', hin1, hin2⟩ := rowsAt h s2
      rw [er] at er'
      cases er'
      rw [eg] at eg'
      cases eg'
      rw [eg2] at eg2'
      cases eg2'
      by_cases hkn : k < (Y' q0).length
      · obtain ⟨b, rfl, hcell⟩ := hin1 k hkn
        have hnk : ¬ ((Y' q0).length ≤ k) := by omega
        simp [hkn, h, hnk]
        refine eff_ldc (hload _ s2) ?_
        simp [hkn]
        refine eff_ldcs (vs := encT (-(q0 : Int), k)) hcell rfl ?_
        simp [Instr.fill, Value.cells]
        try simp (disch := omega) only [wrap64]
        refine eff_neqP tmT [.int .i64 (-(q0 : Int)), .int .i64 k] [.int .i64 (-(q0 : Int)), .int .i64 k] rfl rfl ?_
        simp [hkn, hnk]
        try simp (disch := omega) only [wrap64]
        exact hN2 _ _ ⟨k + 1, by simp, by omega, s2⟩ (by simp [slotN]; omega)
      · obtain ⟨b, rfl, hcell⟩ := hin2 (k - (Y' q0).length) (by omega)
        obtain ⟨lb, rfl, hlong⟩ := longAt h s2
        have hkn2 : (Y' q0).length ≤ k := by omega
        have ek : (Y' q0).length + (k - (Y' q0).length) = k := by omega
        rw [ek] at hcell
        rw [eg, eg2] at hlong
        change _ = some (Value.slice (some ⟨b, 0, none⟩) ((Y' q0).length + 80) gc) at hlong
        have hlt : (k : Int) < (Y' q0).length + 80 := by omega
        simp [hkn, h, hkn2]
        refine eff_ldc hlong ?_
        simp [hkn, hkn2, hlt]
        refine eff_ldcs (vs := encT (1000 + (q0 : Int), ((k - (Y' q0).length : Nat) : Int))) hcell rfl ?_
        simp [hkn, hkn2, Instr.fill, Value.cells]
        try simp (disch := omega) only [wrap64]
        have ek2 : (k : Int) - (Y' q0).length = ((k - (Y' q0).length : Nat) : Int) := by omega
        rw [ek2]
        refine eff_neqP tmT [.int .i64 (1000 + (q0 : Int)), .int .i64 ((k - (Y' q0).length : Nat) : Int)] [.int .i64 (1000 + (q0 : Int)), .int .i64 ((k - (Y' q0).length : Nat) : Int)] rfl rfl ?_
        simp [hkn, hkn2]
        try simp (disch := omega) only [wrap64]
        exact hN2 _ _ ⟨k + 1, by simp, by omega, s2⟩ (by simp [slotN]; omega)
    · simp at h3
      simp
      refine hE2 _ _ _ ?_
      simp
      try simp (disch := omega) only [wrap64]
      exact hN _ _ ⟨q0 + 1, .int .i64 (Y' q0).length, .int .i64 k, by simp, by omega, s2⟩ (by simp [slotN]; omega)
  simp at h
  simp
  refine hE _ _ _ ?_
  simp
  clear hN hE hR rowsAt longAt
  -- all lists are looked at
  rw [← hLG] at s'
  have s'' := s'.to (B := A * bigA GL G2' m * (bigA GR G n * LV) * own 47 1 (.slice ga0 m gc0) m ((List.range m).map fun j => gv (G2' j))) (by ac_rfl)
  clear s'
  generalize bigA GR G n * LV = MM at s''
  have longAt : ∀ {j : Nat} {w : World}, j < m → St w0 (A * bigA GL G2' m * MM * own 47 1 (.slice ga0 m gc0) m ((List.range m).map fun j => gv (G2' j))) w → ∃ b, ga0 = some ⟨b, 0, none⟩ ∧ w.cell? ⟨b, j, none⟩ = some (gv (G2' j)) := by
    intro j w hj t
    obtain ⟨b, cap, e1, _, hc⟩ := t.own_at (by omega)
    cases e1
    exact ⟨b, rfl, hc j _ (range_at (R := fun j => gv (G2' j)) hj)⟩
  have listsAt : ∀ {j : Nat} {w : World}, j < m → St w0 (A * bigA GL G2' m * MM * own 47 1 (.slice ga0 m gc0) m ((List.range m).map fun j => gv (G2' j))) w → ∃ (g : Value) (ra : Option Addr) (rc : Nat) (ga : Option Addr) (gc : Nat), G2' j = some g ∧ L j = .slice ra (Z' j).length rc ∧ g = .slice ga ((Z' j).length + 80) gc ∧
      (∀ (k : Nat), k < (Z' j).length → ∃ b, ra = some ⟨b, 0, none⟩ ∧ w.cell? ⟨b, k, none⟩ = some (.int .i64 (-1000 * (j : Int) - k - 1))) ∧
      (∀ (k : Nat), k < 80 → ∃ b, ga = some ⟨b, 0, none⟩ ∧ w.cell? ⟨b, (Z' j).length + k, none⟩ = some (.int .i64 (1000 * (j : Int) + k))) := by
    intro j w hj s
    obtain ⟨g, eg⟩ := hL1 j hj
    have t := s.to (B := A * MM * own 47 1 (.slice ga0 m gc0) m ((List.range m).map fun j => gv (G2' j)) * bigH GL G2' j m * GL j (G2' j)) (by rw [big_at hj]; ac_rfl)
    rw [eg, eLs] at t
    obtain ⟨X, tX⟩ := grw_old t
    obtain ⟨X2, tX2⟩ := grw_new t
    obtain ⟨ra, rc, er, _⟩ := tX.own_val
    obtain ⟨ga, gc, eg2, _⟩ := tX2.own_val
    refine ⟨g, ra, rc, ga, gc, eg, er, eg2, fun k hk => ?_, fun k hk => ?_⟩
    · obtain ⟨b, cap, e1, _, hc⟩ := tX.own_at (by omega)
      rw [er] at e1
      cases e1
      refine ⟨b, rfl, hc _ _ ?_⟩
      have hm := hZm' j hj k hk
      have hget : (Z' j)[k] = -1000 * (j : Int) - k - 1 := by rw [List.getElem?_eq_getElem hk] at hm; simpa using hm
      rw [← hget]; exact ints_at2 hk
    · obtain ⟨b, cap, e1, _, hc⟩ := tX2.own_at (by omega)
      rw [eg2] at e1
      cases e1
      refine ⟨b, rfl, hc _ _ ?_⟩
      have h80 : k < (freshI j 80).length := by simp [freshI]; exact hk
      have hget : (freshI j 80)[k] = 1000 * (j : Int) + k := by simp [freshI]
      have hzl : (ints (Z' j)).length = (Z' j).length := by simp [ints]
      rw [List.getElem?_append_right (by omega), hzl, Nat.add_sub_cancel_left, ← hget]
      exact ints_at2 h80
  refine loopI (fun env w' => ∃ (q : Nat) (o19 o20 : Value), env = [.slice a1 n c1, .slice a2 m c2, .bool false, .int .i64 n, o4, .int .i64 m, o6, .slice la n lc, .int .i64 n, o9, o10, .slice ga0 m gc0, .int .i64 m, o13, o14, .int .i64 q0, o16, o17, .int .i64 q, o19, o20] ∧ q ≤ m ∧
      St w0 (A * bigA GL G2' m * MM * own 47 1 (.slice ga0 m gc0) m ((List.range m).map fun j => gv (G2' j))) w')
    (fun env _ => m - slotN env 18) ⟨0, _, _, rfl, by omega, s''⟩ ?_
  clear s''
  rintro LQ env w' ⟨q, o19, o20, rfl, hq, s'⟩ hN hE hR
  simp
  refine cndI (fun h => ?_) (fun h => ?_)
  · simp at h
    obtain ⟨g2, b2, c2', hv, hc2⟩ := h2.at (by omega)
    cases hv
    simp [h]
    obtain ⟨g, ra, rc, ga, gc, eg, er, eg2, _, _⟩ := listsAt h s'
    have hload : ∀ w, St w0 (A * bigA GL G2' m * MM * own 47 1 (.slice ga0 m gc0) m ((List.range m).map fun j => gv (G2' j))) w → w.cell? ⟨g2, b2 + q, none⟩ = some (.slice ra (Z' q).length rc) := fun w s => by
      rw [← er]; exact hc2 _ s.drop.drop.drop q _ (range_at h)
    refine eff_ldc (hload _ s') ?_
    simp
    refine loopI (fun env w' => ∃ (k : Nat), env = [.slice a1 n c1, .slice (some ⟨g2, b2, none⟩) m c2, .bool false, .int .i64 n, o4, .int .i64 m, o6, .slice la n lc, .int .i64 n, o9, o10, .slice ga0 m gc0, .int .i64 m, o13, o14, .int .i64 q0, o16, o17, .int .i64 q, .int .i64 (Z' q).length, .int .i64 k] ∧ k ≤ (Z' q).length + 80 ∧
        St w0 (A * bigA GL G2' m * MM * own 47 1 (.slice ga0 m gc0) m ((List.range m).map fun j => gv (G2' j))) w')
      (fun env _ => (Z' q).length + 80 - slotN env 20) ⟨0, rfl, by omega, s'⟩ ?_
    clear s'
    rintro LQ2 env w2 ⟨k, rfl, hk, s2⟩ hN2 hE2 hR2
    have hyL := hZ' q
    simp
    try simp (disch := omega) only [wrap64]
    refine cndI (fun h3 => ?_) (fun h3 => ?_)
    · simp at h3
      obtain ⟨g', ra', rc', ga', gc', eg', er', eg2', hin1, hin2⟩ := listsAt h s2
      rw [er] at er'
      cases er'
      rw [eg] at eg'
      cases eg'
      rw [eg2] at eg2'
      cases eg2'
      by_cases hkn : k < (Z' q).length
      · obtain ⟨b, rfl, hcell⟩ := hin1 k hkn
        have hnk : ¬ ((Z' q).length ≤ k) := by omega
        simp [hkn, h, hnk]
        refine eff_ldc (hload _ s2) ?_
        simp [hkn]
        refine eff_ldc hcell ?_
        simp
        try simp (disch := omega) only [wrap64]
        simp [hkn, hnk]
        try simp (disch := omega) only [wrap64]
        exact hN2 _ _ ⟨k + 1, by simp, by omega, s2⟩ (by simp [slotN]; omega)
      · obtain ⟨b, rfl, hcell⟩ := hin2 (k - (Z' q).length) (by omega)
        obtain ⟨lb, rfl, hlong⟩ := longAt h s2
        have hkn2 : (Z' q).length ≤ k := by omega
        have ek : (Z' q).length + (k - (Z' q).length) = k := by omega
        rw [ek] at hcell
        rw [eg, eg2] at hlong
        change _ = some (Value.slice (some ⟨b, 0, none⟩) ((Z' q).length + 80) gc) at hlong
        have hlt : (k : Int) < (Z' q).length + 80 := by omega
        simp [hkn, h, hkn2]
        refine eff_ldc hlong ?_
        simp [hkn, hkn2, hlt]
        refine eff_ldc hcell ?_
        simp [hkn, hkn2]
        try simp (disch := omega) only [wrap64]
        have ek2 : ((k - (Z' q).length : Nat) : Int) = (k : Int) - (Z' q).length := by omega
        rw [ek2]
        have ek3 : 1000 * (q : Int) + ((k : Int) - (Z' q).length) = 1000 * (q : Int) + k - (Z' q).length := by omega
        simp [ek3, hkn, hkn2]
        try simp (disch := omega) only [wrap64]
        exact hN2 _ _ ⟨k + 1, by simp, by omega, s2⟩ (by simp [slotN]; omega)
    · simp at h3
      simp
      refine hE2 _ _ _ ?_
      simp
      try simp (disch := omega) only [wrap64]
      exact hN _ _ ⟨q + 1, .int .i64 (Z' q).length, .int .i64 k, by simp, by omega, s2⟩ (by simp [slotN]; omega)
  simp at h
  simp
  refine hE _ _ _ ?_
  simp
  exact s'.drop.drop.drop
end Go.HL.Wh
