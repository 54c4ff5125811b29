/-
  strings.Compare, cmp.Or, Compare of name. Conditions: texts within the bound.
-/
import Derived.Test.YtjecnlekmmkbmaaNmS
import Derived.Lib.Bytealg
namespace Go.HL.Nm
open Go.HL Go.Proofs
set_option maxRecDepth 4000
set_option linter.unusedSimpArgs false
set_option linter.unusedVariables false
-- internal/bytealg.CompareString
def h52_0 : HC := (.seq (.reg (.eff (.cext 56) (.cons (.inp 0) (.cons (.inp 1) .nil)) (.done [(2, (.bv 0))] none))) .ret)
@[simp] theorem h52_0_wp {P : Program} {F : PF P} {Q : EX → List Value → World → Prop} {env : List Value} {w : World} : h52_0.wp F Q env w = HC.wp F (.seq (.reg (.eff (.cext 56) (.cons (.inp 0) (.cons (.inp 1) .nil)) (.done [(2, (.bv 0))] none))) .ret) Q env w := rfl
def l52 : Lifted := ⟨[0, 1, 4], 8, [.slot 2], (.seq (.reg (.done [(2, (.cst (.int .i64 0)))] none)) h52_0)⟩
theorem l52_ok : liftFn F4 52 400 = some l52 := by kernel_rfl

-- strings.Compare
def h43_0 : HC := (.seq (.reg (.eff (.call 52) (.cons (.inp 0) (.cons (.inp 1) .nil)) (.done [(2, (.bv 0))] none))) .ret)
@[simp] theorem h43_0_wp {P : Program} {F : PF P} {Q : EX → List Value → World → Prop} {env : List Value} {w : World} : h43_0.wp F Q env w = HC.wp F (.seq (.reg (.eff (.call 52) (.cons (.inp 0) (.cons (.inp 1) .nil)) (.done [(2, (.bv 0))] none))) .ret) Q env w := rfl
def l43 : Lifted := ⟨[0, 1, 4], 8, [.slot 2], (.seq (.reg (.done [(2, (.cst (.int .i64 0)))] none)) h43_0)⟩
theorem l43_ok : liftFn F4 43 400 = some l43 := by kernel_rfl

-- cmp.Or[int]
def h41_0 : HC := (.seq (.reg (.done [(1, (.inp 2))] none)) .ret)
@[simp] theorem h41_0_wp {P : Program} {F : PF P} {Q : EX → List Value → World → Prop} {env : List Value} {w : World} : h41_0.wp F Q env w = HC.wp F (.seq (.reg (.done [(1, (.inp 2))] none)) .ret) Q env w := rfl
def h41_1 : HC := (.reg (.chk none (.bin .add) (.cons (.inp 6) (.cons (.cst (.int .i64 1)) .nil)) (.done [(6, (.op (.bin .add) (.cons (.inp 6) (.cons (.cst (.int .i64 1)) .nil))))] none)))
@[simp] theorem h41_1_wp {P : Program} {F : PF P} {Q : EX → List Value → World → Prop} {env : List Value} {w : World} : h41_1.wp F Q env w = HC.wp F (.reg (.chk none (.bin .add) (.cons (.inp 6) (.cons (.cst (.int .i64 1)) .nil)) (.done [(6, (.op (.bin .add) (.cons (.inp 6) (.cons (.cst (.int .i64 1)) .nil))))] none))) Q env w := rfl
def h41_2 : HC := (.seq (.reg (.done [(1, (.inp 3))] none)) .ret)
@[simp] theorem h41_2_wp {P : Program} {F : PF P} {Q : EX → List Value → World → Prop} {env : List Value} {w : World} : h41_2.wp F Q env w = HC.wp F (.seq (.reg (.done [(1, (.inp 3))] none)) .ret) Q env w := rfl
def h41_3 : HC := (.br (.chk none (.bin .neq) (.cons (.inp 3) (.cons (.inp 2) .nil)) (.done [] (some (.op (.bin .neq) (.cons (.inp 3) (.cons (.inp 2) .nil)))))) h41_2 .skip)
@[simp] theorem h41_3_wp {P : Program} {F : PF P} {Q : EX → List Value → World → Prop} {env : List Value} {w : World} : h41_3.wp F Q env w = HC.wp F (.br (.chk none (.bin .neq) (.cons (.inp 3) (.cons (.inp 2) .nil)) (.done [] (some (.op (.bin .neq) (.cons (.inp 3) (.cons (.inp 2) .nil)))))) h41_2 .skip) Q env w := rfl
def h41_4 : HC := (.seq (.reg (.chk none (.idxL 1) (.cons (.inp 4) (.cons (.inp 6) .nil)) (.eff (.ld false 1) (.cons (.op (.idxL 1) (.cons (.inp 4) (.cons (.inp 6) .nil))) .nil) (.done [(3, (.bv 0))] none)))) h41_3)
@[simp] theorem h41_4_wp {P : Program} {F : PF P} {Q : EX → List Value → World → Prop} {env : List Value} {w : World} : h41_4.wp F Q env w = HC.wp F (.seq (.reg (.chk none (.idxL 1) (.cons (.inp 4) (.cons (.inp 6) .nil)) (.eff (.ld false 1) (.cons (.op (.idxL 1) (.cons (.inp 4) (.cons (.inp 6) .nil))) .nil) (.done [(3, (.bv 0))] none)))) h41_3) Q env w := rfl
def h41_5 : HC := (.seq (.block 1 h41_4) h41_1)
@[simp] theorem h41_5_wp {P : Program} {F : PF P} {Q : EX → List Value → World → Prop} {env : List Value} {w : World} : h41_5.wp F Q env w = HC.wp F (.seq (.block 1 h41_4) h41_1) Q env w := rfl
def h41_6 : HC := (.seq (.br (.chk none (.bin .lss) (.cons (.inp 6) (.cons (.inp 5) .nil)) (.done [] (some (.op (.bin .lss) (.cons (.inp 6) (.cons (.inp 5) .nil)))))) .skip (.exit 0)) h41_5)
@[simp] theorem h41_6_wp {P : Program} {F : PF P} {Q : EX → List Value → World → Prop} {env : List Value} {w : World} : h41_6.wp F Q env w = HC.wp F (.seq (.br (.chk none (.bin .lss) (.cons (.inp 6) (.cons (.inp 5) .nil)) (.done [] (some (.op (.bin .lss) (.cons (.inp 6) (.cons (.inp 5) .nil)))))) .skip (.exit 0)) h41_5) Q env w := rfl
def h41_7 : HC := (.loop h41_6)
@[simp] theorem h41_7_wp {P : Program} {F : PF P} {Q : EX → List Value → World → Prop} {env : List Value} {w : World} : h41_7.wp F Q env w = HC.wp F (.loop h41_6) Q env w := rfl
def h41_8 : HC := (.seq (.block 0 h41_7) h41_0)
@[simp] theorem h41_8_wp {P : Program} {F : PF P} {Q : EX → List Value → World → Prop} {env : List Value} {w : World} : h41_8.wp F Q env w = HC.wp F (.seq (.block 0 h41_7) h41_0) Q env w := rfl
def h41_9 : HC := (.seq (.reg (.chk none .lenL (.cons (.inp 0) .nil) (.done [(4, (.inp 0)), (5, (.op .lenL (.cons (.inp 0) .nil))), (6, (.cst (.int .i64 0)))] none))) h41_8)
@[simp] theorem h41_9_wp {P : Program} {F : PF P} {Q : EX → List Value → World → Prop} {env : List Value} {w : World} : h41_9.wp F Q env w = HC.wp F (.seq (.reg (.chk none .lenL (.cons (.inp 0) .nil) (.done [(4, (.inp 0)), (5, (.op .lenL (.cons (.inp 0) .nil))), (6, (.cst (.int .i64 0)))] none))) h41_8) Q env w := rfl
def h41_10 : HC := (.seq (.reg (.done [(2, (.cst (.int .i64 0)))] none)) h41_9)
@[simp] theorem h41_10_wp {P : Program} {F : PF P} {Q : EX → List Value → World → Prop} {env : List Value} {w : World} : h41_10.wp F Q env w = HC.wp F (.seq (.reg (.done [(2, (.cst (.int .i64 0)))] none)) h41_9) Q env w := rfl
def l41 : Lifted := ⟨[0, 2, 3, 5, 6, 7, 8], 18, [.slot 1], (.seq (.reg (.done [(1, (.cst (.int .i64 0)))] none)) h41_10)⟩
theorem l41_ok : liftFn F4 41 400 = some l41 := by kernel_rfl

-- bazaar/name.Compare
def h24_0 : HC := (.seq (.reg (.eff (.call 35) (.cons (.inp 0) .nil) (.eff (.call 35) (.cons (.inp 1) .nil) (.eff (.call 42) (.cons (.bv 0) (.cons (.bv 1) .nil)) (.eff (.call 43) (.cons (.inp 0) (.cons (.inp 1) .nil)) (.eff (.bsl 3 2 1 #[(.int .i64 0)] [0, 1]) (.cons (.bv 2) (.cons (.bv 3) .nil)) (.eff (.call 41) (.cons (.bv 4) .nil) (.done [(2, (.bv 5))] none)))))))) .ret)
@[simp] theorem h24_0_wp {P : Program} {F : PF P} {Q : EX → List Value → World → Prop} {env : List Value} {w : World} : h24_0.wp F Q env w = HC.wp F (.seq (.reg (.eff (.call 35) (.cons (.inp 0) .nil) (.eff (.call 35) (.cons (.inp 1) .nil) (.eff (.call 42) (.cons (.bv 0) (.cons (.bv 1) .nil)) (.eff (.call 43) (.cons (.inp 0) (.cons (.inp 1) .nil)) (.eff (.bsl 3 2 1 #[(.int .i64 0)] [0, 1]) (.cons (.bv 2) (.cons (.bv 3) .nil)) (.eff (.call 41) (.cons (.bv 4) .nil) (.done [(2, (.bv 5))] none)))))))) .ret) Q env w := rfl
def l24 : Lifted := ⟨[0, 1, 4], 15, [.slot 2], (.seq (.reg (.done [(2, (.cst (.int .i64 0)))] none)) h24_0)⟩
theorem l24_ok : liftFn F4 24 400 = some l24 := by kernel_rfl


theorem compareBytes_cmpB : ∀ x y : List UInt8, Go.Lib.compareBytes x y = cmpB x y
  | [], [] => rfl
  | [], b :: y => by simp [Go.Lib.compareBytes, cmpB, Op.bytesLess]
  | a :: x, [] => by simp [Go.Lib.compareBytes, cmpB, Op.bytesLess]
  | a :: x, b :: y => by
    have ih := compareBytes_cmpB x y
    rw [Go.Lib.compareBytes, ih]
    by_cases h : a < b
    · simp [cmpB, Op.bytesLess, h]
    · by_cases h2 : b < a
      · have hne : a ≠ b := by intro e; subst e; exact h h2
        simp [cmpB, Op.bytesLess, h, h2, hne]
      · have e : a = b := by
          apply UInt8.toNat_inj.1
          rw [UInt8.lt_iff_toNat_lt] at h h2
          omega
        subst e
        simp [cmpB, Op.bytesLess, h]
theorem eff_cmpstr {x y : List UInt8} {K : Value → World → Prop} {w : World} (hk : K (.int .i64 (cmpB x y)) w) : EffW Try.prog (.cext 56) [.string (mk x), .string (mk y)] K w := by
  intro _
  unfold UponW
  have h := run_callFunc_extern (P := Try.prog) (f := 56) (fn := Try.f56) (e := Extern.BytealgCompare.compare) Try.func56 (by kernel_rfl) (by kernel_rfl) (by kernel_rfl) (by kernel_rfl) #[.string (mk x), .string (mk y)] w
  rw [Go.Lib.run_compareString] at h
  simp only [EO.sem]
  rw [h]
  simp only [Result.andThen, mk_data, compareBytes_cmpB]
  exact hk
theorem cmpstr_spec (x y : List UInt8) (w : World) : CallW Try.prog 52 [.string (mk x), .string (mk y)] (fun r w' => r = .int .i64 (cmpB x y) ∧ w' = w) w := by
  refine callW_of_lift l52_ok (by simp [l52]) ?_
  simp [l52]
  refine eff_cmpstr ?_
  simp
theorem strcmp_spec (x y : List UInt8) (w : World) : CallW Try.prog 43 [.string (mk x), .string (mk y)] (fun r w' => r = .int .i64 (cmpB x y) ∧ w' = w) w := by
  refine callW_of_lift l43_ok (by simp [l43]) ?_
  simp [l43]
  refine eff_call ((cmpstr_spec x y w).mono ?_)
  rintro r w1 ⟨rfl, rfl⟩
  simp
theorem or_spec (a b : Int) (bk : Nat) (w0 w : World) (A : Asn) (s : St w0 (A * pt bk (.cells #[.int .i64 a, .int .i64 b] 3 (0, 0))) w) :
    CallW Try.prog 41 [.slice (some ⟨bk, 0, none⟩) 2 2] (fun r w' => r = .int .i64 (if a = 0 then b else a) ∧ St w0 A w') w := by
  have h0 : w.cell? ⟨bk, 0, none⟩ = some (.int .i64 a) := by rw [cell_of s.look]; rfl
  have h1 : w.cell? ⟨bk, 1, none⟩ = some (.int .i64 b) := by rw [cell_of s.look]; rfl
  refine callW_of_lift l41_ok (by simp [l41]) ?_
  simp [l41]
  refine loopI (fun env w' => ∃ (i : Nat) (o : Value), env = [.slice (some ⟨bk, 0, none⟩) 2 2, .int .i64 0, .int .i64 0, o, .slice (some ⟨bk, 0, none⟩) 2 2, .int .i64 2, .int .i64 i] ∧ i ≤ 2 ∧ (0 < i → a = 0) ∧ (1 < i → b = 0) ∧ w' = w)
    (fun env _ => 2 - slotN env 6) ⟨0, _, rfl, by omega, by omega, by omega, rfl⟩ ?_
  rintro LQ env w' ⟨i, o, rfl, hi, ha, hb, rfl⟩ hN hE hR
  simp
  refine cndI (fun h2 => ?_) (fun h2 => ?_)
  · simp at h2
    have hi2 : i = 0 ∨ i = 1 := by omega
    rcases hi2 with rfl | rfl
    · simp
      refine eff_ldc h0 ?_
      simp
      by_cases e : a = 0
      · simp [e]
        try simp (disch := omega) only [wrap64]
        exact hN _ _ ⟨1, _, by simp; rfl, by omega, fun _ => e, by omega, rfl⟩ (by simp [slotN])
      · simp [e]
        refine hR _ _ ?_
        simp [e]
        exact s.drop
    · simp
      refine eff_ldc h1 ?_
      simp
      by_cases e : b = 0
      · simp [e]
        try simp (disch := omega) only [wrap64]
        exact hN _ _ ⟨2, _, by simp; rfl, by omega, fun _ => ha (by omega), fun _ => e, rfl⟩ (by simp [slotN])
      · simp [e]
        refine hR _ _ ?_
        simp [ha (by omega)]
        exact s.drop
  · simp at h2
    simp
    refine hE _ _ _ ?_
    simp [ha (by omega), hb (by omega)]
    exact s.drop
theorem Compare_spec (x y : List UInt8) (w0 w : World) (A : Asn) (hx : x.length ≤ 1048576) (hy : y.length ≤ 1048576) (s : St w0 A w) :
    CallW Try.prog 24 [.string (mk x), .string (mk y)] (fun r w' => r = .int .i64 (compareF x y) ∧ St w0 A w') w := by
  have hfx := folded_len x
  have hfy := folded_len y
  unfold compareF
  refine callW_of_lift l24_ok (by simp [l24]) ?_
  simp [l24]
  refine eff_call ((folded_spec x w0 w A hx s).mono ?_)
  intro v1 w1 s1
  simp
  refine eff_call ((folded_spec y w0 w1 _ hy s1).mono ?_)
  intro v2 w2 s2
  have view1 : View w0 _ .i32 v1 (foldedF x) := view_own s2.swap
  have view2 : View w0 (A * own 21 1 v1 (foldedF x).length (ints32 (foldedF x)) * own 21 1 v2 (foldedF y).length (ints32 (foldedF y))) .i32 v2 (foldedF y) := view_own s2
  replace view1 := view1.mono (fun w (s : St w0 (A * own 21 1 v1 (foldedF x).length (ints32 (foldedF x)) * own 21 1 v2 (foldedF y).length (ints32 (foldedF y))) w) => s.swap)
  simp
  refine eff_call ((scmp_spec _ _ v1 v2 w0 w2 _ (by omega) (by omega) view1 view2 s2).mono ?_)
  rintro r w3 ⟨rfl, s3⟩
  simp
  refine eff_call ((strcmp_spec x y w3).mono ?_)
  rintro r w4 ⟨rfl, rfl⟩
  simp
  refine eff_bsl2 s3 rfl rfl ?_
  intro b5 w5 s5
  simp
  refine eff_call ((or_spec _ _ b5 w0 w5 _ s5).mono ?_)
  rintro r w6 ⟨rfl, s6⟩
  simp
  exact s6.drop.drop
end Go.HL.Nm
