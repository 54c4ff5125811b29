/-
  Wheel: From, All. Conditions: so many timers at most.
-/
import Derived.Test.YtngjaibngkhidaaWhQ
namespace Go.HL.Wh
open Go.HL Go.Proofs
set_option maxRecDepth 4000
set_option linter.unusedSimpArgs false
set_option linter.unusedVariables false
-- bazaar/wheel.From
def h18_0 : HC := (.seq (.reg (.done [(2, (.inp 4)), (3, (.cst (.int .i64 0)))] none)) .ret)
@[simp] theorem h18_0_wp {P : Program} {F : PF P} {Q : EX → List Value → World → Prop} {env : List Value} {w : World} : h18_0.wp F Q env w = HC.wp F (.seq (.reg (.done [(2, (.inp 4)), (3, (.cst (.int .i64 0)))] none)) .ret) Q env w := rfl
def h18_1 : HC := (.seq (.reg (.done [(2, (.cst (.pointer none))), (3, (.inp 5))] none)) .ret)
@[simp] theorem h18_1_wp {P : Program} {F : PF P} {Q : EX → List Value → World → Prop} {env : List Value} {w : World} : h18_1.wp F Q env w = HC.wp F (.seq (.reg (.done [(2, (.cst (.pointer none))), (3, (.inp 5))] none)) .ret) Q env w := rfl
def h18_2 : HC := (.seq (.br (.chk none (.bin .neq) (.cons (.inp 5) (.cons (.cst (.int .i64 0)) .nil)) (.done [] (some (.op (.bin .neq) (.cons (.inp 5) (.cons (.cst (.int .i64 0)) .nil)))))) h18_1 .skip) h18_0)
@[simp] theorem h18_2_wp {P : Program} {F : PF P} {Q : EX → List Value → World → Prop} {env : List Value} {w : World} : h18_2.wp F Q env w = HC.wp F (.seq (.br (.chk none (.bin .neq) (.cons (.inp 5) (.cons (.cst (.int .i64 0)) .nil)) (.done [] (some (.op (.bin .neq) (.cons (.inp 5) (.cons (.cst (.int .i64 0)) .nil)))))) h18_1 .skip) h18_0) Q env w := rfl
def h18_3 : HC := (.reg (.chk none (.bin .add) (.cons (.inp 9) (.cons (.cst (.int .i64 1)) .nil)) (.done [(9, (.op (.bin .add) (.cons (.inp 9) (.cons (.cst (.int .i64 1)) .nil))))] none)))
@[simp] theorem h18_3_wp {P : Program} {F : PF P} {Q : EX → List Value → World → Prop} {env : List Value} {w : World} : h18_3.wp F Q env w = HC.wp F (.reg (.chk none (.bin .add) (.cons (.inp 9) (.cons (.cst (.int .i64 1)) .nil)) (.done [(9, (.op (.bin .add) (.cons (.inp 9) (.cons (.cst (.int .i64 1)) .nil))))] none))) Q env w := rfl
def h18_4 : HC := (.reg (.chk none (.fld 0) (.cons (.inp 6) .nil) (.eff (.ld false 1) (.cons (.op (.fld 0) (.cons (.inp 6) .nil)) .nil) (.chk none (.fld 1) (.cons (.inp 6) .nil) (.eff (.ld false 1) (.cons (.op (.fld 1) (.cons (.inp 6) .nil)) .nil) (.eff (.call 12) (.cons (.inp 4) (.cons (.bv 0) (.cons (.bv 1) .nil))) (.done [(5, (.bv 2))] none)))))))
@[simp] theorem h18_4_wp {P : Program} {F : PF P} {Q : EX → List Value → World → Prop} {env : List Value} {w : World} : h18_4.wp F Q env w = HC.wp F (.reg (.chk none (.fld 0) (.cons (.inp 6) .nil) (.eff (.ld false 1) (.cons (.op (.fld 0) (.cons (.inp 6) .nil)) .nil) (.chk none (.fld 1) (.cons (.inp 6) .nil) (.eff (.ld false 1) (.cons (.op (.fld 1) (.cons (.inp 6) .nil)) .nil) (.eff (.call 12) (.cons (.inp 4) (.cons (.bv 0) (.cons (.bv 1) .nil))) (.done [(5, (.bv 2))] none))))))) Q env w := rfl
def h18_5 : HC := (.br (.chk none (.bin .eql) (.cons (.inp 5) (.cons (.cst (.int .i64 0)) .nil)) (.done [] (some (.op (.bin .eql) (.cons (.inp 5) (.cons (.cst (.int .i64 0)) .nil)))))) h18_4 .skip)
@[simp] theorem h18_5_wp {P : Program} {F : PF P} {Q : EX → List Value → World → Prop} {env : List Value} {w : World} : h18_5.wp F Q env w = HC.wp F (.br (.chk none (.bin .eql) (.cons (.inp 5) (.cons (.cst (.int .i64 0)) .nil)) (.done [] (some (.op (.bin .eql) (.cons (.inp 5) (.cons (.cst (.int .i64 0)) .nil)))))) h18_4 .skip) Q env w := rfl
def h18_6 : HC := (.seq (.reg (.chk none (.idxL 2) (.cons (.inp 7) (.cons (.inp 9) .nil)) (.eff (.ld true 2) (.cons (.op (.idxL 2) (.cons (.inp 7) (.cons (.inp 9) .nil))) .nil) (.eff (.new 32 (.agg #[(.int .i64 0), (.int .i64 0)])) .nil (.eff (.st 2) (.cons (.bv 1) (.cons (.bv 0) .nil)) (.done [(6, (.bv 1))] none)))))) h18_5)
@[simp] theorem h18_6_wp {P : Program} {F : PF P} {Q : EX → List Value → World → Prop} {env : List Value} {w : World} : h18_6.wp F Q env w = HC.wp F (.seq (.reg (.chk none (.idxL 2) (.cons (.inp 7) (.cons (.inp 9) .nil)) (.eff (.ld true 2) (.cons (.op (.idxL 2) (.cons (.inp 7) (.cons (.inp 9) .nil))) .nil) (.eff (.new 32 (.agg #[(.int .i64 0), (.int .i64 0)])) .nil (.eff (.st 2) (.cons (.bv 1) (.cons (.bv 0) .nil)) (.done [(6, (.bv 1))] none)))))) h18_5) Q env w := rfl
def h18_7 : HC := (.seq (.block 1 h18_6) h18_3)
@[simp] theorem h18_7_wp {P : Program} {F : PF P} {Q : EX → List Value → World → Prop} {env : List Value} {w : World} : h18_7.wp F Q env w = HC.wp F (.seq (.block 1 h18_6) h18_3) Q env w := rfl
def h18_8 : HC := (.seq (.br (.chk none (.bin .lss) (.cons (.inp 9) (.cons (.inp 8) .nil)) (.done [] (some (.op (.bin .lss) (.cons (.inp 9) (.cons (.inp 8) .nil)))))) .skip (.exit 0)) h18_7)
@[simp] theorem h18_8_wp {P : Program} {F : PF P} {Q : EX → List Value → World → Prop} {env : List Value} {w : World} : h18_8.wp F Q env w = HC.wp F (.seq (.br (.chk none (.bin .lss) (.cons (.inp 9) (.cons (.inp 8) .nil)) (.done [] (some (.op (.bin .lss) (.cons (.inp 9) (.cons (.inp 8) .nil)))))) .skip (.exit 0)) h18_7) Q env w := rfl
def h18_9 : HC := (.loop h18_8)
@[simp] theorem h18_9_wp {P : Program} {F : PF P} {Q : EX → List Value → World → Prop} {env : List Value} {w : World} : h18_9.wp F Q env w = HC.wp F (.loop h18_8) Q env w := rfl
def h18_10 : HC := (.seq (.block 0 h18_9) h18_2)
@[simp] theorem h18_10_wp {P : Program} {F : PF P} {Q : EX → List Value → World → Prop} {env : List Value} {w : World} : h18_10.wp F Q env w = HC.wp F (.seq (.block 0 h18_9) h18_2) Q env w := rfl
def h18_11 : HC := (.seq (.reg (.chk none .lenL (.cons (.inp 1) .nil) (.done [(7, (.inp 1)), (8, (.op .lenL (.cons (.inp 1) .nil))), (9, (.cst (.int .i64 0)))] none))) h18_10)
@[simp] theorem h18_11_wp {P : Program} {F : PF P} {Q : EX → List Value → World → Prop} {env : List Value} {w : World} : h18_11.wp F Q env w = HC.wp F (.seq (.reg (.chk none .lenL (.cons (.inp 1) .nil) (.done [(7, (.inp 1)), (8, (.op .lenL (.cons (.inp 1) .nil))), (9, (.cst (.int .i64 0)))] none))) h18_10) Q env w := rfl
def h18_12 : HC := (.seq (.reg (.eff (.call 9) (.cons (.inp 0) .nil) (.chk none (.ext 0) (.cons (.bv 0) .nil) (.chk none (.ext 1) (.cons (.bv 0) .nil) (.done [(4, (.op (.ext 0) (.cons (.bv 0) .nil))), (5, (.op (.ext 1) (.cons (.bv 0) .nil)))] none))))) h18_11)
@[simp] theorem h18_12_wp {P : Program} {F : PF P} {Q : EX → List Value → World → Prop} {env : List Value} {w : World} : h18_12.wp F Q env w = HC.wp F (.seq (.reg (.eff (.call 9) (.cons (.inp 0) .nil) (.chk none (.ext 0) (.cons (.bv 0) .nil) (.chk none (.ext 1) (.cons (.bv 0) .nil) (.done [(4, (.op (.ext 0) (.cons (.bv 0) .nil))), (5, (.op (.ext 1) (.cons (.bv 0) .nil)))] none))))) h18_11) Q env w := rfl
def l18 : Lifted := ⟨[0, 1, 4, 5, 6, 7, 9, 15, 16, 17], 34, [.slot 2, .slot 3], (.seq (.reg (.done [(2, (.cst (.pointer none))), (3, (.cst (.int .i64 0)))] none)) h18_12)⟩
theorem l18_ok : liftFn U2 18 400 = some l18 := by kernel_rfl

-- (*bazaar/wheel.Wheel).All
def h20_0 : HC := (.seq (.reg (.done [(1, (.inp 2))] none)) .ret)
@[simp] theorem h20_0_wp {P : Program} {F : PF P} {Q : EX → List Value → World → Prop} {env : List Value} {w : World} : h20_0.wp F Q env w = HC.wp F (.seq (.reg (.done [(1, (.inp 2))] none)) .ret) Q env w := rfl
def h20_1 : HC := (.seq (.reg (.eff (.call 33) (.cons (.inp 2) (.cons (.cst (.func (.func 34) #[] #[])) .nil)) (.done [] none))) h20_0)
@[simp] theorem h20_1_wp {P : Program} {F : PF P} {Q : EX → List Value → World → Prop} {env : List Value} {w : World} : h20_1.wp F Q env w = HC.wp F (.seq (.reg (.eff (.call 33) (.cons (.inp 2) (.cons (.cst (.func (.func 34) #[] #[])) .nil)) (.done [] none))) h20_0) Q env w := rfl
def h20_2 : HC := (.reg (.chk none .chkp (.cons (.inp 3) .nil) (.chk none (.fld 0) (.cons (.op .chkp (.cons (.inp 3) .nil)) .nil) (.eff (.ld true 2) (.cons (.op (.fld 0) (.cons (.op .chkp (.cons (.inp 3) .nil)) .nil)) .nil) (.eff (.bsl 32 1 2 #[(.int .i64 0), (.int .i64 0)] [0]) (.cons (.bv 0) .nil) (.eff (.app 38 38 32 2 16 (.agg #[(.int .i64 0), (.int .i64 0)])) (.cons (.inp 2) (.cons (.bv 1) .nil)) (.done [(2, (.bv 2))] none)))))))
@[simp] theorem h20_2_wp {P : Program} {F : PF P} {Q : EX → List Value → World → Prop} {env : List Value} {w : World} : h20_2.wp F Q env w = HC.wp F (.reg (.chk none .chkp (.cons (.inp 3) .nil) (.chk none (.fld 0) (.cons (.op .chkp (.cons (.inp 3) .nil)) .nil) (.eff (.ld true 2) (.cons (.op (.fld 0) (.cons (.op .chkp (.cons (.inp 3) .nil)) .nil)) .nil) (.eff (.bsl 32 1 2 #[(.int .i64 0), (.int .i64 0)] [0]) (.cons (.bv 0) .nil) (.eff (.app 38 38 32 2 16 (.agg #[(.int .i64 0), (.int .i64 0)])) (.cons (.inp 2) (.cons (.bv 1) .nil)) (.done [(2, (.bv 2))] none))))))) Q env w := rfl
def h20_3 : HC := (.seq (.reg (.eff .ent (.cons (.inp 4) .nil) (.chk none (.ext 1) (.cons (.bv 0) .nil) (.done [(3, (.op (.ext 1) (.cons (.bv 0) .nil)))] none)))) h20_2)
@[simp] theorem h20_3_wp {P : Program} {F : PF P} {Q : EX → List Value → World → Prop} {env : List Value} {w : World} : h20_3.wp F Q env w = HC.wp F (.seq (.reg (.eff .ent (.cons (.inp 4) .nil) (.chk none (.ext 1) (.cons (.bv 0) .nil) (.done [(3, (.op (.ext 1) (.cons (.bv 0) .nil)))] none)))) h20_2) Q env w := rfl
def h20_4 : HC := (.block 1 h20_3)
@[simp] theorem h20_4_wp {P : Program} {F : PF P} {Q : EX → List Value → World → Prop} {env : List Value} {w : World} : h20_4.wp F Q env w = HC.wp F (.block 1 h20_3) Q env w := rfl
def h20_5 : HC := (.seq (.br (.eff (.nxt false 0) (.cons (.inp 4) .nil) (.chk none (.ext 0) (.cons (.bv 0) .nil) (.done [] (some (.op (.ext 0) (.cons (.bv 0) .nil)))))) .skip (.exit 0)) h20_4)
@[simp] theorem h20_5_wp {P : Program} {F : PF P} {Q : EX → List Value → World → Prop} {env : List Value} {w : World} : h20_5.wp F Q env w = HC.wp F (.seq (.br (.eff (.nxt false 0) (.cons (.inp 4) .nil) (.chk none (.ext 0) (.cons (.bv 0) .nil) (.done [] (some (.op (.ext 0) (.cons (.bv 0) .nil)))))) .skip (.exit 0)) h20_4) Q env w := rfl
def h20_6 : HC := (.loop h20_5)
@[simp] theorem h20_6_wp {P : Program} {F : PF P} {Q : EX → List Value → World → Prop} {env : List Value} {w : World} : h20_6.wp F Q env w = HC.wp F (.loop h20_5) Q env w := rfl
def h20_7 : HC := (.seq (.block 0 h20_6) h20_1)
@[simp] theorem h20_7_wp {P : Program} {F : PF P} {Q : EX → List Value → World → Prop} {env : List Value} {w : World} : h20_7.wp F Q env w = HC.wp F (.seq (.block 0 h20_6) h20_1) Q env w := rfl
def h20_8 : HC := (.seq (.reg (.chk none .chkp (.cons (.inp 0) .nil) (.chk none (.fld 2) (.cons (.op .chkp (.cons (.inp 0) .nil)) .nil) (.eff (.ld false 1) (.cons (.op (.fld 2) (.cons (.op .chkp (.cons (.inp 0) .nil)) .nil)) .nil) (.eff (.rng 72) (.cons (.bv 0) .nil) (.done [(4, (.bv 1))] none)))))) h20_7)
@[simp] theorem h20_8_wp {P : Program} {F : PF P} {Q : EX → List Value → World → Prop} {env : List Value} {w : World} : h20_8.wp F Q env w = HC.wp F (.seq (.reg (.chk none .chkp (.cons (.inp 0) .nil) (.chk none (.fld 2) (.cons (.op .chkp (.cons (.inp 0) .nil)) .nil) (.eff (.ld false 1) (.cons (.op (.fld 2) (.cons (.op .chkp (.cons (.inp 0) .nil)) .nil)) .nil) (.eff (.rng 72) (.cons (.bv 0) .nil) (.done [(4, (.bv 1))] none)))))) h20_7) Q env w := rfl
def h20_9 : HC := (.seq (.reg (.done [(2, (.cst (.slice none 0 0)))] none)) h20_8)
@[simp] theorem h20_9_wp {P : Program} {F : PF P} {Q : EX → List Value → World → Prop} {env : List Value} {w : World} : h20_9.wp F Q env w = HC.wp F (.seq (.reg (.done [(2, (.cst (.slice none 0 0)))] none)) h20_8) Q env w := rfl
def h20_10 : HC := (.seq (.reg (.done [(1, (.cst (.slice none 0 0)))] none)) .ret)
@[simp] theorem h20_10_wp {P : Program} {F : PF P} {Q : EX → List Value → World → Prop} {env : List Value} {w : World} : h20_10.wp F Q env w = HC.wp F (.seq (.reg (.done [(1, (.cst (.slice none 0 0)))] none)) .ret) Q env w := rfl
def h20_11 : HC := (.seq (.br (.chk none (.eqNil false (.pointer 76) (.pointer none)) (.cons (.inp 0) .nil) (.done [] (some (.op (.eqNil false (.pointer 76) (.pointer none)) (.cons (.inp 0) .nil))))) h20_10 .skip) h20_9)
@[simp] theorem h20_11_wp {P : Program} {F : PF P} {Q : EX → List Value → World → Prop} {env : List Value} {w : World} : h20_11.wp F Q env w = HC.wp F (.seq (.br (.chk none (.eqNil false (.pointer 76) (.pointer none)) (.cons (.inp 0) .nil) (.done [] (some (.op (.eqNil false (.pointer 76) (.pointer none)) (.cons (.inp 0) .nil))))) h20_10 .skip) h20_9) Q env w := rfl
def l20 : Lifted := ⟨[0, 2, 3, 5, 12], 27, [.slot 1], (.seq (.reg (.done [(1, (.cst (.slice none 0 0)))] none)) h20_11)⟩
theorem l20_ok : liftFn U2 20 400 = some l20 := by kernel_rfl


/-- what Schedule answers, by the pairs there are -/
def schP (now : Nat) (L : List (Int × Int)) (n a : Int) : Int := if n < 1 then 2 else if a ≤ now ∨ 1099511627776 < a then 90 else if ¬ ∀ u ∈ L, u.1 ≠ n then 92 else if 65536 ≤ L.length then 91 else 0
theorem schF_P (now : Nat) (ts : List Tm) (n a : Int) : schF now ts n a = schP now (ts.map tmr) n a := by
  have h : (∀ u ∈ ts, u.n ≠ n) ↔ ∀ u ∈ ts.map tmr, u.1 ≠ n := by simp [tmr]
  unfold schF schP
  simp only [h, List.length_map]
def frE (now : Nat) : List (Int × Int) → List (Int × Int) → Int
  | _, [] => 0
  | L, x :: r => if schP now L x.1 x.2 = 0 then frE now (L ++ [x]) r else schP now L x.1 x.2
theorem plOK.sch {now : Nat} {ts : List Tm} (h : plOK now ts) {n a : Int} (b : Nat) (hs : schF now ts n a = 0) : plOK now (ts ++ [hgT ⟨n, a.toNat, 0, 0, b⟩ now]) := by
  obtain ⟨h1, h2, h3, h4, h5⟩ := schF_zero.1 hs
  refine ⟨?_, fun t ht => ?_, fun t ht => ?_, fun t ht => ?_⟩
  · rw [List.map_append]
    refine List.nodup_append.2 ⟨h.num, by simp, fun x hx y hy => ?_⟩
    obtain ⟨u, hu, rfl⟩ := List.mem_map.1 hx
    simp at hy
    subst hy
    exact h4 u hu
  all_goals
    rcases List.mem_append.1 ht with ht | ht
  · exact h.pl t ht
  · rw [List.mem_singleton.1 ht]; exact ⟨rfl, rfl⟩
  · exact h.ah t ht
  · rw [List.mem_singleton.1 ht]; show now < a.toNat; omega
  · exact h.bd t ht
  · rw [List.mem_singleton.1 ht]; exact ⟨by show a.toNat ≤ _; omega, h1⟩
theorem tmr_sch {now : Nat} {ts : List Tm} {n a : Int} (b : Nat) (hs : schF now ts n a = 0) : (ts ++ [hgT ⟨n, a.toNat, 0, 0, b⟩ now]).map tmr = ts.map tmr ++ [(n, a)] := by
  obtain ⟨h1, h2, h3, h4, h5⟩ := schF_zero.1 hs
  rw [List.map_append]
  have : ((a.toNat : Nat) : Int) = a := by omega
  simp [tmr, hgT, this]
abbrev tmA1 (b : Nat) (x : Int × Int) : Asn := pt b (.cells (encT x).toArray 32 (0, 0))
theorem encT_one' (x : Int × Int) : ∀ u ∈ encT x, u.oneCell' = true := fun u hu => by simp at hu; rcases hu with rfl | rfl <;> rfl
theorem From_spec (now : Int) (l : List (Int × Int)) (v : Value) (w0 w : World) (A : Asn) {K : Value → World → Prop} (hl : l.length ≤ 1048576) (hrow : Row w0 A v l.length 2 (l.flatMap encT)) (s : St w0 A w)
    (hk : ∀ r w', (if 0 ≤ now ∧ now ≤ 1099511627776 then (if frE now.toNat [] l = 0 then ∃ p ts, r = .tuple #[.pointer (some ⟨p, 0, none⟩), .int .i64 0] ∧ plOK now.toNat ts ∧ ts.map tmr = l ∧ St w0 (A * whl p now.toNat 0 ts) w' else r = .tuple #[.pointer none, .int .i64 (frE now.toNat [] l)] ∧ St w0 A w') else r = .tuple #[.pointer none, .int .i64 90] ∧ St w0 A w') → K r w') :
    CallW Try.prog 18 [.int .i64 now, v] K w := by
  obtain ⟨a, cap, rfl⟩ := hrow.val
  refine callW_of_lift l18_ok (by simp [l18]) ?_
  simp [l18]
  refine eff_call (New_spec now w0 w A s fun r w1 h1 => ?_)
  obtain ⟨tot, htot⟩ : ∃ tot : Int, tot = if 0 ≤ now ∧ now ≤ 1099511627776 then frE now.toNat [] l else 90 := ⟨_, rfl⟩
  have key : ∀ (wv : Value) (e : Int) (w1 : World), (∃ ts F, St w0 (A * F) w1 ∧ ((e = 0 ∧ (0 ≤ now ∧ now ≤ 1099511627776) ∧ ∃ p, wv = .pointer (some ⟨p, 0, none⟩) ∧ F = whl p now.toNat 0 ts ∧ plOK now.toNat ts ∧ ts.map tmr = [] ∧ tot = frE now.toNat [] l) ∨ (e ≠ 0 ∧ tot = e))) →
      h18_10.wp U2 (endQ Try.prog [.slot 2, .slot 3] K) [.int .i64 now, .slice a l.length cap, .pointer none, .int .i64 0, wv, .int .i64 e, undef, .slice a l.length cap, .int .i64 l.length, .int .i64 0] w1 := by
    intro wv e w1 h
    simp
    refine loopI (fun env w' => ∃ (i : Nat) (e : Int) (x6 : Value) (ts : List Tm) (F : Asn), env = [.int .i64 now, .slice a l.length cap, .pointer none, .int .i64 0, wv, .int .i64 e, x6, .slice a l.length cap, .int .i64 l.length, .int .i64 i] ∧ i ≤ l.length ∧ St w0 (A * F) w' ∧
      ((e = 0 ∧ (0 ≤ now ∧ now ≤ 1099511627776) ∧ ∃ p, wv = .pointer (some ⟨p, 0, none⟩) ∧ F = whl p now.toNat 0 ts ∧ plOK now.toNat ts ∧ ts.map tmr = l.take i ∧ tot = frE now.toNat (l.take i) (l.drop i)) ∨ (e ≠ 0 ∧ tot = e)))
      (fun env _ => l.length - slotN env 9) ?_ ?_
    · obtain ⟨ts, F, s, h⟩ := h
      refine ⟨0, e, _, ts, F, rfl, by omega, s, ?_⟩
      simpa using h
    rintro LQ env w' ⟨i, e, x6, ts, F, rfl, hi, s', h⟩ hN hE hR
    simp
    refine cndI (fun hc => ?_) (fun hc => ?_)
    · simp at hc
      obtain ⟨g, o, cap', hv, hcl⟩ := hrow.at (by omega)
      cases hv
      simp [hc]
      refine eff_ldcs (vs := encT l[i]) (fun j u hu => by rw [Nat.add_assoc]; exact hcl _ s'.drop _ _ (by
        have hj : j < 2 := by
          have := (List.getElem?_eq_some_iff.1 hu).1
          simpa using this
        rw [flat_get encT 2 (fun _ => rfl) l i j hc hj]; exact hu)) rfl ?_
      simp
      refine eff_new s' ?_
      intro b w2 s2
      simp
      refine eff_stA (vs := encT l[i]) s2 rfl rfl (encT_one' _) (by simp) ?_
      intro w3 s3
      have s3 : St w0 (A * F * tmA1 b l[i]) w3 := by simpa using s3
      simp
      have hte : l.take i ++ [l[i]] = l.take (i + 1) := by rw [List.take_succ_eq_append_getElem hc]
      have hde : l.drop i = l[i] :: l.drop (i + 1) := by rw [List.drop_eq_getElem_cons hc]
      rcases h with ⟨rfl, hb, p, rfl, rfl, hp, hm, ht⟩ | ⟨he, ht⟩
      · simp
        refine eff_ldc (v := .int .i64 l[i].1) (s3.row_cells 0 _ rfl) ?_
        simp
        refine eff_ldc (v := .int .i64 l[i].2) (s3.row_cells 1 _ rfl) ?_
        simp
        refine eff_call (Sched_spec p now.toNat 0 ts l[i].1 l[i].2 w0 w3 (A * tmA1 b l[i]) (by omega) (s3.to (by ac_rfl)) fun w4 h4 => ?_)
        simp
        try simp (disch := omega) only [wrap64]
        rw [hde] at ht
        have ht : tot = if schP now.toNat (l.take i) l[i].1 l[i].2 = 0 then frE now.toNat (l.take i ++ [l[i]]) (l.drop (i + 1)) else schP now.toNat (l.take i) l[i].1 l[i].2 := ht
        rw [← hm, ← schF_P] at ht
        by_cases hz : schF now.toNat ts l[i].1 l[i].2 = 0
        · rw [if_pos hz] at h4 ht
          obtain ⟨b', s4⟩ := h4
          rw [hm, hte] at ht
          refine hN _ _ ⟨i + 1, 0, _, _, _, by simp [hz]; rfl, by omega, St.cut (tmA1 b l[i]) s4 (by ac_rfl), .inl ⟨rfl, hb, p, rfl, rfl, hp.sch b' hz, ?_, ht⟩⟩ (by simp [slotN]; omega)
          rw [tmr_sch b' hz, hm, hte]
        · rw [if_neg hz] at h4 ht
          refine hN _ _ ⟨i + 1, _, _, ts, _, by simp; rfl, by omega, St.cut (tmA1 b l[i]) h4 (sep_right _ _ _), .inr ⟨hz, ht⟩⟩ (by simp [slotN]; omega)
      · simp [he]
        try simp (disch := omega) only [wrap64]
        refine hN _ _ ⟨i + 1, e, _, ts, F, by simp; rfl, by omega, s3.drop, .inr ⟨he, ht⟩⟩ (by simp [slotN]; omega)
    · simp at hc
      simp
      refine hE _ _ _ ?_
      simp
      have hil : i = l.length := by omega
      rcases h with ⟨rfl, hb, p, rfl, rfl, hp, hm, ht⟩ | ⟨he, ht⟩
      · simp
        refine hk _ _ ?_
        have hz : frE now.toNat [] l = 0 := by
          rw [if_pos hb] at htot
          rw [← htot, ht, hil, List.drop_length]
          rfl
        rw [if_pos hb, if_pos hz]
        exact ⟨p, ts, rfl, hp, by rw [hm, hil, List.take_length], s'⟩
      · simp [he]
        refine hk _ _ ?_
        by_cases hb : 0 ≤ now ∧ now ≤ 1099511627776
        · rw [if_pos hb] at htot ⊢
          rw [if_neg (by rw [← htot, ht]; exact he)]
          exact ⟨by rw [← htot, ht], s'.drop⟩
        · rw [if_neg hb] at htot ⊢
          exact ⟨by rw [← ht, htot], s'.drop⟩
  by_cases hb : 0 ≤ now ∧ now ≤ 1099511627776
  · rw [if_pos hb] at h1 htot
    obtain ⟨p, rfl, s1⟩ := h1
    have := key (.pointer (some ⟨p, 0, none⟩)) 0 w1 ⟨[], _, s1, .inl ⟨rfl, hb, p, rfl, rfl, ⟨by simp, by simp, by simp, by simp⟩, rfl, htot⟩⟩
    simpa using this
  · rw [if_neg hb] at h1 htot
    obtain ⟨rfl, s1⟩ := h1
    have := key (.pointer none) 90 w1 ⟨[], emp, by rw [sep_emp]; exact s1, .inr ⟨by decide, htot⟩⟩
    simpa using this
/-! All -/
def enT (ts : List Tm) (e : En) : Int × Int := match fnd ts e.k with
  | some t => tmr t
  | none => (0, 0)
theorem en_map {aes : List En} {ts : List Tm} (hn : (ts.map (·.n)).Nodup) (h : aes.map (fun e => (e.k, e.v)) = ts.map fun t => (t.n, tp t)) : aes.map (enT ts) = ts.map tmr := by
  have h1 : aes.map (·.k) = ts.map (·.n) := by
    have := congrArg (List.map Prod.fst) h
    simpa [Function.comp_def] using this
  have h2 : aes.map (enT ts) = (aes.map (·.k)).map fun n => match fnd ts n with
    | some t => tmr t
    | none => (0, 0) := by rw [List.map_map]; rfl
  rw [h2, h1, List.map_map]
  refine List.map_congr_left fun t ht => ?_
  simp [fnd_num hn ht]
theorem en_of {aes : List En} {ts : List Tm} (hn : (ts.map (·.n)).Nodup) (h : aes.map (fun e => (e.k, e.v)) = ts.map fun t => (t.n, tp t)) {e : En} (he : e ∈ aes) : ∃ t ∈ ts, e.v = tp t ∧ enT ts e = tmr t := by
  have h1 : (e.k, e.v) ∈ ts.map fun t => (t.n, tp t) := by rw [← h]; exact List.mem_map.2 ⟨e, he, rfl⟩
  obtain ⟨t, ht, h2⟩ := List.mem_map.1 h1
  refine ⟨t, ht, (congrArg Prod.snd h2).symm, ?_⟩
  have : e.k = t.n := (congrArg Prod.fst h2).symm
  unfold enT
  rw [this, fnd_num hn ht]
theorem bn_filter {es : List En} (h : (es.map (·.b)).Nodup) {e : En} (he : e ∈ es) : es.filter (fun x => decide (x.b = e.b)) = [e] := by
  induction es with
  | nil => cases he
  | cons x r ih =>
    rw [List.map_cons, List.nodup_cons] at h
    rcases List.mem_cons.1 he with rfl | he
    · have : r.filter (fun x => decide (x.b = e.b)) = [] := List.filter_eq_nil_iff.2 fun y hy g => h.1 (List.mem_map.2 ⟨y, hy, of_decide_eq_true g⟩)
      simp [this]
    · have hne : x.b ≠ e.b := fun g => h.1 (List.mem_map.2 ⟨e, he, g.symm⟩)
      rw [List.filter_cons_of_neg (by simpa using hne)]
      exact ih h.2 he
theorem left_perm {es : List En} {seen : Array Nat} {e : En} (hb : (es.map (·.b)).Nodup) (he : e ∈ es) (hn : e.b ∉ seen) : (leftE es seen).Perm (e :: leftE es (seen.push e.b)) := by
  have h1 : (leftE es seen).filter (fun x => decide (x.b = e.b)) = [e] :=
    bn_filter (hb.sublist (List.filter_sublist.map _)) (List.mem_filter.2 ⟨he, by simpa using hn⟩)
  have h2 : (leftE es seen).filter (fun x => !decide (x.b = e.b)) = leftE es (seen.push e.b) := by
    unfold leftE
    rw [List.filter_filter]
    refine List.filter_congr fun x _ => ?_
    rw [Bool.eq_iff_iff]
    simp [and_comm]
  have h3 := List.filter_append_perm (fun x : En => decide (x.b = e.b)) (leftE es seen)
  rw [h1, h2] at h3
  exact h3.symm
theorem All_spec (p now mv : Nat) (ts : List Tm) (w0 w : World) (A : Asn) {K : Value → World → Prop} (hlen : ts.length ≤ 65536) (s : St w0 (A * whl p now mv ts) w)
    (hk : ∀ v w', St w0 (A * whl p now mv ts * outs v (sortT (ts.map tmr))) w' → K v w') :
    CallW Try.prog 20 [.pointer (some ⟨p, 0, none⟩)] K w := by
  refine callW_of_lift l20_ok (by simp [l20]) ?_
  simp [l20]
  obtain ⟨am, aes, ac, Y, hok, t1⟩ := wopen s
  refine eff_ldc (v := .map (some am)) (t1.row_cells 2 _ rfl) ?_
  simp
  refine eff_rngI hungI.ty t1 t1.drop.look ?_
  intro b w1 s1
  simp
  have hmap := en_map hok.num hok.alls
  have hal : aes.length = ts.length := by have := congrArg List.length hok.alls; simpa using this
  have s1 : St w0 (A * hungA ts * bigA slA Y 257 * wc p now mv am Y * outs (.slice none 0 0) [] * imap am aes ac * pt b (.mapIter (some am) ac #[] ac)) w1 := by
    rw [show outs (.slice none 0 0) [] = own 32 2 (.slice none 0 0) 0 [] from rfl]
    exact (s1.own_nil 32 2).to (by ac_rfl)
  refine loopI (fun env w' => ∃ (seen : Array Nat) (v x : Value) (L : List (Int × Int)), env = [.pointer (some ⟨p, 0, none⟩), .slice none 0 0, v, x, .pointer (some ⟨b, 0, none⟩)] ∧ (leftE aes seen).length + seen.size ≤ aes.length ∧ (L ++ (leftE aes seen).map (enT ts)).Perm (ts.map tmr) ∧
      St w0 (A * hungA ts * bigA slA Y 257 * wc p now mv am Y * outs v L * imap am aes ac * pt b (.mapIter (some am) ac seen ac)) w') (fun _ w' => aes.length + 1 - seenN w' b)
    ⟨#[], _, _, [], rfl, left_start aes, by rw [← hmap, show leftE aes #[] = aes from List.filter_eq_self.2 (by simp)]; simp, s1⟩ ?_
  rintro LQ env w' ⟨seen, v, x, L, rfl, hcnt, hperm, s'⟩ hN hE hR
  have hseen : seenN w' b = seen.size := by unfold seenN; rw [s'.look]
  have hLl : L.length ≤ 65536 := by
    have := hperm.length_eq
    simp at this
    omega
  simp
  refine eff_nxtI s' hok.aok.lt (fun e he hns w2 s2 => ?_) (fun hall w2 s2 => ?_)
  · simp
    refine eff_ent s2 he hok.aok.bn ?_
    obtain ⟨t, ht, hev, hen⟩ := en_of hok.num hok.alls he
    rw [hev]
    simp
    have s3 := s2
    rw [hungA_off hok.num ht] at s3
    have s3 := s3.to (B := A * hungA (offT ts t.n) * bigA slA Y 257 * wc p now mv am Y * outs v L * imap am aes ac * pt b (.mapIter (some am) ac (seen.push e.b) ac) * tmA t) (by ac_rfl)
    refine eff_ldcs (vs := encT (tmr t)) (fun j y hy => ?_) rfl ?_
    · have hj : t.cs[j]? = some y := by
        match j, hy with
        | 0, hy => exact hy
        | 1, hy => exact hy
      exact s3.row_cells j y hj
    simp
    refine eff_bslV s3 rfl ?_
    intro c w3 s4
    simp
    refine eff_app (m := 1) (news := encT (tmr t)) (s4.to (B := A * hungA (offT ts t.n) * bigA slA Y 257 * wc p now mv am Y * imap am aes ac * pt b (.mapIter (some am) ac (seen.push e.b) ac) * tmA t * pt c (.cells (encT (tmr t)).toArray 32 (0, 0)) * outs v L) (by ac_rfl)) rfl s4.cells_look (fun y hy => by simp at hy; rcases hy with rfl | rfl <;> rfl) (by decide) rfl (by unfold maxLen; omega) (by omega) ?_
    intro v2 w4 s5
    simp
    have e2 : own 32 2 v2 (L.length + 1) (L.flatMap encT ++ encT (tmr t)) = outs v2 (L ++ [tmr t]) := by
      show _ = own _ 2 v2 (L ++ [tmr t]).length ((L ++ [tmr t]).flatMap encT)
      rw [List.length_append, List.flatMap_append]
      simp
    rw [e2] at s5
    have s6 : St w0 (A * hungA ts * bigA slA Y 257 * wc p now mv am Y * outs v2 (L ++ [tmr t]) * imap am aes ac * pt b (.mapIter (some am) ac (seen.push e.b) ac)) w4 := by
      rw [hungA_off hok.num ht]
      exact St.cut (pt c (.cells (encT (tmr t)).toArray 32 (0, 0))) s5 (by show _ = A * (hungA (offT ts t.n) * tmA t) * bigA slA Y 257 * wc p now mv am Y * outs v2 (L ++ [tmr t]) * imap am aes ac * pt b (.mapIter (some am) ac (seen.push e.b) ac) * _; ac_rfl)
    have hleft := left_push he hns
    refine hN _ _ ⟨seen.push e.b, v2, _, L ++ [tmr t], by simp; rfl, ?_, ?_, s6⟩ ?_
    · rw [Array.size_push]; omega
    · have h3 := (left_perm hok.aok.bn he hns).map (enT ts)
      rw [List.map_cons, hen] at h3
      rw [List.append_assoc]
      exact ((h3.append_left L).symm).trans hperm
    · have h1 : seenN w4 b = seen.size + 1 := by unfold seenN; rw [s6.look]; exact Array.size_push _
      rw [h1, hseen]; omega
  · simp
    refine hE _ _ _ ?_
    simp
    have hnil : leftE aes seen = [] := List.filter_eq_nil_iff.2 fun e he => by simpa using hall e he
    rw [hnil] at hperm
    have hperm : L.Perm (ts.map tmr) := by simpa using hperm
    have s3 : St w0 (A * whl p now mv ts * outs v L) w2 := (wclose hok ((s2.drop).to (B := A * outs v L * hungA ts * bigA slA Y 257 * imap am aes ac * wc p now mv am Y) (by ac_rfl))).to (by ac_rfl)
    refine eff_call (sort_spec L (by omega) w0 w2 (A * whl p now mv ts) s3 fun r w3 s4 => ?_)
    simp
    refine hk _ _ ?_
    have e4 : outs v (sortT (ts.map tmr)) = own 32 2 v L.length ((sortT L).flatMap encT) := by
      rw [← sortT_congr hperm]
      show own _ 2 v (sortT L).length _ = _
      rw [sortT_len]
    rw [e4]
    exact s4
end Go.HL.Wh
