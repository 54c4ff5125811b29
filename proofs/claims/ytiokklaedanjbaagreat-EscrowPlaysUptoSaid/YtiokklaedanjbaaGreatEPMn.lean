/-
  What the claim leans on, part 14 of 18. Conditions: as each theorem says.
-/
import Derived.Test.YtiokklaedanjbaaGreatEPMm
import Derived.Laws.Externs
namespace Go.HL.Es
open Go.HL Go.Proofs
set_option maxRecDepth 4000
set_option linter.unusedSimpArgs false
set_option linter.unusedVariables false

def h78_0 : HC := (.seq (.reg (.done [(2, (.inp 4)), (3, (.cst (.int .i64 0)))] none)) .ret)
@[simp] theorem h78_0_wp : type_of% (@wpH h78_0 _ h78_0.eq_1) := wpH h78_0.eq_1
def h78_1 : HC := (.seq (.reg (.done [(2, (.cst (.int .u64 0))), (3, (.cst (.int .i64 10)))] none)) .ret)
@[simp] theorem h78_1_wp : type_of% (@wpH h78_1 _ h78_1.eq_1) := wpH h78_1.eq_1
def h78_2 : HC := (.seq (.br (.chk none (.bin .neq) (.cons (.inp 5) (.cons (.cst (.int .u64 0)) .nil)) (.done [] (some (.op (.bin .neq) (.cons (.inp 5) (.cons (.cst (.int .u64 0)) .nil)))))) h78_1 .skip) h78_0)
@[simp] theorem h78_2_wp : type_of% (@wpH h78_2 _ h78_2.eq_1) := wpH h78_2.eq_1
def h78_3 : HC := (.seq (.reg (.eff (.cext 105) (.cons (.inp 0) (.cons (.inp 1) (.cons (.cst (.int .u64 0)) .nil))) (.chk none (.ext 0) (.cons (.bv 0) .nil) (.chk none (.ext 1) (.cons (.bv 0) .nil) (.done [(4, (.op (.ext 0) (.cons (.bv 0) .nil))), (5, (.op (.ext 1) (.cons (.bv 0) .nil)))] none))))) h78_2)
@[simp] theorem h78_3_wp : type_of% (@wpH h78_3 _ h78_3.eq_1) := wpH h78_3.eq_1
def l78 : Lifted := ⟨[0, 1, 4, 5, 6, 7], 17, [.slot 2, .slot 3], (.seq (.reg (.done [(2, (.cst (.int .u64 0))), (3, (.cst (.int .i64 0)))] none)) h78_3)⟩
theorem l78_ok : liftFn E0 78 400 = some l78 := by kernel_rfl

def h37_0 : HC := (.seq (.reg (.done [(1, (.inp 3)), (2, (.cst (.int .i64 0)))] none)) .ret)
@[simp] theorem h37_0_wp : type_of% (@wpH h37_0 _ h37_0.eq_1) := wpH h37_0.eq_1
def h37_1 : HC := (.reg (.chk none (.bin .add) (.cons (.inp 9) (.cons (.cst (.int .i64 1)) .nil)) (.done [(9, (.op (.bin .add) (.cons (.inp 9) (.cons (.cst (.int .i64 1)) .nil))))] none)))
@[simp] theorem h37_1_wp : type_of% (@wpH h37_1 _ h37_1.eq_1) := wpH h37_1.eq_1
def h37_2 : HC := (.reg (.done [(3, (.inp 5))] none))
@[simp] theorem h37_2_wp : type_of% (@wpH h37_2 _ h37_2.eq_1) := wpH h37_2.eq_1
def h37_3 : HC := (.seq (.reg (.done [(1, (.cst (.int .u64 0))), (2, (.inp 6))] none)) .ret)
@[simp] theorem h37_3_wp : type_of% (@wpH h37_3 _ h37_3.eq_1) := wpH h37_3.eq_1
def h37_4 : HC := (.seq (.br (.chk none (.bin .neq) (.cons (.inp 6) (.cons (.cst (.int .i64 0)) .nil)) (.done [] (some (.op (.bin .neq) (.cons (.inp 6) (.cons (.cst (.int .i64 0)) .nil)))))) h37_3 .skip) h37_2)
@[simp] theorem h37_4_wp : type_of% (@wpH h37_4 _ h37_4.eq_1) := wpH h37_4.eq_1
def h37_5 : HC := (.seq (.reg (.eff (.call 78) (.cons (.inp 3) (.cons (.inp 4) .nil)) (.chk none (.ext 0) (.cons (.bv 0) .nil) (.chk none (.ext 1) (.cons (.bv 0) .nil) (.done [(5, (.op (.ext 0) (.cons (.bv 0) .nil))), (6, (.op (.ext 1) (.cons (.bv 0) .nil)))] none))))) h37_4)
@[simp] theorem h37_5_wp : type_of% (@wpH h37_5 _ h37_5.eq_1) := wpH h37_5.eq_1
def h37_6 : HC := (.seq (.reg (.chk none (.idxL 1) (.cons (.inp 7) (.cons (.inp 9) .nil)) (.eff (.ld false 1) (.cons (.op (.idxL 1) (.cons (.inp 7) (.cons (.inp 9) .nil))) .nil) (.done [(4, (.bv 0))] none)))) h37_5)
@[simp] theorem h37_6_wp : type_of% (@wpH h37_6 _ h37_6.eq_1) := wpH h37_6.eq_1
def h37_7 : HC := (.seq (.block 1 h37_6) h37_1)
@[simp] theorem h37_7_wp : type_of% (@wpH h37_7 _ h37_7.eq_1) := wpH h37_7.eq_1
def h37_8 : HC := (.seq (.br (.chk none (.bin .lss) (.cons (.inp 9) (.cons (.inp 8) .nil)) (.done [] (some (.op (.bin .lss) (.cons (.inp 9) (.cons (.inp 8) .nil)))))) .skip (.exit 0)) h37_7)
@[simp] theorem h37_8_wp : type_of% (@wpH h37_8 _ h37_8.eq_1) := wpH h37_8.eq_1
def h37_9 : HC := (.loop h37_8)
@[simp] theorem h37_9_wp : type_of% (@wpH h37_9 _ h37_9.eq_1) := wpH h37_9.eq_1
def h37_10 : HC := (.seq (.block 0 h37_9) h37_0)
@[simp] theorem h37_10_wp : type_of% (@wpH h37_10 _ h37_10.eq_1) := wpH h37_10.eq_1
def h37_11 : HC := (.seq (.reg (.chk none .lenL (.cons (.inp 0) .nil) (.done [(7, (.inp 0)), (8, (.op .lenL (.cons (.inp 0) .nil))), (9, (.cst (.int .i64 0)))] none))) h37_10)
@[simp] theorem h37_11_wp : type_of% (@wpH h37_11 _ h37_11.eq_1) := wpH h37_11.eq_1
def h37_12 : HC := (.seq (.reg (.done [(3, (.cst (.int .u64 0)))] none)) h37_11)
@[simp] theorem h37_12_wp : type_of% (@wpH h37_12 _ h37_12.eq_1) := wpH h37_12.eq_1
def l37 : Lifted := ⟨[0, 2, 3, 4, 6, 7, 8, 9, 10, 11], 27, [.slot 1, .slot 2], (.seq (.reg (.done [(1, (.cst (.int .u64 0))), (2, (.cst (.int .i64 0)))] none)) h37_12)⟩
theorem l37_ok : liftFn E0 37 400 = some l37 := by kernel_rfl

def h109_0 : HC := (.seq (.reg (.done [(2, (.cst (.int .i64 0)))] none)) .ret)
@[simp] theorem h109_0_wp : type_of% (@wpH h109_0 _ h109_0.eq_1) := wpH h109_0.eq_1
def h109_1 : HC := (.seq (.reg (.done [(2, (.cst (.int .i64 2)))] none)) .ret)
@[simp] theorem h109_1_wp : type_of% (@wpH h109_1 _ h109_1.eq_1) := wpH h109_1.eq_1
def h109_2 : HC := (.seq (.br (.chk none (.bin .lss) (.cons (.inp 1) (.cons (.cst (.int .i64 1)) .nil)) (.done [] (some (.op (.bin .lss) (.cons (.inp 1) (.cons (.cst (.int .i64 1)) .nil)))))) h109_1 .skip) h109_0)
@[simp] theorem h109_2_wp : type_of% (@wpH h109_2 _ h109_2.eq_1) := wpH h109_2.eq_1
def h109_3 : HC := (.seq (.reg (.done [(2, (.cst (.int .i64 1)))] none)) .ret)
@[simp] theorem h109_3_wp : type_of% (@wpH h109_3 _ h109_3.eq_1) := wpH h109_3.eq_1
def h109_4 : HC := (.seq (.br (.chk none (.eqNil false (.pointer 95) (.pointer none)) (.cons (.inp 0) .nil) (.done [] (some (.op (.eqNil false (.pointer 95) (.pointer none)) (.cons (.inp 0) .nil))))) h109_3 .skip) h109_2)
@[simp] theorem h109_4_wp : type_of% (@wpH h109_4 _ h109_4.eq_1) := wpH h109_4.eq_1
def l109 : Lifted := ⟨[0, 1, 4], 9, [.slot 2], (.seq (.reg (.done [(2, (.cst (.int .i64 0)))] none)) h109_4)⟩
theorem l109_ok : liftFn E0 109 400 = some l109 := by kernel_rfl

def h116_0 : HC := (.reg (.chk none .chkp (.cons (.inp 0) .nil) (.chk none (.fld 2) (.cons (.op .chkp (.cons (.inp 0) .nil)) .nil) (.eff (.ld false 1) (.cons (.op (.fld 2) (.cons (.op .chkp (.cons (.inp 0) .nil)) .nil)) .nil) (.eff (.upd 93) (.cons (.bv 0) (.cons (.inp 1) (.cons (.inp 2) .nil))) (.done [] none))))))
@[simp] theorem h116_0_wp : type_of% (@wpH h116_0 _ h116_0.eq_1) := wpH h116_0.eq_1
def h116_1 : HC := (.seq (.reg (.chk none .chkp (.cons (.inp 0) .nil) (.chk none (.fld 2) (.cons (.op .chkp (.cons (.inp 0) .nil)) .nil) (.eff (.ld false 1) (.cons (.op (.fld 2) (.cons (.op .chkp (.cons (.inp 0) .nil)) .nil)) .nil) (.eff (.bi .delete #[93, 3] 0 #[false, false]) (.cons (.bv 0) (.cons (.inp 1) .nil)) (.done [] none)))))) .ret)
@[simp] theorem h116_1_wp : type_of% (@wpH h116_1 _ h116_1.eq_1) := wpH h116_1.eq_1
def l116 : Lifted := ⟨[0, 1, 2], 19, [], (.seq (.br (.chk none (.bin .eql) (.cons (.inp 2) (.cons (.cst (.int .u64 0)) .nil)) (.done [] (some (.op (.bin .eql) (.cons (.inp 2) (.cons (.cst (.int .u64 0)) .nil)))))) h116_1 .skip) h116_0)⟩
theorem l116_ok : liftFn E0 116 400 = some l116 := by kernel_rfl

def h14_0 : HC := (.seq (.reg (.chk none .chkp (.cons (.inp 0) .nil) (.chk none (.fld 2) (.cons (.op .chkp (.cons (.inp 0) .nil)) .nil) (.eff (.ld false 1) (.cons (.op (.fld 2) (.cons (.op .chkp (.cons (.inp 0) .nil)) .nil)) .nil) (.eff (.look 93 false) (.cons (.bv 0) (.cons (.inp 1) .nil)) (.done [(2, (.bv 1))] none)))))) .ret)
@[simp] theorem h14_0_wp : type_of% (@wpH h14_0 _ h14_0.eq_1) := wpH h14_0.eq_1
def h14_1 : HC := (.seq (.reg (.done [(2, (.cst (.int .u64 0)))] none)) .ret)
@[simp] theorem h14_1_wp : type_of% (@wpH h14_1 _ h14_1.eq_1) := wpH h14_1.eq_1
def h14_2 : HC := (.seq (.br (.chk none (.eqNil false (.pointer 95) (.pointer none)) (.cons (.inp 0) .nil) (.done [] (some (.op (.eqNil false (.pointer 95) (.pointer none)) (.cons (.inp 0) .nil))))) h14_1 .skip) h14_0)
@[simp] theorem h14_2_wp : type_of% (@wpH h14_2 _ h14_2.eq_1) := wpH h14_2.eq_1
def l14 : Lifted := ⟨[0, 1, 4], 13, [.slot 2], (.seq (.reg (.done [(2, (.cst (.int .u64 0)))] none)) h14_2)⟩
theorem l14_ok : liftFn E0 14 400 = some l14 := by kernel_rfl

def h22_0 : HC := (.seq (.reg (.chk none .chkp (.cons (.inp 0) .nil) (.chk none (.fld 1) (.cons (.op .chkp (.cons (.inp 0) .nil)) .nil) (.eff (.ld false 1) (.cons (.op (.fld 1) (.cons (.op .chkp (.cons (.inp 0) .nil)) .nil)) .nil) (.eff (.call 45) (.cons (.bv 0) (.cons (.inp 1) .nil)) (.done [(2, (.bv 1))] none)))))) .ret)
@[simp] theorem h22_0_wp : type_of% (@wpH h22_0 _ h22_0.eq_1) := wpH h22_0.eq_1
def h22_1 : HC := (.seq (.reg (.done [(2, (.cst (.slice none 0 0)))] none)) .ret)
@[simp] theorem h22_1_wp : type_of% (@wpH h22_1 _ h22_1.eq_1) := wpH h22_1.eq_1
def h22_2 : HC := (.seq (.br (.chk none (.eqNil false (.pointer 95) (.pointer none)) (.cons (.inp 0) .nil) (.done [] (some (.op (.eqNil false (.pointer 95) (.pointer none)) (.cons (.inp 0) .nil))))) h22_1 .skip) h22_0)
@[simp] theorem h22_2_wp : type_of% (@wpH h22_2 _ h22_2.eq_1) := wpH h22_2.eq_1
def l22 : Lifted := ⟨[0, 1, 4], 13, [.slot 2], (.seq (.reg (.done [(2, (.cst (.slice none 0 0)))] none)) h22_2)⟩
theorem l22_ok : liftFn E0 22 400 = some l22 := by kernel_rfl
def add64E : Array Value → Sem Value := fun args => do
    let (x, y, c) ← Extern.MathBitsCarry.three "Add64" args
    pure (Extern.MathBitsCarry.pair ((x + y + c) % Extern.MathBitsCarry.m64) ((x + y + c) / Extern.MathBitsCarry.m64))
theorem find64 : Extern.find Tryz.f105 = some add64E := by kernel_rfl
theorem run64 {P : Program} (x y : Nat) (w : World) : (add64E #[.int .u64 x, .int .u64 y, .int .u64 0]).run P w =
    .ok (.tuple #[.int .u64 (((x + y + 0) % 18446744073709551616 : Nat) : Int), .int .u64 (((x + y + 0) / 18446744073709551616 : Nat) : Int)]) w := rfl
theorem eff_add64 {x y : Int} {K : Value → World → Prop} {w : World} (hx : 0 ≤ x ∧ x < 18446744073709551616) (hy : 0 ≤ y ∧ y < 18446744073709551616)
    (hk : K (.tuple #[.int .u64 ((x + y) % 18446744073709551616), .int .u64 ((x + y) / 18446744073709551616)]) w) :
    EffW Tryz.prog (.cext 105) [.int .u64 x, .int .u64 y, .int .u64 0] K w := by
  intro _
  unfold UponW
  have h := run_callFunc_extern (P := Tryz.prog) (f := 105) (fn := Tryz.f105) Tryz.func105 (by kernel_rfl) (by kernel_rfl) (by kernel_rfl) find64 #[.int .u64 x, .int .u64 y, .int .u64 0] w
  simp only [EO.sem]
  rw [h]
  obtain ⟨a, rfl⟩ : ∃ a : Nat, x = a := ⟨x.toNat, by omega⟩
  obtain ⟨b, rfl⟩ : ∃ b : Nat, y = b := ⟨y.toNat, by omega⟩
  have hr := run64 (P := Tryz.prog) a b w
  have e1 : (((a + b + 0) % 18446744073709551616 : Nat) : Int) = ((a : Int) + b) % 18446744073709551616 := by omega
  have e2 : (((a + b + 0) / 18446744073709551616 : Nat) : Int) = ((a : Int) + b) / 18446744073709551616 := by omega
  rw [e1, e2] at hr
  rw [hr]
  exact hk
theorem Add_spec (x y : Int) (w : World) (hx : 0 ≤ x ∧ x < 18446744073709551616) (hy : 0 ≤ y ∧ y < 18446744073709551616) :
    CallW Tryz.prog 78 [.int .u64 x, .int .u64 y] (fun r w' => r = .tuple #[.int .u64 (if x + y < 18446744073709551616 then x + y else 0), .int .i64 (if x + y < 18446744073709551616 then 0 else 10)] ∧ w' = w) w := by
  refine callW_of_lift l78_ok (by simp [l78]) ?_
  simp [l78]
  refine eff_add64 hx hy ?_
  simp
  by_cases h : x + y < 18446744073709551616
  · have e1 : (x + y) / 18446744073709551616 = 0 := by omega
    have e2 : (x + y) % 18446744073709551616 = x + y := by omega
    simp [h, e1, e2]
  · have e1 : (x + y) / 18446744073709551616 = 1 := by omega
    simp [h, e1]
theorem escT : MapI Tryz.prog 93 3 23 (.int .u64 0) := ⟨by kernel_rfl, by kernel_rfl, by kernel_rfl⟩
abbrev pte (s p g m : Nat) : Asn := pt s (.cells #[.pointer (some ⟨p, 0, none⟩), .pointer (some ⟨g, 0, none⟩), .map (some m)] 95 (0, 0))
def esc (s p g : Nat) (l : List Rw) : Asn := exA fun m => pte s p g m * hmap m l
theorem eopen {w0 w : World} {A : Asn} {s p g : Nat} {l : List Rw} (h : St w0 (A * esc s p g l) w) : ∃ m es c, EH es c l ∧ St w0 (A * pte s p g m * imap m es c) w := by
  obtain ⟨m, h⟩ := exA_open h
  rw [← sep_assoc] at h
  obtain ⟨es, c, hE, h⟩ := hmap_open h
  exact ⟨m, es, c, hE, h⟩
theorem eclose {w0 w : World} {A : Asn} {s p g m : Nat} {l : List Rw} {es : List En} {c : Nat} (hE : EH es c l) (h : St w0 (A * pte s p g m * imap m es c) w) : St w0 (A * esc s p g l) w := by
  refine exA_mk m ?_
  rw [← sep_assoc]
  exact hmap_close hE h
def askedE (c : Int) : Int := if c < 1 then 2 else 0
theorem asked_spec (q : Nat) (c : Int) (w : World) : CallW Tryz.prog 109 [.pointer (some ⟨q, 0, none⟩), .int .i64 c] (fun r w' => r = .int .i64 (askedE c) ∧ w' = w) w := by
  refine callW_of_lift l109_ok (by simp [l109]) ?_
  simp [l109, condC_ite, askedE]
theorem set_spec (s p g : Nat) (l : List Rw) (k v : Int) (w0 w : World) (A : Asn) (ok : RwOK l) (h : St w0 (A * esc s p g l) w) :
    CallW Tryz.prog 116 [.pointer (some ⟨s, 0, none⟩), .int .i64 k, .int .u64 v] (fun _ w' => St w0 (A * esc s p g (setR k v l)) w') w := by
  obtain ⟨m, es, c, hE, h⟩ := eopen h
  have hm : w.cell? ⟨s, 2, none⟩ = some (.map (some m)) := (cell_of h.swap.look).trans rfl
  refine callW_of_lift l116_ok (by simp [l116]) ?_
  simp [l116]
  refine cndI (fun hv => ?_) (fun hv => ?_)
  · simp at hv
    simp
    refine eff_ldc hm ?_
    simp
    refine eff_delI escT h fun w1 h1 => ?_
    simp
    have := eclose (hE.del k) h1
    simpa [setR, hv] using this
  · simp at hv
    simp
    refine eff_ldc hm ?_
    simp
    cases hg : getI es k with
    | none =>
      refine eff_updI escT h hg fun w1 h1 => ?_
      simp
      have := eclose (hE.put hg ((hE.get ok k).2.1 hg)) h1
      simpa [setR, hv] using this
    | some u =>
      refine eff_updI2 escT h hg fun w1 h1 => ?_
      simp
      have := eclose (hE.upd hg) h1
      simpa [setR, hv] using this
theorem Coins_spec (s p g : Nat) (l : List Rw) (k : Int) (w0 w : World) (A : Asn) (ok : RwOK l) (h : St w0 (A * esc s p g l) w) :
    CallW Tryz.prog 14 [.pointer (some ⟨s, 0, none⟩), .int .i64 k] (fun r w' => r = .int .u64 (cns l k) ∧ w' = w) w := by
  obtain ⟨m, es, c, hE, h⟩ := eopen h
  have hm : w.cell? ⟨s, 2, none⟩ = some (.map (some m)) := (cell_of h.swap.look).trans rfl
  refine callW_of_lift l14_ok (by simp [l14]) ?_
  simp [l14]
  refine eff_ldc hm ?_
  simp
  refine eff_lookI escT h.look ?_
  rw [(hE.get ok k).1]
  simp
end Go.HL.Es

namespace Go.HL.Es
open Go.HL Go.Proofs
set_option maxRecDepth 4000
set_option linter.unusedSimpArgs false
set_option linter.unusedVariables false
theorem turn1_spec (Br n : Nat) (v f : Value) (fs : List Value) (w0 w : World) (A : Asn) (h1 : f.oneCell' = true) (hn : n ≤ 16777216) (s : St w0 (A * pt Br (.cells #[v] 174 (0, 0)) * own 1 1 v n fs) w) :
    CallW Tryz.prog 110 [f, .pointer (some ⟨Br, 0, none⟩)] (fun _ w' => ∃ v', St w0 (A * pt Br (.cells #[v'] 174 (0, 0)) * own 1 1 v' (n + 1) (fs ++ [f])) w') w := by
  refine callW_of_lift l110_ok (by simp [l110]) ?_
  simp [l110]
  refine eff_ldc (v := v) ((cell_of s.swap.look).trans rfl) ?_
  simp
  refine eff_bsl1 s h1 fun c w1 s1 => ?_
  simp
  refine eff_app (m := 1) (news := [f]) s1.swap rfl s1.cells_look (by simp [h1]) (by decide) rfl (by unfold maxLen; omega) (by omega) fun v' w2 s2 => ?_
  simp
  have hv : v'.oneCell' = true := by obtain ⟨a, cap, rfl, _⟩ := s2.own_val; rfl
  have s3 : St w0 (A * pt c (.cells #[f] 1 (0, 0)) * own 1 1 v' (n + 1) (fs ++ [f]) * pt Br (.cells #[v] 174 (0, 0))) w2 := s2.to (by ac_rfl)
  refine eff_st1 s3 hv (by simp) fun w3 s4 => ?_
  simp
  exact ⟨v', s4.cut (pt c (.cells #[f] 1 (0, 0))) (by simp; ac_rfl)⟩
structure Gf where
  to : Int
  item : Int
  coins : Int
def Gf.cs (x : Gf) : List Value := [.int .i64 x.to, .int .i64 x.item, .int .u64 x.coins]
abbrev bxs (b4 b5 b6 s : Nat) (c : Int) (x : Gf) : Asn :=
  pt b4 (.cells #[.pointer (some ⟨s, 0, none⟩)] 38 (0, 0)) * pt b5 (.cells #[.int .i64 c] 3 (0, 0)) * pt b6 (.cells x.cs.toArray 110 (0, 0))
theorem bx_facts {w0 w : World} {A Z : Asn} {b4 b5 b6 s p g : Nat} {c : Int} {x : Gf} {l : List Rw} (h : St w0 (A * bxs b4 b5 b6 s c x * esc s p g l * Z) w) :
    w.cell? ⟨b4, 0, none⟩ = some (.pointer (some ⟨s, 0, none⟩)) ∧ w.cell? ⟨b5, 0, none⟩ = some (.int .i64 c) ∧ w.cell? ⟨b6, 0, none⟩ = some (.int .i64 x.to) ∧ w.cell? ⟨b6, 1, none⟩ = some (.int .i64 x.item) ∧
    w.cell? ⟨b6, 2, none⟩ = some (.int .u64 x.coins) ∧ w.cell? ⟨s, 0, none⟩ = some (.pointer (some ⟨p, 0, none⟩)) ∧ w.cell? ⟨s, 1, none⟩ = some (.pointer (some ⟨g, 0, none⟩)) := by
  have h' : St w0 (A * pt b4 (.cells #[.pointer (some ⟨s, 0, none⟩)] 38 (0, 0)) * pt b5 (.cells #[.int .i64 c] 3 (0, 0)) * pt b6 (.cells x.cs.toArray 110 (0, 0)) * Z * esc s p g l) w := h.to (by simp only [bxs]; ac_rfl)
  obtain ⟨m, es, cl, hE, h'⟩ := eopen h'
  have f4 := h'.drop.drop.drop.drop.drop.look
  have f5 := h'.drop.drop.drop.drop.look
  have f6 := h'.drop.drop.drop.look
  have fs := h'.drop.look
  exact ⟨(cell_of f4).trans rfl, (cell_of f5).trans rfl, (cell_of f6).trans rfl, (cell_of f6).trans rfl, (cell_of f6).trans rfl, (cell_of fs).trans rfl, (cell_of fs).trans rfl⟩

def l145 : Lifted := ⟨[0, 1, 2], 11, [], (.regq (some 1) (.eff (.ld false 1) (.cons (.inp 0) .nil) (.chk none .chkp (.cons (.bv 0) .nil) (.chk none (.fld 1) (.cons (.op .chkp (.cons (.bv 0) .nil)) .nil) (.eff (.ld false 1) (.cons (.op (.fld 1) (.cons (.op .chkp (.cons (.bv 0) .nil)) .nil)) .nil) (.chk none (.fld 1) (.cons (.inp 1) .nil) (.eff (.ld false 1) (.cons (.op (.fld 1) (.cons (.inp 1) .nil)) .nil) (.eff (.ld false 1) (.cons (.inp 2) .nil) (.eff (.call 115) (.cons (.bv 1) (.cons (.bv 2) (.cons (.bv 3) .nil))) (.done [] none))))))))))⟩
theorem l145_ok : liftFn E0 145 400 = some l145 := by kernel_rfl

def h147_0 : HC := (.reg (.eff (.ld false 1) (.cons (.inp 0) .nil) (.eff (.ld false 1) (.cons (.inp 2) .nil) (.eff (.ld false 1) (.cons (.inp 3) .nil) (.eff (.call 116) (.cons (.bv 0) (.cons (.bv 1) (.cons (.bv 2) .nil))) (.done [] none))))))
@[simp] theorem h147_0_wp : type_of% (@wpH h147_0 _ h147_0.eq_1) := wpH h147_0.eq_1
def l147 : Lifted := ⟨[0, 1, 2, 3], 17, [], (.seq (.regq (some 1) (.eff (.ld false 1) (.cons (.inp 0) .nil) (.chk none .chkp (.cons (.bv 0) .nil) (.chk none (.fld 0) (.cons (.op .chkp (.cons (.bv 0) .nil)) .nil) (.eff (.ld false 1) (.cons (.op (.fld 0) (.cons (.op .chkp (.cons (.bv 0) .nil)) .nil)) .nil) (.chk none (.fld 0) (.cons (.inp 1) .nil) (.eff (.ld false 1) (.cons (.op (.fld 0) (.cons (.inp 1) .nil)) .nil) (.chk none (.fld 2) (.cons (.inp 1) .nil) (.eff (.ld false 1) (.cons (.op (.fld 2) (.cons (.inp 1) .nil)) .nil) (.eff (.call 114) (.cons (.bv 1) (.cons (.bv 2) (.cons (.bv 3) .nil))) (.done [] none))))))))))) h147_0)⟩
theorem l147_ok : liftFn E0 147 400 = some l147 := by kernel_rfl
theorem undo1_spec (b4 b5 b6 s p g : Nat) (c lim : Int) (x : Gf) (its : List Gd.It) (l : List Rw) (w0 w : World) (A : Asn) (hl : its.length ≤ 1048576) (h : St w0 (A * bxs b4 b5 b6 s c x * esc s p g l * Gd.gds g lim its) w) :
    CallW Tryz.prog 145 [.pointer (some ⟨b4, 0, none⟩), .pointer (some ⟨b6, 0, none⟩), .pointer (some ⟨b5, 0, none⟩)]
      (fun _ w' => St w0 (A * bxs b4 b5 b6 s c x * esc s p g l * Gd.gds g lim (Gd.holdF its x.item c).2) w') w := by
  refine callW_of_lift l145_ok (by simp [l145]) ?_
  simp [l145]
  have hf := fun {Z : Asn} {w : World} (h : St w0 (A * bxs b4 b5 b6 s c x * esc s p g l * Z) w) => bx_facts h
  have hH := fun {w : World} (h : St w0 (A * bxs b4 b5 b6 s c x * esc s p g l * Gd.gds g lim its) w) => Gd.Hold_spec g lim its x.item c w0 w _ hl h
  generalize A * bxs b4 b5 b6 s c x * esc s p g l = B at *
  refine regmI (Pu.cls1 (St w0 (B * Gd.gds g lim its)) (St w0 (B * Gd.gds g lim (Gd.holdF its x.item c).2))) h.drew ?_
  simp
  refine effm_ldc (v := .pointer (some ⟨s, 0, none⟩)) (fun vs' w he hw => Pu.cls1_low (fun h => (hf h).1) (fun h => (hf h).1) hw) ?_
  simp
  refine effm_ldc (v := .pointer (some ⟨g, 0, none⟩)) (fun vs' w he hw => Pu.cls1_low (fun h => (hf h).2.2.2.2.2.2) (fun h => (hf h).2.2.2.2.2.2) hw) ?_
  simp
  refine effm_ldc (v := .int .i64 x.item) (fun vs' w he hw => Pu.cls1_low (fun h => (hf h).2.2.2.1) (fun h => (hf h).2.2.2.1) hw) ?_
  simp
  refine effm_ldc (v := .int .i64 c) (fun vs' w he hw => Pu.cls1_low (fun h => (hf h).2.1) (fun h => (hf h).2.1) hw) ?_
  simp
  refine effm_mv (by rfl) (fun w hw => ?_) (fun r hr => ?_)
  · rw [Pu.cls1_nil] at hw
    refine eff_call ((hH hw).mono ?_)
    rintro r w' ⟨_, h⟩
    exact h
  simp
theorem undo2_spec (b4 b5 b6 b7 s p g : Nat) (c u : Int) (x : Gf) (P : Pu.Ps) (l : List Rw) (w0 w : World) (A : Asn) (hP : Pu.Bd P) (hc : 0 ≤ x.coins ∧ x.coins < 18446744073709551616) (ok : RwOK l)
    (h : St w0 (A * pt b7 (.cells #[.int .u64 u] 23 (0, 0)) * bxs b4 b5 b6 s c x * esc s p g l * Pu.pur p P) w) :
    CallW Tryz.prog 147 [.pointer (some ⟨b4, 0, none⟩), .pointer (some ⟨b6, 0, none⟩), .pointer (some ⟨b5, 0, none⟩), .pointer (some ⟨b7, 0, none⟩)]
      (fun _ w' => St w0 (A * pt b7 (.cells #[.int .u64 u] 23 (0, 0)) * bxs b4 b5 b6 s c x * esc s p g (setR c u l) * Pu.pur p (Pu.takeF P x.to x.coins).2) w') w := by
  refine callW_of_lift l147_ok (by simp [l147]) ?_
  simp [l147]
  generalize hA : A * pt b7 (.cells #[.int .u64 u] 23 (0, 0)) = A1 at h ⊢
  have hf := fun {Z : Asn} {w : World} (h : St w0 (A1 * bxs b4 b5 b6 s c x * esc s p g l * Z) w) => bx_facts h
  have hT := fun {w : World} (h : St w0 (A1 * bxs b4 b5 b6 s c x * esc s p g l * Pu.pur p P) w) => Pu.Take_spec p P x.to x.coins w0 w _ hP hc h
  refine regmI (Pu.cls1 (St w0 (A1 * bxs b4 b5 b6 s c x * esc s p g l * Pu.pur p P)) (St w0 (A1 * bxs b4 b5 b6 s c x * esc s p g l * Pu.pur p (Pu.takeF P x.to x.coins).2))) h.drew ?_
  simp
  refine effm_ldc (v := .pointer (some ⟨s, 0, none⟩)) (fun vs' w he hw => Pu.cls1_low (fun h => (hf h).1) (fun h => (hf h).1) hw) ?_
  simp
  refine effm_ldc (v := .pointer (some ⟨p, 0, none⟩)) (fun vs' w he hw => Pu.cls1_low (fun h => (hf h).2.2.2.2.2.1) (fun h => (hf h).2.2.2.2.2.1) hw) ?_
  simp
  refine effm_ldc (v := .int .i64 x.to) (fun vs' w he hw => Pu.cls1_low (fun h => (hf h).2.2.1) (fun h => (hf h).2.2.1) hw) ?_
  simp
  refine effm_ldc (v := .int .u64 x.coins) (fun vs' w he hw => Pu.cls1_low (fun h => (hf h).2.2.2.2.1) (fun h => (hf h).2.2.2.2.1) hw) ?_
  simp
  refine effm_mv (by rfl) (fun w hw => ?_) (fun r hr => ?_)
  · rw [Pu.cls1_nil] at hw
    refine eff_call ((hT hw).mono ?_)
    rintro r w' ⟨_, h⟩
    exact h
  simp
  intro w2 h2
  have f7 : w2.cell? ⟨b7, 0, none⟩ = some (.int .u64 u) := by
    rw [← hA] at h2
    exact (cell_of (h2.to (B := A * bxs b4 b5 b6 s c x * esc s p g l * Pu.pur p (Pu.takeF P x.to x.coins).2 * pt b7 (.cells #[.int .u64 u] 23 (0, 0))) (by ac_rfl)).look).trans rfl
  refine eff_ldc (hf h2).1 ?_
  simp
  refine eff_ldc (hf h2).2.1 ?_
  simp
  refine eff_ldc f7 ?_
  simp
  refine eff_call ((set_spec s p g l c u w0 w2 _ ok h2.swap).mono ?_)
  intro r w3 h3
  simp
  exact h3.swap
end Go.HL.Es

namespace Go.HL.Es
open Go.HL Go.Proofs
set_option maxRecDepth 4000
set_option linter.unusedSimpArgs false
set_option linter.unusedVariables false
structure Eco where
  P : Pu.Ps
  its : List Gd.It
  l : List Rw
deriving DecidableEq
abbrev ecoA (p g s : Nat) (lim : Int) (E : Eco) : Asn := Pu.pur p E.P * Gd.gds g lim E.its * esc s p g E.l
def giveF (c : Int) (x : Gf) (E : Eco) : Int × Eco :=
  if (Pu.getF E.P x.to).2 ≠ 0 then (142, E)
  else if x.item ≠ 0 ∧ ((Gd.getF E.its x.item).2 ≠ 0 ∨ (Gd.getF E.its x.item).1.con ≠ c) then (170, E)
  else if cns E.l c < x.coins then (170, E)
  else (0, ⟨(Pu.putF E.P x.to x.coins).2, if x.item ≠ 0 then (Gd.freeF E.its x.item x.to).2 else E.its, setR c (cns E.l c - x.coins) E.l⟩)
structure Et where
  acc : Int
  item : Int
  coins : Int
def putE (c : Int) (x : Et) (E : Eco) : Int × Eco :=
  if (Pu.getF E.P x.acc).2 ≠ 0 then (142, E)
  else if x.item ≠ 0 ∧ ((Gd.getF E.its x.item).2 ≠ 0 ∨ (Gd.getF E.its x.item).1.con ≠ 0 ∨ (Gd.getF E.its x.item).1.acc ≠ x.acc) then (151, E)
  else if (Pu.takeF E.P x.acc x.coins).1 ≠ 0 then ((Pu.takeF E.P x.acc x.coins).1, E)
  else (0, ⟨(Pu.takeF E.P x.acc x.coins).2, if x.item ≠ 0 then (Gd.holdF E.its x.item c).2 else E.its, setR c (cns E.l c + x.coins) E.l⟩)
def closF (b4 b5 b6 b7 : Nat) (x : Gf) : List Value :=
  (if x.item ≠ 0 then [.func (.func 145) #[] #[.pointer (some ⟨b4, 0, none⟩), .pointer (some ⟨b6, 0, none⟩), .pointer (some ⟨b5, 0, none⟩)]] else []) ++
    [.func (.func 147) #[] #[.pointer (some ⟨b4, 0, none⟩), .pointer (some ⟨b6, 0, none⟩), .pointer (some ⟨b5, 0, none⟩), .pointer (some ⟨b7, 0, none⟩)]]
noncomputable abbrev E1 : PF Tryz.prog := (PF.none _).quiet [74, 28]

def h113_0 : HC := (.seq (.reg (.done [(7, (.cst (.int .i64 0)))] none)) .ret)
@[simp] theorem h113_0_wp : type_of% (@wpH h113_0 _ h113_0.eq_1) := wpH h113_0.eq_1
def h113_1 : HC := (.seq (.reg (.chk none (.mkf (.func 147) 0) (.cons (.inp 4) (.cons (.inp 6) (.cons (.inp 5) (.cons (.inp 11) .nil)))) (.eff .callv (.cons (.inp 3) (.cons (.op (.mkf (.func 147) 0) (.cons (.inp 4) (.cons (.inp 6) (.cons (.inp 5) (.cons (.inp 11) .nil))))) .nil)) (.done [] none)))) h113_0)
@[simp] theorem h113_1_wp : type_of% (@wpH h113_1 _ h113_1.eq_1) := wpH h113_1.eq_1
def h113_2 : HC := (.seq (.reg (.eff (.ld false 1) (.cons (.inp 4) .nil) (.eff (.ld false 1) (.cons (.inp 5) .nil) (.eff (.call 116) (.cons (.bv 0) (.cons (.bv 1) (.cons (.inp 12) .nil))) (.done [] none))))) h113_1)
@[simp] theorem h113_2_wp : type_of% (@wpH h113_2 _ h113_2.eq_1) := wpH h113_2.eq_1
def h113_3 : HC := (.seq (.regq (some 1) (.eff (.ld false 1) (.cons (.inp 4) .nil) (.chk none .chkp (.cons (.bv 0) .nil) (.chk none (.fld 0) (.cons (.op .chkp (.cons (.bv 0) .nil)) .nil) (.eff (.ld false 1) (.cons (.op (.fld 0) (.cons (.op .chkp (.cons (.bv 0) .nil)) .nil)) .nil) (.chk none (.fld 0) (.cons (.inp 6) .nil) (.eff (.ld false 1) (.cons (.op (.fld 0) (.cons (.inp 6) .nil)) .nil) (.chk none (.fld 2) (.cons (.inp 6) .nil) (.eff (.ld false 1) (.cons (.op (.fld 2) (.cons (.inp 6) .nil)) .nil) (.eff (.call 146) (.cons (.bv 1) (.cons (.bv 2) (.cons (.bv 3) .nil))) (.done [] none))))))))))) h113_2)
@[simp] theorem h113_3_wp : type_of% (@wpH h113_3 _ h113_3.eq_1) := wpH h113_3.eq_1
def h113_4 : HC := (.reg (.chk none (.mkf (.func 145) 0) (.cons (.inp 4) (.cons (.inp 6) (.cons (.inp 5) .nil))) (.eff .callv (.cons (.inp 3) (.cons (.op (.mkf (.func 145) 0) (.cons (.inp 4) (.cons (.inp 6) (.cons (.inp 5) .nil)))) .nil)) (.done [] none))))
@[simp] theorem h113_4_wp : type_of% (@wpH h113_4 _ h113_4.eq_1) := wpH h113_4.eq_1
def h113_5 : HC := (.seq (.regq (some 1) (.eff (.ld false 1) (.cons (.inp 4) .nil) (.chk none .chkp (.cons (.bv 0) .nil) (.chk none (.fld 1) (.cons (.op .chkp (.cons (.bv 0) .nil)) .nil) (.eff (.ld false 1) (.cons (.op (.fld 1) (.cons (.op .chkp (.cons (.bv 0) .nil)) .nil)) .nil) (.chk none (.fld 1) (.cons (.inp 6) .nil) (.eff (.ld false 1) (.cons (.op (.fld 1) (.cons (.inp 6) .nil)) .nil) (.chk none (.fld 0) (.cons (.inp 6) .nil) (.eff (.ld false 1) (.cons (.op (.fld 0) (.cons (.inp 6) .nil)) .nil) (.eff (.call 144) (.cons (.bv 1) (.cons (.bv 2) (.cons (.bv 3) .nil))) (.done [] none))))))))))) h113_4)
@[simp] theorem h113_5_wp : type_of% (@wpH h113_5 _ h113_5.eq_1) := wpH h113_5.eq_1
def h113_6 : HC := (.seq (.br (.chk none (.fld 1) (.cons (.inp 6) .nil) (.eff (.ld false 1) (.cons (.op (.fld 1) (.cons (.inp 6) .nil)) .nil) (.chk none (.bin .neq) (.cons (.bv 0) (.cons (.cst (.int .i64 0)) .nil)) (.done [] (some (.op (.bin .neq) (.cons (.bv 0) (.cons (.cst (.int .i64 0)) .nil)))))))) h113_5 .skip) h113_3)
@[simp] theorem h113_6_wp : type_of% (@wpH h113_6 _ h113_6.eq_1) := wpH h113_6.eq_1
def h113_7 : HC := (.seq (.reg (.done [(7, (.cst (.int .i64 170)))] none)) .ret)
@[simp] theorem h113_7_wp : type_of% (@wpH h113_7 _ h113_7.eq_1) := wpH h113_7.eq_1
def h113_8 : HC := (.seq (.br (.chk none (.bin .neq) (.cons (.inp 13) (.cons (.cst (.int .i64 0)) .nil)) (.done [] (some (.op (.bin .neq) (.cons (.inp 13) (.cons (.cst (.int .i64 0)) .nil)))))) h113_7 .skip) h113_6)
@[simp] theorem h113_8_wp : type_of% (@wpH h113_8 _ h113_8.eq_1) := wpH h113_8.eq_1
def h113_9 : HC := (.seq (.reg (.eff (.ld false 1) (.cons (.inp 11) .nil) (.chk none (.fld 2) (.cons (.inp 6) .nil) (.eff (.ld false 1) (.cons (.op (.fld 2) (.cons (.inp 6) .nil)) .nil) (.eff (.call 32) (.cons (.bv 0) (.cons (.bv 1) .nil)) (.chk none (.ext 0) (.cons (.bv 2) .nil) (.chk none (.ext 1) (.cons (.bv 2) .nil) (.done [(12, (.op (.ext 0) (.cons (.bv 2) .nil))), (13, (.op (.ext 1) (.cons (.bv 2) .nil)))] none)))))))) h113_8)
@[simp] theorem h113_9_wp : type_of% (@wpH h113_9 _ h113_9.eq_1) := wpH h113_9.eq_1
def h113_10 : HC := (.seq (.regq (some 2) (.eff (.ld false 1) (.cons (.inp 4) .nil) (.chk none .chkp (.cons (.bv 0) .nil) (.chk none (.fld 2) (.cons (.op .chkp (.cons (.bv 0) .nil)) .nil) (.eff (.ld false 1) (.cons (.op (.fld 2) (.cons (.op .chkp (.cons (.bv 0) .nil)) .nil)) .nil) (.eff (.ld false 1) (.cons (.inp 5) .nil) (.eff (.look 93 false) (.cons (.bv 1) (.cons (.bv 2) .nil)) (.eff (.new 23 (.int .u64 0)) .nil (.eff (.st 1) (.cons (.bv 4) (.cons (.bv 3) .nil)) (.done [(11, (.bv 4))] none)))))))))) h113_9)
@[simp] theorem h113_10_wp : type_of% (@wpH h113_10 _ h113_10.eq_1) := wpH h113_10.eq_1
def h113_11 : HC := (.seq (.reg (.done [(7, (.cst (.int .i64 170)))] none)) .ret)
@[simp] theorem h113_11_wp : type_of% (@wpH h113_11 _ h113_11.eq_1) := wpH h113_11.eq_1
def h113_12 : HC := (.br (.chk none (.bin .neq) (.cons (.inp 10) (.cons (.cst (.int .i64 0)) .nil)) (.bnd (.op (.bin .neq) (.cons (.inp 10) (.cons (.cst (.int .i64 0)) .nil))) (.chk (some ((.bv 0), false)) (.fld 3) (.cons (.inp 9) .nil) (.ite (.bv 0) false (.eff (.ld false 1) (.cons (.ite (.bv 0) false (.op (.fld 3) (.cons (.inp 9) .nil)) (.cst (.tuple #[]))) .nil) (.eff (.ld false 1) (.cons (.inp 5) .nil) (.chk none (.bin .neq) (.cons (.bv 1) (.cons (.bv 2) .nil)) (.isb none (.bv 0) (.done [] (some (.op (.bin .neq) (.cons (.bv 1) (.cons (.bv 2) .nil))))))))) (.isb none (.bv 0) (.done [] (some (.cst (.bool true))))))))) h113_11 .skip)
@[simp] theorem h113_12_wp : type_of% (@wpH h113_12 _ h113_12.eq_1) := wpH h113_12.eq_1
def h113_13 : HC := (.seq (.regq (some 2) (.eff (.ld false 1) (.cons (.inp 4) .nil) (.chk none .chkp (.cons (.bv 0) .nil) (.chk none (.fld 1) (.cons (.op .chkp (.cons (.bv 0) .nil)) .nil) (.eff (.ld false 1) (.cons (.op (.fld 1) (.cons (.op .chkp (.cons (.bv 0) .nil)) .nil)) .nil) (.chk none (.fld 1) (.cons (.inp 6) .nil) (.eff (.ld false 1) (.cons (.op (.fld 1) (.cons (.inp 6) .nil)) .nil) (.eff (.call 28) (.cons (.bv 1) (.cons (.bv 2) .nil)) (.chk none (.ext 0) (.cons (.bv 3) .nil) (.chk none (.ext 1) (.cons (.bv 3) .nil) (.eff (.new 60 (.agg #[(.int .i64 0), (.int .i64 0), (.int .i64 0), (.int .i64 0)])) .nil (.eff (.st 4) (.cons (.bv 4) (.cons (.op (.ext 0) (.cons (.bv 3) .nil)) .nil)) (.done [(9, (.bv 4)), (10, (.op (.ext 1) (.cons (.bv 3) .nil)))] none))))))))))))) h113_12)
@[simp] theorem h113_13_wp : type_of% (@wpH h113_13 _ h113_13.eq_1) := wpH h113_13.eq_1
def h113_14 : HC := (.seq (.br (.chk none (.fld 1) (.cons (.inp 6) .nil) (.eff (.ld false 1) (.cons (.op (.fld 1) (.cons (.inp 6) .nil)) .nil) (.chk none (.bin .neq) (.cons (.bv 0) (.cons (.cst (.int .i64 0)) .nil)) (.done [] (some (.op (.bin .neq) (.cons (.bv 0) (.cons (.cst (.int .i64 0)) .nil)))))))) h113_13 .skip) h113_10)
@[simp] theorem h113_14_wp : type_of% (@wpH h113_14 _ h113_14.eq_1) := wpH h113_14.eq_1
def h113_15 : HC := (.seq (.reg (.done [(7, (.inp 8))] none)) .ret)
@[simp] theorem h113_15_wp : type_of% (@wpH h113_15 _ h113_15.eq_1) := wpH h113_15.eq_1
def h113_16 : HC := (.seq (.br (.chk none (.bin .neq) (.cons (.inp 8) (.cons (.cst (.int .i64 0)) .nil)) (.done [] (some (.op (.bin .neq) (.cons (.inp 8) (.cons (.cst (.int .i64 0)) .nil)))))) h113_15 .skip) h113_14)
@[simp] theorem h113_16_wp : type_of% (@wpH h113_16 _ h113_16.eq_1) := wpH h113_16.eq_1
def h113_17 : HC := (.seq (.regq (some 2) (.eff (.ld false 1) (.cons (.inp 4) .nil) (.chk none .chkp (.cons (.bv 0) .nil) (.chk none (.fld 0) (.cons (.op .chkp (.cons (.bv 0) .nil)) .nil) (.eff (.ld false 1) (.cons (.op (.fld 0) (.cons (.op .chkp (.cons (.bv 0) .nil)) .nil)) .nil) (.chk none (.fld 0) (.cons (.inp 6) .nil) (.eff (.ld false 1) (.cons (.op (.fld 0) (.cons (.inp 6) .nil)) .nil) (.eff (.call 74) (.cons (.bv 1) (.cons (.bv 2) .nil)) (.chk none (.ext 0) (.cons (.bv 3) .nil) (.chk none (.ext 1) (.cons (.bv 3) .nil) (.eff (.new 58 (.agg #[(.string ⟨#[]⟩), (.int .u64 0)])) .nil (.eff (.st 2) (.cons (.bv 4) (.cons (.op (.ext 0) (.cons (.bv 3) .nil)) .nil)) (.done [(8, (.op (.ext 1) (.cons (.bv 3) .nil)))] none))))))))))))) h113_16)
@[simp] theorem h113_17_wp : type_of% (@wpH h113_17 _ h113_17.eq_1) := wpH h113_17.eq_1
def l113 : Lifted := ⟨[0, 1, 2, 3, 4, 5, 6, 8, 10, 11, 12, 13, 14, 15], 96, [.slot 7], (.seq (.reg (.eff (.box 38) (.cons (.inp 0) .nil) (.eff (.box 3) (.cons (.inp 1) .nil) (.eff (.box 110) (.cons (.inp 2) .nil) (.done [(4, (.bv 0)), (5, (.bv 1)), (6, (.bv 2)), (7, (.cst (.int .i64 0)))] none))))) h113_17)⟩
theorem l113_ok : liftFn E1 113 400 = some l113 := by kernel_rfl

def h84_0 : HC := (.seq (.reg (.done [(4, (.cst (.int .i64 0)))] none)) .ret)
@[simp] theorem h84_0_wp : type_of% (@wpH h84_0 _ h84_0.eq_1) := wpH h84_0.eq_1
def h84_1 : HC := (.seq (.regq (some 1) (.chk none .chkp (.cons (.inp 0) .nil) (.chk none (.fld 2) (.cons (.op .chkp (.cons (.inp 0) .nil)) .nil) (.eff (.ld false 1) (.cons (.op (.fld 2) (.cons (.op .chkp (.cons (.inp 0) .nil)) .nil)) .nil) (.eff (.look 93 false) (.cons (.bv 0) (.cons (.inp 1) .nil)) (.chk none (.fld 2) (.cons (.inp 3) .nil) (.eff (.ld false 1) (.cons (.op (.fld 2) (.cons (.inp 3) .nil)) .nil) (.chk none (.bin .add) (.cons (.bv 1) (.cons (.bv 2) .nil)) (.eff (.call 116) (.cons (.inp 0) (.cons (.inp 1) (.cons (.op (.bin .add) (.cons (.bv 1) (.cons (.bv 2) .nil))) .nil))) (.done [] none)))))))))) h84_0)
@[simp] theorem h84_1_wp : type_of% (@wpH h84_1 _ h84_1.eq_1) := wpH h84_1.eq_1
def h84_2 : HC := (.regq (some 1) (.chk none .chkp (.cons (.inp 0) .nil) (.chk none (.fld 1) (.cons (.op .chkp (.cons (.inp 0) .nil)) .nil) (.eff (.ld false 1) (.cons (.op (.fld 1) (.cons (.op .chkp (.cons (.inp 0) .nil)) .nil)) .nil) (.chk none (.fld 1) (.cons (.inp 3) .nil) (.eff (.ld false 1) (.cons (.op (.fld 1) (.cons (.inp 3) .nil)) .nil) (.eff (.call 115) (.cons (.bv 0) (.cons (.bv 1) (.cons (.inp 1) .nil))) (.done [] none))))))))
@[simp] theorem h84_2_wp : type_of% (@wpH h84_2 _ h84_2.eq_1) := wpH h84_2.eq_1
def h84_3 : HC := (.seq (.br (.chk none (.fld 1) (.cons (.inp 3) .nil) (.eff (.ld false 1) (.cons (.op (.fld 1) (.cons (.inp 3) .nil)) .nil) (.chk none (.bin .neq) (.cons (.bv 0) (.cons (.cst (.int .i64 0)) .nil)) (.done [] (some (.op (.bin .neq) (.cons (.bv 0) (.cons (.cst (.int .i64 0)) .nil)))))))) h84_2 .skip) h84_1)
@[simp] theorem h84_3_wp : type_of% (@wpH h84_3 _ h84_3.eq_1) := wpH h84_3.eq_1
def h84_4 : HC := (.seq (.reg (.done [(4, (.inp 8))] none)) .ret)
@[simp] theorem h84_4_wp : type_of% (@wpH h84_4 _ h84_4.eq_1) := wpH h84_4.eq_1
def h84_5 : HC := (.seq (.br (.chk none (.bin .neq) (.cons (.inp 8) (.cons (.cst (.int .i64 0)) .nil)) (.done [] (some (.op (.bin .neq) (.cons (.inp 8) (.cons (.cst (.int .i64 0)) .nil)))))) h84_4 .skip) h84_3)
@[simp] theorem h84_5_wp : type_of% (@wpH h84_5 _ h84_5.eq_1) := wpH h84_5.eq_1
def h84_6 : HC := (.seq (.regq (some 1) (.chk none .chkp (.cons (.inp 0) .nil) (.chk none (.fld 0) (.cons (.op .chkp (.cons (.inp 0) .nil)) .nil) (.eff (.ld false 1) (.cons (.op (.fld 0) (.cons (.op .chkp (.cons (.inp 0) .nil)) .nil)) .nil) (.chk none (.fld 0) (.cons (.inp 3) .nil) (.eff (.ld false 1) (.cons (.op (.fld 0) (.cons (.inp 3) .nil)) .nil) (.chk none (.fld 2) (.cons (.inp 3) .nil) (.eff (.ld false 1) (.cons (.op (.fld 2) (.cons (.inp 3) .nil)) .nil) (.eff (.call 114) (.cons (.bv 0) (.cons (.bv 1) (.cons (.bv 2) .nil))) (.done [(8, (.bv 3))] none)))))))))) h84_5)
@[simp] theorem h84_6_wp : type_of% (@wpH h84_6 _ h84_6.eq_1) := wpH h84_6.eq_1
def h84_7 : HC := (.seq (.reg (.done [(4, (.cst (.int .i64 151)))] none)) .ret)
@[simp] theorem h84_7_wp : type_of% (@wpH h84_7 _ h84_7.eq_1) := wpH h84_7.eq_1
def h84_8 : HC := (.br (.chk none (.bin .neq) (.cons (.inp 7) (.cons (.cst (.int .i64 0)) .nil)) (.bnd (.op (.bin .neq) (.cons (.inp 7) (.cons (.cst (.int .i64 0)) .nil))) (.chk (some ((.bv 0), false)) (.fld 3) (.cons (.inp 6) .nil) (.ite (.bv 0) false (.eff (.ld false 1) (.cons (.ite (.bv 0) false (.op (.fld 3) (.cons (.inp 6) .nil)) (.cst (.tuple #[]))) .nil) (.chk none (.bin .neq) (.cons (.bv 1) (.cons (.cst (.int .i64 0)) .nil)) (.isb none (.bv 0) (.bnd (.op (.bin .neq) (.cons (.bv 1) (.cons (.cst (.int .i64 0)) .nil))) (.chk (some ((.bv 2), false)) (.fld 2) (.cons (.inp 6) .nil) (.ite (.bv 2) false (.eff (.ld false 1) (.cons (.ite (.bv 2) false (.op (.fld 2) (.cons (.inp 6) .nil)) (.cst (.tuple #[]))) .nil) (.chk none (.fld 0) (.cons (.inp 3) .nil) (.eff (.ld false 1) (.cons (.op (.fld 0) (.cons (.inp 3) .nil)) .nil) (.chk none (.bin .neq) (.cons (.bv 3) (.cons (.bv 4) .nil)) (.isb none (.bv 2) (.done [] (some (.op (.bin .neq) (.cons (.bv 3) (.cons (.bv 4) .nil)))))))))) (.isb none (.bv 2) (.done [] (some (.cst (.bool true))))))))))) (.isb none (.bv 0) (.isb none (.cst (.bool true)) (.done [] (some (.cst (.bool true)))))))))) h84_7 .skip)
@[simp] theorem h84_8_wp : type_of% (@wpH h84_8 _ h84_8.eq_1) := wpH h84_8.eq_1
def h84_9 : HC := (.seq (.regq (some 2) (.chk none .chkp (.cons (.inp 0) .nil) (.chk none (.fld 1) (.cons (.op .chkp (.cons (.inp 0) .nil)) .nil) (.eff (.ld false 1) (.cons (.op (.fld 1) (.cons (.op .chkp (.cons (.inp 0) .nil)) .nil)) .nil) (.chk none (.fld 1) (.cons (.inp 3) .nil) (.eff (.ld false 1) (.cons (.op (.fld 1) (.cons (.inp 3) .nil)) .nil) (.eff (.call 28) (.cons (.bv 0) (.cons (.bv 1) .nil)) (.chk none (.ext 0) (.cons (.bv 2) .nil) (.chk none (.ext 1) (.cons (.bv 2) .nil) (.eff (.new 60 (.agg #[(.int .i64 0), (.int .i64 0), (.int .i64 0), (.int .i64 0)])) .nil (.eff (.st 4) (.cons (.bv 3) (.cons (.op (.ext 0) (.cons (.bv 2) .nil)) .nil)) (.done [(6, (.bv 3)), (7, (.op (.ext 1) (.cons (.bv 2) .nil)))] none)))))))))))) h84_8)
@[simp] theorem h84_9_wp : type_of% (@wpH h84_9 _ h84_9.eq_1) := wpH h84_9.eq_1
def h84_10 : HC := (.seq (.br (.chk none (.fld 1) (.cons (.inp 3) .nil) (.eff (.ld false 1) (.cons (.op (.fld 1) (.cons (.inp 3) .nil)) .nil) (.chk none (.bin .neq) (.cons (.bv 0) (.cons (.cst (.int .i64 0)) .nil)) (.done [] (some (.op (.bin .neq) (.cons (.bv 0) (.cons (.cst (.int .i64 0)) .nil)))))))) h84_9 .skip) h84_6)
@[simp] theorem h84_10_wp : type_of% (@wpH h84_10 _ h84_10.eq_1) := wpH h84_10.eq_1
def h84_11 : HC := (.seq (.reg (.done [(4, (.inp 5))] none)) .ret)
@[simp] theorem h84_11_wp : type_of% (@wpH h84_11 _ h84_11.eq_1) := wpH h84_11.eq_1
def h84_12 : HC := (.seq (.br (.chk none (.bin .neq) (.cons (.inp 5) (.cons (.cst (.int .i64 0)) .nil)) (.done [] (some (.op (.bin .neq) (.cons (.inp 5) (.cons (.cst (.int .i64 0)) .nil)))))) h84_11 .skip) h84_10)
@[simp] theorem h84_12_wp : type_of% (@wpH h84_12 _ h84_12.eq_1) := wpH h84_12.eq_1
def h84_13 : HC := (.seq (.regq (some 2) (.chk none .chkp (.cons (.inp 0) .nil) (.chk none (.fld 0) (.cons (.op .chkp (.cons (.inp 0) .nil)) .nil) (.eff (.ld false 1) (.cons (.op (.fld 0) (.cons (.op .chkp (.cons (.inp 0) .nil)) .nil)) .nil) (.chk none (.fld 0) (.cons (.inp 3) .nil) (.eff (.ld false 1) (.cons (.op (.fld 0) (.cons (.inp 3) .nil)) .nil) (.eff (.call 74) (.cons (.bv 0) (.cons (.bv 1) .nil)) (.chk none (.ext 0) (.cons (.bv 2) .nil) (.chk none (.ext 1) (.cons (.bv 2) .nil) (.eff (.new 58 (.agg #[(.string ⟨#[]⟩), (.int .u64 0)])) .nil (.eff (.st 2) (.cons (.bv 3) (.cons (.op (.ext 0) (.cons (.bv 2) .nil)) .nil)) (.done [(5, (.op (.ext 1) (.cons (.bv 2) .nil)))] none)))))))))))) h84_12)
@[simp] theorem h84_13_wp : type_of% (@wpH h84_13 _ h84_13.eq_1) := wpH h84_13.eq_1
def l84 : Lifted := ⟨[0, 1, 2, 5, 6, 8, 9, 10, 11], 87, [.slot 4], (.seq (.reg (.eff (.box 46) (.cons (.inp 2) .nil) (.done [(3, (.bv 0)), (4, (.cst (.int .i64 0)))] none))) h84_13)⟩
theorem l84_ok : liftFn E1 84 400 = some l84 := by kernel_rfl
end Go.HL.Es

namespace Go.HL.Es
open Go.HL Go.Proofs
set_option maxRecDepth 4000
set_option linter.unusedSimpArgs false
set_option linter.unusedVariables false
def clsN (X : World → Prop) (Y Z : Nat → World → Prop) : List Value → World → Prop
  | [], w => X w
  | [v], w => ∃ b, v = .pointer (some ⟨b, 0, none⟩) ∧ Y b w
  | v :: _ :: _, w => ∃ b, v = .pointer (some ⟨b, 0, none⟩) ∧ Z b w
theorem clsN_low {X : World → Prop} {Y Z : Nat → World → Prop} {R : Prop} {vs : List Value} {w : World} (h1 : X w → R) (h2 : ∀ b, Y b w → R) (h3 : ∀ b, Z b w → R) (h : clsN X Y Z vs w) : R := by
  match vs, h with
  | [], h => exact h1 h
  | [_], ⟨b, _, h⟩ => exact h2 b h
  | _ :: _ :: _, ⟨b, _, h⟩ => exact h3 b h
theorem clsN_call {P : Program} {f : FuncId} {args : List Value} {r : Value} {X : World → Prop} {Y Z : Nat → World → Prop} {vs : List Value} {w : World}
    (h1 : X w → CallW P f args (fun u w' => u = r ∧ X w') w) (h2 : ∀ b, Y b w → CallW P f args (fun u w' => u = r ∧ Y b w') w) (h3 : ∀ b, Z b w → CallW P f args (fun u w' => u = r ∧ Z b w') w)
    (h : clsN X Y Z vs w) : CallW P f args (fun u w' => u = r ∧ clsN X Y Z vs w') w := by
  match vs, h with
  | [], h => exact h1 h
  | [v], ⟨b, hv, h⟩ => exact (h2 b h).mono fun u w' ⟨e, h⟩ => ⟨e, b, hv, h⟩
  | v :: _ :: _, ⟨b, hv, h⟩ => exact (h3 b h).mono fun u w' ⟨e, h⟩ => ⟨e, b, hv, h⟩
end Go.HL.Es

namespace Go.HL
set_option linter.unusedSimpArgs false
set_option linter.unusedVariables false
section
variable {P : Program} {K : Value → World → Prop} {w w0 : World} {F : Asn}
def grw (e size : Nat) (v v' : Value) (n m : Nat) (xs ys : List Value) : Asn := fun h =>
  (∃ g cap, v = .slice (some ⟨g, 0, none⟩) n cap ∧ v' = .slice (some ⟨g, 0, none⟩) (n + m) cap ∧ xs.length = n * size ∧ own e size v' (n + m) (xs ++ ys) h) ∨
  (own e size v n xs * own e size v' (n + m) (xs ++ ys)) h
theorem St.grw {e size : Nat} {v v' : Value} {n m : Nat} {xs ys : List Value} (s : St w0 (F * HL.grw e size v v' n m xs ys) w) :
    (∃ g cap, v = .slice (some ⟨g, 0, none⟩) n cap ∧ v' = .slice (some ⟨g, 0, none⟩) (n + m) cap ∧ xs.length = n * size ∧ St w0 (F * HL.own e size v' (n + m) (xs ++ ys)) w) ∨
    St w0 (F * (HL.own e size v n xs * HL.own e size v' (n + m) (xs ++ ys))) w := by
  obtain ⟨g, h1, h2, h3, d, e', a, b⟩ := s.holds
  rcases b with ⟨g', cap, k1, k2, k3, k4⟩ | k
  · exact .inl ⟨g', cap, k1, k2, k3, s.of ⟨g, h1, h2, h3, d, e', a, k4⟩⟩
  · exact .inr (s.of ⟨g, h1, h2, h3, d, e', a, k⟩)
theorem own_less {e size g n m cap : Nat} {xs ys : List Value} (hl : xs.length = n * size) {h : _} (hh : own e size (.slice (some ⟨g, 0, none⟩) (n + m) cap) (n + m) (xs ++ ys) h) : own e size (.slice (some ⟨g, 0, none⟩) n cap) n xs h := by
  refine ⟨hl, .inr ?_⟩
  rcases hh.2 with ⟨h1, _⟩ | ⟨g', cap', cur, h1, h2, h3, h4, h5, h6⟩
  · cases h1
  · cases h1
    refine ⟨g, cap, cur, rfl, by omega, h3, h4, ?_, h6⟩
    have : (cur.toList.take ((n + m) * size)).take (n * size) = (xs ++ ys).take (n * size) := by rw [h5]
    rw [List.take_take, Nat.min_eq_left (Nat.mul_le_mul_right _ (by omega)), ← hl, List.take_left] at this
    rw [← hl]; exact this
end
def prodA (f : Nat → Asn) : Nat → Asn
  | 0 => emp
  | n + 1 => prodA f n * f n
section
variable {α : Type}
def bigA (F : Nat → α → Asn) (Y : Nat → α) (n : Nat) : Asn := prodA (fun j => F j (Y j)) n
def bigH (F : Nat → α → Asn) (Y : Nat → α) (i n : Nat) : Asn := prodA (fun j => if j = i then emp else F j (Y j)) n
def upF (Y : Nat → α) (i : Nat) (y : α) : Nat → α := fun j => if j = i then y else Y j
end
end Go.HL

namespace Go.HL
set_option maxRecDepth 4000
set_option linter.unusedSimpArgs false
set_option linter.unusedVariables false
theorem foldl_off (o : Nat) : ∀ (vs : List Value) (j : Nat) (c : Array Value), (vs.zipIdx j).foldl (fun (cs : Array Value) x => cs.setIfInBounds (o + x.2) x.1) c = (vs.zipIdx (o + j)).foldl (fun (cs : Array Value) x => cs.setIfInBounds x.2 x.1) c
  | [], _, _ => rfl
  | v :: vs, j, c => by
    rw [List.zipIdx_cons, List.zipIdx_cons, List.foldl_cons, List.foldl_cons, foldl_off o vs (j + 1)]
    rfl
theorem fillN (size : Nat) : ∀ (vs : List Value) (k : Nat) (c : List Value), (∀ v ∈ vs, v.cells.size = size) → (k + vs.length) * size ≤ c.length →
    Instr.fill (fun i => some (i * size, size)) c.toArray ((List.range' k vs.length).zip vs) = some (c.take (k * size) ++ vs.flatMap (fun v => v.cells.toList) ++ c.drop ((k + vs.length) * size)).toArray
  | [], k, c, _, _ => by simp [Instr.fill]
  | v :: vs, k, c, hv, hc => by
    have h0 : v.cells.size = size := hv v (List.mem_cons_self ..)
    have hle : (k + 1 + vs.length) * size ≤ c.length := by
      have : k + (v :: vs).length = k + 1 + vs.length := by simp; omega
      rw [this] at hc; exact hc
    have hk1 : (k + 1) * size = k * size + size := Nat.succ_mul k size
    have hadd : (k + 1 + vs.length) * size = k * size + size + vs.length * size := by rw [Nat.add_mul, hk1]
    rw [List.length_cons, List.range'_succ, List.zip_cons_cons]
    simp only [Instr.fill, h0]
    rw [if_neg (by simp; omega)]
    have hsz : v.cells.toList.length = size := by rw [Array.length_toList, h0]
    have hf : v.cells.zipIdx.foldl (fun (cs : Array Value) (x : Value × Nat) => cs.setIfInBounds (k * size + x.2) x.1) c.toArray = (c.take (k * size) ++ v.cells.toList ++ c.drop (k * size + size)).toArray := by
      have e : v.cells.zipIdx = (v.cells.toList.zipIdx 0).toArray := by
        apply Array.ext'
        simp
      rw [e, List.foldl_toArray']
      · rw [foldl_off, Nat.add_zero, foldl_set v.cells.toList (k * size) c (by rw [hsz]; omega), hsz]
      · rfl
    rw [hf]
    have ih := fillN size vs (k + 1) (c.take (k * size) ++ v.cells.toList ++ c.drop (k * size + size)) (fun u hu => hv u (List.mem_cons_of_mem _ hu)) (by
      simp only [List.length_append, List.length_take, List.length_drop, hsz]; omega)
    rw [ih]
    congr 2
    have l1 : (c.take (k * size)).length = k * size := by rw [List.length_take]; omega
    have l2 : (c.take (k * size) ++ v.cells.toList).length = (k + 1) * size := by rw [List.length_append, l1, hsz, hk1]
    have t1 : (c.take (k * size) ++ v.cells.toList ++ c.drop (k * size + size)).take ((k + 1) * size) = c.take (k * size) ++ v.cells.toList := by
      rw [← l2]; exact List.take_left
    have t2 : (c.take (k * size) ++ v.cells.toList ++ c.drop (k * size + size)).drop ((k + 1 + vs.length) * size) = c.drop ((k + (vs.length + 1)) * size) := by
      have e2 : (k + (vs.length + 1)) * size = (k + 1 + vs.length) * size := by congr 1; omega
      rw [List.drop_append, l2, List.drop_of_length_le (by rw [l2, hadd, hk1]; omega), List.nil_append, List.drop_drop, e2]
      congr 1
      rw [hadd, hk1]; omega
    rw [t1, t2]
    simp [List.flatMap_cons, List.append_assoc]
theorem eff_bslN {P : Program} {K : Value → World → Prop} {w w0 : World} {F : Asn} {e size n : Nat} {z : Array Value} {vs : List Value} {ix : List Nat} (s : St w0 F w) (hv : ∀ v ∈ vs, v.cells.size = size) (hn : vs.length = n) (hix : ix = List.range' 0 n) (hm : n ≤ maxLen)
    (hk : ∀ v w', St w0 (F * own e size v n (vs.flatMap fun v => v.cells.toList)) w' → K v w') : EffW P (.bsl e n size z ix) vs K w := by
  subst hix hn
  have hl : ((Array.range (vs.length * size)).map fun i => z[i % z.size]!).size = vs.length * size := by simp
  have hfl : (vs.flatMap fun v => v.cells.toList).length = vs.length * size := by
    clear hl s hk hm
    induction vs with
    | nil => simp
    | cons v vs ih =>
      rw [List.flatMap_cons, List.length_append, ih (fun u hu => hv u (List.mem_cons_of_mem _ hu)), Array.length_toList, hv v (List.mem_cons_self ..), List.length_cons, Nat.succ_mul]; omega
  refine eff_bsl (cells := (vs.flatMap fun v => v.cells.toList).toArray) s ?_ fun b w' s' => hk _ w' (s'.own_mk (Nat.le_refl _) hm (by rw [List.size_toArray, hfl]) (by rw [← hfl]; exact List.take_length))
  have := fillN size vs 0 ((Array.range (vs.length * size)).map fun i => z[i % z.size]!).toList hv (by simp)
  rw [Array.toArray_toList] at this
  refine this.trans ?_
  rw [Nat.zero_mul, List.take_zero, List.nil_append, Nat.zero_add, List.drop_of_length_le (by rw [Array.length_toList, hl]; exact Nat.le_refl _), List.append_nil]
theorem eff_bslO {P : Program} {K : Value → World → Prop} {w w0 : World} {F : Asn} {e n : Nat} {z : Array Value} {vs : List Value} {ix : List Nat} (s : St w0 F w) (hv : ∀ v ∈ vs, v.oneCell' = true) (hn : vs.length = n) (hix : ix = List.range' 0 n) (hm : n ≤ maxLen)
    (hk : ∀ v w', St w0 (F * own e 1 v n vs) w' → K v w') : EffW P (.bsl e n 1 z ix) vs K w := by
  have hc : ∀ v ∈ vs, v.cells = #[v] := fun v h => by
    have := hv v h
    cases v <;> first | rfl | (simp [Value.oneCell'] at this)
  refine eff_bslN s (fun v h => by rw [hc v h]; rfl) hn hix hm fun v w' s' => hk v w' ?_
  have e : (vs.flatMap fun v => v.cells.toList) = vs := by
    clear s hk hn hix hm s' hv
    induction vs with
    | nil => rfl
    | cons v vs ih => rw [List.flatMap_cons, hc v (List.mem_cons_self ..), ih fun u hu => hc u (List.mem_cons_of_mem _ hu)]; rfl
  rw [e] at s'
  exact s'
end Go.HL

namespace Go.HL.Pu
open Go.HL Go.HL.Nm Go.Proofs
set_option maxRecDepth 4000
set_option linter.unusedSimpArgs false
set_option linter.unusedVariables false
noncomputable abbrev U1 : PF Tryz.prog := PF.of []
def bdB (P : Ps) : Bool := decide (∀ x ∈ P.rows, 0 ≤ x.coins ∧ x.coins ≤ 4611686018427387904) && decide (0 ≤ P.held ∧ P.held ≤ 4611686018427387904) && decide (0 ≤ P.sup ∧ P.sup ≤ 4611686018427387904) && decide (P.rows.length ≤ 64)
theorem bd_of {P : Ps} (h : bdB P = true) : Bd P := by
  simp only [bdB, Bool.and_eq_true, decide_eq_true_eq] at h
  obtain ⟨⟨⟨h1, h2⟩, h3⟩, h4⟩ := h
  refine ⟨fun i hi => ?_, h2, h3, h4⟩
  have e : P.rows.getD i ⟨[], 0⟩ = P.rows[i] := by simp [hi]
  rw [e]
  exact h1 _ (List.getElem_mem hi)
def givN : List (List UInt8) := [[65, 110, 110], [65, 78, 78], [97, 32], [66, 111, 98], [67, 105, 100]]
def givS (x : List UInt8) (r : Ps × List Int) : Ps × List Int := ((openF r.1 x).2.2, r.2 ++ [(openF r.1 x).1, (openF r.1 x).2.1])
def giv : Nat → Ps × List Int
  | 0 => (⟨3, [⟨bankB, 0⟩], 0, 0⟩, [0])
  | n + 1 => givS (givN.getD n []) (giv n)
def G5 : Ps := ⟨3, [⟨bankB, 0⟩, ⟨[65, 110, 110], 0⟩, ⟨[66, 111, 98], 0⟩], 0, 0⟩
def G6 : Ps := ⟨3, [⟨bankB, 0⟩, ⟨[65, 110, 110], 100⟩, ⟨[66, 111, 98], 0⟩], 100, 0⟩
def G7 : Ps := ⟨3, [⟨bankB, 0⟩, ⟨[65, 110, 110], 70⟩, ⟨[66, 111, 98], 30⟩], 100, 0⟩
def givL : List Int := [0, 1, 0, 0, 140, 0, 40, 2, 0, 0, 141, 0, 2, 142, 144, 0, 234, 2, 143, 142]
end Go.HL.Pu

namespace Go.HL.Pu
open Go.HL Go.HL.Nm Go.Proofs
set_option maxRecDepth 4000
set_option linter.unusedSimpArgs false
set_option linter.unusedVariables false
def Ac.pv (x : Ac) : List PV := [.str x.name, .int .u64 x.coins]
theorem Ac.pv_eq (x y : Ac) : decide (x.pv = y.pv) = decide (x = y) := by
  cases x; cases y
  simp [Ac.pv]
end Go.HL.Pu

namespace Go.HL.Pu
open Go.HL Go.HL.Nm Go.Proofs
set_option maxRecDepth 4000
set_option linter.unusedSimpArgs false
set_option linter.unusedVariables false
structure Sp where
  who : Int
  kind : Int
  a : Int
  b : Int
  coins : Int
  name : List UInt8
def Sp.cs (x : Sp) : List Value := [.int .i64 x.who, .int .i64 x.kind, .int .i64 x.a, .int .i64 x.b, .int .u64 x.coins, .string (HL.mk x.name)]
def Sp.ok (x : Sp) : Prop := (0 ≤ x.coins ∧ x.coins < 18446744073709551616) ∧ x.name.length ≤ 1048576
def doesF (P : Ps) (o : Sp) : Int × Ps :=
  if o.kind = 1 then ((openF P o.name).2.1, (openF P o.name).2.2)
  else if o.kind = 2 then mintF P o.a o.coins
  else if o.kind = 3 then payF P o.a o.b o.coins
  else if o.kind = 4 then takeF P o.a o.coins
  else if o.kind = 5 then putF P o.a o.coins
  else if o.kind = 6 then ((getF P o.a).2, P)
  else (0, P)
def total (l : List Ac) : Int := (l.map Ac.coins).sum
theorem total_nil : total [] = 0 := rfl
theorem total_snoc (l : List Ac) (a : Ac) : total (l ++ [a]) = total l + a.coins := by simp [total]
theorem total_pos : ∀ {l : List Ac}, (∀ x ∈ l, 0 ≤ x.coins) → 0 ≤ total l
  | [], _ => Int.le_refl _
  | a :: l, h => by
    have h1 := h a (List.mem_cons_self ..)
    have h2 := total_pos fun x hx => h x (List.mem_cons_of_mem _ hx)
    simp only [total, List.map_cons, List.sum_cons] at h2 ⊢
    omega
theorem total_take {l : List Ac} (h : ∀ x ∈ l, 0 ≤ x.coins) (i : Nat) : 0 ≤ total (l.take i) ∧ total (l.take i) ≤ total l := by
  have e : total l = total (l.take i) + total (l.drop i) := by
    unfold total
    rw [← List.sum_append, ← List.map_append, List.take_append_drop]
  have h1 := total_pos (l := l.take i) fun x hx => h x (List.mem_of_mem_take hx)
  have h2 := total_pos (l := l.drop i) fun x hx => h x (List.mem_of_mem_drop hx)
  omega
structure PI (lim : Int) (P : Ps) : Prop where
  eqlim : P.lim = lim
  lims : 1 ≤ lim ∧ lim ≤ 64
  len : 1 ≤ P.rows.length ∧ (P.rows.length : Int) ≤ lim
  coins : ∀ x ∈ P.rows, 0 ≤ x.coins
  held : 0 ≤ P.held
  sum : P.held + total P.rows = P.sup
  sup : P.sup ≤ 4611686018427387904
  names : ∀ i, (h : i < P.rows.length) → P.rows[i].name.length ≤ 1048576
theorem coin_le {l : List Ac} (h : ∀ x ∈ l, 0 ≤ x.coins) {i : Nat} (hi : i < l.length) : 0 ≤ l[i].coins ∧ l[i].coins ≤ total l := by
  have h0 := h _ (List.getElem_mem hi)
  have h1 := total_take h (i + 1)
  have h2 := total_take h i
  rw [List.take_succ_eq_append_getElem hi, total_snoc] at h1
  omega
theorem PI.bd {lim : Int} {P : Ps} (h : PI lim P) : Bd P := by
  have ht := total_pos h.coins
  have h1 := h.held
  have h2 := h.sum
  have h3 := h.sup
  have h4 := h.len
  have h5 := h.lims
  refine ⟨fun i hi => ?_, by omega, by omega, by omega⟩
  have e : P.rows.getD i ⟨[], 0⟩ = P.rows[i] := by simp [hi]
  rw [e]
  have := coin_le h.coins hi
  omega
def movedF (o : Sp) (n : Int) : Int × Int × Int :=
  if o.kind = 2 then ((if n = o.a then o.coins else 0), 0, o.coins)
  else if o.kind = 3 then ((if n = o.b then IntKind.u64.wrap ((if n = o.a then IntKind.u64.wrap (0 - o.coins) else 0) + o.coins) else if n = o.a then IntKind.u64.wrap (0 - o.coins) else 0), 0, 0)
  else if o.kind = 4 then ((if n = o.a then IntKind.u64.wrap (0 - o.coins) else 0), o.coins, 0)
  else if o.kind = 5 then ((if n = o.a then o.coins else 0), IntKind.u64.wrap (0 - o.coins), 0)
  else (0, 0, 0)
end Go.HL.Pu

namespace Go.HL.Pu
open Go.HL Go.HL.Nm Go.Proofs
set_option maxRecDepth 4000
set_option linter.unusedSimpArgs false
set_option linter.unusedVariables false
theorem setC_get {l : List Ac} {i k : Nat} {c : Int} (hk : k < l.length) : (setC l i c)[k]'(by rw [setC_len]; exact hk) = if k = i then ⟨l[k].name, c⟩ else l[k] := by
  unfold setC
  rw [List.getElem_set]
  by_cases e : k = i
  · subst e; simp [hk]
  · rw [if_neg e, if_neg (Ne.symm e)]
theorem setC_mem {l : List Ac} {i : Nat} {c : Int} {x : Ac} (h : x ∈ setC l i c) : x ∈ l ∨ x.coins = c := by
  unfold setC at h
  rcases List.mem_or_eq_of_mem_set h with h | h
  · exact .inl h
  · exact .inr (by rw [h])
theorem total_set : ∀ (l : List Ac) (i : Nat) (x : Ac) (h : i < l.length), total (l.set i x) = total l - l[i].coins + x.coins
  | a :: l, 0, x, h => by simp only [List.set_cons_zero, List.getElem_cons_zero, total, List.map_cons, List.sum_cons]; omega
  | a :: l, i + 1, x, h => by
    have := total_set l i x (by simpa using h)
    simp only [List.set_cons_succ, List.getElem_cons_succ]
    simp only [total, List.map_cons, List.sum_cons] at this ⊢
    omega
theorem total_setC {l : List Ac} {i : Nat} (h : i < l.length) (c : Int) : total (setC l i c) = total l - coin l i + c := by
  unfold setC
  rw [total_set l i _ h, coin_at h]
theorem wrapu_sub {a c : Int} (h : 0 ≤ c ∧ c ≤ a ∧ a < 18446744073709551616) : IntKind.u64.wrap (a + IntKind.u64.wrap (0 - c)) = a - c := by
  simp [IntKind.wrap, IntKind.bits, IntKind.signed]; omega
structure Turn (P P' : Ps) (o : Sp) : Prop where
  held : P'.held = IntKind.u64.wrap (P.held + (movedF o (-1)).2.1)
  sup : P'.sup = IntKind.u64.wrap (P.sup + (movedF o (-1)).2.2)
  each : ∀ k, (h : k < P.rows.length) → ∃ h' : k < P'.rows.length, P'.rows[k].name = P.rows[k].name ∧ P'.rows[k].coins = IntKind.u64.wrap (P.rows[k].coins + (movedF o k).1)
def zeroSp : Sp := ⟨0, 0, 0, 0, 0, []⟩
theorem moved_none {o : Sp} (h : o.kind ≠ 2 ∧ o.kind ≠ 3 ∧ o.kind ≠ 4 ∧ o.kind ≠ 5) (n : Int) : movedF o n = (0, 0, 0) := by
  unfold movedF
  rw [if_neg h.1, if_neg h.2.1, if_neg h.2.2.1, if_neg h.2.2.2]
theorem turn_same {lim : Int} {P : Ps} (hP : PI lim P) {o : Sp} (h : o.kind ≠ 2 ∧ o.kind ≠ 3 ∧ o.kind ≠ 4 ∧ o.kind ≠ 5) : Turn P P o := by
  have hb := hP.bd
  have h1 := hb.held
  have h2 := hb.sup
  refine ⟨?_, ?_, fun k hk => ⟨hk, rfl, ?_⟩⟩
  · rw [moved_none h]; simp only [Int.add_zero]; rw [wrapu64 (by omega) (by omega)]
  · rw [moved_none h]; simp only [Int.add_zero]; rw [wrapu64 (by omega) (by omega)]
  · rw [moved_none h]; simp only [Int.add_zero]
    have := hb.coins k hk
    have e : P.rows.getD k ⟨[], 0⟩ = P.rows[k] := by simp [hk]
    rw [e] at this
    rw [wrapu64 (by omega) (by omega)]
theorem turn_zero {lim : Int} {P : Ps} (hP : PI lim P) : Turn P P zeroSp := turn_same hP (by decide)
def adj (P : Ps) (o : Sp) : Sp := if (doesF P o).1 ≠ 0 ∨ o.kind = 1 then zeroSp else o
def more (P : Ps) (o : Sp) : Nat := if o.kind = 1 ∧ (doesF P o).1 = 0 then 1 else 0
theorem accE_at {l : List Ac} {n : Int} (h : accE l n = 0) : 0 ≤ n ∧ n.toNat < l.length ∧ (n.toNat : Int) = n := by
  obtain ⟨i, rfl, hi⟩ := acc_in h
  exact ⟨by omega, by simpa using hi, by simp⟩
theorem pi_coins {lim : Int} {P : Ps} (hP : PI lim P) {P' : Ps} (e1 : P'.lim = P.lim) (e2 : P'.rows.length = P.rows.length) (hc : ∀ x ∈ P'.rows, 0 ≤ x.coins) (hh : 0 ≤ P'.held) (hs : P'.held + total P'.rows = P'.sup) (hsup : P'.sup ≤ 4611686018427387904)
    (hn : ∀ k, (h : k < P'.rows.length) → ∃ h' : k < P.rows.length, P'.rows[k].name = P.rows[k].name) : PI lim P' :=
  ⟨e1.trans hP.eqlim, hP.lims, by rw [e2]; exact hP.len, hc, hh, hs, hsup, fun i h => by
    obtain ⟨h', e⟩ := hn i h
    rw [e]; exact hP.names i h'⟩
theorem setC_name {l : List Ac} {i k : Nat} {c : Int} (h : k < (setC l i c).length) : ∃ h' : k < l.length, (setC l i c)[k].name = l[k].name := by
  have h' : k < l.length := by rwa [setC_len] at h
  refine ⟨h', ?_⟩
  rw [setC_get h']
  split <;> rfl
structure Step (lim : Int) (P : Ps) (o : Sp) : Prop where
  pi : PI lim (doesF P o).2
  len : (doesF P o).2.rows.length = P.rows.length + more P o
  turn : Turn P (doesF P o).2 (adj P o)
  last : more P o = 1 → (doesF P o).2.rows[P.rows.length]? = some ⟨o.name, 0⟩
theorem step_same {lim : Int} {P : Ps} (hP : PI lim P) {o : Sp} (h : (doesF P o).2 = P) (hm : more P o = 0) (ht : (doesF P o).1 ≠ 0 ∨ (o.kind ≠ 2 ∧ o.kind ≠ 3 ∧ o.kind ≠ 4 ∧ o.kind ≠ 5)) : Step lim P o := by
  refine ⟨by rw [h]; exact hP, by rw [h, hm, Nat.add_zero], ?_, fun e => by rw [hm] at e; cases e⟩
  rw [h]
  unfold adj
  split
  · exact turn_zero hP
  · rename_i hn
    rcases ht with ht | ht
    · exact absurd (.inl ht) hn
    · exact turn_same hP ht
theorem does_step {lim : Int} {P : Ps} {o : Sp} (hP : PI lim P) (ho : o.ok) : Step lim P o := by
  obtain ⟨⟨hc0, hc1⟩, hnm⟩ := ho
  have hb := hP.bd
  have hheld := hb.held
  have hsup := hb.sup
  have hsum := hP.sum
  have hlen := hP.len
  have hlims := hP.lims
  by_cases k1 : o.kind = 1
  · -- Open
    have hd : doesF P o = ((openF P o.name).2.1, (openF P o.name).2.2) := by unfold doesF; rw [if_pos k1]
    by_cases h0 : (openF P o.name).2.1 = 0
    · obtain ⟨hs, hask, hl, hchk⟩ := open_ok h0
      have hm : more P o = 1 := by unfold more; rw [if_pos ⟨k1, by rw [hd]; exact h0⟩]
      have ha : adj P o = zeroSp := by unfold adj; rw [if_pos (.inr k1)]
      rw [hP.eqlim] at hl
      have hP2 : (doesF P o).2 = { P with rows := P.rows ++ [⟨o.name, 0⟩] } := by rw [hd]; exact hs
      refine ⟨?_, by rw [hP2, hm]; simp, ?_, fun _ => by rw [hP2]; simp⟩
      · rw [hP2]
        refine ⟨hP.eqlim, hlims, ?_, ?_, hP.held, ?_, hP.sup, ?_⟩
        · simp only [List.length_append, List.length_singleton]; omega
        · intro x hx
          rcases List.mem_append.1 hx with hx | hx
          · exact hP.coins x hx
          · have : x = ⟨o.name, 0⟩ := by simpa using hx
            rw [this]; exact Int.le_refl _
        · show P.held + total (P.rows ++ [⟨o.name, 0⟩]) = P.sup
          rw [total_snoc]; show P.held + (total P.rows + 0) = P.sup; omega
        · intro i h
          simp only [List.length_append, List.length_singleton] at h
          by_cases e : i < P.rows.length
          · show ((P.rows ++ [(⟨o.name, 0⟩ : Ac)])[i]'(by simp; omega)).name.length ≤ _
            rw [List.getElem_append_left e]; exact hP.names i e
          · have : i = P.rows.length := by omega
            subst this
            show ((P.rows ++ [(⟨o.name, 0⟩ : Ac)])[P.rows.length]'(by simp)).name.length ≤ _
            simp [hnm]
      · rw [ha, hP2]
        obtain ⟨t1, t2, t3⟩ := turn_zero hP
        refine ⟨t1, t2, fun k hk => ?_⟩
        obtain ⟨_, t4, t5⟩ := t3 k hk
        refine ⟨by simp; omega, ?_, ?_⟩
        · show ((P.rows ++ [(⟨o.name, 0⟩ : Ac)])[k]'(by simp; omega)).name = _
          rw [List.getElem_append_left hk]
        · show ((P.rows ++ [(⟨o.name, 0⟩ : Ac)])[k]'(by simp; omega)).coins = _
          rw [List.getElem_append_left hk]; exact t5
    · have hm : more P o = 0 := by unfold more; rw [if_neg (by rw [hd]; exact fun h => h0 h.2)]
      exact step_same hP (by rw [hd]; exact open_bad h0) hm (.inl (by rw [hd]; exact h0))
  have hm : more P o = 0 := by unfold more; rw [if_neg fun h => k1 h.1]
  have keep : (doesF P o).2 = P → ((doesF P o).1 ≠ 0 ∨ (o.kind ≠ 2 ∧ o.kind ≠ 3 ∧ o.kind ≠ 4 ∧ o.kind ≠ 5)) → Step lim P o := fun h ht => step_same hP h hm ht
  have good : ∀ P' : Ps, doesF P o = (0, P') → PI lim P' → P'.rows.length = P.rows.length → Turn P P' o → Step lim P o := by
    intro P' hd hpi hl ht
    have ha : adj P o = o := by unfold adj; rw [if_neg (by rw [hd]; exact fun h => h.elim (fun h => h rfl) k1)]
    exact ⟨by rw [hd]; exact hpi, by rw [hd, hm]; exact hl, by rw [ha, hd]; exact ht, fun e => by rw [hm] at e; cases e⟩
  by_cases k2 : o.kind = 2
  · have hd : doesF P o = mintF P o.a o.coins := by unfold doesF; rw [if_neg k1, if_pos k2]
    by_cases e1 : accE P.rows o.a = 0
    · by_cases e2 : o.coins = 0
      · exact keep (by rw [hd, mintF, if_pos e1, if_pos e2]) (.inl (by rw [hd, mintF, if_pos e1, if_pos e2]; simp))
      · by_cases e3 : 4611686018427387904 - P.sup < o.coins
        · exact keep (by rw [hd, mintF, if_pos e1, if_neg e2, if_pos e3]) (.inl (by rw [hd, mintF, if_pos e1, if_neg e2, if_pos e3]; simp))
        · obtain ⟨ha0, hai, hae⟩ := accE_at e1
          have hca := coin_bd hb hai
          refine good _ (by rw [hd, mintF, if_pos e1, if_neg e2, if_neg e3]) ?_ (setC_len _ _ _) ?_
          · refine pi_coins hP rfl (setC_len _ _ _) (fun x hx => ?_) hP.held ?_ (by show P.sup + o.coins ≤ _; omega) fun k h => setC_name h
            · rcases setC_mem hx with h | h
              · exact hP.coins x h
              · omega
            · show P.held + total (setC P.rows o.a.toNat (coin P.rows o.a.toNat + o.coins)) = P.sup + o.coins
              rw [total_setC hai]; omega
          · have hmv : ∀ n, movedF o n = ((if n = o.a then o.coins else 0), 0, o.coins) := fun n => by unfold movedF; rw [if_pos k2]
            refine ⟨?_, ?_, fun k hk => ⟨by rw [setC_len]; exact hk, ?_, ?_⟩⟩
            · rw [hmv]; show P.held = IntKind.u64.wrap (P.held + 0); rw [wrapu64 (by omega) (by omega)]; omega
            · rw [hmv]; show P.sup + o.coins = IntKind.u64.wrap (P.sup + o.coins); rw [wrapu64 (by omega) (by omega)]
            · show ((setC P.rows _ _)[k]'(by rw [setC_len]; exact hk)).name = _
              rw [setC_get hk]; split <;> rfl
            · show ((setC P.rows _ _)[k]'(by rw [setC_len]; exact hk)).coins = _
              have hck := coin_bd hb hk
              rw [coin_at hk] at hck
              rw [setC_get hk, hmv]
              by_cases ek : k = o.a.toNat
              · subst ek
                rw [if_pos rfl]
                simp only [hae, if_true]
                rw [coin_at hai, wrapu64 (by omega) (by omega)]
              · rw [if_neg ek]
                simp only [show ¬ (k : Int) = o.a from fun h => ek (by omega), if_false]
                rw [wrapu64 (by omega) (by omega)]; omega
    · exact keep (by rw [hd, mintF, if_neg e1]) (.inl (by rw [hd, mintF, if_neg e1]; simp))
  by_cases k3 : o.kind = 3
  · have hd : doesF P o = payF P o.a o.b o.coins := by unfold doesF; rw [if_neg k1, if_neg k2, if_pos k3]
    by_cases e1 : accE P.rows o.a = 0 ∧ accE P.rows o.b = 0
    · by_cases e2 : o.a = o.b
      · exact keep (by rw [hd, payF, if_pos e1, if_pos e2]) (.inl (by rw [hd, payF, if_pos e1, if_pos e2]; simp))
      · by_cases e3 : o.coins = 0
        · exact keep (by rw [hd, payF, if_pos e1, if_neg e2, if_pos e3]) (.inl (by rw [hd, payF, if_pos e1, if_neg e2, if_pos e3]; simp))
        · by_cases e4 : coin P.rows o.a.toNat < o.coins
          · exact keep (by rw [hd, payF, if_pos e1, if_neg e2, if_neg e3, if_pos e4]) (.inl (by rw [hd, payF, if_pos e1, if_neg e2, if_neg e3, if_pos e4]; simp))
          · obtain ⟨ha0, hai, hae⟩ := accE_at e1.1
            obtain ⟨hb0, hbi, hbe⟩ := accE_at e1.2
            have hca := coin_bd hb hai
            have hcb := coin_bd hb hbi
            have hne : ¬ o.b.toNat = o.a.toNat := fun h => e2 (by omega)
            have hbi2 : o.b.toNat < (setC P.rows o.a.toNat (coin P.rows o.a.toNat - o.coins)).length := by rw [setC_len]; exact hbi
            have hl2 : (setC (setC P.rows o.a.toNat (coin P.rows o.a.toNat - o.coins)) o.b.toNat (coin P.rows o.b.toNat + o.coins)).length = P.rows.length := by rw [setC_len, setC_len]
            refine good _ (by rw [hd, payF, if_pos e1, if_neg e2, if_neg e3, if_neg e4]) ?_ hl2 ?_
            · refine pi_coins hP rfl hl2 (fun x hx => ?_) hP.held ?_ hP.sup fun k h => ?_
              · rcases setC_mem hx with h | h
                · rcases setC_mem h with h | h
                  · exact hP.coins x h
                  · omega
                · omega
              · show P.held + total (setC (setC P.rows o.a.toNat (coin P.rows o.a.toNat - o.coins)) o.b.toNat (coin P.rows o.b.toNat + o.coins)) = P.sup
                rw [total_setC hbi2, total_setC hai, coin_set hai, if_neg hne]; omega
              · obtain ⟨h1, n1⟩ := setC_name h
                obtain ⟨h2, n2⟩ := setC_name h1
                exact ⟨h2, n1.trans n2⟩
            · have hmv : ∀ n, movedF o n = ((if n = o.b then IntKind.u64.wrap ((if n = o.a then IntKind.u64.wrap (0 - o.coins) else 0) + o.coins) else if n = o.a then IntKind.u64.wrap (0 - o.coins) else 0), 0, 0) := fun n => by unfold movedF; rw [if_neg k2, if_pos k3]
              refine ⟨?_, ?_, fun k hk => ⟨by rw [hl2]; exact hk, ?_, ?_⟩⟩
              · rw [hmv]; show P.held = IntKind.u64.wrap (P.held + 0); rw [wrapu64 (by omega) (by omega)]; omega
              · rw [hmv]; show P.sup = IntKind.u64.wrap (P.sup + 0); rw [wrapu64 (by omega) (by omega)]; omega
              · have hk2 : k < (setC P.rows o.a.toNat (coin P.rows o.a.toNat - o.coins)).length := by rw [setC_len]; exact hk
                show ((setC (setC P.rows _ _) _ _)[k]'(by rw [hl2]; exact hk)).name = _
                rw [setC_get hk2, setC_get hk]
                split
                · split <;> rfl
                · split <;> rfl
              · have hk2 : k < (setC P.rows o.a.toNat (coin P.rows o.a.toNat - o.coins)).length := by rw [setC_len]; exact hk
                show ((setC (setC P.rows _ _) _ _)[k]'(by rw [hl2]; exact hk)).coins = _
                have hck := coin_bd hb hk
                rw [coin_at hk] at hck
                rw [setC_get hk2, setC_get hk, hmv]
                by_cases eb : k = o.b.toNat
                · subst eb
                  rw [if_pos rfl]
                  simp only [hbe, if_true, show ¬ o.b = o.a from fun h => e2 h.symm, if_false]
                  rw [coin_at hbi]
                  rw [coin_at hbi] at hcb
                  rw [wrapu64 (x := 0 + o.coins) (by omega) (by omega), wrapu64 (by omega) (by omega)]; omega
                · rw [if_neg eb]
                  simp only [show ¬ (k : Int) = o.b from fun h => eb (by omega), if_false]
                  by_cases ea : k = o.a.toNat
                  · subst ea
                    rw [if_pos rfl]
                    simp only [hae, if_true]
                    rw [coin_at hai] at e4 ⊢
                    rw [wrapu_sub ⟨by omega, by omega, by omega⟩]
                  · rw [if_neg ea]
                    simp only [show ¬ (k : Int) = o.a from fun h => ea (by omega), if_false]
                    rw [wrapu64 (by omega) (by omega)]; omega
    · exact keep (by rw [hd, payF, if_neg e1]) (.inl (by rw [hd, payF, if_neg e1]; simp))
  by_cases k4 : o.kind = 4
  · have hd : doesF P o = takeF P o.a o.coins := by unfold doesF; rw [if_neg k1, if_neg k2, if_neg k3, if_pos k4]
    by_cases e1 : accE P.rows o.a = 0
    · by_cases e2 : coin P.rows o.a.toNat < o.coins
      · exact keep (by rw [hd, takeF, if_pos e1, if_pos e2]) (.inl (by rw [hd, takeF, if_pos e1, if_pos e2]; simp))
      · obtain ⟨ha0, hai, hae⟩ := accE_at e1
        have hca := coin_bd hb hai
        have hcl := coin_le hP.coins hai
        rw [← coin_at hai] at hcl
        refine good _ (by rw [hd, takeF, if_pos e1, if_neg e2]) ?_ (setC_len _ _ _) ?_
        · refine pi_coins hP rfl (setC_len _ _ _) (fun x hx => ?_) (by show 0 ≤ P.held + o.coins; omega) ?_ hP.sup fun k h => setC_name h
          · rcases setC_mem hx with h | h
            · exact hP.coins x h
            · omega
          · show P.held + o.coins + total (setC P.rows o.a.toNat (coin P.rows o.a.toNat - o.coins)) = P.sup
            rw [total_setC hai]; omega
        · have hmv : ∀ n, movedF o n = ((if n = o.a then IntKind.u64.wrap (0 - o.coins) else 0), o.coins, 0) := fun n => by unfold movedF; rw [if_neg k2, if_neg k3, if_pos k4]
          refine ⟨?_, ?_, fun k hk => ⟨by rw [setC_len]; exact hk, ?_, ?_⟩⟩
          · rw [hmv]; show P.held + o.coins = IntKind.u64.wrap (P.held + o.coins); rw [wrapu64 (by omega) (by omega)]
          · rw [hmv]; show P.sup = IntKind.u64.wrap (P.sup + 0); rw [wrapu64 (by omega) (by omega)]; omega
          · show ((setC P.rows _ _)[k]'(by rw [setC_len]; exact hk)).name = _
            rw [setC_get hk]; split <;> rfl
          · show ((setC P.rows _ _)[k]'(by rw [setC_len]; exact hk)).coins = _
            have hck := coin_bd hb hk
            rw [coin_at hk] at hck
            rw [setC_get hk, hmv]
            by_cases ek : k = o.a.toNat
            · subst ek
              rw [if_pos rfl]
              simp only [hae, if_true]
              rw [coin_at hai] at e2 ⊢
              rw [wrapu_sub ⟨by omega, by omega, by omega⟩]
            · rw [if_neg ek]
              simp only [show ¬ (k : Int) = o.a from fun h => ek (by omega), if_false]
              rw [wrapu64 (by omega) (by omega)]; omega
    · exact keep (by rw [hd, takeF, if_neg e1]) (.inl (by rw [hd, takeF, if_neg e1]; simp))
  by_cases k5 : o.kind = 5
  · have hd : doesF P o = putF P o.a o.coins := by unfold doesF; rw [if_neg k1, if_neg k2, if_neg k3, if_neg k4, if_pos k5]
    by_cases e1 : accE P.rows o.a = 0
    · by_cases e2 : P.held < o.coins
      · exact keep (by rw [hd, putF, if_pos e1, if_pos e2]) (.inl (by rw [hd, putF, if_pos e1, if_pos e2]; simp))
      · obtain ⟨ha0, hai, hae⟩ := accE_at e1
        have hca := coin_bd hb hai
        refine good _ (by rw [hd, putF, if_pos e1, if_neg e2]) ?_ (setC_len _ _ _) ?_
        · refine pi_coins hP rfl (setC_len _ _ _) (fun x hx => ?_) (by show 0 ≤ P.held - o.coins; omega) ?_ hP.sup fun k h => setC_name h
          · rcases setC_mem hx with h | h
            · exact hP.coins x h
            · omega
          · show P.held - o.coins + total (setC P.rows o.a.toNat (coin P.rows o.a.toNat + o.coins)) = P.sup
            rw [total_setC hai]; omega
        · have hmv : ∀ n, movedF o n = ((if n = o.a then o.coins else 0), IntKind.u64.wrap (0 - o.coins), 0) := fun n => by unfold movedF; rw [if_neg k2, if_neg k3, if_neg k4, if_pos k5]
          refine ⟨?_, ?_, fun k hk => ⟨by rw [setC_len]; exact hk, ?_, ?_⟩⟩
          · rw [hmv]; show P.held - o.coins = IntKind.u64.wrap (P.held + IntKind.u64.wrap (0 - o.coins)); rw [wrapu_sub ⟨by omega, by omega, by omega⟩]
          · rw [hmv]; show P.sup = IntKind.u64.wrap (P.sup + 0); rw [wrapu64 (by omega) (by omega)]; omega
          · show ((setC P.rows _ _)[k]'(by rw [setC_len]; exact hk)).name = _
            rw [setC_get hk]; split <;> rfl
          · show ((setC P.rows _ _)[k]'(by rw [setC_len]; exact hk)).coins = _
            have hck := coin_bd hb hk
            rw [coin_at hk] at hck
            rw [setC_get hk, hmv]
            by_cases ek : k = o.a.toNat
            · subst ek
              rw [if_pos rfl]
              simp only [hae, if_true]
              rw [coin_at hai, wrapu64 (by omega) (by omega)]
            · rw [if_neg ek]
              simp only [show ¬ (k : Int) = o.a from fun h => ek (by omega), if_false]
              rw [wrapu64 (by omega) (by omega)]; omega
    · exact keep (by rw [hd, putF, if_neg e1]) (.inl (by rw [hd, putF, if_neg e1]; simp))
  refine keep ?_ (.inr ⟨k2, k3, k4, k5⟩)
  unfold doesF
  rw [if_neg k1, if_neg k2, if_neg k3, if_neg k4, if_neg k5]
  split <;> rfl
end Go.HL.Pu

namespace Go.HL.Es
open Go.HL Go.Proofs
set_option maxRecDepth 4000
set_option linter.unusedSimpArgs false
set_option linter.unusedVariables false
def sumR (l : List Rw) : Int := (l.map (·.2)).sum
theorem sumR_cons (r : Rw) (t : List Rw) : sumR (r :: t) = r.2 + sumR t := by simp [sumR]
theorem sumR_ins (k v : Int) : ∀ l : List Rw, sumR (ins k v l) = v + sumR l
  | [] => by simp [ins, sumR]
  | r :: t => by
    simp only [ins]
    split
    · rw [sumR_cons]
    · rw [sumR_cons, sumR_cons, sumR_ins k v t]; omega
theorem del_none {k : Int} {l : List Rw} (h : ∀ r ∈ l, r.1 ≠ k) : del k l = l := List.filter_eq_self.2 fun r hr => by simpa using h r hr
theorem sumR_del {k : Int} : ∀ {l : List Rw}, l.Pairwise (fun a b => a.1 ≠ b.1) → sumR (del k l) = sumR l - cns l k
  | [], _ => by simp [del, sumR, cns]
  | r :: t, h => by
    rw [List.pairwise_cons] at h
    have ih := sumR_del (k := k) h.2
    by_cases e : k = r.1
    · subst e
      have h0 : ∀ x ∈ t, x.1 ≠ r.1 := fun x hx e => h.1 x hx e.symm
      have e1 : del r.1 (r :: t) = del r.1 t := by simp [del]
      rw [e1, del_none h0, sumR_cons, cns_head]; omega
    · have e1 : del k (r :: t) = r :: del k t := by simp [del, Ne.symm e]
      rw [e1, sumR_cons, sumR_cons, ih]
      simp only [cns, e, if_false]; omega
theorem sumR_setR {l : List Rw} (h : RwOK l) (k v : Int) : sumR (setR k v l) = sumR l - cns l k + v := by
  unfold setR
  split
  · rename_i hv; rw [sumR_del h.ne, hv]; omega
  · rw [sumR_ins, sumR_del h.ne]; omega
theorem sumR_nonneg {l : List Rw} (h : ∀ r ∈ l, 0 < r.2) : 0 ≤ sumR l := by
  induction l with
  | nil => simp [sumR]
  | cons r t ih =>
    rw [sumR_cons]
    have := ih fun x hx => h x (.tail _ hx)
    have := h r (.head _)
    omega
theorem cns_le {l : List Rw} (h : RwOK l) (k : Int) : cns l k ≤ sumR l := by
  have h1 := sumR_del (k := k) h.ne
  have h2 : 0 ≤ sumR (del k l) := sumR_nonneg fun r hr => (h.2 r (del_mem.1 hr).1).2.2
  omega
structure EI (lp lg : Int) (E : Eco) : Prop where
  P : Pu.PI lp E.P
  G : Gd.GI lg E.its
  R : RwOK E.l
  sum : sumR E.l = E.P.held
theorem EI.cns_bd {lp lg : Int} {E : Eco} (h : EI lp lg E) (k : Int) : 0 ≤ cns E.l k ∧ cns E.l k ≤ 4611686018427387904 := by
  have h1 := cns_nonneg h.R k
  have h2 := cns_le h.R k
  have h3 := h.P.bd.held
  have h4 := h.sum
  omega
theorem get_acc {P : Pu.Ps} {n : Int} : (Pu.getF P n).2 = 0 ↔ Pu.accE P.rows n = 0 := by
  unfold Pu.getF
  split
  · rename_i h; simp [h]
  · rename_i h; simp [h]
theorem get_or (P : Pu.Ps) (n : Int) : (Pu.getF P n).2 = 0 ∨ (Pu.getF P n).2 = 142 := by
  unfold Pu.getF; split <;> simp
theorem put_pi {lim : Int} {P : Pu.Ps} (hP : Pu.PI lim P) (n c : Int) (hc : 0 ≤ c ∧ c < 18446744073709551616) : Pu.PI lim (Pu.putF P n c).2 := by
  have := (Pu.does_step (o := ⟨0, 5, n, 0, c, []⟩) hP ⟨hc, by simp⟩).pi
  simpa [Pu.doesF] using this
theorem take_pi {lim : Int} {P : Pu.Ps} (hP : Pu.PI lim P) (n c : Int) (hc : 0 ≤ c ∧ c < 18446744073709551616) : Pu.PI lim (Pu.takeF P n c).2 := by
  have := (Pu.does_step (o := ⟨0, 4, n, 0, c, []⟩) hP ⟨hc, by simp⟩).pi
  simpa [Pu.doesF] using this
theorem setC_back {l : List Pu.Ac} {i : Nat} (h : i < l.length) (c : Int) : Pu.setC (Pu.setC l i c) i (Pu.coin l i) = l := by
  apply List.ext_getElem
  · simp [Pu.setC_len]
  · intro k h1 h2
    rw [Pu.setC_get (by rw [Pu.setC_len]; exact h2), Pu.setC_get h2]
    by_cases e : k = i
    · subst e
      simp only [if_true]
      rw [Pu.coin_at h]
    · simp [e]
theorem put_back {lim : Int} {P : Pu.Ps} (hP : Pu.PI lim P) {n c : Int} (hn : Pu.accE P.rows n = 0) (hc : 0 ≤ c ∧ c ≤ P.held) :
    Pu.putF P n c = (0, { P with held := P.held - c, rows := Pu.setC P.rows n.toNat (Pu.coin P.rows n.toNat + c) }) ∧ Pu.takeF (Pu.putF P n c).2 n c = (0, P) := by
  obtain ⟨i, rfl, hi⟩ := Pu.acc_in hn
  have e1 : Pu.putF P i c = (0, { P with held := P.held - c, rows := Pu.setC P.rows (i : Int).toNat (Pu.coin P.rows (i : Int).toNat + c) }) := by
    unfold Pu.putF; rw [if_pos hn, if_neg (by omega)]
  refine ⟨e1, ?_⟩
  rw [e1]
  have h0 := Pu.coin_bd hP.bd hi
  have e0 : (i : Int).toNat = i := by omega
  rw [e0]
  have hn' : Pu.accE (Pu.setC P.rows i (Pu.coin P.rows i + c)) i = 0 := by
    unfold Pu.accE at hn ⊢; rw [Pu.setC_len]; exact hn
  have hci : Pu.coin (Pu.setC P.rows i (Pu.coin P.rows i + c)) i = Pu.coin P.rows i + c := by rw [Pu.coin_set hi, if_pos rfl]
  unfold Pu.takeF
  simp only [e0]
  rw [if_pos hn', hci, if_neg (by omega)]
  have e2 : P.held - c + c = P.held := by omega
  have e3 : Pu.coin P.rows i + c - c = Pu.coin P.rows i := by omega
  rw [e2, e3, setC_back hi]
theorem get_in {its : List Gd.It} {n : Int} (h : (Gd.getF its n).2 = 0) : ∃ i : Nat, n = i + 1 ∧ ∃ hi : i < its.length, (Gd.getF its n).1 = its[i] := by
  unfold Gd.getF at h ⊢
  split at h
  · rename_i hr
    refine ⟨n.toNat - 1, by omega, by omega, ?_⟩
    rw [if_pos hr]
    have : n.toNat - 1 < its.length := by omega
    simp [this]
  · cases h
theorem free_back {lim : Int} {its : List Gd.It} (hg : Gd.GI lim its) {n a c : Int} (ha : Gd.accF a = true) (hc : 1 ≤ c) (h1 : (Gd.getF its n).2 = 0) (h2 : (Gd.getF its n).1.con = c) :
    (Gd.freeF its n a).1 = 0 ∧ Gd.holdF (Gd.freeF its n a).2 n c = (0, its) := by
  obtain ⟨i, rfl, hi, hx⟩ := get_in h1
  rw [hx] at h2
  have hpl := hg.place its[i] (List.getElem_mem hi)
  have e0 : ((i : Int) + 1).toNat - 1 = i := by omega
  have e1 : Gd.freeF its (i + 1) a = (0, its.set i ⟨its[i].num, its[i].kind, a, 0⟩) := by
    unfold Gd.freeF Gd.putF
    rw [if_pos ha, if_pos (by omega), e0]
    have : its.getD i ⟨0, 0, 0, 0⟩ = its[i] := by simp [hi]
    rw [this, if_pos (by simp; omega)]
  rw [e1]
  refine ⟨rfl, ?_⟩
  unfold Gd.holdF Gd.putF
  rw [if_neg (by omega), List.length_set, if_pos (by omega), e0]
  have : (its.set i ⟨its[i].num, its[i].kind, a, 0⟩).getD i ⟨0, 0, 0, 0⟩ = ⟨its[i].num, its[i].kind, a, 0⟩ := by simp [hi]
  simp only [this]
  rw [if_pos (by simp), List.set_set]
  congr 1
  have : (⟨its[i].num, its[i].kind, -1, c⟩ : Gd.It) = its[i] := by
    rcases hpl with ⟨h, _⟩ | ⟨_, h⟩
    · omega
    · rw [← h, ← h2]
  rw [this, List.set_getElem_self]
theorem gi_free {lim : Int} {its : List Gd.It} (hg : Gd.GI lim its) (n a : Int) : Gd.GI lim (Gd.freeF its n a).2 := by
  unfold Gd.freeF
  split
  · rename_i h; exact Gd.gi_put hg (.inl ⟨rfl, (Gd.acc_iff _).1 h⟩)
  · exact hg
theorem gi_hold {lim : Int} {its : List Gd.It} (hg : Gd.GI lim its) (n c : Int) : Gd.GI lim (Gd.holdF its n c).2 := by
  unfold Gd.holdF
  split
  · exact hg
  · rename_i h; exact Gd.gi_put hg (.inr ⟨by omega, rfl⟩)
def freeI (x : Gf) (E : Eco) : Eco := { E with its := if x.item ≠ 0 then (Gd.freeF E.its x.item x.to).2 else E.its }
structure Gives (c : Int) (x : Gf) (E : Eco) : Prop where
  acc : (Pu.getF E.P x.to).2 = 0
  item : x.item ≠ 0 → (Gd.getF E.its x.item).2 = 0 ∧ (Gd.getF E.its x.item).1.con = c
  coins : x.coins ≤ cns E.l c
theorem give_cases (c : Int) (x : Gf) (E : Eco) : (Gives c x E ∧ giveF c x E = (0, ⟨(Pu.putF E.P x.to x.coins).2, (freeI x E).its, setR c (cns E.l c - x.coins) E.l⟩)) ∨
    (¬ Gives c x E ∧ (giveF c x E).1 ≠ 0 ∧ (giveF c x E).2 = E) := by
  unfold giveF
  split
  · rename_i h; exact .inr ⟨fun g => h g.acc, by simp, rfl⟩
  · rename_i h1
    split
    · rename_i h
      refine .inr ⟨fun g => ?_, by simp, rfl⟩
      obtain ⟨a, b⟩ := g.item h.1
      rcases h.2 with h | h
      · exact h a
      · exact h b
    · rename_i h2
      split
      · rename_i h; exact .inr ⟨fun g => by have := g.coins; omega, by simp, rfl⟩
      · rename_i h3
        refine .inl ⟨⟨by simpa using h1, fun hi => ?_, by omega⟩, rfl⟩
        constructor
        · by_cases e : (Gd.getF E.its x.item).2 = 0
          · exact e
          · exact absurd ⟨hi, .inl e⟩ h2
        · by_cases e : (Gd.getF E.its x.item).1.con = c
          · exact e
          · exact absurd ⟨hi, .inr e⟩ h2
theorem acc_of {lp : Int} {P : Pu.Ps} (h : Pu.PI lp P) {n : Int} (ha : Pu.accE P.rows n = 0) : Gd.accF n = true := by
  obtain ⟨i, rfl, hi⟩ := Pu.acc_in ha
  have := h.bd.len
  rw [Gd.acc_iff]; omega
theorem give_ei {lp lg c : Int} {x : Gf} {E : Eco} (h : EI lp lg E) (hc : 1 ≤ c ∧ c < 9223372036854775808) (hx : 0 ≤ x.coins) : EI lp lg (giveF c x E).2 := by
  rcases give_cases c x E with ⟨g, e⟩ | ⟨_, _, e⟩
  · rw [e]
    have hb := h.cns_bd c
    have hle := cns_le h.R c
    have hg := g.coins
    have hp := (put_back h.P (n := x.to) (c := x.coins) (get_acc.1 g.acc) ⟨hx, by rw [← h.sum]; omega⟩).1
    refine ⟨put_pi h.P _ _ ⟨hx, by omega⟩, ?_, setR_ok h.R hc (by omega), ?_⟩
    · show Gd.GI lg (if x.item ≠ 0 then _ else _)
      split
      · exact gi_free h.G _ _
      · exact h.G
    · show sumR (setR c (cns E.l c - x.coins) E.l) = (Pu.putF E.P x.to x.coins).2.held
      rw [hp, sumR_setR h.R]
      show _ = E.P.held - x.coins
      rw [← h.sum]; omega
  · rw [e]; exact h
def giveL (c : Int) : List Gf → Eco → Int × Eco
  | [], E => (0, E)
  | x :: t, E => if (giveF c x E).1 ≠ 0 then ((giveF c x E).1, E) else giveL c t (giveF c x E).2
theorem giveL_ei {lp lg c : Int} (hc : 1 ≤ c ∧ c < 9223372036854775808) : ∀ {gs : List Gf} {E : Eco}, EI lp lg E → (∀ x ∈ gs, 0 ≤ x.coins) → EI lp lg (giveL c gs E).2
  | [], _, h, _ => h
  | x :: t, E, h, hx => by
    unfold giveL
    split
    · exact h
    · exact giveL_ei hc (give_ei h hc (hx x (.head _))) fun y hy => hx y (.tail _ hy)
theorem giveL_take (c : Int) : ∀ (gs : List Gf) (E : Eco) (i : Nat) (hi : i < gs.length), (giveL c (gs.take i) E).1 = 0 →
    giveL c (gs.take (i + 1)) E = (if (giveF c gs[i] (giveL c (gs.take i) E).2).1 ≠ 0 then ((giveF c gs[i] (giveL c (gs.take i) E).2).1, (giveL c (gs.take i) E).2) else (0, (giveF c gs[i] (giveL c (gs.take i) E).2).2))
  | x :: t, E, 0, _, _ => by simp [giveL]
  | x :: t, E, i + 1, hi, h0 => by
    simp only [List.take_succ_cons, giveL, List.getElem_cons_succ] at h0 ⊢
    by_cases hx : (giveF c x E).1 = 0
    · simp only [hx, ne_eq, not_true_eq_false, if_false] at h0 ⊢
      have := giveL_take c t (giveF c x E).2 i (by simpa using hi) h0
      simpa using this
    · simp only [hx, ne_eq, not_false_eq_true, if_true] at h0
theorem giveL_bad (c : Int) : ∀ (gs : List Gf) (E : Eco) (i : Nat), (giveL c (gs.take i) E).1 ≠ 0 → giveL c gs E = giveL c (gs.take i) E
  | [], E, i, h => by simp
  | x :: t, E, 0, h => by simp [giveL] at h
  | x :: t, E, i + 1, h => by
    simp only [List.take_succ_cons, giveL] at h ⊢
    split
    · rfl
    · rename_i hx
      rw [if_neg hx] at h
      exact giveL_bad c t _ i h
def turnF (c : Int) (gs : List Gf) (bes : Eco → Int × Eco) (E : Eco) : Int × Eco :=
  if c < 1 then (2, E)
  else if (giveL c gs E).1 ≠ 0 then ((giveL c gs E).1, E)
  else if (bes (giveL c gs E).2).1 ≠ 0 then ((bes (giveL c gs E).2).1, E)
  else (0, (bes (giveL c gs E).2).2)
def endE (c : Int) (E : Eco) : Int × Eco := (if cns E.l c ≠ 0 ∨ (Gd.inF E.its c).length ≠ 0 then 170 else 0, E)
theorem put_ei {lp lg c : Int} {x : Et} {E : Eco} (h : EI lp lg E) (hc : 1 ≤ c ∧ c < 9223372036854775808) (hx : 0 ≤ x.coins ∧ x.coins < 18446744073709551616) : EI lp lg (putE c x E).2 := by
  unfold putE
  split
  · exact h
  split
  · exact h
  split
  · exact h
  · rename_i h1 h2 h3
    have hb := h.cns_bd c
    have ht : Pu.takeF E.P x.acc x.coins = (0, { E.P with held := E.P.held + x.coins, rows := Pu.setC E.P.rows x.acc.toNat (Pu.coin E.P.rows x.acc.toNat - x.coins) }) := by
      unfold Pu.takeF at h3 ⊢
      split at h3
      · split at h3
        · exact absurd (by simp) h3
        · rename_i e1 e2
          rw [if_pos e1, if_neg e2]
      · exact absurd (by simp) h3
    refine ⟨take_pi h.P _ _ hx, ?_, setR_ok h.R hc (by omega), ?_⟩
    · show Gd.GI lg (if x.item ≠ 0 then _ else _)
      split
      · exact gi_hold h.G _ _
      · exact h.G
    · show sumR (setR c (cns E.l c + x.coins) E.l) = (Pu.takeF E.P x.acc x.coins).2.held
      rw [ht, sumR_setR h.R]
      show _ = E.P.held + x.coins
      rw [← h.sum]; omega
theorem put_no {c : Int} {x : Et} {E : Eco} (h : (putE c x E).1 ≠ 0) : (putE c x E).2 = E := by
  unfold putE at h ⊢
  split
  · rfl
  split
  · rfl
  split
  · rfl
  · rename_i h1 h2 h3; rw [if_neg h1, if_neg h2, if_neg h3] at h; exact absurd rfl h
theorem turn_ei {lp lg c : Int} {gs : List Gf} {bes : Eco → Int × Eco} {E : Eco} (h : EI lp lg E) (hc : c < 9223372036854775808) (hx : ∀ x ∈ gs, 0 ≤ x.coins) (hb : ∀ E, 1 ≤ c → EI lp lg E → EI lp lg (bes E).2) : EI lp lg (turnF c gs bes E).2 := by
  unfold turnF
  split
  · exact h
  split
  · exact h
  split
  · exact h
  · exact hb _ (by omega) (giveL_ei ⟨by omega, hc⟩ h hx)
end Go.HL.Es

namespace Go.HL.Es
open Go.HL Go.Proofs
set_option maxRecDepth 4000
set_option linter.unusedSimpArgs false
set_option linter.unusedVariables false
def Undoes (w0 : World) (p g s : Nat) (lim : Int) (X : Asn) (fs : List Value) (D : Nat → Eco) : Prop :=
  ∀ k, k < fs.length → ∃ f cs, fs[k]? = some (.func (.func f) #[] cs) ∧ hasBody Tryz.prog f = true ∧
    ∀ (G : Asn) (W : World), St w0 (G * X * ecoA p g s lim (D (k + 1))) W → CallW Tryz.prog f cs.toList (fun _ W' => St w0 (G * X * ecoA p g s lim (D k)) W') W
theorem undoes_nil {w0 : World} {p g s : Nat} {lim : Int} {E : Eco} : Undoes w0 p g s lim emp [] (fun _ => E) := fun k hk => absurd hk (by simp)
def nextD (D : Nat → Eco) (n : Nat) (E : Eco) : Nat → Eco := fun k => if k = n + 1 then E else D k
theorem nextD_at (D : Nat → Eco) (n : Nat) (E : Eco) : nextD D n E (n + 1) = E := by simp [nextD]
theorem nextD_low (D : Nat → Eco) {n k : Nat} (E : Eco) (h : k ≤ n) : nextD D n E k = D k := by simp only [nextD]; rw [if_neg (by omega)]
theorem Undoes.snoc {w0 : World} {p g s : Nat} {lim : Int} {X : Asn} {fs : List Value} {D : Nat → Eco} (h : Undoes w0 p g s lim X fs D) {f : Nat} {cs : Array Value} {E : Eco} (hb : hasBody Tryz.prog f = true)
    (hf : ∀ (G : Asn) (W : World), St w0 (G * X * ecoA p g s lim E) W → CallW Tryz.prog f cs.toList (fun _ W' => St w0 (G * X * ecoA p g s lim (D fs.length)) W') W) :
    Undoes w0 p g s lim X (fs ++ [.func (.func f) #[] cs]) (nextD D fs.length E) := by
  intro k hk
  simp only [List.length_append, List.length_singleton] at hk
  by_cases e : k < fs.length
  · obtain ⟨f', cs', h1, h2, h3⟩ := h k e
    refine ⟨f', cs', by rw [List.getElem?_append_left e]; exact h1, h2, fun G W hs => ?_⟩
    rw [nextD_low D E (by omega : k + 1 ≤ fs.length)] at hs
    rw [nextD_low D E (by omega : k ≤ fs.length)]
    exact h3 G W hs
  · have : k = fs.length := by omega
    subst this
    refine ⟨f, cs, by simp, hb, fun G W hs => ?_⟩
    rw [nextD_at] at hs
    rw [nextD_low D E (Nat.le_refl _)]
    exact hf G W hs
theorem Undoes.wide {w0 : World} {p g s : Nat} {lim : Int} {X Y : Asn} {fs : List Value} {D : Nat → Eco} (h : Undoes w0 p g s lim X fs D) : Undoes w0 p g s lim (X * Y) fs D := by
  intro k hk
  obtain ⟨f', cs', h1, h2, h3⟩ := h k hk
  exact ⟨f', cs', h1, h2, fun G W hs => (h3 (G * Y) W (hs.to (by ac_rfl))).mono fun _ W' h => h.to (by ac_rfl)⟩
abbrev gA (A : Asn) (p g s : Nat) (lim : Int) (b4 b5 b6 : Nat) (c : Int) (x : Gf) (E : Eco) : Asn := A * bxs b4 b5 b6 s c x * esc s p g E.l * Gd.gds g lim E.its * Pu.pur p E.P
section
variable {w0 w : World} {A Z : Asn} {p g s b4 b5 b6 : Nat} {lim c : Int} {x : Gf} {E : Eco}
theorem gfacts (h : St w0 (gA A p g s lim b4 b5 b6 c x E) w) : w.cell? ⟨b4, 0, none⟩ = some (.pointer (some ⟨s, 0, none⟩)) ∧ w.cell? ⟨b5, 0, none⟩ = some (.int .i64 c) ∧ w.cell? ⟨b6, 0, none⟩ = some (.int .i64 x.to) ∧ w.cell? ⟨b6, 1, none⟩ = some (.int .i64 x.item) ∧
    w.cell? ⟨b6, 2, none⟩ = some (.int .u64 x.coins) ∧ w.cell? ⟨s, 0, none⟩ = some (.pointer (some ⟨p, 0, none⟩)) ∧ w.cell? ⟨s, 1, none⟩ = some (.pointer (some ⟨g, 0, none⟩)) :=
  bx_facts h.drop
theorem gget {lp lg : Int} (hE : EI lp lg E) (n : Int) (h : St w0 (gA A p g s lim b4 b5 b6 c x E) w) : CallW Tryz.prog 74 [.pointer (some ⟨p, 0, none⟩), .int .i64 n]
    (fun r w' => r = .tuple #[.agg (Pu.getF E.P n).1.cs.toArray, .int .i64 (Pu.getF E.P n).2] ∧ St w0 (gA A p g s lim b4 b5 b6 c x E) w') w := Pu.Get_spec p E.P n w0 w _ hE.P.bd.len h
theorem gitm {lp lg : Int} (hE : EI lp lg E) (n : Int) (h : St w0 (gA A p g s lim b4 b5 b6 c x E) w) : CallW Tryz.prog 28 [.pointer (some ⟨g, 0, none⟩), .int .i64 n]
    (fun r w' => r = .tuple #[.agg (Gd.getF E.its n).1.cs.toArray, .int .i64 (Gd.getF E.its n).2] ∧ St w0 (gA A p g s lim b4 b5 b6 c x E) w') w :=
  (Gd.Get_spec g lim E.its n w0 w _ (by have := hE.G.len; have := hE.G.lim; omega) h.swap).mono fun r w' ⟨e, h⟩ => ⟨e, h.swap⟩
theorem gA_in (h : St w0 (gA A p g s lim b4 b5 b6 c x E * Z) w) : St w0 (gA (A * Z) p g s lim b4 b5 b6 c x E) w := h.to (by simp only [gA]; ac_rfl)
theorem gA_out (h : St w0 (gA (A * Z) p g s lim b4 b5 b6 c x E) w) : St w0 (gA A p g s lim b4 b5 b6 c x E * Z) w := h.to (by simp only [gA]; ac_rfl)
end
def GiftPost (w0 : World) (A : Asn) (p g s Br : Nat) (lg c : Int) (x : Gf) (E E0 : Eco) (n : Nat) (r : Value) (w' : World) : Prop :=
  r = .int .i64 (giveF c x E).1 ∧ ∃ (X : Asn) (fs : List Value) (D : Nat → Eco) (v : Value), Undoes w0 p g s lg X fs D ∧ D fs.length = (giveF c x E).2 ∧ D 0 = E0 ∧ fs.length ≤ n + 2 ∧
    St w0 (A * X * pt Br (.cells #[v] 174 (0, 0)) * own 1 1 v fs.length fs * ecoA p g s lg (giveF c x E).2) w'
theorem out5 {A X b4 b5 b6 b7 R O P G S : Asn} : A * (X * (b4 * b5 * b6 * b7)) * R * O * (P * G * S) = A * X * R * O * b7 * (b4 * b5 * b6) * S * G * P := by ac_rfl
theorem gift_end (p g s Br b4 b5 b6 b7 n : Nat) (lp lg c : Int) (x : Gf) (E E0 : Eco) (v : Value) (fs : List Value) (X : Asn) (D : Nat → Eco) (w0 w : World) (A : Asn) (a0 a1 a2 a7 a8 a9 a10 a13 : Value)
    (hE : EI lp lg E) (hc : 1 ≤ c ∧ c < 9223372036854775808) (hx : 0 ≤ x.coins ∧ x.coins < 18446744073709551616) (gv : Gives c x E) (hn : fs.length ≤ n + 1) (hn2 : n ≤ 16777210)
    (hU : Undoes w0 p g s lg (X * (bxs b4 b5 b6 s c x * pt b7 (.cells #[.int .u64 (cns E.l c)] 23 (0, 0)))) fs D) (hD : D fs.length = freeI x E) (hD0 : D 0 = E0)
    (h : St w0 (A * (X * (bxs b4 b5 b6 s c x * pt b7 (.cells #[.int .u64 (cns E.l c)] 23 (0, 0)))) * pt Br (.cells #[v] 174 (0, 0)) * own 1 1 v fs.length fs * ecoA p g s lg (freeI x E)) w) :
    HC.wp E1 h113_3 (endQ Tryz.prog [.slot 7] (GiftPost w0 A p g s Br lg c x E E0 n))
      [a0, a1, a2, .func (.func 110) #[] #[.pointer (some ⟨Br, 0, none⟩)], .pointer (some ⟨b4, 0, none⟩), .pointer (some ⟨b5, 0, none⟩), .pointer (some ⟨b6, 0, none⟩), a7, a8, a9, a10, .pointer (some ⟨b7, 0, none⟩), .int .u64 (cns E.l c - x.coins), a13] w := by
  have hb := hE.cns_bd c
  have hle := cns_le hE.R c
  have hsum := hE.sum
  have hgc := gv.coins
  obtain ⟨hput, hback⟩ := put_back hE.P (n := x.to) (c := x.coins) (get_acc.1 gv.acc) ⟨hx.1, by omega⟩
  have hok := (give_cases c x E).resolve_right fun q => q.1 gv
  have h1 : St w0 (A * X * pt Br (.cells #[v] 174 (0, 0)) * own 1 1 v fs.length fs * pt b7 (.cells #[.int .u64 (cns E.l c)] 23 (0, 0)) * bxs b4 b5 b6 s c x * esc s p g E.l * Gd.gds g lg (freeI x E).its * Pu.pur p E.P) w := h.to out5
  clear h
  generalize hA1 : A * X * pt Br (.cells #[v] 174 (0, 0)) * own 1 1 v fs.length fs * pt b7 (.cells #[.int .u64 (cns E.l c)] 23 (0, 0)) = A1 at h1
  have hf := fun {Z : Asn} {w : World} (h : St w0 (A1 * bxs b4 b5 b6 s c x * esc s p g E.l * Z) w) => bx_facts h
  have hP := fun {w : World} (h : St w0 (A1 * bxs b4 b5 b6 s c x * esc s p g E.l * Gd.gds g lg (freeI x E).its * Pu.pur p E.P) w) => Pu.Put_spec p E.P x.to x.coins w0 w _ hE.P.bd hx h
  simp
  refine regmI (Pu.cls1 (St w0 (A1 * bxs b4 b5 b6 s c x * esc s p g E.l * Gd.gds g lg (freeI x E).its * Pu.pur p E.P)) (St w0 (A1 * bxs b4 b5 b6 s c x * esc s p g E.l * Gd.gds g lg (freeI x E).its * Pu.pur p (Pu.putF E.P x.to x.coins).2))) h1.drew ?_
  have hf2 := fun {P : Pu.Ps} {w : World} (h : St w0 (A1 * bxs b4 b5 b6 s c x * esc s p g E.l * Gd.gds g lg (freeI x E).its * Pu.pur p P) w) => hf h.drop
  simp
  refine effm_ldc (v := .pointer (some ⟨s, 0, none⟩)) (fun vs' w he hw => Pu.cls1_low (fun h => (hf2 h).1) (fun h => (hf2 h).1) hw) ?_
  simp
  refine effm_ldc (v := .pointer (some ⟨p, 0, none⟩)) (fun vs' w he hw => Pu.cls1_low (fun h => (hf2 h).2.2.2.2.2.1) (fun h => (hf2 h).2.2.2.2.2.1) hw) ?_
  simp
  refine effm_ldc (v := .int .i64 x.to) (fun vs' w he hw => Pu.cls1_low (fun h => (hf2 h).2.2.1) (fun h => (hf2 h).2.2.1) hw) ?_
  simp
  refine effm_ldc (v := .int .u64 x.coins) (fun vs' w he hw => Pu.cls1_low (fun h => (hf2 h).2.2.2.2.1) (fun h => (hf2 h).2.2.2.2.1) hw) ?_
  simp
  refine effm_mv (by rfl) (fun w hw => ?_) (fun r hr => ?_)
  · rw [Pu.cls1_nil] at hw
    refine eff_call ((hP hw).mono ?_)
    rintro r w' ⟨_, h⟩
    exact h
  simp
  intro w2 h2
  refine eff_ldc (hf2 h2).1 ?_
  simp
  refine eff_ldc (hf2 h2).2.1 ?_
  simp
  refine eff_call ((set_spec s p g E.l c (cns E.l c - x.coins) w0 w2 (A1 * bxs b4 b5 b6 s c x * Gd.gds g lg (freeI x E).its * Pu.pur p (Pu.putF E.P x.to x.coins).2) hE.R (h2.to (by ac_rfl))).mono ?_)
  intro r w3 h3
  simp
  rw [← hA1] at h3
  have h4 : St w0 (A * (X * (bxs b4 b5 b6 s c x * pt b7 (.cells #[.int .u64 (cns E.l c)] 23 (0, 0)))) * ecoA p g s lg ⟨(Pu.putF E.P x.to x.coins).2, (freeI x E).its, setR c (cns E.l c - x.coins) E.l⟩ * pt Br (.cells #[v] 174 (0, 0)) * own 1 1 v fs.length fs) w3 := h3.to (by simp only [ecoA]; ac_rfl)
  refine eff_callv (by kernel_rfl) ((turn1_spec Br fs.length v _ fs w0 w3 _ rfl (by omega) h4).mono ?_)
  rintro r w4 ⟨v', h5⟩
  simp
  unfold GiftPost
  refine ⟨by rw [hok.2], X * (bxs b4 b5 b6 s c x * pt b7 (.cells #[.int .u64 (cns E.l c)] 23 (0, 0))), _, _, v', hU.snoc (f := 147) (cs := #[.pointer (some ⟨b4, 0, none⟩), .pointer (some ⟨b6, 0, none⟩), .pointer (some ⟨b5, 0, none⟩), .pointer (some ⟨b7, 0, none⟩)]) (E := (giveF c x E).2) (by kernel_rfl) ?_, ?_, ?_, ?_, ?_⟩
  · intro G W hs
    rw [hok.2] at hs
    have hs' : St w0 (G * X * Gd.gds g lg (freeI x E).its * pt b7 (.cells #[.int .u64 (cns E.l c)] 23 (0, 0)) * bxs b4 b5 b6 s c x * esc s p g (setR c (cns E.l c - x.coins) E.l) * Pu.pur p (Pu.putF E.P x.to x.coins).2) W := hs.to (by simp only [ecoA]; ac_rfl)
    refine (undo2_spec b4 b5 b6 b7 s p g c (cns E.l c) x _ _ w0 W _ (put_pi hE.P _ _ hx).bd hx (setR_ok hE.R hc (by omega)) hs').mono ?_
    intro r W' h6
    rw [hback, setR_back hE.R hc (by omega)] at h6
    rw [hD]
    exact h6.to (by simp only [ecoA, freeI]; ac_rfl)
  · simp [nextD_at]
  · rw [nextD_low _ _ (Nat.zero_le _)]; exact hD0
  · simp; omega
  · simp only [List.length_append, List.length_singleton]
    rw [hok.2]
    exact h5.to (by ac_rfl)
end Go.HL.Es

namespace Go.HL.Es
open Go.HL Go.Proofs
set_option maxRecDepth 4000
set_option linter.unusedSimpArgs false
set_option linter.unusedVariables false
theorem gift_err {w0 w : World} {A X : Asn} {p g s Br n : Nat} {lg c k : Int} {x : Gf} {E E0 : Eco} {v : Value} {fs : List Value} {D : Nat → Eco} (hk : giveF c x E = (k, E))
    (hU : Undoes w0 p g s lg X fs D) (hD : D fs.length = E) (hD0 : D 0 = E0) (hn : fs.length ≤ n)
    (h : St w0 (A * X * pt Br (.cells #[v] 174 (0, 0)) * own 1 1 v fs.length fs * ecoA p g s lg E) w) : GiftPost w0 A p g s Br lg c x E E0 n (.int .i64 k) w := by
  unfold GiftPost
  rw [hk]
  exact ⟨rfl, X, fs, D, v, hU, hD, hD0, by omega, h⟩
abbrev gX (A X : Asn) (Br : Nat) (v : Value) (fs : List Value) : Asn := A * X * pt Br (.cells #[v] 174 (0, 0)) * own 1 1 v fs.length fs
theorem gX_eco {A X : Asn} {Br : Nat} {v : Value} {fs : List Value} {p g s b4 b5 b6 : Nat} {lim c : Int} {x : Gf} {E : Eco} {w0 w : World} (h : St w0 (gA (gX A X Br v fs) p g s lim b4 b5 b6 c x E) w) :
    St w0 (A * X * pt Br (.cells #[v] 174 (0, 0)) * own 1 1 v fs.length fs * ecoA p g s lim E) w := h.cut (bxs b4 b5 b6 s c x) (by simp only [gA, gX, ecoA]; ac_rfl)
abbrev gEnv (a0 a1 a2 : Value) (Br b4 b5 b6 : Nat) (r : List Value) : List Value :=
  [a0, a1, a2, .func (.func 110) #[] #[.pointer (some ⟨Br, 0, none⟩)], .pointer (some ⟨b4, 0, none⟩), .pointer (some ⟨b5, 0, none⟩), .pointer (some ⟨b6, 0, none⟩)] ++ r
section
variable (p g s Br b4 b5 b6 b7 n : Nat) (lp lg c : Int) (x : Gf) (E E0 : Eco) (v : Value) (fs : List Value) (X : Asn) (D : Nat → Eco) (w0 w : World) (A : Asn) (a0 a1 a2 a7 a8 a9 a10 a11 a12 a13 : Value)
    (hE : EI lp lg E) (hc : 1 ≤ c ∧ c < 9223372036854775808) (hx : 0 ≤ x.coins ∧ x.coins < 18446744073709551616) (hn : fs.length ≤ n) (hn2 : n ≤ 16777210)
    (hU : Undoes w0 p g s lg X fs D) (hD : D fs.length = E) (hD0 : D 0 = E0)
include hE hc hx hn hn2 hU hD hD0
theorem gift_mid (gv : Gives c x E)
    (h : St w0 (gA (gX A X Br v fs * pt b7 (.cells #[.int .u64 (cns E.l c)] 23 (0, 0))) p g s lg b4 b5 b6 c x E) w) :
    HC.wp E1 h113_6 (endQ Tryz.prog [.slot 7] (GiftPost w0 A p g s Br lg c x E E0 n))
      (gEnv a0 a1 a2 Br b4 b5 b6 [a7, a8, a9, a10, .pointer (some ⟨b7, 0, none⟩), .int .u64 (cns E.l c - x.coins), a13]) w := by
  have hU' := hU.wide (Y := bxs b4 b5 b6 s c x * pt b7 (.cells #[.int .u64 (cns E.l c)] 23 (0, 0)))
  have hlen : E.its.length ≤ 1048576 := by have := hE.G.len; have := hE.G.lim; omega
  simp
  refine eff_ldc (gfacts h).2.2.2.1 ?_
  simp
  refine cndI (fun hi => ?_) (fun hi => ?_)
  · simp at hi
    have hacc : Gd.accF x.to = true := acc_of hE.P (get_acc.1 gv.acc)
    obtain ⟨hf0, hfb⟩ := free_back hE.G hacc hc.1 (gv.item hi).1 (gv.item hi).2
    have hfi : (freeI x E) = ⟨E.P, (Gd.freeF E.its x.item x.to).2, E.l⟩ := by simp [freeI, hi]
    generalize hA1 : gX A X Br v fs * pt b7 (.cells #[.int .u64 (cns E.l c)] 23 (0, 0)) = A1 at h
    have h1 : St w0 (A1 * bxs b4 b5 b6 s c x * esc s p g E.l * Pu.pur p E.P * Gd.gds g lg E.its) w := h.swap
    have hf := fun {its : List Gd.It} {w : World} (h : St w0 (A1 * bxs b4 b5 b6 s c x * esc s p g E.l * Pu.pur p E.P * Gd.gds g lg its) w) => bx_facts h.drop
    simp
    refine regmI (Pu.cls1 (St w0 (A1 * bxs b4 b5 b6 s c x * esc s p g E.l * Pu.pur p E.P * Gd.gds g lg E.its)) (St w0 (A1 * bxs b4 b5 b6 s c x * esc s p g E.l * Pu.pur p E.P * Gd.gds g lg (Gd.freeF E.its x.item x.to).2))) h1.drew ?_
    simp
    refine effm_ldc (v := .pointer (some ⟨s, 0, none⟩)) (fun vs' w he hw => Pu.cls1_low (fun h => (hf h).1) (fun h => (hf h).1) hw) ?_
    simp
    refine effm_ldc (v := .pointer (some ⟨g, 0, none⟩)) (fun vs' w he hw => Pu.cls1_low (fun h => (hf h).2.2.2.2.2.2) (fun h => (hf h).2.2.2.2.2.2) hw) ?_
    simp
    refine effm_ldc (v := .int .i64 x.item) (fun vs' w he hw => Pu.cls1_low (fun h => (hf h).2.2.2.1) (fun h => (hf h).2.2.2.1) hw) ?_
    simp
    refine effm_ldc (v := .int .i64 x.to) (fun vs' w he hw => Pu.cls1_low (fun h => (hf h).2.2.1) (fun h => (hf h).2.2.1) hw) ?_
    simp
    refine effm_mv (by rfl) (fun w hw => ?_) (fun r hr => ?_)
    · rw [Pu.cls1_nil] at hw
      refine eff_call ((Gd.Free_spec g lg E.its x.item x.to w0 w _ hlen hw).mono ?_)
      rintro r w' ⟨_, h⟩
      exact h
    simp
    intro w2 h2
    rw [← hA1] at h2
    have h3 : St w0 (A * (X * (bxs b4 b5 b6 s c x * pt b7 (.cells #[.int .u64 (cns E.l c)] 23 (0, 0)))) * ecoA p g s lg (freeI x E) * pt Br (.cells #[v] 174 (0, 0)) * own 1 1 v fs.length fs) w2 := by
      rw [hfi]
      exact h2.to (by simp only [ecoA, gX]; ac_rfl)
    refine eff_callv (by kernel_rfl) ((turn1_spec Br fs.length v _ fs w0 w2 _ rfl (by omega) h3).mono ?_)
    rintro r w4 ⟨v', h5⟩
    simp
    have hU2 := hU'.snoc (f := 145) (cs := #[.pointer (some ⟨b4, 0, none⟩), .pointer (some ⟨b6, 0, none⟩), .pointer (some ⟨b5, 0, none⟩)]) (E := freeI x E) (by kernel_rfl) (by
      intro G W hs
      rw [hfi] at hs
      have hs' : St w0 (G * X * Pu.pur p E.P * pt b7 (.cells #[.int .u64 (cns E.l c)] 23 (0, 0)) * bxs b4 b5 b6 s c x * esc s p g E.l * Gd.gds g lg (Gd.freeF E.its x.item x.to).2) W := hs.to (by simp only [ecoA]; ac_rfl)
      refine (undo1_spec b4 b5 b6 s p g c lg x _ E.l w0 W _ (by have := (gi_free hE.G x.item x.to).len; have := hE.G.lim; omega) hs').mono ?_
      intro r W' h6
      rw [hfb] at h6
      rw [hD]
      exact h6.to (by simp only [ecoA]; ac_rfl))
    have := gift_end p g s Br b4 b5 b6 b7 n lp lg c x E E0 v' _ X _ w0 w4 A a0 a1 a2 a7 a8 a9 a10 a13 hE hc hx gv (by simp; omega) hn2 hU2 (by simp [nextD_at]) (by rw [nextD_low _ _ (Nat.zero_le _)]; exact hD0)
      (by simp only [List.length_append, List.length_singleton]; exact h5.to (by ac_rfl))
    simpa using this
  · simp at hi
    have hfi : freeI x E = E := by simp [freeI, hi]
    simp
    have := gift_end p g s Br b4 b5 b6 b7 n lp lg c x E E0 v fs X D w0 w A a0 a1 a2 a7 a8 a9 a10 a13 hE hc hx gv (by omega) hn2 hU' (by rw [hfi]; exact hD) hD0
      (by rw [hfi]; exact h.to (by simp only [ecoA, gX, gA]; ac_rfl))
    simpa using this
theorem gift_tail (hacc : (Pu.getF E.P x.to).2 = 0) (hit : x.item ≠ 0 → (Gd.getF E.its x.item).2 = 0 ∧ (Gd.getF E.its x.item).1.con = c)
    (h : St w0 (gA (gX A X Br v fs) p g s lg b4 b5 b6 c x E) w) :
    HC.wp E1 h113_10 (endQ Tryz.prog [.slot 7] (GiftPost w0 A p g s Br lg c x E E0 n))
      (gEnv a0 a1 a2 Br b4 b5 b6 [a7, a8, a9, a10, a11, a12, a13]) w := by
  obtain ⟨m, es, cl, hH, h1⟩ := eopen (h.to (B := gX A X Br v fs * bxs b4 b5 b6 s c x * Gd.gds g lg E.its * Pu.pur p E.P * esc s p g E.l) (by simp only [gA]; ac_rfl))
  have hclose := fun {b : Nat} {t : TypeId} {o : Obj} {w : World} (h : St w0 (gX A X Br v fs * bxs b4 b5 b6 s c x * Gd.gds g lg E.its * Pu.pur p E.P * pte s p g m * imap m es cl * pt b o) w) =>
    eclose (A := gX A X Br v fs * bxs b4 b5 b6 s c x * Gd.gds g lg E.its * Pu.pur p E.P * pt b o) hH (h.to (by ac_rfl))
  have hf := fun {w : World} (h : St w0 (gX A X Br v fs * bxs b4 b5 b6 s c x * Gd.gds g lg E.its * Pu.pur p E.P * pte s p g m * imap m es cl) w) =>
    bx_facts ((eclose hH h).to (B := gX A X Br v fs * bxs b4 b5 b6 s c x * esc s p g E.l * (Gd.gds g lg E.its * Pu.pur p E.P)) (by ac_rfl))
  have hs2 := fun {w : World} (h : St w0 (gX A X Br v fs * bxs b4 b5 b6 s c x * Gd.gds g lg E.its * Pu.pur p E.P * pte s p g m * imap m es cl) w) => (cell_of (off := 2) h.swap.look).trans (rfl : _ = some (Value.map (some m)))
  have hm := fun {w : World} (h : St w0 (gX A X Br v fs * bxs b4 b5 b6 s c x * Gd.gds g lg E.its * Pu.pur p E.P * pte s p g m * imap m es cl) w) => h.look
  generalize hB : gX A X Br v fs * bxs b4 b5 b6 s c x * Gd.gds g lg E.its * Pu.pur p E.P * pte s p g m * imap m es cl = B at h1 hf hs2 hm hclose
  simp
  refine regmI (clsN (St w0 B) (fun b => St w0 (B * pt b (.cells #[.int .u64 0] 23 (0, 0)))) (fun b => St w0 (B * pt b (.cells #[.int .u64 (cns E.l c)] 23 (0, 0))))) h1.drew ?_
  simp
  refine effm_ldc (v := .pointer (some ⟨s, 0, none⟩)) (fun vs' w he hw => clsN_low (fun h => (hf h).1) (fun b h => (hf h.drop).1) (fun b h => (hf h.drop).1) hw) ?_
  simp
  refine effm_ldc (v := .map (some m)) (fun vs' w he hw => clsN_low (fun h => hs2 h) (fun b h => hs2 h.drop) (fun b h => hs2 h.drop) hw) ?_
  simp
  refine effm_ldc (v := .int .i64 c) (fun vs' w he hw => clsN_low (fun h => (hf h).2.1) (fun b h => (hf h.drop).2.1) (fun b h => (hf h.drop).2.1) hw) ?_
  simp
  refine effm_lookI escT (m := m) (es := es) (c := cl) (fun vs' w he hw => clsN_low (fun h => hm h) (fun b h => hm h.drop) (fun b h => hm h.drop) hw) ?_
  rw [(hH.get hE.R c).1]
  simp
  refine effm_mv (by rfl) (fun w hw => eff_new (z := .int .u64 0) (F := B) hw fun b w' h => ⟨b, rfl, h⟩) (fun r hr => ?_)
  obtain ⟨_, b7, rfl, _⟩ := hr
  simp
  refine effm_mv (by rfl) (fun w hw => ?_) (fun r hr => ?_)
  · obtain ⟨b, e, hw⟩ := hw
    cases e
    exact eff_st1 hw rfl (by simp) fun w' h => ⟨b7, rfl, by simpa using h⟩
  simp
  rintro w2 ⟨b, e, h2⟩
  cases e
  have h3 := hclose (t := 0) h2
  have h4 : St w0 (gA (gX A X Br v fs * pt b7 (.cells #[.int .u64 (cns E.l c)] 23 (0, 0))) p g s lg b4 b5 b6 c x E) w2 := h3.to (by simp only [gA]; ac_rfl)
  have hbd := hE.cns_bd c
  refine eff_ldc (v := .int .u64 (cns E.l c)) ((cell_of h2.look).trans rfl) ?_
  simp
  refine eff_ldc (gfacts h4).2.2.2.2.1 ?_
  simp
  refine eff_call ((Pu.take_spec (cns E.l c) x.coins w2 (by omega) hx).mono ?_)
  rintro r w3 ⟨rfl, rfl⟩
  simp
  refine cndI (fun hl => ?_) (fun hl => ?_)
  · simp at hl
    have hk : giveF c x E = (170, E) := by
      unfold giveF
      rw [if_neg (by simp [hacc]), if_neg (by
        rintro ⟨hi, h | h⟩
        · exact h (hit hi).1
        · exact h (hit hi).2), if_pos hl]
    simp
    exact gift_err hk hU hD hD0 hn (gX_eco (h4.cut (B := gA (gX A X Br v fs) p g s lg b4 b5 b6 c x E) (pt b7 (.cells #[.int .u64 (cns E.l c)] 23 (0, 0))) (by simp only [gA]; ac_rfl)))
  · simp at hl
    have hl2 : ¬ cns E.l c < x.coins := by omega
    simp [hl2]
    have := gift_mid p g s Br b4 b5 b6 b7 n lp lg c x E E0 v fs X D w0 w3 A a0 a1 a2 a7 a8 a9 a10 (.int .i64 0) hE hc hx hn hn2 hU hD hD0 ⟨hacc, hit, hl⟩ h4
    simpa using this
end
end Go.HL.Es

namespace Go.HL.Es
open Go.HL Go.Proofs
set_option maxRecDepth 4000
set_option linter.unusedSimpArgs false
set_option linter.unusedVariables false
theorem get_item (its : List Gd.It) (n : Int) : (Gd.getF its n).2 = 0 ∨ (Gd.getF its n).2 = 151 := by
  unfold Gd.getF; split <;> simp
theorem gift_spec (p g s Br n : Nat) (lp lg c : Int) (x : Gf) (E E0 : Eco) (v : Value) (fs : List Value) (X : Asn) (D : Nat → Eco) (w0 w : World) (A : Asn)
    (hE : EI lp lg E) (hc : 1 ≤ c ∧ c < 9223372036854775808) (hx : 0 ≤ x.coins ∧ x.coins < 18446744073709551616) (hn : fs.length ≤ n) (hn2 : n ≤ 16777210)
    (hU : Undoes w0 p g s lg X fs D) (hD : D fs.length = E) (hD0 : D 0 = E0)
    (h : St w0 (A * X * pt Br (.cells #[v] 174 (0, 0)) * own 1 1 v fs.length fs * ecoA p g s lg E) w) :
    CallW Tryz.prog 113 [.pointer (some ⟨s, 0, none⟩), .int .i64 c, .agg x.cs.toArray, .func (.func 110) #[] #[.pointer (some ⟨Br, 0, none⟩)]]
      (GiftPost w0 A p g s Br lg c x E E0 n) w := by
  refine callW_of_lift l113_ok (by simp [l113]) ?_
  simp [l113]
  refine eff_box h fun b4 w1 h1 => ?_
  simp
  refine eff_box h1 fun b5 w2 h2 => ?_
  simp
  refine eff_box h2 fun b6 w3 h3 => ?_
  simp
  have h4 : St w0 (gA (gX A X Br v fs) p g s lg b4 b5 b6 c x E) w3 := h3.to (by simp only [gA, gX, bxs, ecoA, cells_agg, Value.cells]; ac_rfl)
  clear h h1 h2 h3
  have hcell : ∀ {Z : Asn} {w : World}, St w0 (gA (gX A X Br v fs) p g s lg b4 b5 b6 c x E * Z) w → St w0 (gA (gX A X Br v fs * Z) p g s lg b4 b5 b6 c x E) w := fun h => gA_in h
  refine regmQ (clsN (St w0 (gA (gX A X Br v fs) p g s lg b4 b5 b6 c x E)) (fun b => St w0 (gA (gX A X Br v fs) p g s lg b4 b5 b6 c x E * pt b (.cells (Pu.Ac.cs ⟨[], 0⟩).toArray 58 (0, 0))))
    (fun b => St w0 (gA (gX A X Br v fs) p g s lg b4 b5 b6 c x E * pt b (.cells (Pu.getF E.P x.to).1.cs.toArray 58 (0, 0))))) (fun _ _ => .tuple #[.agg (Pu.getF E.P x.to).1.cs.toArray, .int .i64 (Pu.getF E.P x.to).2]) h4.drew ?_
  simp
  refine effm_ldc (v := .pointer (some ⟨s, 0, none⟩)) (fun vs' w he hw => clsN_low (fun h => (gfacts h).1) (fun b h => (gfacts h.drop).1) (fun b h => (gfacts h.drop).1) hw) ?_
  simp
  refine effm_ldc (v := .pointer (some ⟨p, 0, none⟩)) (fun vs' w he hw => clsN_low (fun h => (gfacts h).2.2.2.2.2.1) (fun b h => (gfacts h.drop).2.2.2.2.2.1) (fun b h => (gfacts h.drop).2.2.2.2.2.1) hw) ?_
  simp
  refine effm_ldc (v := .int .i64 x.to) (fun vs' w he hw => clsN_low (fun h => (gfacts h).2.2.1) (fun b h => (gfacts h.drop).2.2.1) (fun b h => (gfacts h.drop).2.2.1) hw) ?_
  simp
  refine effm_qc (by kernel_rfl) (by rfl) (by intro h; cases h) (fun vs' w he hw => clsN_call (fun h => gget hE x.to h) (fun b h => (gget hE x.to (hcell h)).mono fun r w' ⟨e, h⟩ => ⟨e, gA_out h⟩) (fun b h => (gget hE x.to (hcell h)).mono fun r w' ⟨e, h⟩ => ⟨e, gA_out h⟩) hw) ?_
  simp
  refine effm_mv (by rfl) (fun w hw => eff_new (z := .agg (Pu.Ac.cs ⟨[], 0⟩).toArray) hw fun b w' h => ⟨b, rfl, h⟩) (fun r hr => ?_)
  obtain ⟨_, b7, rfl, _⟩ := hr
  simp
  refine effm_mv (by rfl) (fun w hw => ?_) (fun r hr => ?_)
  · obtain ⟨b, e, hw⟩ := hw
    cases e
    exact eff_stA (vs := (Pu.getF E.P x.to).1.cs) hw rfl rfl (Pu.cs_one _) (by simp [Pu.Ac.cs]) fun w' h => ⟨b7, rfl, by simpa [Pu.Ac.cs] using h⟩
  simp
  rintro w4 ⟨b, e, h5⟩
  cases e
  have h6 := h5.drop
  refine cndI (fun hg => ?_) (fun hg => ?_)
  · simp at hg
    have hg2 := (get_or E.P x.to).resolve_left hg
    simp
    rw [hg2]
    exact gift_err (by unfold giveF; rw [if_pos hg]) hU hD hD0 hn (gX_eco h6)
  simp at hg
  simp
  refine eff_ldc (gfacts h6).2.2.2.1 ?_
  simp
  refine cndI (fun hi => ?_) (fun hi => ?_)
  · simp at hi
    simp
    refine regmQ (clsN (St w0 (gA (gX A X Br v fs) p g s lg b4 b5 b6 c x E)) (fun b => St w0 (gA (gX A X Br v fs) p g s lg b4 b5 b6 c x E * pt b (.cells (Gd.It.cs ⟨0, 0, 0, 0⟩).toArray 60 (0, 0))))
      (fun b => St w0 (gA (gX A X Br v fs) p g s lg b4 b5 b6 c x E * pt b (.cells (Gd.getF E.its x.item).1.cs.toArray 60 (0, 0))))) (fun _ _ => .tuple #[.agg (Gd.getF E.its x.item).1.cs.toArray, .int .i64 (Gd.getF E.its x.item).2]) h6.drew ?_
    simp
    refine effm_ldc (v := .pointer (some ⟨s, 0, none⟩)) (fun vs' w he hw => clsN_low (fun h => (gfacts h).1) (fun b h => (gfacts h.drop).1) (fun b h => (gfacts h.drop).1) hw) ?_
    simp
    refine effm_ldc (v := .pointer (some ⟨g, 0, none⟩)) (fun vs' w he hw => clsN_low (fun h => (gfacts h).2.2.2.2.2.2) (fun b h => (gfacts h.drop).2.2.2.2.2.2) (fun b h => (gfacts h.drop).2.2.2.2.2.2) hw) ?_
    simp
    refine effm_ldc (v := .int .i64 x.item) (fun vs' w he hw => clsN_low (fun h => (gfacts h).2.2.2.1) (fun b h => (gfacts h.drop).2.2.2.1) (fun b h => (gfacts h.drop).2.2.2.1) hw) ?_
    simp
    refine effm_qc (by kernel_rfl) (by rfl) (by intro h; cases h) (fun vs' w he hw => clsN_call (fun h => gitm hE x.item h) (fun b h => (gitm hE x.item (hcell h)).mono fun r w' ⟨e, h⟩ => ⟨e, gA_out h⟩) (fun b h => (gitm hE x.item (hcell h)).mono fun r w' ⟨e, h⟩ => ⟨e, gA_out h⟩) hw) ?_
    simp
    refine effm_mv (by rfl) (fun w hw => eff_new (z := .agg (Gd.It.cs ⟨0, 0, 0, 0⟩).toArray) hw fun b w' h => ⟨b, rfl, h⟩) (fun r hr => ?_)
    obtain ⟨_, b8, rfl, _⟩ := hr
    simp
    refine effm_mv (by rfl) (fun w hw => ?_) (fun r hr => ?_)
    · obtain ⟨b, e, hw⟩ := hw
      cases e
      exact eff_stA (vs := (Gd.getF E.its x.item).1.cs) hw rfl rfl (Gd.cs_one _) (by simp [Gd.It.cs]) fun w' h => ⟨b8, rfl, by simpa [Gd.It.cs] using h⟩
    simp
    rintro w5 ⟨b, e, h7⟩
    cases e
    have bad : (Gd.getF E.its x.item).2 ≠ 0 ∨ (Gd.getF E.its x.item).1.con ≠ c → GiftPost w0 A p g s Br lg c x E E0 n (.int .i64 170) w5 := fun hb =>
      gift_err (by unfold giveF; rw [if_neg (by simpa using hg), if_pos ⟨hi, hb⟩]) hU hD hD0 hn (gX_eco h7.drop)
    rcases get_item E.its x.item with e1 | e1
    · simp [e1]
      refine eff_ldc (v := .int .i64 (Gd.getF E.its x.item).1.con) ((cell_of h7.look).trans rfl) ?_
      simp
      refine eff_ldc (gfacts h7.drop).2.1 ?_
      simp
      refine cndI (fun hcn => ?_) (fun hcn => ?_)
      · simp at hcn
        simp
        exact bad (.inr hcn)
      · simp at hcn
        simp
        have := gift_tail p g s Br b4 b5 b6 n lp lg c x E E0 v fs X D w0 w5 A (.pointer (some ⟨s, 0, none⟩)) (.int .i64 c) (.agg x.cs.toArray) (.int .i64 0) (.int .i64 (Pu.getF E.P x.to).2) (.pointer (some ⟨b8, 0, none⟩)) (.int .i64 0) undef undef undef hE hc hx hn hn2 hU hD hD0 hg (fun _ => ⟨e1, hcn⟩) h7.drop
        simpa using this
    · simp [e1]
      exact bad (.inl (by omega))
  · simp at hi
    simp
    have := gift_tail p g s Br b4 b5 b6 n lp lg c x E E0 v fs X D w0 w4 A (.pointer (some ⟨s, 0, none⟩)) (.int .i64 c) (.agg x.cs.toArray) (.int .i64 0) (.int .i64 (Pu.getF E.P x.to).2) undef undef undef undef undef hE hc hx hn hn2 hU hD hD0 hg (fun h => absurd hi h) h6
    simpa using this
end Go.HL.Es

namespace Go.HL.Es
open Go.HL Go.Proofs
set_option maxRecDepth 4000
set_option linter.unusedSimpArgs false
set_option linter.unusedVariables false
theorem cls1_pre {X Y : World → Prop} {vs : List Value} {w : World} (he : era 1 vs = era 1 []) (h : Pu.cls1 X Y vs w) : X w := by
  cases vs with
  | nil => exact h
  | cons _ _ => simp [era] at he
def clsR (X : World → Prop) (r : Value) (Y : World → Prop) : List Value → World → Prop
  | [], w => X w
  | v :: _, w => v = r ∧ Y w
theorem clsR_pre {X Y : World → Prop} {r : Value} {vs : List Value} {w : World} (he : era 1 vs = era 1 []) (h : clsR X r Y vs w) : X w := by
  cases vs with
  | nil => exact h
  | cons _ _ => simp [era] at he
def Et.cs (x : Et) (pr : Int) (wv : Value) : List Value := [.int .i64 x.acc, .int .i64 x.item, .int .u64 x.coins, .int .u64 pr, wv]
abbrev pA (A : Asn) (p g s : Nat) (lim : Int) (b : Nat) (x : Et) (pr : Int) (wv : Value) (E : Eco) : Asn := A * pt b (.cells (x.cs pr wv).toArray 46 (0, 0)) * esc s p g E.l * Gd.gds g lim E.its * Pu.pur p E.P
section
variable {w0 w : World} {A Z : Asn} {p g s b : Nat} {lim pr : Int} {x : Et} {wv : Value} {E : Eco}
theorem ptE_facts {l : List Rw} (h : St w0 (A * pt b (.cells (x.cs pr wv).toArray 46 (0, 0)) * esc s p g l * Z) w) : w.cell? ⟨b, 0, none⟩ = some (.int .i64 x.acc) ∧ w.cell? ⟨b, 1, none⟩ = some (.int .i64 x.item) ∧ w.cell? ⟨b, 2, none⟩ = some (.int .u64 x.coins) ∧
    w.cell? ⟨s, 0, none⟩ = some (.pointer (some ⟨p, 0, none⟩)) ∧ w.cell? ⟨s, 1, none⟩ = some (.pointer (some ⟨g, 0, none⟩)) := by
  have h' : St w0 (A * pt b (.cells (x.cs pr wv).toArray 46 (0, 0)) * Z * esc s p g l) w := h.to (by ac_rfl)
  obtain ⟨m, es, cl, hE, h'⟩ := eopen h'
  have f4 := h'.drop.drop.drop.look
  have fs := h'.drop.look
  exact ⟨(cell_of f4).trans rfl, (cell_of f4).trans rfl, (cell_of f4).trans rfl, (cell_of fs).trans rfl, (cell_of fs).trans rfl⟩
theorem pfacts (h : St w0 (pA A p g s lim b x pr wv E) w) : w.cell? ⟨b, 0, none⟩ = some (.int .i64 x.acc) ∧ w.cell? ⟨b, 1, none⟩ = some (.int .i64 x.item) ∧ w.cell? ⟨b, 2, none⟩ = some (.int .u64 x.coins) ∧
    w.cell? ⟨s, 0, none⟩ = some (.pointer (some ⟨p, 0, none⟩)) ∧ w.cell? ⟨s, 1, none⟩ = some (.pointer (some ⟨g, 0, none⟩)) := ptE_facts h.drop
theorem pget {lp lg : Int} (hE : EI lp lg E) (n : Int) (h : St w0 (pA A p g s lim b x pr wv E) w) : CallW Tryz.prog 74 [.pointer (some ⟨p, 0, none⟩), .int .i64 n]
    (fun r w' => r = .tuple #[.agg (Pu.getF E.P n).1.cs.toArray, .int .i64 (Pu.getF E.P n).2] ∧ St w0 (pA A p g s lim b x pr wv E) w') w := Pu.Get_spec p E.P n w0 w _ hE.P.bd.len h
theorem pitm {lp lg : Int} (hE : EI lp lg E) (n : Int) (h : St w0 (pA A p g s lim b x pr wv E) w) : CallW Tryz.prog 28 [.pointer (some ⟨g, 0, none⟩), .int .i64 n]
    (fun r w' => r = .tuple #[.agg (Gd.getF E.its n).1.cs.toArray, .int .i64 (Gd.getF E.its n).2] ∧ St w0 (pA A p g s lim b x pr wv E) w') w :=
  (Gd.Get_spec g lim E.its n w0 w _ (by have := hE.G.len; have := hE.G.lim; omega) h.swap).mono fun r w' ⟨e, h⟩ => ⟨e, h.swap⟩
theorem pA_in (h : St w0 (pA A p g s lim b x pr wv E * Z) w) : St w0 (pA (A * Z) p g s lim b x pr wv E) w := h.to (by simp only [pA]; ac_rfl)
theorem pA_out (h : St w0 (pA (A * Z) p g s lim b x pr wv E) w) : St w0 (pA A p g s lim b x pr wv E * Z) w := h.to (by simp only [pA]; ac_rfl)
theorem pA_eco (h : St w0 (pA A p g s lim b x pr wv E) w) : St w0 (A * ecoA p g s lim E) w := h.cut (pt b (.cells (x.cs pr wv).toArray 46 (0, 0))) (by simp only [pA, ecoA]; ac_rfl)
end
def PutPost (w0 : World) (A : Asn) (p g s : Nat) (lg c : Int) (x : Et) (E : Eco) (r : Value) (w' : World) : Prop :=
  r = .int .i64 (putE c x E).1 ∧ St w0 (A * ecoA p g s lg (putE c x E).2) w'
section
variable (p g s b : Nat) (lp lg c pr : Int) (x : Et) (wv : Value) (E : Eco) (w0 w : World) (A : Asn) (a0 a1 a2 a5 a6 a7 a8 : Value)
    (hE : EI lp lg E) (hx : 0 ≤ x.coins ∧ x.coins < 18446744073709551616)
include hE hx
theorem put_end (P : Pu.Ps) (its : List Gd.It) (hP : (Pu.takeF E.P x.acc x.coins).1 = 0) (hput : putE c x E = (0, ⟨P, its, setR c (cns E.l c + x.coins) E.l⟩)) (h : St w0 (pA A p g s lg b x pr wv ⟨P, its, E.l⟩) w) :
    HC.wp E1 h84_1 (endQ Tryz.prog [.slot 4] (PutPost w0 A p g s lg c x E)) [.pointer (some ⟨s, 0, none⟩), .int .i64 c, a2, .pointer (some ⟨b, 0, none⟩), .int .i64 0, a5, a6, a7, a8] w := by
  have hbd := hE.cns_bd c
  have hcl : x.coins ≤ 4611686018427387904 := by
    unfold Pu.takeF at hP
    split at hP
    · rename_i ha
      split at hP
      · cases hP
      · rename_i hlt
        obtain ⟨i, hi, hil⟩ := Pu.acc_in ha
        have e0 : x.acc.toNat = i := by omega
        rw [e0] at hlt
        have := Pu.coin_bd hE.P.bd hil
        omega
    · cases hP
  obtain ⟨m, es, cl, hH, h1⟩ := eopen (h.to (B := A * pt b (.cells (x.cs pr wv).toArray 46 (0, 0)) * Gd.gds g lg its * Pu.pur p P * esc s p g E.l) (by simp only [pA]; ac_rfl))
  have hf := fun {w : World} (h : St w0 (A * pt b (.cells (x.cs pr wv).toArray 46 (0, 0)) * Gd.gds g lg its * Pu.pur p P * pte s p g m * imap m es cl) w) =>
    ptE_facts ((eclose hH h).to (B := A * pt b (.cells (x.cs pr wv).toArray 46 (0, 0)) * esc s p g E.l * (Gd.gds g lg its * Pu.pur p P)) (by ac_rfl))
  have hs2 := fun {w : World} (h : St w0 (A * pt b (.cells (x.cs pr wv).toArray 46 (0, 0)) * Gd.gds g lg its * Pu.pur p P * pte s p g m * imap m es cl) w) => (cell_of (off := 2) h.swap.look).trans (rfl : _ = some (Value.map (some m)))
  have hm := fun {w : World} (h : St w0 (A * pt b (.cells (x.cs pr wv).toArray 46 (0, 0)) * Gd.gds g lg its * Pu.pur p P * pte s p g m * imap m es cl) w) => h.look
  have hset := fun {w : World} (h : St w0 (A * pt b (.cells (x.cs pr wv).toArray 46 (0, 0)) * Gd.gds g lg its * Pu.pur p P * pte s p g m * imap m es cl) w) => set_spec s p g E.l c (cns E.l c + x.coins) w0 w _ hE.R (eclose hH h)
  simp
  refine regmI (Pu.cls1 (St w0 (A * pt b (.cells (x.cs pr wv).toArray 46 (0, 0)) * Gd.gds g lg its * Pu.pur p P * pte s p g m * imap m es cl)) (St w0 (A * pt b (.cells (x.cs pr wv).toArray 46 (0, 0)) * Gd.gds g lg its * Pu.pur p P * esc s p g (setR c (cns E.l c + x.coins) E.l)))) h1.drew ?_
  simp
  refine effm_ldc (v := .map (some m)) (fun vs' w he hw => hs2 (cls1_pre he hw)) ?_
  simp
  refine effm_lookI escT (m := m) (es := es) (c := cl) (fun vs' w he hw => hm (cls1_pre he hw)) ?_
  rw [(hH.get hE.R c).1]
  simp
  refine effm_ldc (v := .int .u64 x.coins) (fun vs' w he hw => (hf (cls1_pre he hw)).2.2.1) ?_
  simp
  try simp (disch := omega) only [wrapu64]
  refine effm_mv (by rfl) (fun w hw => ?_) (fun r hr => ?_)
  · rw [Pu.cls1_nil] at hw
    refine eff_call ((hset hw).mono ?_)
    intro r w' h
    exact h
  simp
  intro w2 h2
  unfold PutPost
  rw [hput]
  exact ⟨rfl, h2.cut (pt b (.cells (x.cs pr wv).toArray 46 (0, 0))) (by simp only [ecoA]; ac_rfl)⟩
theorem put_mid (ha : (Pu.getF E.P x.acc).2 = 0) (hit : x.item ≠ 0 → (Gd.getF E.its x.item).2 = 0 ∧ (Gd.getF E.its x.item).1.con = 0 ∧ (Gd.getF E.its x.item).1.acc = x.acc)
    (h : St w0 (pA A p g s lg b x pr wv E) w) :
    HC.wp E1 h84_6 (endQ Tryz.prog [.slot 4] (PutPost w0 A p g s lg c x E)) [.pointer (some ⟨s, 0, none⟩), .int .i64 c, a2, .pointer (some ⟨b, 0, none⟩), .int .i64 0, a5, a6, a7, a8] w := by
  have hlen : E.its.length ≤ 1048576 := by have := hE.G.len; have := hE.G.lim; omega
  have n1 : ¬ ((Pu.getF E.P x.acc).2 ≠ 0) := by simp [ha]
  have n2 : ¬ (x.item ≠ 0 ∧ ((Gd.getF E.its x.item).2 ≠ 0 ∨ (Gd.getF E.its x.item).1.con ≠ 0 ∨ (Gd.getF E.its x.item).1.acc ≠ x.acc)) := by
    rintro ⟨hi, h | h | h⟩
    · exact h (hit hi).1
    · exact h (hit hi).2.1
    · exact h (hit hi).2.2
  have hf := fun {P : Pu.Ps} {w : World} (h : St w0 (pA A p g s lg b x pr wv ⟨P, E.its, E.l⟩) w) => pfacts h
  simp
  refine regmI (clsR (St w0 (pA A p g s lg b x pr wv E)) (.int .i64 (Pu.takeF E.P x.acc x.coins).1) (St w0 (pA A p g s lg b x pr wv ⟨(Pu.takeF E.P x.acc x.coins).2, E.its, E.l⟩))) h.drew ?_
  simp
  refine effm_ldc (v := .pointer (some ⟨p, 0, none⟩)) (fun vs' w he hw => (pfacts (clsR_pre he hw)).2.2.2.1) ?_
  simp
  refine effm_ldc (v := .int .i64 x.acc) (fun vs' w he hw => (pfacts (clsR_pre he hw)).1) ?_
  simp
  refine effm_ldc (v := .int .u64 x.coins) (fun vs' w he hw => (pfacts (clsR_pre he hw)).2.2.1) ?_
  simp
  refine effm_mv (by rfl) (fun w hw => eff_call ((Pu.Take_spec p E.P x.acc x.coins w0 w _ hE.P.bd hx hw).mono ?_)) (fun r hr => ?_)
  · rintro r w' ⟨e, h⟩
    exact ⟨e, h⟩
  obtain ⟨_, rfl, _⟩ := hr
  simp
  rintro w2 ⟨_, h2⟩
  refine cndI (fun ht => ?_) (fun ht => ?_)
  · simp at ht
    have hk : putE c x E = ((Pu.takeF E.P x.acc x.coins).1, E) := by
      unfold putE; rw [if_neg n1, if_neg n2, if_pos ht]
    have hsame : (Pu.takeF E.P x.acc x.coins).2 = E.P := by
      unfold Pu.takeF at ht ⊢
      split at ht
      · rename_i e1
        split at ht
        · rename_i e2; rw [if_pos e1, if_pos e2]
        · exact absurd rfl ht
      · rename_i e1; rw [if_neg e1]
    simp
    unfold PutPost
    rw [hk]
    rw [hsame] at h2
    exact ⟨rfl, pA_eco h2⟩
  simp at ht
  have hk : putE c x E = (0, ⟨(Pu.takeF E.P x.acc x.coins).2, if x.item ≠ 0 then (Gd.holdF E.its x.item c).2 else E.its, setR c (cns E.l c + x.coins) E.l⟩) := by
    unfold putE; rw [if_neg n1, if_neg n2, if_neg (by simp [ht])]
  simp
  refine eff_ldc (hf h2).2.1 ?_
  simp
  refine cndI (fun hi => ?_) (fun hi => ?_)
  · simp at hi
    rw [if_pos hi] at hk
    simp
    refine regmI (Pu.cls1 (St w0 (pA A p g s lg b x pr wv ⟨(Pu.takeF E.P x.acc x.coins).2, E.its, E.l⟩)) (St w0 (pA A p g s lg b x pr wv ⟨(Pu.takeF E.P x.acc x.coins).2, (Gd.holdF E.its x.item c).2, E.l⟩))) h2.drew ?_
    simp
    refine effm_ldc (v := .pointer (some ⟨g, 0, none⟩)) (fun vs' w he hw => (hf (cls1_pre he hw)).2.2.2.2) ?_
    simp
    refine effm_ldc (v := .int .i64 x.item) (fun vs' w he hw => (hf (cls1_pre he hw)).2.1) ?_
    simp
    refine effm_mv (by rfl) (fun w hw => eff_call ((Gd.Hold_spec g lg E.its x.item c w0 w _ hlen (St.swap hw)).mono ?_)) (fun r hr => ?_)
    · rintro r w' ⟨e, h⟩
      exact h.swap
    simp
    intro w3 h3
    have := put_end p g s b lp lg c pr x wv E w0 w3 A a2 a5 a6 a7 (.int .i64 (Pu.takeF E.P x.acc x.coins).1) hE hx _ _ ht hk h3
    simpa using this
  · simp at hi
    rw [if_neg (by simp [hi])] at hk
    simp
    have := put_end p g s b lp lg c pr x wv E w0 w2 A a2 a5 a6 a7 (.int .i64 (Pu.takeF E.P x.acc x.coins).1) hE hx _ _ ht hk h2
    simpa using this
end
theorem put_spec (p g s : Nat) (lp lg c pr : Int) (x : Et) (wv : Value) (E : Eco) (w0 w : World) (A : Asn)
    (hE : EI lp lg E) (hc : 1 ≤ c ∧ c < 9223372036854775808) (hx : 0 ≤ x.coins ∧ x.coins < 18446744073709551616) (h : St w0 (A * ecoA p g s lg E) w) :
    CallW Tryz.prog 84 [.pointer (some ⟨s, 0, none⟩), .int .i64 c, .agg (x.cs pr wv).toArray]
      (fun r w' => r = .int .i64 (putE c x E).1 ∧ St w0 (A * ecoA p g s lg (putE c x E).2) w') w := by
  refine callW_of_lift l84_ok (by simp [l84]) ?_
  simp [l84]
  refine eff_box h fun b w1 h1 => ?_
  simp
  have h4 : St w0 (pA A p g s lg b x pr wv E) w1 := h1.to (by simp only [pA, ecoA, cells_agg]; ac_rfl)
  clear h h1
  refine regmQ (clsN (St w0 (pA A p g s lg b x pr wv E)) (fun q => St w0 (pA A p g s lg b x pr wv E * pt q (.cells (Pu.Ac.cs ⟨[], 0⟩).toArray 58 (0, 0))))
    (fun q => St w0 (pA A p g s lg b x pr wv E * pt q (.cells (Pu.getF E.P x.acc).1.cs.toArray 58 (0, 0))))) (fun _ _ => .tuple #[.agg (Pu.getF E.P x.acc).1.cs.toArray, .int .i64 (Pu.getF E.P x.acc).2]) h4.drew ?_
  simp
  refine effm_ldc (v := .pointer (some ⟨p, 0, none⟩)) (fun vs' w he hw => clsN_low (fun h => (pfacts h).2.2.2.1) (fun b h => (pfacts h.drop).2.2.2.1) (fun b h => (pfacts h.drop).2.2.2.1) hw) ?_
  simp
  refine effm_ldc (v := .int .i64 x.acc) (fun vs' w he hw => clsN_low (fun h => (pfacts h).1) (fun b h => (pfacts h.drop).1) (fun b h => (pfacts h.drop).1) hw) ?_
  simp
  refine effm_qc (by kernel_rfl) (by rfl) (by intro h; cases h) (fun vs' w he hw => clsN_call (fun h => pget hE x.acc h) (fun b h => (pget hE x.acc (pA_in h)).mono fun r w' ⟨e, h⟩ => ⟨e, pA_out h⟩) (fun b h => (pget hE x.acc (pA_in h)).mono fun r w' ⟨e, h⟩ => ⟨e, pA_out h⟩) hw) ?_
  simp
  refine effm_mv (by rfl) (fun w hw => eff_new (z := .agg (Pu.Ac.cs ⟨[], 0⟩).toArray) hw fun b w' h => ⟨b, rfl, h⟩) (fun r hr => ?_)
  obtain ⟨_, b7, rfl, _⟩ := hr
  simp
  refine effm_mv (by rfl) (fun w hw => ?_) (fun r hr => ?_)
  · obtain ⟨b, e, hw⟩ := hw
    cases e
    exact eff_stA (vs := (Pu.getF E.P x.acc).1.cs) hw rfl rfl (Pu.cs_one _) (by simp [Pu.Ac.cs]) fun w' h => ⟨b7, rfl, by simpa [Pu.Ac.cs] using h⟩
  simp
  rintro w4 ⟨_, e, h5⟩
  cases e
  have h6 := h5.drop
  have fin : PutPost w0 A p g s lg c x E = (fun r w' => r = .int .i64 (putE c x E).1 ∧ St w0 (A * ecoA p g s lg (putE c x E).2) w') := rfl
  refine cndI (fun hg => ?_) (fun hg => ?_)
  · simp at hg
    have hg2 := (get_or E.P x.acc).resolve_left hg
    have hk : putE c x E = (142, E) := by unfold putE; rw [if_pos hg]
    simp
    rw [hg2, hk]
    exact ⟨rfl, pA_eco h6⟩
  simp at hg
  simp
  refine eff_ldc (pfacts h6).2.1 ?_
  simp
  refine cndI (fun hi => ?_) (fun hi => ?_)
  · simp at hi
    simp
    refine regmQ (clsN (St w0 (pA A p g s lg b x pr wv E)) (fun q => St w0 (pA A p g s lg b x pr wv E * pt q (.cells (Gd.It.cs ⟨0, 0, 0, 0⟩).toArray 60 (0, 0))))
      (fun q => St w0 (pA A p g s lg b x pr wv E * pt q (.cells (Gd.getF E.its x.item).1.cs.toArray 60 (0, 0))))) (fun _ _ => .tuple #[.agg (Gd.getF E.its x.item).1.cs.toArray, .int .i64 (Gd.getF E.its x.item).2]) h6.drew ?_
    simp
    refine effm_ldc (v := .pointer (some ⟨g, 0, none⟩)) (fun vs' w he hw => clsN_low (fun h => (pfacts h).2.2.2.2) (fun b h => (pfacts h.drop).2.2.2.2) (fun b h => (pfacts h.drop).2.2.2.2) hw) ?_
    simp
    refine effm_ldc (v := .int .i64 x.item) (fun vs' w he hw => clsN_low (fun h => (pfacts h).2.1) (fun b h => (pfacts h.drop).2.1) (fun b h => (pfacts h.drop).2.1) hw) ?_
    simp
    refine effm_qc (by kernel_rfl) (by rfl) (by intro h; cases h) (fun vs' w he hw => clsN_call (fun h => pitm hE x.item h) (fun b h => (pitm hE x.item (pA_in h)).mono fun r w' ⟨e, h⟩ => ⟨e, pA_out h⟩) (fun b h => (pitm hE x.item (pA_in h)).mono fun r w' ⟨e, h⟩ => ⟨e, pA_out h⟩) hw) ?_
    simp
    refine effm_mv (by rfl) (fun w hw => eff_new (z := .agg (Gd.It.cs ⟨0, 0, 0, 0⟩).toArray) hw fun b w' h => ⟨b, rfl, h⟩) (fun r hr => ?_)
    obtain ⟨_, b8, rfl, _⟩ := hr
    simp
    refine effm_mv (by rfl) (fun w hw => ?_) (fun r hr => ?_)
    · obtain ⟨b, e, hw⟩ := hw
      cases e
      exact eff_stA (vs := (Gd.getF E.its x.item).1.cs) hw rfl rfl (Gd.cs_one _) (by simp [Gd.It.cs]) fun w' h => ⟨b8, rfl, by simpa [Gd.It.cs] using h⟩
    simp
    rintro w5 ⟨_, e, h7⟩
    cases e
    have bad : ((Gd.getF E.its x.item).2 ≠ 0 ∨ (Gd.getF E.its x.item).1.con ≠ 0 ∨ (Gd.getF E.its x.item).1.acc ≠ x.acc) → (.int .i64 151 = Value.int .i64 (putE c x E).1) ∧ St w0 (A * ecoA p g s lg (putE c x E).2) w5 := fun hb => by
      have hk : putE c x E = (151, E) := by unfold putE; rw [if_neg (by simpa using hg), if_pos ⟨hi, hb⟩]
      rw [hk]
      exact ⟨rfl, pA_eco h7.drop⟩
    rcases get_item E.its x.item with e1 | e1
    · simp [e1]
      refine eff_ldc (v := .int .i64 (Gd.getF E.its x.item).1.con) ((cell_of h7.look).trans rfl) ?_
      simp
      by_cases e2 : (Gd.getF E.its x.item).1.con = 0
      · simp [e2]
        refine eff_ldc (v := .int .i64 (Gd.getF E.its x.item).1.acc) ((cell_of h7.look).trans rfl) ?_
        simp
        refine eff_ldc (pfacts h7.drop).1 ?_
        simp
        refine cndI (fun hcn => ?_) (fun hcn => ?_)
        · simp at hcn
          simp
          simpa using bad (.inr (.inr hcn))
        · simp at hcn
          simp
          have := put_mid p g s b lp lg c pr x wv E w0 w5 A (.agg (x.cs pr wv).toArray) (.int .i64 (Pu.getF E.P x.acc).2) (.pointer (some ⟨b8, 0, none⟩)) (.int .i64 0) undef hE hx hg (fun _ => ⟨e1, e2, hcn⟩) h7.drop
          rw [fin] at this
          simpa using this
      · simp [e2]
        simpa using bad (.inr (.inl e2))
    · simp [e1]
      simpa using bad (.inl (by omega))
  · simp at hi
    simp
    have := put_mid p g s b lp lg c pr x wv E w0 w4 A (.agg (x.cs pr wv).toArray) (.int .i64 (Pu.getF E.P x.acc).2) undef undef undef hE hx hg (fun h => absurd hi h) h6
    rw [fin] at this
    simpa using this
end Go.HL.Es

namespace Go.HL.Es
open Go.HL Go.Proofs
set_option maxRecDepth 4000
set_option linter.unusedSimpArgs false
set_option linter.unusedVariables false
theorem rv_cell1 {P : Program} {env : List Value} {i n : Nat} {a : Addr} {v : Value} {r : List RV} {K : List Value → World → Prop} {w : World} (he : env.getD i undef = .pointer (some a))
    (hc : w.cell? a = some v) (hk : rvW P env r (fun us w => K (v :: us) w) w) : rvW P env (.cell i false n :: r) K w := by
  show UponW P (valS (ldS false n (env.getD i undef))) _ w
  rw [he]
  refine upon_val (w' := w) (v := v) ?_ ⟨rfl, hk⟩
  simp [ldS, Instr.sureAddr, hc]
def gflat (gs : List Gf) : List Value := gs.flatMap Gf.cs
theorem gf_len (x : Gf) : x.cs.length = 3 := rfl
theorem gflat_len (gs : List Gf) : (gflat gs).length = gs.length * 3 := flat_length Gf.cs 3 gf_len gs
theorem gf_one (x : Gf) : ∀ u ∈ x.cs, u.oneCell' = true := by
  intro u hu
  simp only [Gf.cs, List.mem_cons, List.not_mem_nil, or_false] at hu
  rcases hu with rfl | rfl | rfl <;> rfl
theorem gflat_at {gs : List Gf} {i : Nat} (h : i < gs.length) : ∀ j u, (gs[i].cs)[j]? = some u → (gflat gs)[i * 3 + j]? = some u := by
  intro j u hu
  have hj : j < 3 := by
    have := (List.getElem?_eq_some_iff.1 hu).1
    rwa [gf_len] at this
  unfold gflat
  rw [flat_get Gf.cs 3 gf_len gs i j h hj]
  exact hu
structure Besides (w0 : World) (A : Asn) (p g s : Nat) (lp lg : Int) (fb : Nat) (cs : List Value) (bes : Eco → Int × Eco) : Prop where
  body : hasBody Tryz.prog fb = true
  no : ∀ E, (bes E).1 ≠ 0 → (bes E).2 = E
  call : ∀ (G : Asn) (E : Eco) (W : World), EI lp lg E → St w0 (A * G * ecoA p g s lg E) W → CallW Tryz.prog fb cs (fun r W' => r = .int .i64 (bes E).1 ∧ St w0 (A * G * ecoA p g s lg (bes E).2) W') W
theorem turn_end {w0 w : World} {A X : Asn} {p g s Be Br : Nat} {lg e : Int} {fs : List Value} {D : Nat → Eco} {v : Value} {env : List Value} {E2 : Eco} {K : Value → World → Prop}
    (hU : Undoes w0 p g s lg X fs D) (hn : fs.length ≤ 16777216) (henv : env.getD 4 undef = .pointer (some ⟨Be, 0, none⟩))
    (hK : ∀ w', St w0 (A * ecoA p g s lg (if e = 0 then E2 else D 0)) w' → K (.int .i64 e) w') (hE : e ≠ 0 → E2 = D fs.length)
    (h : St w0 (A * pt Be (.cells #[.int .i64 e] 31 (0, 0)) * X * pt Br (.cells #[v] 174 (0, 0)) * own 1 1 v fs.length fs * ecoA p g s lg E2) w) :
    DfrW Tryz.prog 111 [.pointer (some ⟨Be, 0, none⟩), .pointer (some ⟨Br, 0, none⟩)] (fun w' => rvW Tryz.prog env [.cell 4 false 1] (fun vs w => K (tup vs) w) w') w := by
  by_cases he : e = 0
  · subst he
    have h1 : St w0 (A * X * pt Br (.cells #[v] 174 (0, 0)) * own 1 1 v fs.length fs * ecoA p g s lg E2 * pt Be (.cells #[.int .i64 0] 31 (0, 0))) w := h.to (by ac_rfl)
    refine undo_ok h1 ?_
    refine rv_cell1 henv ((cell_of h1.look).trans rfl) ?_
    simp
    refine hK w ?_
    rw [if_pos rfl]
    exact h.cut (pt Be (.cells #[.int .i64 0] 31 (0, 0)) * X * pt Br (.cells #[v] 174 (0, 0)) * own 1 1 v fs.length fs) (by ac_rfl)
  · rw [hE he] at h
    have h1 : St w0 (A * pt Be (.cells #[.int .i64 e] 31 (0, 0)) * pt Br (.cells #[v] 174 (0, 0)) * own 1 1 v fs.length fs * (X * ecoA p g s lg (D fs.length))) w := h.to (by ac_rfl)
    have hu := undo_all (w0 := w0) (A := A) (Be := Be) (Br := Br) (n := fs.length) (v := v) (fs := fs) he (by omega) (fun k => X * ecoA p g s lg (D k)) (fun G k W hk hW => by
      obtain ⟨f, cs, e1, e2, e3⟩ := hU k hk
      exact ⟨f, cs, e1, e2, (e3 G W (hW.to (by ac_rfl))).mono fun _ W' h => h.to (by ac_rfl)⟩) h1
    refine CallsD.mono hu ?_
    rintro e' u' w' ⟨hu', v', hv', h2⟩
    refine ⟨hu', v', hv', ?_⟩
    have h3 : St w0 (A * (X * ecoA p g s lg (D 0)) * pt Be (.cells #[.int .i64 e] 31 (0, 0))) w' := h2.swap
    refine rv_cell1 henv ((cell_of h3.look).trans rfl) ?_
    simp
    refine hK w' ?_
    rw [if_neg he]
    exact h3.drop.cut X (by ac_rfl)

def h82_0 : HC := (.seq (.reg (.eff .callv (.cons (.inp 3) .nil) (.eff (.st 1) (.cons (.inp 4) (.cons (.bv 0) .nil)) (.done [] none)))) .ret)
@[simp] theorem h82_0_wp : type_of% (@wpH h82_0 _ h82_0.eq_1) := wpH h82_0.eq_1
def h82_1 : HC := (.reg (.chk none (.bin .add) (.cons (.inp 12) (.cons (.cst (.int .i64 1)) .nil)) (.done [(12, (.op (.bin .add) (.cons (.inp 12) (.cons (.cst (.int .i64 1)) .nil))))] none)))
@[simp] theorem h82_1_wp : type_of% (@wpH h82_1 _ h82_1.eq_1) := wpH h82_1.eq_1
def h82_2 : HC := (.seq (.reg (.eff (.st 1) (.cons (.inp 4) (.cons (.inp 9) .nil)) (.done [] none))) .ret)
@[simp] theorem h82_2_wp : type_of% (@wpH h82_2 _ h82_2.eq_1) := wpH h82_2.eq_1
def h82_3 : HC := (.br (.chk none (.bin .neq) (.cons (.inp 9) (.cons (.cst (.int .i64 0)) .nil)) (.done [] (some (.op (.bin .neq) (.cons (.inp 9) (.cons (.cst (.int .i64 0)) .nil)))))) h82_2 .skip)
@[simp] theorem h82_3_wp : type_of% (@wpH h82_3 _ h82_3.eq_1) := wpH h82_3.eq_1
def h82_4 : HC := (.seq (.reg (.eff (.ld true 3) (.cons (.inp 8) .nil) (.eff (.call 113) (.cons (.inp 0) (.cons (.inp 1) (.cons (.bv 0) (.cons (.inp 7) .nil)))) (.done [(9, (.bv 1))] none)))) h82_3)
@[simp] theorem h82_4_wp : type_of% (@wpH h82_4 _ h82_4.eq_1) := wpH h82_4.eq_1
def h82_5 : HC := (.seq (.reg (.chk none (.idxL 3) (.cons (.inp 10) (.cons (.inp 12) .nil)) (.eff (.ld true 3) (.cons (.op (.idxL 3) (.cons (.inp 10) (.cons (.inp 12) .nil))) .nil) (.eff (.new 110 (.agg #[(.int .i64 0), (.int .i64 0), (.int .u64 0)])) .nil (.eff (.st 3) (.cons (.bv 1) (.cons (.bv 0) .nil)) (.done [(8, (.bv 1))] none)))))) h82_4)
@[simp] theorem h82_5_wp : type_of% (@wpH h82_5 _ h82_5.eq_1) := wpH h82_5.eq_1
def h82_6 : HC := (.seq (.block 1 h82_5) h82_1)
@[simp] theorem h82_6_wp : type_of% (@wpH h82_6 _ h82_6.eq_1) := wpH h82_6.eq_1
def h82_7 : HC := (.seq (.br (.chk none (.bin .lss) (.cons (.inp 12) (.cons (.inp 11) .nil)) (.done [] (some (.op (.bin .lss) (.cons (.inp 12) (.cons (.inp 11) .nil)))))) .skip (.exit 0)) h82_6)
@[simp] theorem h82_7_wp : type_of% (@wpH h82_7 _ h82_7.eq_1) := wpH h82_7.eq_1
def h82_8 : HC := (.loop h82_7)
@[simp] theorem h82_8_wp : type_of% (@wpH h82_8 _ h82_8.eq_1) := wpH h82_8.eq_1
def h82_9 : HC := (.seq (.block 0 h82_8) h82_0)
@[simp] theorem h82_9_wp : type_of% (@wpH h82_9 _ h82_9.eq_1) := wpH h82_9.eq_1
def h82_10 : HC := (.reg (.chk none (.mkf (.func 110) 0) (.cons (.inp 6) .nil) (.done [(7, (.op (.mkf (.func 110) 0) (.cons (.inp 6) .nil)))] none)))
@[simp] theorem h82_10_wp : type_of% (@wpH h82_10 _ h82_10.eq_1) := wpH h82_10.eq_1
def h82_11 : HC := (.seq (.reg (.eff (.new 174 (.slice none 0 0)) .nil (.done [(6, (.bv 0))] none))) h82_10)
@[simp] theorem h82_11_wp : type_of% (@wpH h82_11 _ h82_11.eq_1) := wpH h82_11.eq_1
def h82_12 : HC := (.seq (.reg (.eff (.st 1) (.cons (.inp 4) (.cons (.inp 5) .nil)) (.done [] none))) .ret)
@[simp] theorem h82_12_wp : type_of% (@wpH h82_12 _ h82_12.eq_1) := wpH h82_12.eq_1
def h82_13 : HC := (.seq (.br (.chk none (.bin .neq) (.cons (.inp 5) (.cons (.cst (.int .i64 0)) .nil)) (.done [] (some (.op (.bin .neq) (.cons (.inp 5) (.cons (.cst (.int .i64 0)) .nil)))))) h82_12 .skip) h82_11)
@[simp] theorem h82_13_wp : type_of% (@wpH h82_13 _ h82_13.eq_1) := wpH h82_13.eq_1
def h82_14 : HC := (.seq (.reg (.eff (.call 109) (.cons (.inp 0) (.cons (.inp 1) .nil)) (.done [(5, (.bv 0))] none))) h82_13)
@[simp] theorem h82_14_wp : type_of% (@wpH h82_14 _ h82_14.eq_1) := wpH h82_14.eq_1
def h82_15 : HC := (.seq (.reg (.eff (.new 31 (.int .i64 0)) .nil (.done [(4, (.bv 0))] none))) h82_14)
@[simp] theorem h82_15_wp : type_of% (@wpH h82_15 _ h82_15.eq_1) := wpH h82_15.eq_1
def l82 : LiftedD := ⟨[0, 1, 2, 3, 8, 9, 10, 11, 13, 14, 23, 24, 25], 40, [.cell 4 false 1], h82_15, 111, (.cons (.inp 4) (.cons (.inp 6) .nil)), (.seq (.reg (.chk none .lenL (.cons (.inp 2) .nil) (.done [(10, (.inp 2)), (11, (.op .lenL (.cons (.inp 2) .nil))), (12, (.cst (.int .i64 0)))] none))) h82_9)⟩
theorem l82_ok : liftD E0 82 400 = some l82 := by kernel_rfl
set_option maxHeartbeats 1000000 in
theorem turn_spec (p g s fb : Nat) (cs : Array Value) (lp lg c : Int) (gs : List Gf) (gv : Value) (bes : Eco → Int × Eco) (E : Eco) (w0 w : World) (A : Asn)
    (hE : EI lp lg E) (hc : -9223372036854775808 ≤ c ∧ c < 9223372036854775808) (hx : ∀ x ∈ gs, 0 ≤ x.coins ∧ x.coins < 18446744073709551616) (hn : gs.length ≤ 4194304)
    (hB : 1 ≤ c → Besides w0 A p g s lp lg fb cs.toList bes) (hr : Row w0 A gv gs.length 3 (gflat gs)) (h : St w0 (A * ecoA p g s lg E) w) :
    CallW Tryz.prog 82 [.pointer (some ⟨s, 0, none⟩), .int .i64 c, gv, .func (.func fb) #[] cs]
      (fun r w' => r = .int .i64 (turnF c gs bes E).1 ∧ St w0 (A * ecoA p g s lg (turnF c gs bes E).2) w') w := by
  refine callW_of_liftD l82_ok (by simp [l82]) ?_
  simp [l82]
  refine eff_new h fun Be w1 h1 => ?_
  simp
  have h1 : St w0 (A * ecoA p g s lg E * pt Be (.cells #[.int .i64 0] 31 (0, 0))) w1 := h1
  clear h
  refine eff_call ((asked_spec s c w1).mono ?_)
  rintro r w2 ⟨rfl, rfl⟩
  simp
  refine cndI (fun ha => ?_) (fun ha => ?_)
  · have hc1 : c < 1 := by
      simp [askedE] at ha; omega
    have hk : turnF c gs bes E = (2, E) := by unfold turnF; rw [if_pos hc1]
    simp
    refine eff_st1 h1 rfl (by simp) fun w3 h3 => ?_
    have h3 : St w0 (A * ecoA p g s lg E * pt Be (.cells #[.int .i64 2] 31 (0, 0))) w3 := by simpa [askedE, hc1] using h3
    simp [dfrQ]
    refine rv_cell1 (a := ⟨Be, 0, none⟩) (v := .int .i64 2) rfl ((cell_of h3.look).trans rfl) ?_
    simp
    rw [hk]
    exact ⟨rfl, h3.drop⟩
  have hc1 : 1 ≤ c := by
    simp [askedE] at ha; omega
  have hB := hB hc1
  have hcc : 1 ≤ c ∧ c < 9223372036854775808 := ⟨hc1, hc.2⟩
  simp
  refine eff_new h1 fun Br w3 h3 => ?_
  simp
  have h3 : St w0 (A * ecoA p g s lg E * pt Be (.cells #[.int .i64 0] 31 (0, 0)) * pt Br (.cells #[.slice none 0 0] 174 (0, 0))) w3 := h3
  clear h1
  obtain ⟨ga, gcap, rfl⟩ := hr.val
  simp only [dfrQ]
  simp
  refine loopI (fun env w' => ∃ (i : Nat) (o5 o8 o9 : Value) (X : Asn) (fs : List Value) (D : Nat → Eco) (v : Value),
      env = [.pointer (some ⟨s, 0, none⟩), .int .i64 c, .slice ga gs.length gcap, .func (.func fb) #[] cs, .pointer (some ⟨Be, 0, none⟩), o5, .pointer (some ⟨Br, 0, none⟩), .func (.func 110) #[] #[.pointer (some ⟨Br, 0, none⟩)], o8, o9, .slice ga gs.length gcap, .int .i64 gs.length, .int .i64 i] ∧
      i ≤ gs.length ∧ (giveL c (gs.take i) E).1 = 0 ∧ Undoes w0 p g s lg X fs D ∧ D fs.length = (giveL c (gs.take i) E).2 ∧ D 0 = E ∧ fs.length ≤ 2 * i ∧
      St w0 (A * pt Be (.cells #[.int .i64 0] 31 (0, 0)) * X * pt Br (.cells #[v] 174 (0, 0)) * own 1 1 v fs.length fs * ecoA p g s lg (giveL c (gs.take i) E).2) w')
    (fun env _ => gs.length - slotN env 12) ⟨0, _, _, _, emp, [], fun _ => E, .slice none 0 0, rfl, by omega, rfl, undoes_nil, rfl, rfl, by simp, ?_⟩ ?_
  · have := h3.own_nil 1 1
    refine this.to ?_
    simp only [List.take_zero, giveL, List.length_nil]
    rw [sep_emp]
    ac_rfl
  rintro LQ env w' ⟨i, o5, o8, o9, X, fs, D, v, rfl, hi, hg0, hU, hD, hD0, hfs, s1⟩ hN hX hR
  have hEi : EI lp lg (giveL c (gs.take i) E).2 := giveL_ei hcc hE fun x hx' => (hx x (List.mem_of_mem_take hx')).1
  simp
  refine cndI (fun h => ?_) (fun h => ?_)
  · simp at h
    obtain ⟨g', o', cap', hv, hcell⟩ := hr.at (by omega)
    cases hv
    have htk := giveL_take c gs E i h hg0
    generalize hEE : (giveL c (gs.take i) E).2 = Ei at *
    simp [h]
    have sA : St w0 A w' := s1.cut (pt Be (.cells #[.int .i64 0] 31 (0, 0)) * X * pt Br (.cells #[v] 174 (0, 0)) * own 1 1 v fs.length fs * ecoA p g s lg Ei) (by ac_rfl)
    refine eff_ldcs (vs := gs[i].cs) (fun j u hu => by rw [Nat.add_assoc]; exact hcell w' sA _ _ (gflat_at h j u hu)) rfl ?_
    simp
    refine eff_new s1 fun b w2 s2 => ?_
    simp
    refine eff_stA (vs := gs[i].cs) s2 rfl rfl (gf_one _) (by simp) fun w3 s3 => ?_
    simp
    have s4 : St w0 (A * pt Be (.cells #[.int .i64 0] 31 (0, 0)) * X * pt Br (.cells #[v] 174 (0, 0)) * own 1 1 v fs.length fs * ecoA p g s lg Ei * pt b (.cells gs[i].cs.toArray 110 (0, 0))) w3 := by simpa [Gf.cs] using s3
    refine eff_ldcs (vs := gs[i].cs) s4.row_cells rfl ?_
    simp
    have hxi := hx gs[i] (List.getElem_mem h)
    refine eff_call ((gift_spec p g s Br (2 * i) lp lg c gs[i] Ei E v fs X D w0 w3 (A * pt Be (.cells #[.int .i64 0] 31 (0, 0))) hEi hcc hxi hfs (by omega) hU hD hD0 s4.drop).mono ?_)
    rintro r w4 ⟨rfl, X', fs', D', v', hU', hD', hD0', hfs', s5⟩
    simp
    refine cndI (fun hg => ?_) (fun hg => ?_)
    · simp at hg
      simp
      refine eff_st1 (s5.to (B := A * X' * pt Br (.cells #[v'] 174 (0, 0)) * own 1 1 v' fs'.length fs' * ecoA p g s lg (giveF c gs[i] Ei).2 * pt Be (.cells #[.int .i64 0] 31 (0, 0))) (by ac_rfl)) rfl (by simp) fun w5 s6 => ?_
      simp
      refine hR _ _ ?_
      simp [dfrEnd]
      have hbad := giveL_bad c gs E (i + 1) (by rw [htk, if_pos hg]; exact hg)
      rw [htk, if_pos hg] at hbad
      have hk : turnF c gs bes E = ((giveF c gs[i] Ei).1, E) := by
        unfold turnF; rw [if_neg (by omega), hbad, if_pos hg]
      refine turn_end (K := fun r w' => r = .int .i64 (turnF c gs bes E).1 ∧ St w0 (A * ecoA p g s lg (turnF c gs bes E).2) w') (A := A) (e := (giveF c gs[i] Ei).1) (E2 := (giveF c gs[i] Ei).2) hU' (by omega) ?_ (fun w' hw => ?_) (fun _ => hD'.symm) (s6.to (by simp; ac_rfl))
      · rfl
      rw [if_neg hg, hD0'] at hw
      rw [hk]
      exact ⟨rfl, hw⟩
    · simp at hg
      simp
      try simp (disch := omega) only [wrap64]
      rw [if_neg (by simp [hg])] at htk
      refine hN _ _ ⟨i + 1, _, _, _, X', fs', D', v', by simp; exact ⟨rfl, rfl, rfl⟩, by omega, by rw [htk], hU', by rw [htk]; exact hD', hD0', by omega, ?_⟩ (by simp [slotN]; omega)
      rw [htk]
      exact s5
  · simp at h
    simp
    have hin : i = gs.length := by omega
    subst hin
    rw [List.take_length] at *
    generalize hEE : (giveL c gs E).2 = Ei at *
    refine hX _ _ _ ?_
    simp
    refine eff_callv hB.body ?_
    simp only [List.nil_append, Array.toList_empty, List.append_nil]
    refine (hB.call (pt Be (.cells #[.int .i64 0] 31 (0, 0)) * X * pt Br (.cells #[v] 174 (0, 0)) * own 1 1 v fs.length fs) Ei w' hEi (s1.to (by ac_rfl))).mono ?_
    rintro r w4 ⟨rfl, s5⟩
    simp
    refine eff_st1 (s5.to (B := A * X * pt Br (.cells #[v] 174 (0, 0)) * own 1 1 v fs.length fs * ecoA p g s lg (bes Ei).2 * pt Be (.cells #[.int .i64 0] 31 (0, 0))) (by ac_rfl)) rfl (by simp) fun w5 s6 => ?_
    simp [dfrEnd]
    refine turn_end (K := fun r w' => r = .int .i64 (turnF c gs bes E).1 ∧ St w0 (A * ecoA p g s lg (turnF c gs bes E).2) w') (A := A) (e := (bes Ei).1) (E2 := (bes Ei).2) hU (by omega) ?_ (fun w' hw => ?_) (fun hne => by rw [hB.no _ hne, hD]) (s6.to (by simp; ac_rfl))
    · rfl
    have hk : turnF c gs bes E = if (bes Ei).1 ≠ 0 then ((bes Ei).1, E) else (0, (bes Ei).2) := by
      unfold turnF; rw [if_neg (by omega), if_neg (by simp [hg0]), hEE]
    rw [hk]
    by_cases hz : (bes Ei).1 = 0
    · rw [if_pos hz] at hw
      rw [if_neg (by simp [hz])]
      exact ⟨by rw [hz], hw⟩
    · rw [if_neg hz, hD0] at hw
      rw [if_pos hz]
      exact ⟨rfl, hw⟩
end Go.HL.Es

namespace Go.HL.Es
open Go.HL Go.Proofs
set_option maxRecDepth 4000
set_option linter.unusedSimpArgs false
set_option linter.unusedVariables false

def h83_0 : HC := (.seq (.reg (.eff (.ld false 1) (.cons (.inp 0) .nil) (.eff (.ld false 1) (.cons (.inp 1) .nil) (.eff (.ld true 5) (.cons (.inp 2) .nil) (.eff (.call 84) (.cons (.bv 0) (.cons (.bv 1) (.cons (.bv 2) .nil))) (.done [(3, (.bv 3))] none)))))) .ret)
@[simp] theorem h83_0_wp : type_of% (@wpH h83_0 _ h83_0.eq_1) := wpH h83_0.eq_1
def l83 : Lifted := ⟨[0, 1, 2, 3], 8, [.slot 3], (.seq (.reg (.done [(3, (.cst (.int .i64 0)))] none)) h83_0)⟩
theorem l83_ok : liftFn E0 83 400 = some l83 := by kernel_rfl

def h43_0 : HC := (.seq (.reg (.eff (.ld false 1) (.cons (.inp 4) .nil) (.eff (.ld false 1) (.cons (.inp 5) .nil) (.chk none (.mkf (.func 83) 0) (.cons (.inp 4) (.cons (.inp 5) (.cons (.inp 6) .nil))) (.eff (.call 82) (.cons (.bv 0) (.cons (.bv 1) (.cons (.inp 2) (.cons (.op (.mkf (.func 83) 0) (.cons (.inp 4) (.cons (.inp 5) (.cons (.inp 6) .nil)))) .nil)))) (.done [(7, (.bv 2))] none)))))) .ret)
@[simp] theorem h43_0_wp : type_of% (@wpH h43_0 _ h43_0.eq_1) := wpH h43_0.eq_1
def l43 : Lifted := ⟨[0, 1, 2, 3, 4, 5, 7, 8], 14, [.slot 7], (.seq (.reg (.eff (.box 38) (.cons (.inp 0) .nil) (.eff (.box 3) (.cons (.inp 1) .nil) (.eff (.box 46) (.cons (.inp 3) .nil) (.done [(4, (.bv 0)), (5, (.bv 1)), (6, (.bv 2)), (7, (.cst (.int .i64 0)))] none))))) h43_0)⟩
theorem l43_ok : liftFn E0 43 400 = some l43 := by kernel_rfl

def h27_0 : HC := (.seq (.reg (.eff (.ld true 5) (.cons (.inp 3) .nil) (.eff (.call 43) (.cons (.inp 0) (.cons (.inp 1) (.cons (.cst (.slice none 0 0)) (.cons (.bv 0) .nil)))) (.done [(4, (.bv 1))] none)))) .ret)
@[simp] theorem h27_0_wp : type_of% (@wpH h27_0 _ h27_0.eq_1) := wpH h27_0.eq_1
def l27 : Lifted := ⟨[0, 1, 2, 5, 6], 11, [.slot 4], (.seq (.reg (.eff (.box 46) (.cons (.inp 2) .nil) (.done [(3, (.bv 0)), (4, (.cst (.int .i64 0)))] none))) h27_0)⟩
theorem l27_ok : liftFn E0 27 400 = some l27 := by kernel_rfl

def h85_0 : HC := (.seq (.reg (.done [(2, (.cst (.int .i64 0)))] none)) .ret)
@[simp] theorem h85_0_wp : type_of% (@wpH h85_0 _ h85_0.eq_1) := wpH h85_0.eq_1
def h85_1 : HC := (.seq (.reg (.done [(2, (.cst (.int .i64 170)))] none)) .ret)
@[simp] theorem h85_1_wp : type_of% (@wpH h85_1 _ h85_1.eq_1) := wpH h85_1.eq_1
def h85_2 : HC := (.seq (.brq (some 1) (.eff (.ld false 1) (.cons (.inp 0) .nil) (.chk none .chkp (.cons (.bv 0) .nil) (.chk none (.fld 2) (.cons (.op .chkp (.cons (.bv 0) .nil)) .nil) (.eff (.ld false 1) (.cons (.op (.fld 2) (.cons (.op .chkp (.cons (.bv 0) .nil)) .nil)) .nil) (.eff (.ld false 1) (.cons (.inp 1) .nil) (.eff (.look 93 false) (.cons (.bv 1) (.cons (.bv 2) .nil)) (.chk none (.bin .neq) (.cons (.bv 3) (.cons (.cst (.int .u64 0)) .nil)) (.bnd (.op (.bin .neq) (.cons (.bv 3) (.cons (.cst (.int .u64 0)) .nil))) (.ite (.bv 4) false (.eff (.ld false 1) (.cons (.inp 0) .nil) (.chk none .chkp (.cons (.bv 5) .nil) (.chk none (.fld 1) (.cons (.op .chkp (.cons (.bv 5) .nil)) .nil) (.eff (.ld false 1) (.cons (.op (.fld 1) (.cons (.op .chkp (.cons (.bv 5) .nil)) .nil)) .nil) (.eff (.ld false 1) (.cons (.inp 1) .nil) (.eff (.call 45) (.cons (.bv 6) (.cons (.bv 7) .nil)) (.chk none .lenL (.cons (.bv 8) .nil) (.chk none (.bin .gtr) (.cons (.op .lenL (.cons (.bv 8) .nil)) (.cons (.cst (.int .i64 0)) .nil)) (.isb none (.bv 4) (.done [] (some (.op (.bin .gtr) (.cons (.op .lenL (.cons (.bv 8) .nil)) (.cons (.cst (.int .i64 0)) .nil)))))))))))))) (.isb none (.bv 4) (.done [] (some (.cst (.bool true)))))))))))))) h85_1 .skip) h85_0)
@[simp] theorem h85_2_wp : type_of% (@wpH h85_2 _ h85_2.eq_1) := wpH h85_2.eq_1
def l85 : Lifted := ⟨[0, 1, 2], 20, [.slot 2], (.seq (.reg (.done [(2, (.cst (.int .i64 0)))] none)) h85_2)⟩
theorem l85_ok : liftFn E0 85 400 = some l85 := by kernel_rfl

def h44_0 : HC := (.seq (.reg (.eff (.ld false 1) (.cons (.inp 3) .nil) (.eff (.ld false 1) (.cons (.inp 4) .nil) (.chk none (.mkf (.func 85) 0) (.cons (.inp 3) (.cons (.inp 4) .nil)) (.eff (.call 82) (.cons (.bv 0) (.cons (.bv 1) (.cons (.inp 2) (.cons (.op (.mkf (.func 85) 0) (.cons (.inp 3) (.cons (.inp 4) .nil))) .nil)))) (.done [(5, (.bv 2))] none)))))) .ret)
@[simp] theorem h44_0_wp : type_of% (@wpH h44_0 _ h44_0.eq_1) := wpH h44_0.eq_1
def l44 : Lifted := ⟨[0, 1, 2, 3, 4, 6], 12, [.slot 5], (.seq (.reg (.eff (.box 38) (.cons (.inp 0) .nil) (.eff (.box 3) (.cons (.inp 1) .nil) (.done [(3, (.bv 0)), (4, (.bv 1)), (5, (.cst (.int .i64 0)))] none)))) h44_0)⟩
theorem l44_ok : liftFn E0 44 400 = some l44 := by kernel_rfl
abbrev txs (b4 b5 b6 s : Nat) (c : Int) (x : Et) (pr : Int) (wv : Value) : Asn :=
  pt b4 (.cells #[.pointer (some ⟨s, 0, none⟩)] 38 (0, 0)) * pt b5 (.cells #[.int .i64 c] 3 (0, 0)) * pt b6 (.cells (x.cs pr wv).toArray 46 (0, 0))
theorem turn_besides (p g s b4 b5 b6 : Nat) (lp lg c pr : Int) (x : Et) (wv : Value) (w0 : World) (A : Asn) (hx : 0 ≤ x.coins ∧ x.coins < 18446744073709551616) (hc : c < 9223372036854775808) (hc1 : 1 ≤ c) :
    Besides w0 (A * txs b4 b5 b6 s c x pr wv) p g s lp lg 83 [.pointer (some ⟨b4, 0, none⟩), .pointer (some ⟨b5, 0, none⟩), .pointer (some ⟨b6, 0, none⟩)] (putE c x) where
  body := by kernel_rfl
  no := fun E h => put_no h
  call := by
    intro G E W hE h
    have f4 := (h.to (B := A * G * ecoA p g s lg E * pt b5 (.cells #[.int .i64 c] 3 (0, 0)) * pt b6 (.cells (x.cs pr wv).toArray 46 (0, 0)) * pt b4 (.cells #[.pointer (some ⟨s, 0, none⟩)] 38 (0, 0))) (by simp only [txs]; ac_rfl)).look
    have f5 := (h.to (B := A * G * ecoA p g s lg E * pt b4 (.cells #[.pointer (some ⟨s, 0, none⟩)] 38 (0, 0)) * pt b6 (.cells (x.cs pr wv).toArray 46 (0, 0)) * pt b5 (.cells #[.int .i64 c] 3 (0, 0))) (by simp only [txs]; ac_rfl)).look
    have f6 := (h.to (B := A * G * ecoA p g s lg E * pt b4 (.cells #[.pointer (some ⟨s, 0, none⟩)] 38 (0, 0)) * pt b5 (.cells #[.int .i64 c] 3 (0, 0)) * pt b6 (.cells (x.cs pr wv).toArray 46 (0, 0))) (by simp only [txs]; ac_rfl)).row_cells
    refine callW_of_lift l83_ok (by simp [l83]) ?_
    simp [l83]
    refine eff_ldc (v := .pointer (some ⟨s, 0, none⟩)) ((cell_of f4).trans rfl) ?_
    simp
    refine eff_ldc (v := .int .i64 c) ((cell_of f5).trans rfl) ?_
    simp
    refine eff_ldcs (vs := x.cs pr wv) f6 rfl ?_
    simp
    refine eff_call ((put_spec p g s lp lg c pr x wv E w0 W _ hE ⟨hc1, hc⟩ hx h).mono ?_)
    rintro r w2 ⟨rfl, h2⟩
    simp
    exact h2
theorem Turn_spec (p g s : Nat) (lp lg c pr : Int) (gs : List Gf) (gv : Value) (x : Et) (wv : Value) (E : Eco) (w0 w : World) (A : Asn)
    (hE : EI lp lg E) (hc : -9223372036854775808 ≤ c ∧ c < 9223372036854775808) (hx : ∀ x ∈ gs, 0 ≤ x.coins ∧ x.coins < 18446744073709551616) (hxe : 0 ≤ x.coins ∧ x.coins < 18446744073709551616) (hn : gs.length ≤ 4194304)
    (hr : Row w0 A gv gs.length 3 (gflat gs)) (h : St w0 (A * ecoA p g s lg E) w) :
    CallW Tryz.prog 43 [.pointer (some ⟨s, 0, none⟩), .int .i64 c, gv, .agg (x.cs pr wv).toArray]
      (fun r w' => r = .int .i64 (turnF c gs (putE c x) E).1 ∧ St w0 (A * ecoA p g s lg (turnF c gs (putE c x) E).2) w') w := by
  refine callW_of_lift l43_ok (by simp [l43]) ?_
  simp [l43]
  refine eff_box h fun b4 w1 h1 => ?_
  simp
  refine eff_box h1 fun b5 w2 h2 => ?_
  simp
  refine eff_box h2 fun b6 w3 h3 => ?_
  simp
  have f6 : w3.cell? ⟨b4, 0, none⟩ = some (.pointer (some ⟨s, 0, none⟩)) := (cell_of h3.drop.drop.look).trans rfl
  have f5 : w3.cell? ⟨b5, 0, none⟩ = some (.int .i64 c) := (cell_of h3.drop.look).trans rfl
  refine eff_ldc f6 ?_
  simp
  refine eff_ldc f5 ?_
  simp
  have h4 : St w0 (A * txs b4 b5 b6 s c x pr wv * ecoA p g s lg E) w3 := h3.to (by simp only [txs, cells_agg, Value.cells]; ac_rfl)
  refine eff_call ((turn_spec p g s 83 _ lp lg c gs gv (putE c x) E w0 w3 (A * txs b4 b5 b6 s c x pr wv) hE hc hx hn (fun hc1 => turn_besides p g s b4 b5 b6 lp lg c pr x wv w0 A hxe hc.2 hc1) (hr.mono fun w s => s.drop) h4).mono ?_)
  rintro r w4 ⟨rfl, h5⟩
  simp
  exact h5.swap.drop
theorem row_nil (w0 : World) (A : Asn) (size : Nat) : Row w0 A (.slice none 0 0) 0 size [] := ⟨by simp, none, 0, rfl, Nat.le_refl _, .inl rfl⟩
theorem Put_spec (p g s : Nat) (lp lg c pr : Int) (x : Et) (wv : Value) (E : Eco) (w0 w : World) (A : Asn)
    (hE : EI lp lg E) (hc : -9223372036854775808 ≤ c ∧ c < 9223372036854775808) (hxe : 0 ≤ x.coins ∧ x.coins < 18446744073709551616) (h : St w0 (A * ecoA p g s lg E) w) :
    CallW Tryz.prog 27 [.pointer (some ⟨s, 0, none⟩), .int .i64 c, .agg (x.cs pr wv).toArray]
      (fun r w' => r = .int .i64 (turnF c [] (putE c x) E).1 ∧ St w0 (A * ecoA p g s lg (turnF c [] (putE c x) E).2) w') w := by
  refine callW_of_lift l27_ok (by simp [l27]) ?_
  simp [l27]
  refine eff_box h fun b w1 h1 => ?_
  simp
  have h2 : St w0 (A * ecoA p g s lg E * pt b (.cells (x.cs pr wv).toArray 46 (0, 0))) w1 := h1
  refine eff_ldcs (vs := x.cs pr wv) h2.row_cells rfl ?_
  simp
  refine eff_call ((Turn_spec p g s lp lg c pr [] (.slice none 0 0) x wv E w0 w1 A hE hc (by simp) hxe (by simp) (row_nil w0 A 3) h2.drop).mono ?_)
  rintro r w2 ⟨rfl, h3⟩
  simp
  exact h3
abbrev nxs (b4 b5 s : Nat) (c : Int) : Asn := pt b4 (.cells #[.pointer (some ⟨s, 0, none⟩)] 38 (0, 0)) * pt b5 (.cells #[.int .i64 c] 3 (0, 0))
theorem end_besides (p g s b4 b5 : Nat) (lp lg c : Int) (w0 : World) (A : Asn) :
    Besides w0 (A * nxs b4 b5 s c) p g s lp lg 85 [.pointer (some ⟨b4, 0, none⟩), .pointer (some ⟨b5, 0, none⟩)] (endE c) where
  body := by kernel_rfl
  no := fun E h => rfl
  call := by
    intro G E W hE h
    have hlen : E.its.length ≤ 1048576 := by have := hE.G.len; have := hE.G.lim; omega
    obtain ⟨m, es, cl, hH, h1⟩ := eopen (h.to (B := A * G * nxs b4 b5 s c * Gd.gds g lg E.its * Pu.pur p E.P * esc s p g E.l) (by simp only [ecoA]; ac_rfl))
    have f4 := fun {w : World} (h : St w0 (A * G * nxs b4 b5 s c * Gd.gds g lg E.its * Pu.pur p E.P * pte s p g m * imap m es cl) w) => (cell_of (off := 0) (h.to (B := A * G * Gd.gds g lg E.its * Pu.pur p E.P * pte s p g m * imap m es cl * pt b5 (.cells #[.int .i64 c] 3 (0, 0)) * pt b4 (.cells #[.pointer (some ⟨s, 0, none⟩)] 38 (0, 0))) (by simp only [nxs]; ac_rfl)).look).trans (rfl : _ = some (Value.pointer (some ⟨s, 0, none⟩)))
    have f5 := fun {w : World} (h : St w0 (A * G * nxs b4 b5 s c * Gd.gds g lg E.its * Pu.pur p E.P * pte s p g m * imap m es cl) w) => (cell_of (off := 0) (h.to (B := A * G * Gd.gds g lg E.its * Pu.pur p E.P * pte s p g m * imap m es cl * pt b4 (.cells #[.pointer (some ⟨s, 0, none⟩)] 38 (0, 0)) * pt b5 (.cells #[.int .i64 c] 3 (0, 0))) (by simp only [nxs]; ac_rfl)).look).trans (rfl : _ = some (Value.int .i64 c))
    have s1 := fun {w : World} (h : St w0 (A * G * nxs b4 b5 s c * Gd.gds g lg E.its * Pu.pur p E.P * pte s p g m * imap m es cl) w) => (cell_of (off := 1) h.swap.look).trans (rfl : _ = some (Value.pointer (some ⟨g, 0, none⟩)))
    have s2 := fun {w : World} (h : St w0 (A * G * nxs b4 b5 s c * Gd.gds g lg E.its * Pu.pur p E.P * pte s p g m * imap m es cl) w) => (cell_of (off := 2) h.swap.look).trans (rfl : _ = some (Value.map (some m)))
    have hm := fun {w : World} (h : St w0 (A * G * nxs b4 b5 s c * Gd.gds g lg E.its * Pu.pur p E.P * pte s p g m * imap m es cl) w) => h.look
    have hin := fun {w : World} (h : St w0 (A * G * nxs b4 b5 s c * Gd.gds g lg E.its * Pu.pur p E.P * pte s p g m * imap m es cl) w) => Gd.In_spec g lg E.its c w0 w (A * G * nxs b4 b5 s c * Pu.pur p E.P * pte s p g m * imap m es cl) hlen (h.to (by ac_rfl))
    have hout := fun {w : World} (h : St w0 (A * G * nxs b4 b5 s c * Gd.gds g lg E.its * Pu.pur p E.P * pte s p g m * imap m es cl) w) => (eclose hH h).to (B := A * nxs b4 b5 s c * G * ecoA p g s lg E) (by simp only [ecoA]; ac_rfl)
    have hinZ := fun {v : Value} {w : World} (h : St w0 (A * G * nxs b4 b5 s c * Pu.pur p E.P * pte s p g m * imap m es cl * Gd.gds g lg E.its * own 3 1 v (Gd.inF E.its c).length (Gd.ints (Gd.inF E.its c))) w) => h.to (B := A * G * nxs b4 b5 s c * Gd.gds g lg E.its * Pu.pur p E.P * pte s p g m * imap m es cl * own 3 1 v (Gd.inF E.its c).length (Gd.ints (Gd.inF E.its c))) (by ac_rfl)
    generalize hBB : A * G * nxs b4 b5 s c * Gd.gds g lg E.its * Pu.pur p E.P * pte s p g m * imap m es cl = B at h1 f4 f5 s1 s2 hm hin hout hinZ
    refine callW_of_lift l85_ok (by simp [l85]) ?_
    simp [l85]
    refine brmI (fun vs w => match vs with
      | [] => St w0 B w
      | v :: _ => St w0 (B * own 3 1 v (Gd.inF E.its c).length (Gd.ints (Gd.inF E.its c))) w) h1.drew ?_
    have low : ∀ {vs : List Value} {w : World}, (match vs with
      | [] => St w0 B w
      | v :: _ => St w0 (B * own 3 1 v (Gd.inF E.its c).length (Gd.ints (Gd.inF E.its c))) w) → St w0 B w := by
      intro vs w h
      cases vs with
      | nil => exact h
      | cons _ _ => exact St.drop h
    simp
    refine effm_ldc (v := .pointer (some ⟨s, 0, none⟩)) (fun vs' w he hw => f4 (low hw)) ?_
    simp
    refine effm_ldc (v := .map (some m)) (fun vs' w he hw => s2 (low hw)) ?_
    simp
    refine effm_ldc (v := .int .i64 c) (fun vs' w he hw => f5 (low hw)) ?_
    simp
    refine effm_lookI escT (m := m) (es := es) (c := cl) (fun vs' w he hw => hm (low hw)) ?_
    rw [(hH.get hE.R c).1]
    simp
    by_cases hz : cns E.l c = 0
    · simp [hz]
      refine effm_ldc (v := .pointer (some ⟨s, 0, none⟩)) (fun vs' w he hw => f4 (low hw)) ?_
      simp
      refine effm_ldc (v := .pointer (some ⟨g, 0, none⟩)) (fun vs' w he hw => s1 (low hw)) ?_
      simp
      refine effm_ldc (v := .int .i64 c) (fun vs' w he hw => f5 (low hw)) ?_
      simp
      refine effm_mv (by rfl) (fun w hw => eff_call ((hin hw).mono ?_)) (fun r hr => ?_)
      · intro r w' h
        exact hinZ h
      obtain ⟨w', hr⟩ := hr
      obtain ⟨a, cap, rfl, _⟩ := St.own_val hr
      simp
      intro w2 h2
      refine cndI (fun hg => ?_) (fun hg => ?_)
      · simp at hg
        have hk : endE c E = (170, E) := by unfold endE; rw [if_pos (.inr (by omega))]
        simp
        rw [hk]
        exact ⟨rfl, hout h2.drop⟩
      · simp at hg
        have hk : endE c E = (0, E) := by unfold endE; rw [if_neg (by simp [hz, hg])]
        simp
        rw [hk]
        exact ⟨rfl, hout h2.drop⟩
    · simp [hz]
      intro w2 h2
      have hk : endE c E = (170, E) := by unfold endE; rw [if_pos (.inl hz)]
      rw [hk]
      exact ⟨rfl, hout h2⟩
theorem End_spec (p g s : Nat) (lp lg c : Int) (gs : List Gf) (gv : Value) (E : Eco) (w0 w : World) (A : Asn)
    (hE : EI lp lg E) (hc : -9223372036854775808 ≤ c ∧ c < 9223372036854775808) (hx : ∀ x ∈ gs, 0 ≤ x.coins ∧ x.coins < 18446744073709551616) (hn : gs.length ≤ 4194304)
    (hr : Row w0 A gv gs.length 3 (gflat gs)) (h : St w0 (A * ecoA p g s lg E) w) :
    CallW Tryz.prog 44 [.pointer (some ⟨s, 0, none⟩), .int .i64 c, gv]
      (fun r w' => r = .int .i64 (turnF c gs (endE c) E).1 ∧ St w0 (A * ecoA p g s lg (turnF c gs (endE c) E).2) w') w := by
  refine callW_of_lift l44_ok (by simp [l44]) ?_
  simp [l44]
  refine eff_box h fun b4 w1 h1 => ?_
  simp
  refine eff_box h1 fun b5 w2 h2 => ?_
  simp
  have f6 : w2.cell? ⟨b4, 0, none⟩ = some (.pointer (some ⟨s, 0, none⟩)) := (cell_of h2.drop.look).trans rfl
  have f5 : w2.cell? ⟨b5, 0, none⟩ = some (.int .i64 c) := (cell_of h2.look).trans rfl
  refine eff_ldc f6 ?_
  simp
  refine eff_ldc f5 ?_
  simp
  have h4 : St w0 (A * nxs b4 b5 s c * ecoA p g s lg E) w2 := h2.to (by simp only [nxs, Value.cells]; ac_rfl)
  refine eff_call ((turn_spec p g s 85 _ lp lg c gs gv (endE c) E w0 w2 (A * nxs b4 b5 s c) hE hc hx hn (fun hc1 => end_besides p g s b4 b5 lp lg c w0 A) (hr.mono fun w s => s.drop) h4).mono ?_)
  rintro r w4 ⟨rfl, h5⟩
  simp
  exact h5.swap.drop
theorem Items_spec (p g s : Nat) (lp lg c : Int) (E : Eco) (w0 w : World) (A : Asn) (hE : EI lp lg E) (h : St w0 (A * ecoA p g s lg E) w) :
    CallW Tryz.prog 22 [.pointer (some ⟨s, 0, none⟩), .int .i64 c]
      (fun r w' => St w0 (A * ecoA p g s lg E * own 3 1 r (Gd.inF E.its c).length (Gd.ints (Gd.inF E.its c))) w') w := by
  have hlen : E.its.length ≤ 1048576 := by have := hE.G.len; have := hE.G.lim; omega
  obtain ⟨m, es, cl, hH, h1⟩ := eopen (h.to (B := A * Gd.gds g lg E.its * Pu.pur p E.P * esc s p g E.l) (by simp only [ecoA]; ac_rfl))
  have s1 := (cell_of (off := 1) h1.swap.look).trans (rfl : _ = some (Value.pointer (some ⟨g, 0, none⟩)))
  refine callW_of_lift l22_ok (by simp [l22]) ?_
  simp [l22]
  refine eff_ldc s1 ?_
  simp
  refine eff_call ((Gd.In_spec g lg E.its c w0 w (A * Pu.pur p E.P * esc s p g E.l) hlen (h.to (by simp only [ecoA]; ac_rfl))).mono ?_)
  intro r w2 h2
  simp
  exact h2.to (by simp only [ecoA]; ac_rfl)
end Go.HL.Es

namespace Go.HL.Es
open Go.HL Go.Proofs
set_option maxRecDepth 4000
set_option linter.unusedSimpArgs false
set_option linter.unusedVariables false
def u64s (l : List Int) : List Value := l.map (Value.int .u64)
theorem u64s_at {l : List Int} {i : Nat} (h : i < l.length) : (u64s l)[i]? = some (.int .u64 l[i]) := by simp [u64s, h]
def sumL (s : Int) : List Int → Int × Int
  | [] => (s, 0)
  | x :: t => if s + x < 18446744073709551616 then sumL (s + x) t else (0, 10)
theorem Sum_spec (l : List Int) (v : Value) (w0 w : World) (A : Asn) (hn : l.length ≤ 2097152) (hb : ∀ x ∈ l, 0 ≤ x ∧ x < 18446744073709551616) (hr : Row w0 A v l.length 1 (u64s l)) (h : St w0 A w) :
    CallW Tryz.prog 37 [v] (fun r w' => r = .tuple #[.int .u64 (sumL 0 l).1, .int .i64 (sumL 0 l).2] ∧ St w0 A w') w := by
  refine callW_of_lift l37_ok (by simp [l37]) ?_
  simp [l37]
  obtain ⟨a, cap, rfl⟩ := hr.val
  simp
  refine loopI (fun env w' => ∃ (i : Nat) (t : Int) (o1 o2 o4 o5 o6 : Value), env = [.slice a l.length cap, o1, o2, .int .u64 t, o4, o5, o6, .slice a l.length cap, .int .i64 l.length, .int .i64 i] ∧ i ≤ l.length ∧ (0 ≤ t ∧ t < 18446744073709551616) ∧ sumL 0 l = sumL t (l.drop i) ∧ St w0 A w')
    (fun env _ => l.length - slotN env 9) ⟨0, 0, _, _, _, _, _, rfl, by omega, by omega, rfl, h⟩ ?_
  rintro LQ env w' ⟨i, t, o1, o2, o4, o5, o6, rfl, hi, ht, hs, s1⟩ hN hX hR
  simp
  refine cndI (fun hc => ?_) (fun hc => ?_)
  · simp at hc
    obtain ⟨g, o, cap', hv, hcell⟩ := hr.at (by omega)
    cases hv
    simp [hc]
    refine eff_ldc (hcell w' s1 i _ (u64s_at hc)) ?_
    simp
    have hx := hb l[i] (List.getElem_mem hc)
    refine eff_call ((Add_spec t l[i] w' ht hx).mono ?_)
    rintro r w2 ⟨rfl, rfl⟩
    simp
    rw [List.drop_eq_getElem_cons hc, sumL] at hs
    by_cases hf : t + l[i] < 18446744073709551616
    · rw [if_pos hf] at hs
      simp [hf]
      try simp (disch := omega) only [wrap64]
      exact hN _ _ ⟨i + 1, t + l[i], _, _, _, _, _, rfl, by omega, by omega, hs, s1⟩ (by simp [slotN]; omega)
    · rw [if_neg hf] at hs
      simp [hf]
      refine hR _ _ ?_
      simp [hs]
      exact s1
  · simp at hc
    simp
    refine hX _ _ _ ?_
    have : i = l.length := by omega
    subst this
    rw [List.drop_length, sumL] at hs
    simp [hs]
    exact s1
def Rw.cs (r : Rw) : List Value := [.int .i64 r.1, .int .u64 r.2]
def rflat (l : List Rw) : List Value := l.flatMap Rw.cs
theorem rw_len (x : Rw) : x.cs.length = 2 := rfl
theorem rflat_len (l : List Rw) : (rflat l).length = l.length * 2 := flat_length Rw.cs 2 rw_len l
theorem rw_one (x : Rw) : ∀ u ∈ x.cs, u.oneCell' = true := by
  intro u hu
  simp only [Rw.cs, List.mem_cons, List.not_mem_nil, or_false] at hu
  rcases hu with rfl | rfl <;> rfl
theorem rflat_one (l : List Rw) : ∀ u ∈ rflat l, u.oneCell' = true := by
  intro u hu
  obtain ⟨x, _, hx⟩ := List.mem_flatMap.1 hu
  exact rw_one x u hx
theorem rflat_at {l : List Rw} {i : Nat} (h : i < l.length) : ∀ j u, (l[i].cs)[j]? = some u → (rflat l)[i * 2 + j]? = some u := by
  intro j u hu
  have hj : j < 2 := by
    have := (List.getElem?_eq_some_iff.1 hu).1
    rwa [rw_len] at this
  unfold rflat
  rw [flat_get Rw.cs 2 rw_len l i j h hj]
  exact hu
instance (l : List Rw) : Decidable (RwOK l) := inferInstanceAs (Decidable (l.Pairwise (fun a b => a.1 < b.1) ∧ ∀ r ∈ l, 1 ≤ r.1 ∧ r.1 < 9223372036854775808 ∧ 0 < r.2))
def escE (rows : List Rw) (held : Int) : Int := if RwOK rows then (if sumR rows = held then 0 else 170) else 2
theorem ins_last {k v : Int} : ∀ {l : List Rw}, (∀ r ∈ l, r.1 < k) → ins k v l = l ++ [(k, v)]
  | [], _ => rfl
  | r :: t, h => by
    simp only [ins]
    rw [if_neg (by have := h r (.head _); omega), ins_last fun x hx => h x (.tail _ hx)]
    rfl
theorem rw_snoc {l : List Rw} {r : Rw} (h : RwOK l) (h1 : ∀ x ∈ l, x.1 < r.1) (h2 : 1 ≤ r.1 ∧ r.1 < 9223372036854775808 ∧ 0 < r.2) : RwOK (l ++ [r]) := by
  refine ⟨?_, fun x hx => ?_⟩
  · rw [List.pairwise_append]
    exact ⟨h.1, by simp, fun a ha b hb => by
      have : b = r := by simpa using hb
      rw [this]; exact h1 a ha⟩
  · rcases List.mem_append.1 hx with hx | hx
    · exact h.2 x hx
    · have : x = r := by simpa using hx
      rw [this]; exact h2
def lastK (l : List Rw) : Int := (l.getLast?.map (·.1)).getD 0
theorem lastK_snoc (l : List Rw) (r : Rw) : lastK (l ++ [r]) = r.1 := by simp [lastK]
theorem lastK_top {l : List Rw} (h : RwOK l) : ∀ r ∈ l, r.1 ≤ lastK l := by
  intro r hr
  rcases List.eq_nil_or_concat l with rfl | ⟨t, x, rfl⟩
  · cases hr
  · rw [List.concat_eq_append] at *
    rw [lastK_snoc]
    have hp := (List.pairwise_append.1 h.1).2.2
    rcases List.mem_append.1 hr with hr | hr
    · have := hp r hr x (by simp); omega
    · have : r = x := by simpa using hr
      rw [this]; omega
theorem lastK_nonneg {l : List Rw} (h : RwOK l) : 0 ≤ lastK l := by
  rcases List.eq_nil_or_concat l with rfl | ⟨t, x, rfl⟩
  · simp [lastK]
  · rw [List.concat_eq_append] at *
    rw [lastK_snoc]
    have := (h.2 x (by simp)).1
    omega
theorem rw_bad {l : List Rw} {i : Nat} (hi : i < l.length) (h : l[i].1 ≤ lastK (l.take i) ∨ l[i].2 = 0) (hok : RwOK (l.take i)) : ¬ RwOK l := by
  intro ok
  rcases h with h | h
  · rcases Nat.eq_zero_or_pos i with rfl | hp
    · have := (ok.2 l[0] (List.getElem_mem hi)).1
      simp [lastK] at h; omega
    · obtain ⟨j, rfl⟩ : ∃ j, i = j + 1 := ⟨i - 1, by omega⟩
      rw [List.take_succ_eq_append_getElem (by omega), lastK_snoc] at h
      have := List.pairwise_iff_getElem.1 ok.1 j (j + 1) (by omega) hi (by omega)
      omega
  · have := (ok.2 l[i] (List.getElem_mem hi)).2.2
    omega
theorem sumL_ok : ∀ {l : List Int} {s : Int}, (∀ x ∈ l, 0 ≤ x) → 0 ≤ s → ((sumL s l).2 = 0 ∧ (sumL s l).1 = s + l.sum ∧ (l ≠ [] → s + l.sum < 18446744073709551616)) ∨ ((sumL s l).2 ≠ 0 ∧ 18446744073709551616 ≤ s + l.sum)
  | [], s, _, _ => .inl ⟨rfl, by simp [sumL], by simp⟩
  | x :: t, s, hx, hs => by
    have h0 := hx x (.head _)
    have ht : 0 ≤ t.sum := by
      have : ∀ l : List Int, (∀ x ∈ l, 0 ≤ x) → 0 ≤ l.sum := by
        intro l
        induction l with
        | nil => simp
        | cons a r ih => intro h; have := ih fun x hx => h x (.tail _ hx); have := h a (.head _); simp; omega
      exact this t fun x h => hx x (.tail _ h)
    simp only [sumL, List.sum_cons]
    split
    · rename_i hf
      rcases sumL_ok (l := t) (s := s + x) (fun x h => hx x (.tail _ h)) (by omega) with ⟨a, b, c⟩ | ⟨a, b⟩
      · refine .inl ⟨a, by rw [b]; omega, fun _ => ?_⟩
        by_cases e : t = []
        · subst e; simp; omega
        · have := c e; omega
      · exact .inr ⟨a, by omega⟩
    · exact .inr ⟨by simp, by omega⟩
end Go.HL.Es

namespace Go.HL.Es
open Go.HL Go.Proofs
set_option maxRecDepth 4000
set_option linter.unusedSimpArgs false
set_option linter.unusedVariables false
theorem rw_take_succ {l : List Rw} {i : Nat} (hi : i < l.length) (h : RwOK (l.take i)) (h1 : lastK (l.take i) < l[i].1) (h2 : 0 < l[i].2) (h3 : l[i].1 < 9223372036854775808) : RwOK (l.take (i + 1)) := by
  rw [List.take_succ_eq_append_getElem hi]
  have := lastK_nonneg h
  exact rw_snoc h (fun x hx => by have := lastK_top h x hx; omega) ⟨by omega, h3, h2⟩
theorem load_of {rows : List Rw} {held : Int} (hok : RwOK rows) (hh : 0 ≤ held ∧ held < 18446744073709551616) :
    escE rows held = if (sumL 0 (rows.map (·.2))).2 ≠ 0 ∨ (sumL 0 (rows.map (·.2))).1 ≠ held then 170 else 0 := by
  unfold escE
  rw [if_pos hok]
  have hnn : ∀ x ∈ rows.map (·.2), 0 ≤ x := by
    intro x hx
    obtain ⟨r, hr, rfl⟩ := List.mem_map.1 hx
    have := (hok.2 r hr).2.2; omega
  have hs : (rows.map (·.2)).sum = sumR rows := rfl
  rcases sumL_ok hnn (s := 0) (by omega) with ⟨a, b, c⟩ | ⟨a, b⟩
  · rw [a, b, hs]
    by_cases e : sumR rows = held
    · rw [if_pos e, if_neg (by simp; omega)]
    · rw [if_neg e, if_pos (.inr (by simp; omega))]
  · rw [hs] at b
    rw [if_neg (by omega), if_pos (.inl a)]

def h9_0 : HC := (.seq (.reg (.done [(3, (.inp 5)), (4, (.cst (.int .i64 0)))] none)) .ret)
@[simp] theorem h9_0_wp : type_of% (@wpH h9_0 _ h9_0.eq_1) := wpH h9_0.eq_1
def h9_1 : HC := (.seq (.reg (.done [(3, (.cst (.pointer none))), (4, (.cst (.int .i64 170)))] none)) .ret)
@[simp] theorem h9_1_wp : type_of% (@wpH h9_1 _ h9_1.eq_1) := wpH h9_1.eq_1
def h9_2 : HC := (.seq (.br (.chk none (.bin .neq) (.cons (.inp 10) (.cons (.cst (.int .i64 0)) .nil)) (.bnd (.op (.bin .neq) (.cons (.inp 10) (.cons (.cst (.int .i64 0)) .nil))) (.ite (.bv 0) false (.eff (.call 21) (.cons (.ite (.bv 0) false (.inp 0) (.cst (.tuple #[]))) .nil) (.chk none (.bin .neq) (.cons (.ite (.bv 0) false (.inp 9) (.cst (.tuple #[]))) (.cons (.bv 1) .nil)) (.isb none (.bv 0) (.done [] (some (.op (.bin .neq) (.cons (.ite (.bv 0) false (.inp 9) (.cst (.tuple #[]))) (.cons (.bv 1) .nil)))))))) (.isb none (.bv 0) (.done [] (some (.cst (.bool true)))))))) h9_1 .skip) h9_0)
@[simp] theorem h9_2_wp : type_of% (@wpH h9_2 _ h9_2.eq_1) := wpH h9_2.eq_1
def h9_3 : HC := (.seq (.reg (.eff (.call 37) (.cons (.inp 7) .nil) (.chk none (.ext 0) (.cons (.bv 0) .nil) (.chk none (.ext 1) (.cons (.bv 0) .nil) (.done [(9, (.op (.ext 0) (.cons (.bv 0) .nil))), (10, (.op (.ext 1) (.cons (.bv 0) .nil)))] none))))) h9_2)
@[simp] theorem h9_3_wp : type_of% (@wpH h9_3 _ h9_3.eq_1) := wpH h9_3.eq_1
def h9_4 : HC := (.reg (.chk none (.bin .add) (.cons (.inp 13) (.cons (.cst (.int .i64 1)) .nil)) (.done [(13, (.op (.bin .add) (.cons (.inp 13) (.cons (.cst (.int .i64 1)) .nil))))] none)))
@[simp] theorem h9_4_wp : type_of% (@wpH h9_4 _ h9_4.eq_1) := wpH h9_4.eq_1
def h9_5 : HC := (.reg (.chk none (.fld 1) (.cons (.inp 8) .nil) (.eff (.ld false 1) (.cons (.op (.fld 1) (.cons (.inp 8) .nil)) .nil) (.eff (.bsl 23 1 1 #[(.int .u64 0)] [0]) (.cons (.bv 0) .nil) (.eff (.app 96 96 23 1 8 (.int .u64 0)) (.cons (.inp 7) (.cons (.bv 1) .nil)) (.done [(7, (.bv 2))] none))))))
@[simp] theorem h9_5_wp : type_of% (@wpH h9_5 _ h9_5.eq_1) := wpH h9_5.eq_1
def h9_6 : HC := (.seq (.regq (some 1) (.chk none .chkp (.cons (.inp 5) .nil) (.chk none (.fld 2) (.cons (.op .chkp (.cons (.inp 5) .nil)) .nil) (.eff (.ld false 1) (.cons (.op (.fld 2) (.cons (.op .chkp (.cons (.inp 5) .nil)) .nil)) .nil) (.chk none (.fld 0) (.cons (.inp 8) .nil) (.eff (.ld false 1) (.cons (.op (.fld 0) (.cons (.inp 8) .nil)) .nil) (.chk none (.fld 1) (.cons (.inp 8) .nil) (.eff (.ld false 1) (.cons (.op (.fld 1) (.cons (.inp 8) .nil)) .nil) (.eff (.upd 93) (.cons (.bv 0) (.cons (.bv 1) (.cons (.bv 2) .nil))) (.done [] none)))))))))) h9_5)
@[simp] theorem h9_6_wp : type_of% (@wpH h9_6 _ h9_6.eq_1) := wpH h9_6.eq_1
def h9_7 : HC := (.seq (.reg (.chk none (.fld 0) (.cons (.inp 8) .nil) (.eff (.ld false 1) (.cons (.op (.fld 0) (.cons (.inp 8) .nil)) .nil) (.done [(6, (.bv 0))] none)))) h9_6)
@[simp] theorem h9_7_wp : type_of% (@wpH h9_7 _ h9_7.eq_1) := wpH h9_7.eq_1
def h9_8 : HC := (.seq (.reg (.done [(3, (.cst (.pointer none))), (4, (.cst (.int .i64 2)))] none)) .ret)
@[simp] theorem h9_8_wp : type_of% (@wpH h9_8 _ h9_8.eq_1) := wpH h9_8.eq_1
def h9_9 : HC := (.seq (.br (.chk none (.fld 0) (.cons (.inp 8) .nil) (.eff (.ld false 1) (.cons (.op (.fld 0) (.cons (.inp 8) .nil)) .nil) (.chk none (.bin .leq) (.cons (.bv 0) (.cons (.inp 6) .nil)) (.bnd (.op (.bin .leq) (.cons (.bv 0) (.cons (.inp 6) .nil))) (.chk (some ((.bv 1), false)) (.fld 1) (.cons (.inp 8) .nil) (.ite (.bv 1) false (.eff (.ld false 1) (.cons (.ite (.bv 1) false (.op (.fld 1) (.cons (.inp 8) .nil)) (.cst (.tuple #[]))) .nil) (.chk none (.bin .eql) (.cons (.bv 2) (.cons (.cst (.int .u64 0)) .nil)) (.isb none (.bv 1) (.done [] (some (.op (.bin .eql) (.cons (.bv 2) (.cons (.cst (.int .u64 0)) .nil)))))))) (.isb none (.bv 1) (.done [] (some (.cst (.bool true))))))))))) h9_8 .skip) h9_7)
@[simp] theorem h9_9_wp : type_of% (@wpH h9_9 _ h9_9.eq_1) := wpH h9_9.eq_1
def h9_10 : HC := (.seq (.reg (.chk none (.idxL 2) (.cons (.inp 11) (.cons (.inp 13) .nil)) (.eff (.ld true 2) (.cons (.op (.idxL 2) (.cons (.inp 11) (.cons (.inp 13) .nil))) .nil) (.eff (.new 98 (.agg #[(.int .i64 0), (.int .u64 0)])) .nil (.eff (.st 2) (.cons (.bv 1) (.cons (.bv 0) .nil)) (.done [(8, (.bv 1))] none)))))) h9_9)
@[simp] theorem h9_10_wp : type_of% (@wpH h9_10 _ h9_10.eq_1) := wpH h9_10.eq_1
def h9_11 : HC := (.seq (.block 1 h9_10) h9_4)
@[simp] theorem h9_11_wp : type_of% (@wpH h9_11 _ h9_11.eq_1) := wpH h9_11.eq_1
def h9_12 : HC := (.seq (.br (.chk none (.bin .lss) (.cons (.inp 13) (.cons (.inp 12) .nil)) (.done [] (some (.op (.bin .lss) (.cons (.inp 13) (.cons (.inp 12) .nil)))))) .skip (.exit 0)) h9_11)
@[simp] theorem h9_12_wp : type_of% (@wpH h9_12 _ h9_12.eq_1) := wpH h9_12.eq_1
def h9_13 : HC := (.loop h9_12)
@[simp] theorem h9_13_wp : type_of% (@wpH h9_13 _ h9_13.eq_1) := wpH h9_13.eq_1
def h9_14 : HC := (.seq (.block 0 h9_13) h9_3)
@[simp] theorem h9_14_wp : type_of% (@wpH h9_14 _ h9_14.eq_1) := wpH h9_14.eq_1
def h9_15 : HC := (.seq (.reg (.chk none .lenL (.cons (.inp 2) .nil) (.done [(11, (.inp 2)), (12, (.op .lenL (.cons (.inp 2) .nil))), (13, (.cst (.int .i64 0)))] none))) h9_14)
@[simp] theorem h9_15_wp : type_of% (@wpH h9_15 _ h9_15.eq_1) := wpH h9_15.eq_1
def h9_16 : HC := (.seq (.reg (.done [(7, (.cst (.slice none 0 0)))] none)) h9_15)
@[simp] theorem h9_16_wp : type_of% (@wpH h9_16 _ h9_16.eq_1) := wpH h9_16.eq_1
def h9_17 : HC := (.seq (.reg (.done [(6, (.cst (.int .i64 0)))] none)) h9_16)
@[simp] theorem h9_17_wp : type_of% (@wpH h9_17 _ h9_17.eq_1) := wpH h9_17.eq_1
def h9_18 : HC := (.seq (.reg (.eff (.mkm 93 false) .nil (.chk none (.build #[(.pointer none), (.pointer none), (.map none)] [(0, 1), (1, 1), (2, 1)] [0, 1, 2]) (.cons (.inp 0) (.cons (.inp 1) (.cons (.bv 0) .nil))) (.eff (.box 95) (.cons (.op (.build #[(.pointer none), (.pointer none), (.map none)] [(0, 1), (1, 1), (2, 1)] [0, 1, 2]) (.cons (.inp 0) (.cons (.inp 1) (.cons (.bv 0) .nil)))) .nil) (.done [(5, (.bv 1))] none))))) h9_17)
@[simp] theorem h9_18_wp : type_of% (@wpH h9_18 _ h9_18.eq_1) := wpH h9_18.eq_1
def h9_19 : HC := (.seq (.reg (.done [(3, (.cst (.pointer none))), (4, (.cst (.int .i64 1)))] none)) .ret)
@[simp] theorem h9_19_wp : type_of% (@wpH h9_19 _ h9_19.eq_1) := wpH h9_19.eq_1
def h9_20 : HC := (.seq (.br (.chk none (.eqNil false (.pointer 81) (.pointer none)) (.cons (.inp 0) .nil) (.bnd (.op (.eqNil false (.pointer 81) (.pointer none)) (.cons (.inp 0) .nil)) (.chk (some ((.bv 0), false)) (.eqNil false (.pointer 92) (.pointer none)) (.cons (.inp 1) .nil) (.isb none (.bv 0) (.done [] (some (.ite (.bv 0) true (.cst (.bool true)) (.op (.eqNil false (.pointer 92) (.pointer none)) (.cons (.inp 1) .nil))))))))) h9_19 .skip) h9_18)
@[simp] theorem h9_20_wp : type_of% (@wpH h9_20 _ h9_20.eq_1) := wpH h9_20.eq_1
def l9 : Lifted := ⟨[0, 1, 2, 6, 7, 8, 9, 10, 12, 13, 14, 26, 27, 28], 71, [.slot 3, .slot 4], (.seq (.reg (.done [(3, (.cst (.pointer none))), (4, (.cst (.int .i64 0)))] none)) h9_20)⟩
theorem l9_ok : liftFn E0 9 400 = some l9 := by kernel_rfl

def h73_0 : HC := (.seq (.reg (.eff (.call 9) (.cons (.inp 0) (.cons (.inp 1) (.cons (.cst (.slice none 0 0)) .nil))) (.chk none (.ext 0) (.cons (.bv 0) .nil) (.chk none (.ext 1) (.cons (.bv 0) .nil) (.done [(2, (.op (.ext 0) (.cons (.bv 0) .nil))), (3, (.op (.ext 1) (.cons (.bv 0) .nil)))] none))))) .ret)
@[simp] theorem h73_0_wp : type_of% (@wpH h73_0 _ h73_0.eq_1) := wpH h73_0.eq_1
def l73 : Lifted := ⟨[0, 1, 4, 5], 11, [.slot 2, .slot 3], (.seq (.reg (.done [(2, (.cst (.pointer none))), (3, (.cst (.int .i64 0)))] none)) h73_0)⟩
theorem l73_ok : liftFn E0 73 400 = some l73 := by kernel_rfl
set_option maxHeartbeats 1000000 in
theorem Load_spec (p g : Nat) (lp lg : Int) (rows : List Rw) (v : Value) (P : Pu.Ps) (its : List Gd.It) (w0 w : World) (A : Asn) (hP : Pu.PI lp P) (hn : rows.length ≤ 2097152)
    (hb : ∀ r ∈ rows, (-9223372036854775808 ≤ r.1 ∧ r.1 < 9223372036854775808) ∧ 0 ≤ r.2 ∧ r.2 < 18446744073709551616) (hr : Row w0 A v rows.length 2 (rflat rows)) (h : St w0 (A * Pu.pur p P * Gd.gds g lg its) w) :
    CallW Tryz.prog 9 [.pointer (some ⟨p, 0, none⟩), .pointer (some ⟨g, 0, none⟩), v]
      (fun r w' => (escE rows P.held = 0 ∧ ∃ s, r = .tuple #[.pointer (some ⟨s, 0, none⟩), .int .i64 0] ∧ St w0 (A * ecoA p g s lg ⟨P, its, rows⟩) w') ∨
        (escE rows P.held ≠ 0 ∧ r = .tuple #[.pointer none, .int .i64 (escE rows P.held)] ∧ St w0 (A * Pu.pur p P * Gd.gds g lg its) w')) w := by
  have hh : 0 ≤ P.held ∧ P.held < 18446744073709551616 := by have := hP.bd.held; omega
  refine callW_of_lift l9_ok (by simp [l9]) ?_
  simp [l9]
  refine eff_mkmI h fun m w1 h1 => ?_
  simp [Instr.fill, Value.cells]
  refine eff_box h1 fun s w2 h2 => ?_
  simp
  have h2 : St w0 (A * Pu.pur p P * Gd.gds g lg its * imap m [] 0 * pte s p g m) w2 := h2
  clear h h1
  obtain ⟨a, cap, rfl⟩ := hr.val
  simp
  refine loopI (fun env w' => ∃ (i : Nat) (all o3 o4 o8 o9 o10 : Value) (es : List En) (cl : Nat), env = [.pointer (some ⟨p, 0, none⟩), .pointer (some ⟨g, 0, none⟩), .slice a rows.length cap, o3, o4, .pointer (some ⟨s, 0, none⟩), .int .i64 (lastK (rows.take i)), all, o8, o9, o10, .slice a rows.length cap, .int .i64 rows.length, .int .i64 i] ∧
      i ≤ rows.length ∧ RwOK (rows.take i) ∧ EH es cl (rows.take i) ∧ St w0 (A * Pu.pur p P * Gd.gds g lg its * pte s p g m * imap m es cl * own 23 1 all ((rows.take i).map (·.2)).length (u64s ((rows.take i).map (·.2)))) w')
    (fun env _ => rows.length - slotN env 13) ⟨0, _, _, _, _, _, _, [], 0, rfl, by omega, ⟨by simp, by simp⟩, ⟨by simp, by simp, by simp, by simp⟩, ?_⟩ ?_
  · exact (h2.own_nil 23 1).to (by simp [u64s]; ac_rfl)
  rintro LQ env w' ⟨i, all, o3, o4, o8, o9, o10, es, cl, rfl, hi, hok, hE, s1⟩ hN hX hR
  simp
  refine cndI (fun hc => ?_) (fun hc => ?_)
  · simp at hc
    obtain ⟨g', o, cap', hv, hcell⟩ := hr.at (by omega)
    cases hv
    have hbi := hb rows[i] (List.getElem_mem hc)
    simp [hc]
    have sA : St w0 A w' := s1.cut (Pu.pur p P * Gd.gds g lg its * pte s p g m * imap m es cl * own 23 1 all ((rows.take i).map (·.2)).length (u64s ((rows.take i).map (·.2)))) (by ac_rfl)
    refine eff_ldcs (vs := rows[i].cs) (fun j u hu => by rw [Nat.add_assoc]; exact hcell w' sA _ _ (rflat_at hc j u hu)) rfl ?_
    simp
    refine eff_new s1 fun b w3 s3 => ?_
    simp
    refine eff_stA (vs := rows[i].cs) s3 rfl rfl (rw_one _) (by simp) fun w4 s4 => ?_
    simp
    have s5 : St w0 (A * Pu.pur p P * Gd.gds g lg its * pte s p g m * imap m es cl * own 23 1 all ((rows.take i).map (·.2)).length (u64s ((rows.take i).map (·.2))) * pt b (.cells rows[i].cs.toArray 98 (0, 0))) w4 := by simpa [Rw.cs] using s4
    refine eff_ldc (v := .int .i64 rows[i].1) ((cell_of s5.look).trans rfl) ?_
    simp
    have bad : (rows[i].1 ≤ lastK (rows.take i) ∨ rows[i].2 = 0) → escE rows P.held = 2 := fun hx => by
      unfold escE; rw [if_neg (rw_bad hc hx hok)]
    have hout : St w0 (A * Pu.pur p P * Gd.gds g lg its) w4 := s5.drop.drop.drop.drop
    by_cases hl : rows[i].1 ≤ lastK (rows.take i)
    · simp [hl]
      refine hR _ _ ?_
      simp
      rw [bad (.inl hl)]
      exact ⟨by decide, rfl, hout⟩
    simp [hl]
    refine eff_ldc (v := .int .u64 rows[i].2) ((cell_of s5.look).trans rfl) ?_
    simp
    refine cndI (fun hz => ?_) (fun hz => ?_)
    · simp at hz
      simp
      refine hR _ _ ?_
      simp
      rw [bad (.inr hz)]
      exact ⟨by decide, rfl, hout⟩
    simp at hz
    simp
    have hok' := rw_take_succ hc hok (by omega) (by omega) hbi.1.2
    have hk : ∀ x ∈ rows.take i, x.1 < rows[i].1 := fun x hx => by have := lastK_top hok x hx; omega
    refine eff_ldc (v := .int .i64 rows[i].1) ((cell_of s5.look).trans rfl) ?_
    simp
    have hget : getI es rows[i].1 = none := (hE.get hok rows[i].1).2.2 fun x hx => by have := hk x hx; omega
    have hE' : EH (es ++ [⟨rows[i].1, .int .u64 rows[i].2, cl⟩]) (cl + 1) (rows.take (i + 1)) := by
      have h0 : ∀ x ∈ rows.take i, x.1 ≠ rows[i].1 := fun x hx => by have := hk x hx; omega
      have := hE.put (k := rows[i].1) (v := rows[i].2) hget h0
      rw [del_none h0, ins_last hk] at this
      rw [List.take_succ_eq_append_getElem hc]
      exact this
    generalize hB : A * Pu.pur p P * Gd.gds g lg its * pte s p g m * own 23 1 all ((rows.take i).map (·.2)).length (u64s ((rows.take i).map (·.2))) * pt b (.cells rows[i].cs.toArray 98 (0, 0)) = B
    have s6 : St w0 (B * imap m es cl) w4 := by rw [← hB]; exact s5.to (by ac_rfl)
    have fs := fun {w : World} {es : List En} {cl : Nat} (h : St w0 (B * imap m es cl) w) => (cell_of (off := 2) ((h.to (B := A * Pu.pur p P * Gd.gds g lg its * own 23 1 all ((rows.take i).map (·.2)).length (u64s ((rows.take i).map (·.2))) * pt b (.cells rows[i].cs.toArray 98 (0, 0)) * imap m es cl * pte s p g m) (by rw [← hB]; ac_rfl)).look)).trans (rfl : _ = some (Value.map (some m)))
    have fb := fun {w : World} {es : List En} {cl : Nat} (h : St w0 (B * imap m es cl) w) => (h.to (B := A * Pu.pur p P * Gd.gds g lg its * own 23 1 all ((rows.take i).map (·.2)).length (u64s ((rows.take i).map (·.2))) * pte s p g m * imap m es cl * pt b (.cells rows[i].cs.toArray 98 (0, 0))) (by rw [← hB]; ac_rfl)).look
    refine regmI (Pu.cls1 (St w0 (B * imap m es cl)) (St w0 (B * imap m (es ++ [⟨rows[i].1, .int .u64 rows[i].2, cl⟩]) (cl + 1)))) s6.drew ?_
    simp
    refine effm_ldc (v := .map (some m)) (fun vs' w he hw => fs (cls1_pre he hw)) ?_
    simp
    refine effm_ldc (v := .int .i64 rows[i].1) (fun vs' w he hw => (cell_of (off := 0) (fb (cls1_pre he hw))).trans rfl) ?_
    simp
    refine effm_ldc (v := .int .u64 rows[i].2) (fun vs' w he hw => (cell_of (off := 1) (fb (cls1_pre he hw))).trans rfl) ?_
    simp
    refine effm_mv (by rfl) (fun w hw => eff_updI escT hw hget fun w' h => h) (fun r hr => ?_)
    simp
    intro w5 s7
    refine eff_ldc (v := .int .u64 rows[i].2) ((cell_of (off := 1) (fb s7)).trans rfl) ?_
    simp
    refine eff_bsl1 s7 rfl fun c w6 s8 => ?_
    simp
    rw [← hB] at s8
    refine eff_app (m := 1) (news := [.int .u64 rows[i].2]) (F := A * Pu.pur p P * Gd.gds g lg its * pte s p g m * pt b (.cells rows[i].cs.toArray 98 (0, 0)) * imap m (es ++ [⟨rows[i].1, .int .u64 rows[i].2, cl⟩]) (cl + 1) * pt c (.cells #[.int .u64 rows[i].2] 23 (0, 0))) (s8.to (by ac_rfl)) rfl s8.cells_look (by simp [Value.oneCell']) (by decide) rfl (by simp; unfold maxLen; omega) (by simp; omega) fun v' w7 s9 => ?_
    simp
    try simp (disch := omega) only [wrap64]
    refine hN _ _ ⟨i + 1, v', _, _, _, _, _, es ++ [⟨rows[i].1, .int .u64 rows[i].2, cl⟩], cl + 1, by simp; refine ⟨rfl, rfl, ?_, rfl, rfl, rfl⟩; rw [List.take_succ_eq_append_getElem hc, lastK_snoc], by omega, hok', hE', ?_⟩ (by simp [slotN]; omega)
    refine s9.cut (pt b (.cells rows[i].cs.toArray 98 (0, 0)) * pt c (.cells #[.int .u64 rows[i].2] 23 (0, 0))) ?_
    rw [List.take_succ_eq_append_getElem hc]
    simp only [List.map_append, List.map_cons, List.map_nil, u64s, List.length_append, List.length_map, List.length_cons, List.length_nil]
    ac_rfl
  · simp at hc
    simp
    refine hX _ _ _ ?_
    have : i = rows.length := by omega
    subst this
    rw [List.take_length] at *
    simp
    have hlo := load_of hok hh
    refine eff_call ((Sum_spec (rows.map (·.2)) all w0 w' _ (by simpa using hn) (fun x hx => by
      obtain ⟨r, hr, rfl⟩ := List.mem_map.1 hx
      exact (hb r hr).2) (row_own s1) s1).mono ?_)
    rintro r w3 ⟨rfl, s3⟩
    simp
    have hbadc : escE rows P.held = 170 → (escE rows P.held = 0 ∧ ∃ s, (Value.tuple #[.pointer none, .int .i64 170]) = .tuple #[.pointer (some ⟨s, 0, none⟩), .int .i64 0] ∧ St w0 (A * ecoA p g s lg ⟨P, its, rows⟩) w3) ∨
        (escE rows P.held ≠ 0 ∧ (Value.tuple #[.pointer none, .int .i64 170]) = .tuple #[.pointer none, .int .i64 (escE rows P.held)] ∧ St w0 (A * Pu.pur p P * Gd.gds g lg its) w3) := fun e => by
      rw [e]; exact .inr ⟨by decide, rfl, s3.drop.drop.drop⟩
    by_cases hs0 : (sumL 0 (rows.map (·.2))).2 = 0
    · simp [hs0]
      refine eff_call ((Pu.Held_spec p P w0 w3 (A * Gd.gds g lg its * pte s p g m * imap m es cl * own 23 1 all (rows.map (·.2)).length (u64s (rows.map (·.2)))) (s3.to (by ac_rfl))).mono ?_)
      rintro r w4 ⟨rfl, s4⟩
      simp
      refine cndI (fun hz => ?_) (fun hz => ?_)
      · simp at hz
        rw [if_pos (.inr hz)] at hlo
        simp
        rw [hlo]
        exact ⟨by decide, rfl, s4.cut (pte s p g m * imap m es cl * own 23 1 all (rows.map (·.2)).length (u64s (rows.map (·.2)))) (by ac_rfl)⟩
      · simp at hz
        rw [if_neg (by simp [hs0, hz])] at hlo
        simp
        refine ⟨hlo, ?_⟩
        have := eclose (A := A * Gd.gds g lg its * Pu.pur p P * own 23 1 all (rows.map (·.2)).length (u64s (rows.map (·.2)))) hE (s4.to (by ac_rfl))
        exact this.cut (own 23 1 all (rows.map (·.2)).length (u64s (rows.map (·.2)))) (by simp only [ecoA]; ac_rfl)
    · simp [hs0]
      rw [if_pos (.inl hs0)] at hlo
      simpa using hbadc hlo
end Go.HL.Es

namespace Go.HL.Es
open Go.HL Go.Proofs
set_option maxRecDepth 4000
set_option linter.unusedSimpArgs false
set_option linter.unusedVariables false

def h8_0 : HC := (.seq (.reg (.done [(1, (.inp 0))] none)) .ret)
@[simp] theorem h8_0_wp : type_of% (@wpH h8_0 _ h8_0.eq_1) := wpH h8_0.eq_1
def l8 : Lifted := ⟨[0, 2], 4, [.slot 1], (.seq (.reg (.done [(1, (.cst (.int .i64 0)))] none)) h8_0)⟩
theorem l8_ok : liftFn E0 8 400 = some l8 := by kernel_rfl
theorem num_spec (u : Int) (w : World) : CallW Tryz.prog 8 [.int .i64 u] (fun r w' => r = .int .i64 u ∧ w' = w) w := by
  refine callW_of_lift l8_ok (by simp [l8]) ?_
  simp [l8]
noncomputable def numS : PS Tryz.prog where
  f := 8
  val args := match args with
    | [.int _ u] => .int .i64 u
    | _ => undef
  ok args := match args with
    | [.int k _] => k = .i64
    | _ => False
  sound args w h := by
    split at h
    · rename_i k u
      subst h
      exact num_spec u w
    · exact h.elim
noncomputable abbrev E2 : PF Tryz.prog := PF.of [numS]
@[simp] theorem E2_num_val (args : List Value) : E2.val 8 args = numS.val args := rfl
@[simp] theorem E2_num_ok (args : List Value) : E2.ok 8 args = numS.ok args := rfl
@[simp] theorem num_val (u : Int) : numS.val [.int .i64 u] = .int .i64 u := rfl
@[simp] theorem num_ok (u : Int) : numS.ok [.int .i64 u] = (IntKind.i64 = .i64) := rfl

def h29_0 : HC := (.seq (.reg (.done [(2, (.cst (.bool true)))] none)) .ret)
@[simp] theorem h29_0_wp : type_of% (@wpH h29_0 _ h29_0.eq_1) := wpH h29_0.eq_1
def h29_1 : HC := (.reg (.chk none (.bin .add) (.cons (.inp 3) (.cons (.cst (.int .i64 1)) .nil)) (.done [(3, (.op (.bin .add) (.cons (.inp 3) (.cons (.cst (.int .i64 1)) .nil))))] none)))
@[simp] theorem h29_1_wp : type_of% (@wpH h29_1 _ h29_1.eq_1) := wpH h29_1.eq_1
def h29_2 : HC := (.seq (.reg (.done [(2, (.cst (.bool false)))] none)) .ret)
@[simp] theorem h29_2_wp : type_of% (@wpH h29_2 _ h29_2.eq_1) := wpH h29_2.eq_1
def h29_3 : HC := (.brq (some 0) (.chk none (.idxL 1) (.cons (.inp 0) (.cons (.inp 3) .nil)) (.eff (.ld false 1) (.cons (.op (.idxL 1) (.cons (.inp 0) (.cons (.inp 3) .nil))) .nil) (.chk none (.idxL 1) (.cons (.inp 1) (.cons (.inp 3) .nil)) (.eff (.ld false 1) (.cons (.op (.idxL 1) (.cons (.inp 1) (.cons (.inp 3) .nil))) .nil) (.chk none (.bin .neq) (.cons (.bv 0) (.cons (.bv 1) .nil)) (.done [] (some (.op (.bin .neq) (.cons (.bv 0) (.cons (.bv 1) .nil)))))))))) h29_2 .skip)
@[simp] theorem h29_3_wp : type_of% (@wpH h29_3 _ h29_3.eq_1) := wpH h29_3.eq_1
def h29_4 : HC := (.seq (.block 1 h29_3) h29_1)
@[simp] theorem h29_4_wp : type_of% (@wpH h29_4 _ h29_4.eq_1) := wpH h29_4.eq_1
def h29_5 : HC := (.seq (.br (.chk none .lenL (.cons (.inp 0) .nil) (.chk none (.bin .lss) (.cons (.inp 3) (.cons (.op .lenL (.cons (.inp 0) .nil)) .nil)) (.done [] (some (.op (.bin .lss) (.cons (.inp 3) (.cons (.op .lenL (.cons (.inp 0) .nil)) .nil))))))) .skip (.exit 0)) h29_4)
@[simp] theorem h29_5_wp : type_of% (@wpH h29_5 _ h29_5.eq_1) := wpH h29_5.eq_1
def h29_6 : HC := (.loop h29_5)
@[simp] theorem h29_6_wp : type_of% (@wpH h29_6 _ h29_6.eq_1) := wpH h29_6.eq_1
def h29_7 : HC := (.seq (.block 0 h29_6) h29_0)
@[simp] theorem h29_7_wp : type_of% (@wpH h29_7 _ h29_7.eq_1) := wpH h29_7.eq_1
def h29_8 : HC := (.seq (.reg (.done [(3, (.cst (.int .i64 0)))] none)) h29_7)
@[simp] theorem h29_8_wp : type_of% (@wpH h29_8 _ h29_8.eq_1) := wpH h29_8.eq_1
def h29_9 : HC := (.seq (.reg (.done [(2, (.cst (.bool false)))] none)) .ret)
@[simp] theorem h29_9_wp : type_of% (@wpH h29_9 _ h29_9.eq_1) := wpH h29_9.eq_1
def h29_10 : HC := (.seq (.br (.chk none .lenL (.cons (.inp 0) .nil) (.chk none .lenL (.cons (.inp 1) .nil) (.chk none (.bin .neq) (.cons (.op .lenL (.cons (.inp 0) .nil)) (.cons (.op .lenL (.cons (.inp 1) .nil)) .nil)) (.done [] (some (.op (.bin .neq) (.cons (.op .lenL (.cons (.inp 0) .nil)) (.cons (.op .lenL (.cons (.inp 1) .nil)) .nil)))))))) h29_9 .skip) h29_8)
@[simp] theorem h29_10_wp : type_of% (@wpH h29_10 _ h29_10.eq_1) := wpH h29_10.eq_1
def l29 : Lifted := ⟨[0, 1, 4, 5], 26, [.slot 2], (.seq (.reg (.done [(2, (.cst (.bool false)))] none)) h29_10)⟩
theorem l29_ok : liftFn E2 29 400 = some l29 := by kernel_rfl

def h70_0 : HC := (.seq (.reg (.done [(2, (.cst (.bool true)))] none)) .ret)
@[simp] theorem h70_0_wp : type_of% (@wpH h70_0 _ h70_0.eq_1) := wpH h70_0.eq_1
def h70_1 : HC := (.reg (.chk none (.bin .add) (.cons (.inp 3) (.cons (.cst (.int .i64 1)) .nil)) (.done [(3, (.op (.bin .add) (.cons (.inp 3) (.cons (.cst (.int .i64 1)) .nil))))] none)))
@[simp] theorem h70_1_wp : type_of% (@wpH h70_1 _ h70_1.eq_1) := wpH h70_1.eq_1
def h70_2 : HC := (.seq (.reg (.done [(2, (.cst (.bool false)))] none)) .ret)
@[simp] theorem h70_2_wp : type_of% (@wpH h70_2 _ h70_2.eq_1) := wpH h70_2.eq_1
def h70_3 : HC := (.brq (some 0) (.chk none (.idxL 4) (.cons (.inp 0) (.cons (.inp 3) .nil)) (.eff (.ld true 4) (.cons (.op (.idxL 4) (.cons (.inp 0) (.cons (.inp 3) .nil))) .nil) (.chk none (.idxL 4) (.cons (.inp 1) (.cons (.inp 3) .nil)) (.eff (.ld true 4) (.cons (.op (.idxL 4) (.cons (.inp 1) (.cons (.inp 3) .nil))) .nil) (.eff (.bin .neq 60 (.tmp 20) (.tmp 24)) (.cons (.bv 0) (.cons (.bv 1) .nil)) (.done [] (some (.bv 2)))))))) h70_2 .skip)
@[simp] theorem h70_3_wp : type_of% (@wpH h70_3 _ h70_3.eq_1) := wpH h70_3.eq_1
def h70_4 : HC := (.seq (.block 1 h70_3) h70_1)
@[simp] theorem h70_4_wp : type_of% (@wpH h70_4 _ h70_4.eq_1) := wpH h70_4.eq_1
def h70_5 : HC := (.seq (.br (.chk none .lenL (.cons (.inp 0) .nil) (.chk none (.bin .lss) (.cons (.inp 3) (.cons (.op .lenL (.cons (.inp 0) .nil)) .nil)) (.done [] (some (.op (.bin .lss) (.cons (.inp 3) (.cons (.op .lenL (.cons (.inp 0) .nil)) .nil))))))) .skip (.exit 0)) h70_4)
@[simp] theorem h70_5_wp : type_of% (@wpH h70_5 _ h70_5.eq_1) := wpH h70_5.eq_1
def h70_6 : HC := (.loop h70_5)
@[simp] theorem h70_6_wp : type_of% (@wpH h70_6 _ h70_6.eq_1) := wpH h70_6.eq_1
def h70_7 : HC := (.seq (.block 0 h70_6) h70_0)
@[simp] theorem h70_7_wp : type_of% (@wpH h70_7 _ h70_7.eq_1) := wpH h70_7.eq_1
def h70_8 : HC := (.seq (.reg (.done [(3, (.cst (.int .i64 0)))] none)) h70_7)
@[simp] theorem h70_8_wp : type_of% (@wpH h70_8 _ h70_8.eq_1) := wpH h70_8.eq_1
def h70_9 : HC := (.seq (.reg (.done [(2, (.cst (.bool false)))] none)) .ret)
@[simp] theorem h70_9_wp : type_of% (@wpH h70_9 _ h70_9.eq_1) := wpH h70_9.eq_1
def h70_10 : HC := (.seq (.br (.chk none .lenL (.cons (.inp 0) .nil) (.chk none .lenL (.cons (.inp 1) .nil) (.chk none (.bin .neq) (.cons (.op .lenL (.cons (.inp 0) .nil)) (.cons (.op .lenL (.cons (.inp 1) .nil)) .nil)) (.done [] (some (.op (.bin .neq) (.cons (.op .lenL (.cons (.inp 0) .nil)) (.cons (.op .lenL (.cons (.inp 1) .nil)) .nil)))))))) h70_9 .skip) h70_8)
@[simp] theorem h70_10_wp : type_of% (@wpH h70_10 _ h70_10.eq_1) := wpH h70_10.eq_1
def l70 : Lifted := ⟨[0, 1, 4, 5], 26, [.slot 2], (.seq (.reg (.done [(2, (.cst (.bool false)))] none)) h70_10)⟩
theorem l70_ok : liftFn E2 70 400 = some l70 := by kernel_rfl

def h66_0 : HC := (.seq (.reg (.done [(2, (.cst (.bool true)))] none)) .ret)
@[simp] theorem h66_0_wp : type_of% (@wpH h66_0 _ h66_0.eq_1) := wpH h66_0.eq_1
def h66_1 : HC := (.reg (.chk none (.bin .add) (.cons (.inp 3) (.cons (.cst (.int .i64 1)) .nil)) (.done [(3, (.op (.bin .add) (.cons (.inp 3) (.cons (.cst (.int .i64 1)) .nil))))] none)))
@[simp] theorem h66_1_wp : type_of% (@wpH h66_1 _ h66_1.eq_1) := wpH h66_1.eq_1
def h66_2 : HC := (.seq (.reg (.done [(2, (.cst (.bool false)))] none)) .ret)
@[simp] theorem h66_2_wp : type_of% (@wpH h66_2 _ h66_2.eq_1) := wpH h66_2.eq_1
def h66_3 : HC := (.brq (some 0) (.chk none (.idxL 2) (.cons (.inp 0) (.cons (.inp 3) .nil)) (.eff (.ld true 2) (.cons (.op (.idxL 2) (.cons (.inp 0) (.cons (.inp 3) .nil))) .nil) (.chk none (.idxL 2) (.cons (.inp 1) (.cons (.inp 3) .nil)) (.eff (.ld true 2) (.cons (.op (.idxL 2) (.cons (.inp 1) (.cons (.inp 3) .nil))) .nil) (.eff (.bin .neq 58 (.tmp 20) (.tmp 24)) (.cons (.bv 0) (.cons (.bv 1) .nil)) (.done [] (some (.bv 2)))))))) h66_2 .skip)
@[simp] theorem h66_3_wp : type_of% (@wpH h66_3 _ h66_3.eq_1) := wpH h66_3.eq_1
def h66_4 : HC := (.seq (.block 1 h66_3) h66_1)
@[simp] theorem h66_4_wp : type_of% (@wpH h66_4 _ h66_4.eq_1) := wpH h66_4.eq_1
def h66_5 : HC := (.seq (.br (.chk none .lenL (.cons (.inp 0) .nil) (.chk none (.bin .lss) (.cons (.inp 3) (.cons (.op .lenL (.cons (.inp 0) .nil)) .nil)) (.done [] (some (.op (.bin .lss) (.cons (.inp 3) (.cons (.op .lenL (.cons (.inp 0) .nil)) .nil))))))) .skip (.exit 0)) h66_4)
@[simp] theorem h66_5_wp : type_of% (@wpH h66_5 _ h66_5.eq_1) := wpH h66_5.eq_1
def h66_6 : HC := (.loop h66_5)
@[simp] theorem h66_6_wp : type_of% (@wpH h66_6 _ h66_6.eq_1) := wpH h66_6.eq_1
def h66_7 : HC := (.seq (.block 0 h66_6) h66_0)
@[simp] theorem h66_7_wp : type_of% (@wpH h66_7 _ h66_7.eq_1) := wpH h66_7.eq_1
def h66_8 : HC := (.seq (.reg (.done [(3, (.cst (.int .i64 0)))] none)) h66_7)
@[simp] theorem h66_8_wp : type_of% (@wpH h66_8 _ h66_8.eq_1) := wpH h66_8.eq_1
def h66_9 : HC := (.seq (.reg (.done [(2, (.cst (.bool false)))] none)) .ret)
@[simp] theorem h66_9_wp : type_of% (@wpH h66_9 _ h66_9.eq_1) := wpH h66_9.eq_1
def h66_10 : HC := (.seq (.br (.chk none .lenL (.cons (.inp 0) .nil) (.chk none .lenL (.cons (.inp 1) .nil) (.chk none (.bin .neq) (.cons (.op .lenL (.cons (.inp 0) .nil)) (.cons (.op .lenL (.cons (.inp 1) .nil)) .nil)) (.done [] (some (.op (.bin .neq) (.cons (.op .lenL (.cons (.inp 0) .nil)) (.cons (.op .lenL (.cons (.inp 1) .nil)) .nil)))))))) h66_9 .skip) h66_8)
@[simp] theorem h66_10_wp : type_of% (@wpH h66_10 _ h66_10.eq_1) := wpH h66_10.eq_1
def l66 : Lifted := ⟨[0, 1, 4, 5], 26, [.slot 2], (.seq (.reg (.done [(2, (.cst (.bool false)))] none)) h66_10)⟩
theorem l66_ok : liftFn E2 66 400 = some l66 := by kernel_rfl

def h30_0 : HC := (.seq (.reg (.chk none (.cal 8) (.cons (.inp 5) .nil) (.chk none (.bin .eql) (.cons (.op (.cal 8) (.cons (.inp 5) .nil)) (.cons (.cst (.int .i64 0)) .nil)) (.bnd (.op (.bin .eql) (.cons (.op (.cal 8) (.cons (.inp 5) .nil)) (.cons (.cst (.int .i64 0)) .nil))) (.chk (some ((.bv 0), true)) (.fld 1) (.cons (.inp 4) .nil) (.ite (.bv 0) true (.eff (.ld false 1) (.cons (.ite (.bv 0) true (.op (.fld 1) (.cons (.inp 4) .nil)) (.cst (.tuple #[]))) .nil) (.chk none (.bin .eql) (.cons (.bv 1) (.cons (.inp 2) .nil)) (.isb none (.bv 0) (.done [(3, (.op (.bin .eql) (.cons (.bv 1) (.cons (.inp 2) .nil))))] none)))) (.isb none (.bv 0) (.done [(3, (.cst (.bool false)))] none)))))))) .ret)
@[simp] theorem h30_0_wp : type_of% (@wpH h30_0 _ h30_0.eq_1) := wpH h30_0.eq_1
def h30_1 : HC := (.seq (.reg (.eff (.call 74) (.cons (.inp 0) (.cons (.inp 1) .nil)) (.chk none (.ext 0) (.cons (.bv 0) .nil) (.chk none (.ext 1) (.cons (.bv 0) .nil) (.eff (.new 58 (.agg #[(.string ⟨#[]⟩), (.int .u64 0)])) .nil (.eff (.st 2) (.cons (.bv 1) (.cons (.op (.ext 0) (.cons (.bv 0) .nil)) .nil)) (.done [(4, (.bv 1)), (5, (.op (.ext 1) (.cons (.bv 0) .nil)))] none))))))) h30_0)
@[simp] theorem h30_1_wp : type_of% (@wpH h30_1 _ h30_1.eq_1) := wpH h30_1.eq_1
def l30 : Lifted := ⟨[0, 1, 2, 6, 7, 8], 24, [.slot 3], (.seq (.reg (.done [(3, (.cst (.bool false)))] none)) h30_1)⟩
theorem l30_ok : liftFn E2 30 400 = some l30 := by kernel_rfl

def h26_0 : HC := (.seq (.reg (.done [(0, (.inp 3)), (1, (.inp 5)), (2, (.inp 7))] none)) .ret)
@[simp] theorem h26_0_wp : type_of% (@wpH h26_0 _ h26_0.eq_1) := wpH h26_0.eq_1
def h26_1 : HC := (.seq (.reg (.eff (.call 73) (.cons (.inp 3) (.cons (.inp 5) .nil)) (.chk none (.ext 0) (.cons (.bv 0) .nil) (.chk none (.ext 1) (.cons (.bv 0) .nil) (.done [(7, (.op (.ext 0) (.cons (.bv 0) .nil)))] none))))) h26_0)
@[simp] theorem h26_1_wp : type_of% (@wpH h26_1 _ h26_1.eq_1) := wpH h26_1.eq_1
def h26_2 : HC := (.seq (.reg (.eff (.call 61) (.cons (.inp 5) (.cons (.cst (.int .i64 0)) (.cons (.cst (.int .i64 2)) .nil))) (.done [] none))) h26_1)
@[simp] theorem h26_2_wp : type_of% (@wpH h26_2 _ h26_2.eq_1) := wpH h26_2.eq_1
def h26_3 : HC := (.seq (.reg (.eff (.call 61) (.cons (.inp 5) (.cons (.cst (.int .i64 0)) (.cons (.cst (.int .i64 1)) .nil))) (.done [] none))) h26_2)
@[simp] theorem h26_3_wp : type_of% (@wpH h26_3 _ h26_3.eq_1) := wpH h26_3.eq_1
def h26_4 : HC := (.seq (.reg (.eff (.call 59) (.cons (.inp 3) (.cons (.cst (.int .i64 2)) (.cons (.cst (.int .u64 50)) .nil))) (.done [] none))) h26_3)
@[simp] theorem h26_4_wp : type_of% (@wpH h26_4 _ h26_4.eq_1) := wpH h26_4.eq_1
def h26_5 : HC := (.seq (.reg (.eff (.call 59) (.cons (.inp 3) (.cons (.cst (.int .i64 1)) (.cons (.cst (.int .u64 100)) .nil))) (.done [] none))) h26_4)
@[simp] theorem h26_5_wp : type_of% (@wpH h26_5 _ h26_5.eq_1) := wpH h26_5.eq_1
def h26_6 : HC := (.seq (.reg (.eff (.call 31) (.cons (.inp 3) (.cons (.cst (.string ⟨#[66, 111, 98]⟩)) .nil)) (.done [] none))) h26_5)
@[simp] theorem h26_6_wp : type_of% (@wpH h26_6 _ h26_6.eq_1) := wpH h26_6.eq_1
def h26_7 : HC := (.seq (.reg (.eff (.call 31) (.cons (.inp 3) (.cons (.cst (.string ⟨#[65, 110, 110]⟩)) .nil)) (.done [] none))) h26_6)
@[simp] theorem h26_7_wp : type_of% (@wpH h26_7 _ h26_7.eq_1) := wpH h26_7.eq_1
def h26_8 : HC := (.seq (.reg (.done [(0, (.cst (.pointer none))), (1, (.cst (.pointer none))), (2, (.cst (.pointer none)))] none)) .ret)
@[simp] theorem h26_8_wp : type_of% (@wpH h26_8 _ h26_8.eq_1) := wpH h26_8.eq_1
def h26_9 : HC := (.seq (.br (.chk none (.cal 8) (.cons (.inp 4) .nil) (.chk none (.bin .neq) (.cons (.op (.cal 8) (.cons (.inp 4) .nil)) (.cons (.cst (.int .i64 0)) .nil)) (.bnd (.op (.bin .neq) (.cons (.op (.cal 8) (.cons (.inp 4) .nil)) (.cons (.cst (.int .i64 0)) .nil))) (.chk (some ((.bv 0), false)) (.cal 8) (.cons (.inp 6) .nil) (.chk (some ((.bv 0), false)) (.bin .neq) (.cons (.op (.cal 8) (.cons (.inp 6) .nil)) (.cons (.cst (.int .i64 0)) .nil)) (.isb none (.bv 0) (.bnd (.ite (.bv 0) true (.cst (.bool true)) (.op (.bin .neq) (.cons (.op (.cal 8) (.cons (.inp 6) .nil)) (.cons (.cst (.int .i64 0)) .nil)))) (.chk (some ((.bv 1), false)) (.eqNil false (.pointer 81) (.pointer none)) (.cons (.inp 3) .nil) (.isb none (.bv 1) (.bnd (.ite (.bv 1) true (.cst (.bool true)) (.op (.eqNil false (.pointer 81) (.pointer none)) (.cons (.inp 3) .nil))) (.chk (some ((.bv 2), false)) (.eqNil false (.pointer 92) (.pointer none)) (.cons (.inp 5) .nil) (.isb none (.bv 2) (.done [] (some (.ite (.bv 2) true (.cst (.bool true)) (.op (.eqNil false (.pointer 92) (.pointer none)) (.cons (.inp 5) .nil))))))))))))))))) h26_8 .skip) h26_7)
@[simp] theorem h26_9_wp : type_of% (@wpH h26_9 _ h26_9.eq_1) := wpH h26_9.eq_1
def h26_10 : HC := (.seq (.reg (.eff (.call 33) (.cons (.cst (.int .i64 9)) .nil) (.chk none (.ext 0) (.cons (.bv 0) .nil) (.chk none (.ext 1) (.cons (.bv 0) .nil) (.done [(5, (.op (.ext 0) (.cons (.bv 0) .nil))), (6, (.op (.ext 1) (.cons (.bv 0) .nil)))] none))))) h26_9)
@[simp] theorem h26_10_wp : type_of% (@wpH h26_10 _ h26_10.eq_1) := wpH h26_10.eq_1
def h26_11 : HC := (.seq (.reg (.eff (.call 72) (.cons (.cst (.int .i64 3)) .nil) (.chk none (.ext 0) (.cons (.bv 0) .nil) (.chk none (.ext 1) (.cons (.bv 0) .nil) (.done [(3, (.op (.ext 0) (.cons (.bv 0) .nil))), (4, (.op (.ext 1) (.cons (.bv 0) .nil)))] none))))) h26_10)
@[simp] theorem h26_11_wp : type_of% (@wpH h26_11 _ h26_11.eq_1) := wpH h26_11.eq_1
def l26 : Lifted := ⟨[0, 1, 2, 3, 4, 5, 6, 7], 54, [.slot 0, .slot 1, .slot 2], (.seq (.reg (.done [(0, (.cst (.pointer none))), (1, (.cst (.pointer none))), (2, (.cst (.pointer none)))] none)) h26_11)⟩
theorem l26_ok : liftFn E2 26 400 = some l26 := by kernel_rfl

def r5_0 : RT := (.eff (.call 21) (.cons (.ite (.bv 5) true (.inp 1) (.cst (.tuple #[]))) .nil) (.chk none (.bin .eql) (.cons (.bv 6) (.cons (.cst (.int .u64 30)) .nil)) (.isb none (.bv 5) (.bnd (.op (.bin .eql) (.cons (.bv 6) (.cons (.cst (.int .u64 30)) .nil))) (.ite (.bv 7) true (.eff (.call 30) (.cons (.ite (.bv 7) true (.inp 1) (.cst (.tuple #[]))) (.cons (.cst (.int .i64 1)) (.cons (.cst (.int .u64 70)) .nil))) (.isb none (.bv 7) (.chk (some ((.bv 8), true)) (.cal 8) (.cons (.inp 6) .nil) (.chk (some ((.bv 8), true)) (.bin .eql) (.cons (.op (.cal 8) (.cons (.inp 6) .nil)) (.cons (.cst (.int .i64 0)) .nil)) (.isb none (.bv 8) (.bnd (.ite (.bv 8) true (.op (.bin .eql) (.cons (.op (.cal 8) (.cons (.inp 6) .nil)) (.cons (.cst (.int .i64 0)) .nil))) (.cst (.bool false))) (.chk (some ((.bv 9), true)) (.fld 3) (.cons (.inp 5) .nil) (.ite (.bv 9) true (.eff (.ld false 1) (.cons (.ite (.bv 9) true (.op (.fld 3) (.cons (.inp 5) .nil)) (.cst (.tuple #[]))) .nil) (.chk none (.bin .eql) (.cons (.bv 10) (.cons (.cst (.int .i64 7)) .nil)) (.isb none (.bv 9) (.done [(0, (.op (.bin .eql) (.cons (.bv 10) (.cons (.cst (.int .i64 7)) .nil))))] none)))) (.isb none (.bv 9) (.done [(0, (.cst (.bool false)))] none)))))))))) (.isb none (.bv 7) (.isb none (.cst (.bool false)) (.isb none (.cst (.bool false)) (.done [(0, (.cst (.bool false)))] none)))))))))
@[simp] theorem r5_0_wp : type_of% (@wpR r5_0 _ r5_0.eq_1) := wpR r5_0.eq_1
@[simp] theorem r5_0_wpq : type_of% (@wpRq r5_0 _ r5_0.eq_1) := wpRq r5_0.eq_1
@[simp] theorem r5_0_wpm : type_of% (@wpRm r5_0 _ r5_0.eq_1) := wpRm r5_0.eq_1
def r5_1 : RT := (.isb none (.bv 2) (.ite (.bv 5) true r5_0 (.isb none (.bv 5) (.isb none (.cst (.bool false)) (.isb none (.cst (.bool false)) (.isb none (.cst (.bool false)) (.done [(0, (.cst (.bool false)))] none)))))))
@[simp] theorem r5_1_wp : type_of% (@wpR r5_1 _ r5_1.eq_1) := wpR r5_1.eq_1
@[simp] theorem r5_1_wpq : type_of% (@wpRq r5_1 _ r5_1.eq_1) := wpRq r5_1.eq_1
@[simp] theorem r5_1_wpm : type_of% (@wpRm r5_1 _ r5_1.eq_1) := wpRm r5_1.eq_1
def r5_2 : RT := (.eff (.call 29) (.cons (.bv 3) (.cons (.bv 4) .nil)) r5_1)
@[simp] theorem r5_2_wp : type_of% (@wpR r5_2 _ r5_2.eq_1) := wpR r5_2.eq_1
@[simp] theorem r5_2_wpq : type_of% (@wpRq r5_2 _ r5_2.eq_1) := wpRq r5_2.eq_1
@[simp] theorem r5_2_wpm : type_of% (@wpRm r5_2 _ r5_2.eq_1) := wpRm r5_2.eq_1
def r5_3 : RT := (.eff (.bsl 3 1 1 #[(.int .i64 0)] [0]) (.cons (.cst (.int .i64 1)) .nil) r5_2)
@[simp] theorem r5_3_wp : type_of% (@wpR r5_3 _ r5_3.eq_1) := wpR r5_3.eq_1
@[simp] theorem r5_3_wpq : type_of% (@wpRq r5_3 _ r5_3.eq_1) := wpRq r5_3.eq_1
@[simp] theorem r5_3_wpm : type_of% (@wpRm r5_3 _ r5_3.eq_1) := wpRm r5_3.eq_1
def r5_4 : RT := (.eff (.call 22) (.cons (.ite (.bv 2) true (.inp 3) (.cst (.tuple #[]))) (.cons (.cst (.int .i64 7)) .nil)) r5_3)
@[simp] theorem r5_4_wp : type_of% (@wpR r5_4 _ r5_4.eq_1) := wpR r5_4.eq_1
@[simp] theorem r5_4_wpq : type_of% (@wpRq r5_4 _ r5_4.eq_1) := wpRq r5_4.eq_1
@[simp] theorem r5_4_wpm : type_of% (@wpRm r5_4 _ r5_4.eq_1) := wpRm r5_4.eq_1
def r5_5 : RT := (.chk none (.bin .eql) (.cons (.bv 1) (.cons (.cst (.int .u64 30)) .nil)) (.isb none (.bv 0) (.bnd (.op (.bin .eql) (.cons (.bv 1) (.cons (.cst (.int .u64 30)) .nil))) (.ite (.bv 2) true r5_4 (.isb none (.bv 2) (.isb none (.cst (.bool false)) (.isb none (.cst (.bool false)) (.isb none (.cst (.bool false)) (.isb none (.cst (.bool false)) (.done [(0, (.cst (.bool false)))] none))))))))))
@[simp] theorem r5_5_wp : type_of% (@wpR r5_5 _ r5_5.eq_1) := wpR r5_5.eq_1
@[simp] theorem r5_5_wpq : type_of% (@wpRq r5_5 _ r5_5.eq_1) := wpRq r5_5.eq_1
@[simp] theorem r5_5_wpm : type_of% (@wpRm r5_5 _ r5_5.eq_1) := wpRm r5_5.eq_1
def r5_6 : RT := (.eff (.call 14) (.cons (.ite (.bv 0) true (.inp 3) (.cst (.tuple #[]))) (.cons (.cst (.int .i64 7)) .nil)) r5_5)
@[simp] theorem r5_6_wp : type_of% (@wpR r5_6 _ r5_6.eq_1) := wpR r5_6.eq_1
@[simp] theorem r5_6_wpq : type_of% (@wpRq r5_6 _ r5_6.eq_1) := wpRq r5_6.eq_1
@[simp] theorem r5_6_wpm : type_of% (@wpRm r5_6 _ r5_6.eq_1) := wpRm r5_6.eq_1
def h5_0 : HC := (.seq (.reg (.chk none (.cal 8) (.cons (.inp 4) .nil) (.chk none (.bin .eql) (.cons (.op (.cal 8) (.cons (.inp 4) .nil)) (.cons (.cst (.int .i64 0)) .nil)) (.bnd (.op (.bin .eql) (.cons (.op (.cal 8) (.cons (.inp 4) .nil)) (.cons (.cst (.int .i64 0)) .nil))) (.ite (.bv 0) true r5_6 (.isb none (.bv 0) (.isb none (.cst (.bool false)) (.isb none (.cst (.bool false)) (.isb none (.cst (.bool false)) (.isb none (.cst (.bool false)) (.isb none (.cst (.bool false)) (.done [(0, (.cst (.bool false)))] none)))))))))))) .ret)
@[simp] theorem h5_0_wp : type_of% (@wpH h5_0 _ h5_0.eq_1) := wpH h5_0.eq_1
def h5_1 : HC := (.seq (.reg (.eff (.call 28) (.cons (.inp 2) (.cons (.cst (.int .i64 1)) .nil)) (.chk none (.ext 0) (.cons (.bv 0) .nil) (.chk none (.ext 1) (.cons (.bv 0) .nil) (.eff (.new 60 (.agg #[(.int .i64 0), (.int .i64 0), (.int .i64 0), (.int .i64 0)])) .nil (.eff (.st 4) (.cons (.bv 1) (.cons (.op (.ext 0) (.cons (.bv 0) .nil)) .nil)) (.done [(5, (.bv 1)), (6, (.op (.ext 1) (.cons (.bv 0) .nil)))] none))))))) h5_0)
@[simp] theorem h5_1_wp : type_of% (@wpH h5_1 _ h5_1.eq_1) := wpH h5_1.eq_1
def h5_2 : HC := (.seq (.reg (.chk none (.build #[(.int .i64 0), (.int .i64 0), (.int .u64 0), (.int .u64 0), (.slice none 0 0)] [(0, 1), (1, 1), (2, 1), (3, 1), (4, 1)] [0, 1, 2]) (.cons (.cst (.int .i64 1)) (.cons (.cst (.int .i64 1)) (.cons (.cst (.int .u64 30)) .nil))) (.eff (.call 27) (.cons (.inp 3) (.cons (.cst (.int .i64 7)) (.cons (.op (.build #[(.int .i64 0), (.int .i64 0), (.int .u64 0), (.int .u64 0), (.slice none 0 0)] [(0, 1), (1, 1), (2, 1), (3, 1), (4, 1)] [0, 1, 2]) (.cons (.cst (.int .i64 1)) (.cons (.cst (.int .i64 1)) (.cons (.cst (.int .u64 30)) .nil)))) .nil))) (.done [(4, (.bv 0))] none)))) h5_1)
@[simp] theorem h5_2_wp : type_of% (@wpH h5_2 _ h5_2.eq_1) := wpH h5_2.eq_1
def h5_3 : HC := (.seq (.reg (.done [(0, (.cst (.bool false)))] none)) .ret)
@[simp] theorem h5_3_wp : type_of% (@wpH h5_3 _ h5_3.eq_1) := wpH h5_3.eq_1
def h5_4 : HC := (.seq (.br (.chk none (.eqNil false (.pointer 95) (.pointer none)) (.cons (.inp 3) .nil) (.done [] (some (.op (.eqNil false (.pointer 95) (.pointer none)) (.cons (.inp 3) .nil))))) h5_3 .skip) h5_2)
@[simp] theorem h5_4_wp : type_of% (@wpH h5_4 _ h5_4.eq_1) := wpH h5_4.eq_1
def h5_5 : HC := (.seq (.reg (.eff (.call 26) .nil (.chk none (.ext 0) (.cons (.bv 0) .nil) (.chk none (.ext 1) (.cons (.bv 0) .nil) (.chk none (.ext 2) (.cons (.bv 0) .nil) (.done [(1, (.op (.ext 0) (.cons (.bv 0) .nil))), (2, (.op (.ext 1) (.cons (.bv 0) .nil))), (3, (.op (.ext 2) (.cons (.bv 0) .nil)))] none)))))) h5_4)
@[simp] theorem h5_5_wp : type_of% (@wpH h5_5 _ h5_5.eq_1) := wpH h5_5.eq_1
def l5 : Lifted := ⟨[0, 1, 2, 3, 4, 5, 6], 55, [.slot 0], (.seq (.reg (.done [(0, (.cst (.bool false)))] none)) h5_5)⟩
theorem l5_ok : liftFn E2 5 400 = some l5 := by kernel_rfl
theorem ints_spec (x y : List Int) (v1 v2 : Value) (w0 w : World) (A : Asn) (hx : x.length ≤ 1048576) (h1 : Row w0 A v1 x.length 1 (Gd.ints x)) (h2 : Row w0 A v2 y.length 1 (Gd.ints y)) (s : St w0 A w) :
    CallW Tryz.prog 29 [v1, v2] (fun r w' => r = .bool (x == y) ∧ St w0 A w') w := by
  obtain ⟨a1, c1, rfl⟩ := h1.val
  obtain ⟨a2, c2, rfl⟩ := h2.val
  refine callW_of_lift l29_ok (by simp [l29]) ?_
  simp [l29]
  refine cndI (fun h => ?_) (fun h => ?_)
  · simp at h
    have : (x == y) = false := by
      simp only [beq_eq_false_iff_ne]
      rintro rfl
      exact h rfl
    simp [this]
    exact s
  simp at h
  simp
  refine loopI (fun env w' => ∃ (i : Nat), env = [.slice a1 x.length c1, .slice a2 y.length c2, .bool false, .int .i64 i] ∧ i ≤ x.length ∧ x.take i = y.take i ∧ St w0 A w')
    (fun env _ => x.length - slotN env 3) ⟨0, rfl, by omega, rfl, s⟩ ?_
  rintro LQ env w' ⟨i, rfl, hi, ht, s'⟩ hN hE hR
  simp
  refine cndI (fun h3 => ?_) (fun h3 => ?_)
  · simp at h3
    obtain ⟨g1, o1, c1', e1, k1⟩ := h1.at (by omega)
    cases e1
    obtain ⟨g2, o2, c2', e2, k2⟩ := h2.at (by omega)
    cases e2
    have hy : i < y.length := by omega
    refine brqI s' ?_
    simp [h3]
    refine effq_ldc (fun w s => k1 w s i _ (Gd.ints_at h3)) ?_
    simp [hy]
    refine effq_ldc (fun w s => k2 w s i _ (Gd.ints_at hy)) ?_
    simp
    intro w2 s2
    refine cndI (fun h4 => ?_) (fun h4 => ?_)
    · simp at h4
      have : (x == y) = false := by
        simp only [beq_eq_false_iff_ne]
        rintro rfl
        exact h4 rfl
      simp
      refine hR _ _ ?_
      simp [this]
      exact s2
    · simp at h4
      simp [thenQ]
      try simp (disch := omega) only [wrap64]
      refine hN _ _ ⟨i + 1, by simp, by omega, ?_, s2⟩ (by simp [slotN]; omega)
      rw [List.take_succ_eq_append_getElem h3, List.take_succ_eq_append_getElem hy, ht, h4]
  · simp at h3
    simp
    refine hE _ _ _ ?_
    simp
    have e : i = x.length := by omega
    have e2 : i = y.length := by omega
    rw [e, List.take_length, ← e, e2, List.take_length] at ht
    subst ht
    simp
    exact s'
theorem items_spec (x y : List Gd.It) (v1 v2 : Value) (w0 w : World) (A : Asn) (hx : x.length ≤ 1048576) (h1 : Row w0 A v1 x.length 4 (Gd.flat x)) (h2 : Row w0 A v2 y.length 4 (Gd.flat y)) (s : St w0 A w) :
    CallW Tryz.prog 70 [v1, v2] (fun r w' => r = .bool (x == y) ∧ St w0 A w') w := by
  obtain ⟨a1, c1, rfl⟩ := h1.val
  obtain ⟨a2, c2, rfl⟩ := h2.val
  refine callW_of_lift l70_ok (by simp [l70]) ?_
  simp [l70]
  refine cndI (fun h => ?_) (fun h => ?_)
  · simp at h
    have : (x == y) = false := by
      simp only [beq_eq_false_iff_ne]
      rintro rfl
      exact h rfl
    simp [this]
    exact s
  simp at h
  simp
  refine loopI (fun env w' => ∃ (i : Nat), env = [.slice a1 x.length c1, .slice a2 y.length c2, .bool false, .int .i64 i] ∧ i ≤ x.length ∧ x.take i = y.take i ∧ St w0 A w')
    (fun env _ => x.length - slotN env 3) ⟨0, rfl, by omega, rfl, s⟩ ?_
  rintro LQ env w' ⟨i, rfl, hi, ht, s'⟩ hN hE hR
  simp
  refine cndI (fun h3 => ?_) (fun h3 => ?_)
  · simp at h3
    obtain ⟨g1, o1, c1', e1, k1⟩ := h1.at (by omega)
    cases e1
    obtain ⟨g2, o2, c2', e2, k2⟩ := h2.at (by omega)
    cases e2
    have hy : i < y.length := by omega
    simp
    refine brqI s' ?_
    simp [h3]
    refine effq_ldcs (vs := x[i].cs) (fun w s j u hu => by rw [Nat.add_assoc]; exact k1 w s _ _ (Gd.flat_at h3 j u hu)) rfl ?_
    simp [hy]
    refine effq_ldcs (vs := y[i].cs) (fun w s j u hu => by rw [Nat.add_assoc]; exact k2 w s _ _ (Gd.flat_at hy j u hu)) rfl ?_
    simp
    refine effq_neqS Gd.itemT _ _ rfl rfl x[i].cs_holds y[i].cs_holds ?_
    rw [Gd.It.list_eq]
    simp
    intro w2 s2
    refine cndI (fun h4 => ?_) (fun h4 => ?_)
    · simp at h4
      have : (x == y) = false := by
        simp only [beq_eq_false_iff_ne]
        rintro rfl
        exact h4 rfl
      simp
      refine hR _ _ ?_
      simp [this]
      exact s2
    · simp at h4
      simp [thenQ]
      try simp (disch := omega) only [wrap64]
      refine hN _ _ ⟨i + 1, by simp, by omega, ?_, s2⟩ (by simp [slotN]; omega)
      rw [List.take_succ_eq_append_getElem h3, List.take_succ_eq_append_getElem hy, ht, h4]
  · simp at h3
    simp
    refine hE _ _ _ ?_
    simp
    have e : i = x.length := by omega
    have e2 : i = y.length := by omega
    rw [e, List.take_length, ← e, e2, List.take_length] at ht
    subst ht
    simp
    exact s'
theorem accounts_spec (x y : List Pu.Ac) (v1 v2 : Value) (w0 w : World) (A : Asn) (hx : x.length ≤ 1048576) (h1 : Row w0 A v1 x.length 2 (Pu.flat x)) (h2 : Row w0 A v2 y.length 2 (Pu.flat y)) (s : St w0 A w) :
    CallW Tryz.prog 66 [v1, v2] (fun r w' => r = .bool (x == y) ∧ St w0 A w') w := by
  obtain ⟨a1, c1, rfl⟩ := h1.val
  obtain ⟨a2, c2, rfl⟩ := h2.val
  refine callW_of_lift l66_ok (by simp [l66]) ?_
  simp [l66]
  refine cndI (fun h => ?_) (fun h => ?_)
  · simp at h
    have : (x == y) = false := by
      simp only [beq_eq_false_iff_ne]
      rintro rfl
      exact h rfl
    simp [this]
    exact s
  simp at h
  simp
  refine loopI (fun env w' => ∃ (i : Nat), env = [.slice a1 x.length c1, .slice a2 y.length c2, .bool false, .int .i64 i] ∧ i ≤ x.length ∧ x.take i = y.take i ∧ St w0 A w')
    (fun env _ => x.length - slotN env 3) ⟨0, rfl, by omega, rfl, s⟩ ?_
  rintro LQ env w' ⟨i, rfl, hi, ht, s'⟩ hN hE hR
  simp
  refine cndI (fun h3 => ?_) (fun h3 => ?_)
  · simp at h3
    obtain ⟨g1, o1, c1', e1, k1⟩ := h1.at (by omega)
    cases e1
    obtain ⟨g2, o2, c2', e2, k2⟩ := h2.at (by omega)
    cases e2
    have hy : i < y.length := by omega
    simp
    refine brqI s' ?_
    simp [h3]
    refine effq_ldcs (vs := x[i].cs) (fun w s j u hu => by rw [Nat.add_assoc]; exact k1 w s _ _ (Pu.flat_at h3 j u hu)) rfl ?_
    simp [hy]
    refine effq_ldcs (vs := y[i].cs) (fun w s j u hu => by rw [Nat.add_assoc]; exact k2 w s _ _ (Pu.flat_at hy j u hu)) rfl ?_
    simp
    refine effq_neqP Pu.accT x[i].pv y[i].pv rfl rfl ?_
    rw [Pu.Ac.pv_eq]
    simp
    intro w2 s2
    refine cndI (fun h4 => ?_) (fun h4 => ?_)
    · simp at h4
      have : (x == y) = false := by
        simp only [beq_eq_false_iff_ne]
        rintro rfl
        exact h4 rfl
      simp
      refine hR _ _ ?_
      simp [this]
      exact s2
    · simp at h4
      simp [thenQ]
      try simp (disch := omega) only [wrap64]
      refine hN _ _ ⟨i + 1, by simp, by omega, ?_, s2⟩ (by simp [slotN]; omega)
      rw [List.take_succ_eq_append_getElem h3, List.take_succ_eq_append_getElem hy, ht, h4]
  · simp at h3
    simp
    refine hE _ _ _ ?_
    simp
    have e : i = x.length := by omega
    have e2 : i = y.length := by omega
    rw [e, List.take_length, ← e, e2, List.take_length] at ht
    subst ht
    simp
    exact s'
theorem has_spec (p : Nat) (P : Pu.Ps) (n k : Int) (w0 w : World) (A : Asn) (hP : P.rows.length ≤ 64) (s : St w0 (A * Pu.pur p P) w) :
    CallW Tryz.prog 30 [.pointer (some ⟨p, 0, none⟩), .int .i64 n, .int .u64 k] (fun r w' => r = .bool (decide ((Pu.getF P n).2 = 0 ∧ (Pu.getF P n).1.coins = k)) ∧ St w0 (A * Pu.pur p P) w') w := by
  refine callW_of_lift l30_ok (by simp [l30]) ?_
  simp [l30]
  refine eff_call ((Pu.Get_spec p P n w0 w A hP s).mono ?_)
  rintro r w1 ⟨rfl, s1⟩
  simp
  refine eff_new s1 fun b w2 s2 => ?_
  simp
  refine eff_stA (vs := (Pu.getF P n).1.cs) s2 rfl rfl (Pu.cs_one _) (by simp) fun w3 s3 => ?_
  simp
  have s4 : St w0 (A * Pu.pur p P * pt b (.cells (Pu.getF P n).1.cs.toArray 58 (0, 0))) w3 := by simpa [Pu.Ac.cs] using s3
  by_cases h : (Pu.getF P n).2 = 0
  · simp [h]
    refine eff_ldc (v := .int .u64 (Pu.getF P n).1.coins) ((cell_of s4.look).trans rfl) ?_
    simp
    exact s4.drop
  · simp [h]
    exact s4.drop
theorem New_spec (p g : Nat) (lp lg : Int) (P : Pu.Ps) (its : List Gd.It) (w0 w : World) (A : Asn) (hP : Pu.PI lp P) (h0 : P.held = 0) (h : St w0 (A * Pu.pur p P * Gd.gds g lg its) w) :
    CallW Tryz.prog 73 [.pointer (some ⟨p, 0, none⟩), .pointer (some ⟨g, 0, none⟩)]
      (fun r w' => ∃ s, r = .tuple #[.pointer (some ⟨s, 0, none⟩), .int .i64 0] ∧ St w0 (A * ecoA p g s lg ⟨P, its, []⟩) w') w := by
  refine callW_of_lift l73_ok (by simp [l73]) ?_
  simp [l73]
  have hz : escE [] P.held = 0 := by unfold escE; rw [h0]; decide
  refine eff_call ((Load_spec p g lp lg [] (.slice none 0 0) P its w0 w A hP (by simp) (by simp) (row_nil w0 A 2) h).mono ?_)
  rintro r w1 (⟨_, s, rfl, h1⟩ | ⟨hn, _⟩)
  · simp
    exact h1
  · exact absurd hz hn
def PG1 : Pu.Ps := ⟨3, [⟨Pu.bankB, 0⟩, ⟨[65, 110, 110], 0⟩], 0, 0⟩
def PG2 : Pu.Ps := ⟨3, [⟨Pu.bankB, 0⟩, ⟨[65, 110, 110], 0⟩, ⟨[66, 111, 98], 0⟩], 0, 0⟩
def PG3 : Pu.Ps := ⟨3, [⟨Pu.bankB, 0⟩, ⟨[65, 110, 110], 100⟩, ⟨[66, 111, 98], 0⟩], 100, 0⟩
def PG4 : Pu.Ps := ⟨3, [⟨Pu.bankB, 0⟩, ⟨[65, 110, 110], 100⟩, ⟨[66, 111, 98], 50⟩], 150, 0⟩
def IG : List Gd.It := [⟨1, 0, 1, 0⟩, ⟨2, 0, 2, 0⟩]
def EG : Eco := ⟨PG4, IG, []⟩
theorem eg_ei : EI 3 9 EG := by
  refine ⟨⟨rfl, by decide, by decide, by decide, by decide, by decide, by decide, fun i h => ?_⟩, ⟨⟨fun i h => ?_, by decide⟩, by decide, by decide, by decide⟩, ⟨by decide, by decide⟩, by decide⟩
  · have : i = 0 ∨ i = 1 ∨ i = 2 := by
      have : i < 3 := h
      omega
    rcases this with rfl | rfl | rfl <;> decide +revert
  · have : i = 0 ∨ i = 1 := by
      have : i < 2 := h
      omega
    rcases this with rfl | rfl <;> rfl
set_option maxHeartbeats 1000000 in
theorem given_spec (w0 w : World) (A : Asn) (s : St w0 A w) :
    CallW Tryz.prog 26 [] (fun r w' => ∃ p g s, r = .tuple #[.pointer (some ⟨p, 0, none⟩), .pointer (some ⟨g, 0, none⟩), .pointer (some ⟨s, 0, none⟩)] ∧ St w0 (A * ecoA p g s 9 EG) w') w := by
  refine callW_of_lift l26_ok (by simp [l26]) ?_
  simp [l26]
  refine eff_call ((Pu.New_spec 3 w0 w A s).mono ?_)
  intro r w1 h1
  rw [if_pos (by decide)] at h1
  obtain ⟨p, rfl, s1⟩ := h1
  simp
  refine eff_call ((Gd.New_spec 9 w0 w1 _ s1).mono ?_)
  intro r w2 h2
  rw [if_pos (by decide)] at h2
  obtain ⟨g, rfl, s2⟩ := h2
  simp
  have e1 : Pu.openF ⟨3, [⟨Pu.bankB, 0⟩], 0, 0⟩ [65, 110, 110] = (1, 0, PG1) := by decide +kernel
  have e2 : Pu.openF PG1 [66, 111, 98] = (2, 0, PG2) := by decide +kernel
  have e3 : Pu.mintF PG2 1 100 = (0, PG3) := by decide +kernel
  have e4 : Pu.mintF PG3 2 50 = (0, PG4) := by decide +kernel
  refine eff_call ((Pu.Open_spec p _ [65, 110, 110] w0 w2 (A * Gd.gds g 9 []) (by decide) (by decide) s2.swap).mono ?_)
  rintro r w3 ⟨rfl, s3⟩
  rw [e1] at s3
  simp
  refine eff_call ((Pu.Open_spec p _ [66, 111, 98] w0 w3 (A * Gd.gds g 9 []) (by decide) (by decide) s3).mono ?_)
  rintro r w4 ⟨rfl, s4⟩
  rw [e2] at s4
  simp
  refine eff_call ((Pu.Mint_spec p _ 1 100 w0 w4 (A * Gd.gds g 9 []) (Pu.bd_of (by decide +kernel)) (by decide) s4).mono ?_)
  rintro r w5 ⟨rfl, s5⟩
  rw [e3] at s5
  simp
  refine eff_call ((Pu.Mint_spec p _ 2 50 w0 w5 (A * Gd.gds g 9 []) (Pu.bd_of (by decide +kernel)) (by decide) s5).mono ?_)
  rintro r w6 ⟨rfl, s6⟩
  rw [e4] at s6
  simp
  refine eff_call ((Gd.Make_spec g 9 [] 0 1 w0 w6 (A * Pu.pur p PG4) (by decide) s6.swap).mono ?_)
  rintro r w7 ⟨rfl, s7⟩
  simp
  refine eff_call ((Gd.Make_spec g 9 _ 0 2 w0 w7 (A * Pu.pur p PG4) (by decide) s7).mono ?_)
  rintro r w8 ⟨rfl, s8⟩
  simp
  have s8 : St w0 (A * Pu.pur p PG4 * Gd.gds g 9 IG) w8 := s8
  refine eff_call ((New_spec p g 3 9 PG4 IG w0 w8 A eg_ei.P rfl s8).mono ?_)
  rintro r w9 ⟨s, rfl, s9⟩
  simp
  exact ⟨p, g, s, ⟨rfl, rfl, rfl⟩, s9⟩
def EA : Eco := ⟨⟨3, [⟨Pu.bankB, 0⟩, ⟨[65, 110, 110], 70⟩, ⟨[66, 111, 98], 50⟩], 150, 30⟩, [⟨1, 0, -1, 7⟩, ⟨2, 0, 2, 0⟩], [(7, 30)]⟩
def ent1 : Et := ⟨1, 1, 30⟩
theorem put_ea : turnF 7 [] (putE 7 ent1) EG = (0, EA) := by decide +kernel
theorem ea_ei : EI 3 9 EA := by
  have := turn_ei (lp := 3) (lg := 9) (c := 7) (gs := []) (bes := putE 7 ent1) eg_ei (by decide) (by simp) (fun E h1 h => put_ei h ⟨h1, by decide⟩ (by decide))
  rw [put_ea] at this
  exact this
set_option maxHeartbeats 1000000 in
theorem awake_spec (w0 w : World) (A : Asn) (s : St w0 A w) : CallW Tryz.prog 5 [] (fun r w' => r = .bool true ∧ St w0 A w') w := by
  refine callW_of_lift l5_ok (by simp [l5]) ?_
  simp [l5]
  refine eff_call ((given_spec w0 w A s).mono ?_)
  rintro r w1 ⟨p, g, s, rfl, s1⟩
  simp [Instr.fill, Value.cells]
  refine eff_call ((Put_spec p g s 3 9 7 0 ent1 (.slice none 0 0) EG w0 w1 A eg_ei (by decide) (by decide) s1).mono ?_)
  rintro r w2 ⟨rfl, s2⟩
  rw [put_ea] at s2 ⊢
  simp
  have s2 : St w0 (A * Pu.pur p EA.P * Gd.gds g 9 EA.its * esc s p g EA.l) w2 := s2.to (by simp only [ecoA]; ac_rfl)
  refine eff_call ((Gd.Get_spec g 9 EA.its 1 w0 w2 (A * Pu.pur p EA.P * esc s p g EA.l) (by decide) (s2.to (by ac_rfl))).mono ?_)
  rintro r w3 ⟨rfl, s3⟩
  simp
  refine eff_new s3 fun b w4 s4 => ?_
  simp
  refine eff_stA (vs := (Gd.getF EA.its 1).1.cs) s4 rfl rfl (Gd.cs_one _) (by simp) fun w5 s5 => ?_
  simp
  have s6 : St w0 (A * Pu.pur p EA.P * esc s p g EA.l * Gd.gds g 9 EA.its * pt b (.cells (Gd.getF EA.its 1).1.cs.toArray 60 (0, 0))) w5 := by simpa [Gd.It.cs] using s5
  refine eff_call ((Coins_spec s p g EA.l 7 w0 w5 (A * Pu.pur p EA.P * Gd.gds g 9 EA.its * pt b (.cells (Gd.getF EA.its 1).1.cs.toArray 60 (0, 0))) ea_ei.R (s6.to (by ac_rfl))).mono ?_)
  rintro r w6 ⟨rfl, rfl⟩
  rw [show cns EA.l 7 = 30 by decide]
  simp
  refine eff_call ((Items_spec p g s 3 9 7 EA w0 w6 (A * pt b (.cells (Gd.getF EA.its 1).1.cs.toArray 60 (0, 0))) ea_ei (s6.to (by simp only [ecoA]; ac_rfl))).mono ?_)
  intro r w7 s7
  rw [show Gd.inF EA.its 7 = [1] by decide] at s7
  obtain ⟨ia, icap, rfl, _⟩ := s7.own_val
  simp
  refine eff_bslO s7 (vs := [.int .i64 1]) (by simp [Value.oneCell']) rfl rfl (by decide) fun cv w8 s8 => ?_
  simp
  generalize hB : A * pt b (.cells (Gd.getF EA.its 1).1.cs.toArray 60 (0, 0)) = B at *
  refine eff_call ((ints_spec [1] [1] (.slice ia 1 icap) cv w0 w8 _ (by decide) (row_in (e := 3) (B := B * ecoA p g s 9 EA * own 3 1 cv 1 [.int .i64 1]) s8 (by simp only [Gd.ints, List.map_cons, List.map_nil, List.length_cons, List.length_nil] <;> ac_rfl)) (row_in (e := 3) (B := B * ecoA p g s 9 EA * own 3 1 (.slice ia 1 icap) 1 [.int .i64 1]) s8 (by simp only [Gd.ints, List.map_cons, List.map_nil, List.length_cons, List.length_nil] <;> ac_rfl)) s8).mono ?_)
  rintro r w9 ⟨rfl, s9⟩
  simp
  have s10 : St w0 (B * Gd.gds g 9 EA.its * esc s p g EA.l * Pu.pur p EA.P) w9 := s9.drop.drop.to (by simp only [ecoA]; ac_rfl)
  refine eff_call ((Pu.Held_spec p EA.P w0 w9 _ s10).mono ?_)
  rintro r w10 ⟨rfl, s11⟩
  rw [show EA.P.held = 30 by rfl]
  simp
  refine eff_call ((has_spec p EA.P 1 70 w0 w10 _ (by decide) s11).mono ?_)
  rintro r w11 ⟨rfl, s12⟩
  rw [show decide ((Pu.getF EA.P 1).2 = 0 ∧ (Pu.getF EA.P 1).1.coins = 70) = true by decide +kernel, show (Gd.getF EA.its 1).2 = 0 by decide]
  simp
  have s13 : St w0 (B * Gd.gds g 9 EA.its * esc s p g EA.l * Pu.pur p EA.P) w11 := s12
  rw [← hB] at s13
  have sA := s13.cut (B := A * pt b (.cells (Gd.getF EA.its 1).1.cs.toArray 60 (0, 0))) (Gd.gds g 9 EA.its * esc s p g EA.l * Pu.pur p EA.P) (by ac_rfl)
  refine eff_ldc (v := .int .i64 7) ((cell_of sA.look).trans rfl) ?_
  simp
  exact sA.drop
end Go.HL.Es

namespace Go.HL.Es
open Go.HL Go.Proofs
set_option maxRecDepth 4000
set_option linter.unusedSimpArgs false
set_option linter.unusedVariables false
def freshM (i m : Nat) : List Int := (List.range m).map fun (k : Nat) => 500000 + 1000 * (i : Int) + k
def gv (o : Option Value) : Value := o.getD (.slice none 0 0)
def GLf (L : Nat → Value) (Z : Nat → List Int) (j : Nat) : Option Value → Asn
  | none => own 3 1 (L j) (Z j).length (Gd.ints (Z j))
  | some g => grw 3 1 (L j) g (Z j).length 40 (Gd.ints (Z j)) (Gd.ints (freshM j 40))
end Go.HL.Es

namespace Go.HL.Nm
open Go.HL Go.Proofs
set_option maxRecDepth 4000
set_option linter.unusedSimpArgs false
set_option linter.unusedVariables false
def hereF (us ps : List Int) (i : Nat) : Bool := (us.drop i).take ps.length == ps
def hasF (us ps : List Int) : Bool := (List.range (us.length + 1)).any fun i => decide (i + ps.length ≤ us.length) && hereF us ps i
end Go.HL.Nm

namespace Go.HL.Nm
open Go.HL Go.Proofs
set_option maxRecDepth 4000
set_option linter.unusedSimpArgs false
set_option linter.unusedVariables false
def cmpL : List Int → List Int → Int
  | [], [] => 0
  | [], _ :: _ => -1
  | _ :: _, [] => 1
  | a :: l, b :: m => if a < b then -1 else if b < a then 1 else cmpL l m
def cmpB (x y : List UInt8) : Int := if Op.bytesLess x y then -1 else if x == y then 0 else 1
def compareF (x y : List UInt8) : Int := if cmpL (foldedF x) (foldedF y) = 0 then cmpB x y else cmpL (foldedF x) (foldedF y)
end Go.HL.Nm

namespace Go.HL.Nm
open Go.HL Go.Proofs
set_option maxRecDepth 4000
set_option linter.unusedSimpArgs false
set_option linter.unusedVariables false
end Go.HL.Nm
