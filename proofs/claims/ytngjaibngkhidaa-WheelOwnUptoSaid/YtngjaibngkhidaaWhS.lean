/-
  Wheel: timers are sorted. No condition.
-/
import Derived.Test.YtngjaibngkhidaaWhF
import Derived.Test.YtngjaibngkhidaaEngS
namespace Go.HL.Wh
open Go.HL Go.Proofs Go.Sort
set_option maxRecDepth 4000
set_option linter.unusedSimpArgs false
set_option linter.unusedVariables false
noncomputable def sortLays_ren : Go.Shelf.Ren := ⟨fun | 6 => 33 | 15 => 47 | 14 => 46 | 28 => 63 | 29 => 64 | 20 => 55 | 21 => 56 | 22 => 57 | 23 => 58 | 24 => 59 | 25 => 60 | 26 => 61 | 27 => 62 | 46 => 66 | 47 => 67 | 48 => 68 | 49 => 69 | 50 => 70 | 57 => 71 | n => n, fun | 22 => 38 | 24 => 32 | 25 => 86 | 3 => 3 | 39 => 101 | 0 => 0 | 53 => 118 | 55 => 120 | 4 => 4 | 46 => 111 | 45 => 110 | 50 => 115 | 5 => 5 | 9 => 9 | 66 => 122 | 70 => 126 | 76 => 128 | 77 => 81 | n => n, fun | n => n⟩
theorem sortLays : Go.Proofs.SlLaysF0.n6 Try.prog sortLays_ren := {
    mixed := by kernel_rfl,
    f6 := ⟨Try.f33.name, by decide, Try.func33.trans (congrArg some (by kernel_rfl))⟩,
    f14 := ⟨Try.f46.name, by decide, Try.func46.trans (congrArg some (by kernel_rfl))⟩,
    f15 := Try.func47.trans (congrArg some (by kernel_rfl)),
    f20 := ⟨Try.f55.name, by decide, Try.func55.trans (congrArg some (by kernel_rfl))⟩,
    f21 := ⟨Try.f56.name, by decide, Try.func56.trans (congrArg some (by kernel_rfl))⟩,
    f22 := ⟨Try.f57.name, by decide, Try.func57.trans (congrArg some (by kernel_rfl))⟩,
    f23 := ⟨Try.f58.name, by decide, Try.func58.trans (congrArg some (by kernel_rfl))⟩,
    f24 := ⟨Try.f59.name, by decide, Try.func59.trans (congrArg some (by kernel_rfl))⟩,
    f25 := ⟨Try.f60.name, by decide, Try.func60.trans (congrArg some (by kernel_rfl))⟩,
    f26 := ⟨Try.f61.name, by decide, Try.func61.trans (congrArg some (by kernel_rfl))⟩,
    f27 := ⟨Try.f62.name, by decide, Try.func62.trans (congrArg some (by kernel_rfl))⟩,
    f28 := Try.func63.trans (congrArg some (by kernel_rfl)),
    f29 := Try.func64.trans (congrArg some (by kernel_rfl)),
    f46 := ⟨Try.f66.name, by decide, Try.func66.trans (congrArg some (by kernel_rfl))⟩,
    f47 := Try.func67.trans (congrArg some (by kernel_rfl)),
    f48 := Try.func68.trans (congrArg some (by kernel_rfl)),
    f49 := ⟨Try.f69.name, by decide, Try.func69.trans (congrArg some (by kernel_rfl))⟩,
    f50 := ⟨Try.f70.name, by decide, Try.func70.trans (congrArg some (by kernel_rfl))⟩,
    f57 := ⟨Try.f71.name, by decide, Try.func71.trans (congrArg some (by kernel_rfl))⟩,
    t0 := Try.underlying0,
    a0 := Try.isAgg0,
    z0 := Try.sizeOf0,
    v0 := Try.zeroValue0,
    t3 := Try.underlying3,
    a3 := Try.isAgg3,
    z3 := Try.sizeOf3,
    v3 := Try.zeroValue3,
    t4 := Try.underlying4,
    a4 := Try.isAgg4,
    z4 := Try.sizeOf4,
    v4 := Try.zeroValue4,
    t5 := Try.underlying5,
    a5 := Try.isAgg5,
    z5 := Try.sizeOf5,
    v5 := Try.zeroValue5,
    t9 := Try.underlying9,
    a9 := Try.isAgg9,
    z9 := Try.sizeOf9,
    v9 := Try.zeroValue9,
    t22 := Try.underlying38,
    a22 := Try.isAgg38,
    z22 := Try.sizeOf38,
    v22 := Try.zeroValue38,
    t25 := Try.underlying86,
    a25 := Try.isAgg86,
    z25 := Try.sizeOf86,
    v25 := Try.zeroValue86,
    t39 := Try.underlying101,
    a39 := Try.isAgg101,
    z39 := Try.sizeOf101,
    v39 := Try.zeroValue101,
    t45 := Try.underlying110,
    a45 := Try.isAgg110,
    z45 := Try.sizeOf110,
    v45 := Try.zeroValue110,
    t46 := Try.underlying111,
    a46 := Try.isAgg111,
    z46 := Try.sizeOf111,
    v46 := Try.zeroValue111,
    t50 := Try.underlying115,
    a50 := Try.isAgg115,
    z50 := Try.sizeOf115,
    v50 := Try.zeroValue115,
    t53 := Try.underlying118,
    a53 := Try.isAgg118,
    z53 := Try.sizeOf118,
    v53 := Try.zeroValue118,
    t55 := Try.underlying120,
    a55 := Try.isAgg120,
    z55 := Try.sizeOf120,
    v55 := Try.zeroValue120,
    t66 := Try.underlying122,
    a66 := Try.isAgg122,
    z66 := Try.sizeOf122,
    v66 := Try.zeroValue122,
    t70 := Try.underlying126,
    a70 := Try.isAgg126,
    z70 := Try.sizeOf126,
    v70 := Try.zeroValue126,
    t76 := Try.underlying128,
    a76 := Try.isAgg128,
    z76 := Try.sizeOf128,
    v76 := Try.zeroValue128,
    t77 := Try.underlying81,
    a77 := Try.isAgg81,
    z77 := Try.sizeOf81,
    v77 := Try.zeroValue81 }
theorem ltOrd (x y : Int × Int) : ltOf ordF x y = decide (x.2 < y.2 ∨ x.2 = y.2 ∧ x.1 < y.1) := by
  unfold ltOf ordF cmpF
  rcases Int.lt_trichotomy x.2 y.2 with h | h | h
  · simp [h]
  · rcases Int.lt_trichotomy x.1 y.1 with g | g | g
    · simp [h, g]
    · simp [h, g]
    · simp [h, show ¬ x.1 < y.1 by omega, g]
  · simp [show ¬ x.2 < y.2 by omega, h, show ¬ x.2 = y.2 by omega]
theorem ordO : SWO (ltOf ordF) where
  irrefl x := by rw [ltOrd]; simp
  trans x y z h1 h2 := by rw [ltOrd] at *; simp at *; omega
  ntrans x y z h1 h2 := by rw [ltOrd] at *; simp at *; omega
theorem ordT (x y : Int × Int) (h1 : ltOf ordF x y = false) (h2 : ltOf ordF y x = false) : x = y := by
  rw [ltOrd] at *
  simp at *
  exact Prod.ext (by omega) (by omega)
theorem order_calls (x y : Int × Int) (W : World) : Calls Try.prog 34 #[.agg (encT x).toArray, .agg (encT y).toArray] W fun e w' => e = .returned (.int .i64 (ordF x y)) ∧ ∃ q os', w' = Sort.grow (W.drewN q) os' := by
  have h : CallW Try.prog 34 [.agg (encT x).toArray, .agg (encT y).toArray] _ W := order_spec x y W W (old W) (St.start W)
  refine Calls.mono h ?_
  rintro e w' ⟨v, rfl, rfl, s⟩
  exact ⟨rfl, s.grown⟩
/-- the timers, sorted -/
def sortT (ts : List (Int × Int)) : List (Int × Int) := ts.mergeSort fun x y => !(ltOf ordF) y x
theorem sortT_len (ts : List (Int × Int)) : (sortT ts).length = ts.length := List.length_mergeSort _
theorem sortT_perm (ts : List (Int × Int)) : (sortT ts).Perm ts := List.mergeSort_perm _ _
theorem sortT_pw (ts : List (Int × Int)) : (sortT ts).Pairwise fun x y => ltOf ordF y x = false := by
  have h := List.pairwise_mergeSort (le := fun x y => !(ltOf ordF) y x) (fun a b c h1 h2 => by
    simp only [Bool.not_eq_true'] at *
    exact ordO.ntrans _ _ _ h2 h1) (fun a b => by
    simp only [Bool.or_eq_true, Bool.not_eq_true', ltOrd, decide_eq_false_iff_not]
    omega) ts
  exact h.imp fun h => by simpa using h
theorem sortT_congr {a b : List (Int × Int)} (h : a.Perm b) : sortT a = sortT b :=
  List.Perm.eq_of_pairwise (fun x y _ _ h1 h2 => ordT x y h2 h1) (sortT_pw a) (sortT_pw b) (((sortT_perm a).trans h).trans (sortT_perm b).symm)
theorem sort_spec {v : Value} (ts : List (Int × Int)) (hsz : ts.length < 4611686018427387904) (w0 w : World) (F : Asn) {K : Value → World → Prop} (s : St w0 (F * own 32 2 v ts.length (ts.flatMap encT)) w)
    (hk : ∀ r w', St w0 (F * own 32 2 v ts.length ((sortT ts).flatMap encT)) w' → K r w') :
    CallW Try.prog 33 [v, .func (.func 34) #[] #[]] K w := by
  have h := sort_run sortLays 2 Try.isAgg32 Try.sizeOf32 encT (fun _ => rfl) (fun x v hv => by simp at hv; rcases hv with rfl | rfl <;> rfl) ordF ordO ordT 34
    (enters_of Try.func34 (by kernel_rfl) rfl) order_calls hsz s
  refine Calls.mono h ?_
  rintro e w' ⟨rfl, s'⟩
  exact ⟨_, rfl, hk _ _ s'⟩
end Go.HL.Wh
