/-
  What the claim leans on, part 10 of 12. Conditions: as each theorem says.
-/
import Derived.Test.YtngjaibngkhidaaWPMi
import Derived.Shelf.SlSortCmp.NoneTotal
namespace Go.HL
open Go.HL Go.Proofs Go.Sort Go.Shelf
set_option linter.unusedSimpArgs false
set_option linter.unusedVariables false
theorem St.ahead {w0 w : World} {A : Asn} (s : St w0 A w) (n : Nat) : St w0 A (Sort.ahead w n) := ⟨s.os, s.out, s.size, ⟨s.ran.1, Nat.le_trans s.ran.2 (Nat.le_add_right _ _)⟩, s.holds⟩
theorem St.grow {w0 w : World} {A : Asn} (s : St w0 A w) (os : Array Obj) : St w0 A (Sort.grow w os) := by
  obtain ⟨g, h1, h2⟩ := s.holds
  refine ⟨s.os, s.out, ?_, s.ran, g, fun b o hb => ?_, h2⟩
  · have := s.size; simp only [size_grow]; omega
  · have h3 : w.heap[b]? = some o := h1 b o hb
    have := (Array.getElem?_eq_some_iff.1 h3).1
    show (w.heap ++ os)[b]? = some o
    rw [Array.getElem?_append_left this]; exact h3
/-- what only draws and lays new blocks -/
theorem St.grown {W w' : World} (s : St W (old W) w') : ∃ q os', w' = Sort.grow (W.drewN q) os' := by
  refine ⟨w'.drawn - W.drawn, w'.heap.extract W.heap.size w'.heap.size, ?_⟩
  have hs := s.size
  have hh : w'.heap = W.heap ++ w'.heap.extract W.heap.size w'.heap.size := by
    apply Array.ext_getElem?
    intro i
    rw [Array.getElem?_append]
    split
    · rename_i hi
      have h0 : W.heap[i]? = some W.heap[i] := by simp [hi]
      rw [s.lookOld0 h0, h0]
    · rename_i hi
      rw [Array.getElem?_extract]
      have e : W.heap.size + (i - W.heap.size) = i := by omega
      rw [e]
      split
      · rfl
      · rename_i h2
        rw [Array.getElem?_eq_none (by omega)]
  cases w' with
  | mk heap tape drawn os output =>
    cases W with
    | mk heap0 tape0 drawn0 os0 output0 =>
      have h1 := s.os; have h2 := s.out; have h3 := s.ran.1; have h4 := s.ran.2
      simp only at h1 h2 h3 h4 hh
      subst h1; subst h2; subst h3
      unfold Sort.grow World.drewN
      simp only [World.mk.injEq, and_true, true_and]
      exact ⟨hh, by omega⟩
theorem flatK_list {α : Type} [Inhabited α] (enc : α → List Value) (k : Nat) (hk : ∀ x, (enc x).length = k) (ts : List α) : (flatK enc k ts.toArray).toList = ts.flatMap enc := by
  apply List.ext_getElem?
  intro j
  have hl := flat_length enc k hk ts
  by_cases hj : j < ts.length * k
  · have k0 : 0 < k := by
      rcases Nat.eq_zero_or_pos k with h | h
      · subst h; simp at hj
      · exact h
    have hd : j / k < ts.length := (Nat.div_lt_iff_lt_mul k0).2 hj
    have hm := Nat.mod_lt j k0
    have hg := get_flatK enc k ts.toArray j (by simpa using hj)
    have hsz : (flatK enc k ts.toArray).size = ts.length * k := by simp
    rw [Array.getElem?_toList, Array.getElem?_eq_getElem (by rw [hsz]; exact hj), ← getElem!_pos (flatK enc k ts.toArray) j (by rw [hsz]; exact hj), hg]
    have h2 := flat_get enc k hk ts (j / k) (j % k) hd hm
    rw [Nat.mul_comm, Nat.div_add_mod] at h2
    rw [h2]
    have e1 : ts.toArray[j / k]! = ts[j / k] := by
      rw [getElem!_pos ts.toArray (j / k) (by simpa using hd)]; simp
    rw [e1, getElem!_pos (enc ts[j / k]) (j % k) (by rw [hk]; exact hm)]
    exact (List.getElem?_eq_getElem _).symm
  · rw [List.getElem?_eq_none (by simp; omega), List.getElem?_eq_none (by rw [hl]; omega)]
theorem putCells_list {α : Type} [Inhabited α] (enc : α → Value) (d : Array α) (c : Array Value) (h : d.size ≤ c.size) : putCells enc 0 d c = (d.toList.map enc ++ c.toList.drop d.size).toArray := by
  apply Array.ext'
  apply List.ext_getElem?
  intro i
  rw [List.toList_toArray, Array.getElem?_toList]
  unfold putCells
  rw [Array.getElem?_mapIdx]
  by_cases hi : i < d.size
  · have hi' : i < c.size := by omega
    rw [Array.getElem?_eq_getElem hi', List.getElem?_append_left (by simpa using hi)]
    simp [hi]
  · rw [List.getElem?_append_right (by simp; omega)]
    simp only [List.length_map, Array.length_toList, List.getElem?_drop, Array.getElem?_toList]
    rw [show d.size + (i - d.size) = i by omega]
    cases c[i]? with
    | none => rfl
    | some x => simp [hi]
/-- the row is sorted in place -/
theorem sort_run {P : Program} {ρ : Ren} {α : Type} [Inhabited α] (L : SlLaysF0.n6 P ρ) (k : Nat) (aE : ∀ w, (isAgg (ρ.t 24)).run P w = .ok true w) (zE : ∀ w, (Go.sizeOf (ρ.t 24)).run P w = .ok k w) (enc : α → List Value) (hk : ∀ x, (enc x).length = k) (h1 : ∀ x, ∀ v ∈ enc x, v.oneCell' = true)
    (cf : α → α → Int) (hO : SWO (ltOf cf)) (hT : ∀ x y, (ltOf cf) x y = false → (ltOf cf) y x = false → x = y) (g : Nat) (eg : ∀ args w, (callFunc g args).run P w = .ok (.enter g args) w)
    (hc : ∀ x y W, Calls P g #[.agg (enc x).toArray, .agg (enc y).toArray] W fun e w' => e = .returned (.int .i64 (cf x y)) ∧ ∃ q os', w' = Sort.grow (W.drewN q) os')
    {e : TypeId} {v : Value} {ts : List α} (hsz : ts.length < 4611686018427387904) {w0 w : World} {F : Asn} (s : St w0 (F * own e k v ts.length (ts.flatMap enc)) w) :
    Calls P (ρ.f 6) #[v, .func (.func g) #[] #[]] w fun e' w' => e' = .returned (.tuple #[]) ∧ St w0 (F * own e k v ts.length ((ts.mergeSort fun x y => !(ltOf cf) y x).flatMap enc)) w' := by
  obtain ⟨hl, s'⟩ := s.own
  rcases s' with ⟨hv, hn, s1⟩ | ⟨b, cap, cur, rfl, hcap, hm, hcur, hx, s1⟩
  · have h0 := List.length_eq_zero_iff.1 hn
    subst h0
    subst hv
    refine (AnyF.slices_SortFunc_none L none 0 _ w).mono ?_
    rintro e' w' ⟨he, rfl⟩
    exact ⟨he, by simpa using s⟩
  · have hb := s1.look
    have hlt := (Array.getElem?_eq_some_iff.1 hb).1
    have hfl := flatK_list enc k hk ts
    have hle : ts.length * k ≤ cur.size := Nat.le_trans (Nat.mul_le_mul_right k hcap) hcur
    have hH : HoldsK enc k w b 0 ts.toArray := by
      intro j hj
      have hj : j < ts.length * k := by simpa using hj
      have hsz : (flatK enc k ts.toArray).size = ts.length * k := by simp
      refine ⟨?_, by simp [World.frozen?, hb]⟩
      have e1 : (flatK enc k ts.toArray)[j]? = some ((flatK enc k ts.toArray)[j]!) := by
        rw [getElem!_pos (flatK enc k ts.toArray) j (by rw [hsz]; exact hj)]; simp [hj]
      rw [← Array.getElem?_toList, hfl, ← hx, List.getElem?_take, if_pos hj] at e1
      simp only [World.cell?, hb]
      simpa using e1
    have hcon := AnyQ.slices_SortFunc_total L k aE zE enc hk h1 cf hO g #[] b 0 cap ts.toArray w eg (fun m os dk _ x y => hc x y _) hH hlt (by simpa using hsz) hT
    refine Calls.mono (by simpa using hcon) ?_
    rintro e' w' ⟨he, n, os, rfl⟩
    refine ⟨he, ?_⟩
    unfold sortWorldK
    refine St.grow ?_ os
    obtain ⟨us, hus⟩ : ∃ us, (ts.mergeSort fun x y => !(ltOf cf) y x) = us := ⟨_, rfl⟩
    have hul : us.length = ts.length := by rw [← hus]; exact List.length_mergeSort _
    rw [hus]
    have hfu := flatK_list enc k hk us
    have s2 := s1.ahead n
    have hb2 : (Sort.ahead w n).heap[b]? = some (.cells cur e (0, 0)) := hb
    have hszu : (flatK enc k us.toArray).size = us.length * k := by simp
    have hp := putCells_list id (flatK enc k us.toArray) cur (by rw [hszu, hul]; exact hle)
    rw [List.map_id, hfu, hszu] at hp
    have s3 : St w0 (F * pt b (.cells (us.flatMap enc ++ cur.toList.drop (us.length * k)).toArray e (0, 0))) (putRowK enc k (Sort.ahead w n) b 0 us.toArray) := by
      rw [← hp]
      refine s2.turn ?_ (fun c hc => ?_) (by simp [putRowK]) rfl rfl (fun _ _ _ h => by cases h; rfl)
      · show ((Sort.ahead w n).heap.modify b _)[b]? = _
        rw [Array.getElem?_modify, if_pos rfl, hb2]; rfl
      · show ((Sort.ahead w n).heap.modify b _)[c]? = _
        rw [Array.getElem?_modify, if_neg (Ne.symm hc)]
    have hfl2 := flat_length enc k hk us
    refine s3.own_mk' hcap hm ?_ ?_
    · simp only [List.size_toArray, List.length_append, List.length_drop, Array.length_toList, hfl2]
      rw [hul]; omega
    · rw [List.toList_toArray, List.take_append_of_le_length (by rw [hfl2, hul]; exact Nat.le_refl _), List.take_of_length_le (by rw [hfl2, hul]; exact Nat.le_refl _)]
end Go.HL

namespace Go.HL.Wh
open Go.HL Go.Proofs Go.Sort
set_option maxRecDepth 4000
set_option linter.unusedSimpArgs false
set_option linter.unusedVariables false
noncomputable def sortLays_ren : Go.Shelf.Ren := ⟨fun | 6 => 33 | 15 => 47 | 14 => 46 | 28 => 63 | 29 => 64 | 20 => 55 | 21 => 56 | 22 => 57 | 23 => 58 | 24 => 59 | 25 => 60 | 26 => 61 | 27 => 62 | 46 => 66 | 47 => 67 | 48 => 68 | 49 => 69 | 50 => 70 | 57 => 71 | n => n, fun | 22 => 38 | 24 => 32 | 25 => 86 | 3 => 3 | 39 => 101 | 0 => 0 | 53 => 118 | 55 => 120 | 4 => 4 | 46 => 111 | 45 => 110 | 50 => 115 | 5 => 5 | 9 => 9 | 66 => 122 | 70 => 126 | 76 => 128 | 77 => 81 | n => n, fun | n => n⟩
theorem sortLays : Go.Proofs.SlLaysF0.n6 Try.prog sortLays_ren := {
    mixed := by kernel_rfl,
    f6 := ⟨Try.f33.name, by decide, Try.func33.trans (congrArg some (by kernel_rfl))⟩,
    f14 := ⟨Try.f46.name, by decide, Try.func46.trans (congrArg some (by kernel_rfl))⟩,
    f15 := Try.func47.trans (congrArg some (by kernel_rfl)),
    f20 := ⟨Try.f55.name, by decide, Try.func55.trans (congrArg some (by kernel_rfl))⟩,
    f21 := ⟨Try.f56.name, by decide, Try.func56.trans (congrArg some (by kernel_rfl))⟩,
    f22 := ⟨Try.f57.name, by decide, Try.func57.trans (congrArg some (by kernel_rfl))⟩,
    f23 := ⟨Try.f58.name, by decide, Try.func58.trans (congrArg some (by kernel_rfl))⟩,
    f24 := ⟨Try.f59.name, by decide, Try.func59.trans (congrArg some (by kernel_rfl))⟩,
    f25 := ⟨Try.f60.name, by decide, Try.func60.trans (congrArg some (by kernel_rfl))⟩,
    f26 := ⟨Try.f61.name, by decide, Try.func61.trans (congrArg some (by kernel_rfl))⟩,
    f27 := ⟨Try.f62.name, by decide, Try.func62.trans (congrArg some (by kernel_rfl))⟩,
    f28 := Try.func63.trans (congrArg some (by kernel_rfl)),
    f29 := Try.func64.trans (congrArg some (by kernel_rfl)),
    f46 := ⟨Try.f66.name, by decide, Try.func66.trans (congrArg some (by kernel_rfl))⟩,
    f47 := Try.func67.trans (congrArg some (by kernel_rfl)),
    f48 := Try.func68.trans (congrArg some (by kernel_rfl)),
    f49 := ⟨Try.f69.name, by decide, Try.func69.trans (congrArg some (by kernel_rfl))⟩,
    f50 := ⟨Try.f70.name, by decide, Try.func70.trans (congrArg some (by kernel_rfl))⟩,
    f57 := ⟨Try.f71.name, by decide, Try.func71.trans (congrArg some (by kernel_rfl))⟩,
    t0 := Try.underlying0,
    a0 := Try.isAgg0,
    z0 := Try.sizeOf0,
    v0 := Try.zeroValue0,
    t3 := Try.underlying3,
    a3 := Try.isAgg3,
    z3 := Try.sizeOf3,
    v3 := Try.zeroValue3,
    t4 := Try.underlying4,
    a4 := Try.isAgg4,
    z4 := Try.sizeOf4,
    v4 := Try.zeroValue4,
    t5 := Try.underlying5,
    a5 := Try.isAgg5,
    z5 := Try.sizeOf5,
    v5 := Try.zeroValue5,
    t9 := Try.underlying9,
    a9 := Try.isAgg9,
    z9 := Try.sizeOf9,
    v9 := Try.zeroValue9,
    t22 := Try.underlying38,
    a22 := Try.isAgg38,
    z22 := Try.sizeOf38,
    v22 := Try.zeroValue38,
    t25 := Try.underlying86,
    a25 := Try.isAgg86,
    z25 := Try.sizeOf86,
    v25 := Try.zeroValue86,
    t39 := Try.underlying101,
    a39 := Try.isAgg101,
    z39 := Try.sizeOf101,
    v39 := Try.zeroValue101,
    t45 := Try.underlying110,
    a45 := Try.isAgg110,
    z45 := Try.sizeOf110,
    v45 := Try.zeroValue110,
    t46 := Try.underlying111,
    a46 := Try.isAgg111,
    z46 := Try.sizeOf111,
    v46 := Try.zeroValue111,
    t50 := Try.underlying115,
    a50 := Try.isAgg115,
    z50 := Try.sizeOf115,
    v50 := Try.zeroValue115,
    t53 := Try.underlying118,
    a53 := Try.isAgg118,
    z53 := Try.sizeOf118,
    v53 := Try.zeroValue118,
    t55 := Try.underlying120,
    a55 := Try.isAgg120,
    z55 := Try.sizeOf120,
    v55 := Try.zeroValue120,
    t66 := Try.underlying122,
    a66 := Try.isAgg122,
    z66 := Try.sizeOf122,
    v66 := Try.zeroValue122,
    t70 := Try.underlying126,
    a70 := Try.isAgg126,
    z70 := Try.sizeOf126,
    v70 := Try.zeroValue126,
    t76 := Try.underlying128,
    a76 := Try.isAgg128,
    z76 := Try.sizeOf128,
    v76 := Try.zeroValue128,
    t77 := Try.underlying81,
    a77 := Try.isAgg81,
    z77 := Try.sizeOf81,
    v77 := Try.zeroValue81 }
theorem ltOrd (x y : Int × Int) : ltOf ordF x y = decide (x.2 < y.2 ∨ x.2 = y.2 ∧ x.1 < y.1) := by
  unfold ltOf ordF cmpF
  rcases Int.lt_trichotomy x.2 y.2 with h | h | h
  · simp [h]
  · rcases Int.lt_trichotomy x.1 y.1 with g | g | g
    · simp [h, g]
    · simp [h, g]
    · simp [h, show ¬ x.1 < y.1 by omega, g]
  · simp [show ¬ x.2 < y.2 by omega, h, show ¬ x.2 = y.2 by omega]
theorem ordO : SWO (ltOf ordF) where
  irrefl x := by rw [ltOrd]; simp
  trans x y z h1 h2 := by rw [ltOrd] at *; simp at *; omega
  ntrans x y z h1 h2 := by rw [ltOrd] at *; simp at *; omega
theorem ordT (x y : Int × Int) (h1 : ltOf ordF x y = false) (h2 : ltOf ordF y x = false) : x = y := by
  rw [ltOrd] at *
  simp at *
  exact Prod.ext (by omega) (by omega)
theorem order_calls (x y : Int × Int) (W : World) : Calls Try.prog 34 #[.agg (encT x).toArray, .agg (encT y).toArray] W fun e w' => e = .returned (.int .i64 (ordF x y)) ∧ ∃ q os', w' = Sort.grow (W.drewN q) os' := by
  have h : CallW Try.prog 34 [.agg (encT x).toArray, .agg (encT y).toArray] _ W := order_spec x y W W (old W) (St.start W)
  refine Calls.mono h ?_
  rintro e w' ⟨v, rfl, rfl, s⟩
  exact ⟨rfl, s.grown⟩
/-- the timers, sorted -/
def sortT (ts : List (Int × Int)) : List (Int × Int) := ts.mergeSort fun x y => !(ltOf ordF) y x
theorem sortT_len (ts : List (Int × Int)) : (sortT ts).length = ts.length := List.length_mergeSort _
theorem sortT_perm (ts : List (Int × Int)) : (sortT ts).Perm ts := List.mergeSort_perm _ _
theorem sortT_pw (ts : List (Int × Int)) : (sortT ts).Pairwise fun x y => ltOf ordF y x = false := by
  have h := List.pairwise_mergeSort (le := fun x y => !(ltOf ordF) y x) (fun a b c h1 h2 => by
    simp only [Bool.not_eq_true'] at *
    exact ordO.ntrans _ _ _ h2 h1) (fun a b => by
    simp only [Bool.or_eq_true, Bool.not_eq_true', ltOrd, decide_eq_false_iff_not]
    omega) ts
  exact h.imp fun h => by simpa using h
theorem sortT_congr {a b : List (Int × Int)} (h : a.Perm b) : sortT a = sortT b :=
  List.Perm.eq_of_pairwise (fun x y _ _ h1 h2 => ordT x y h2 h1) (sortT_pw a) (sortT_pw b) (((sortT_perm a).trans h).trans (sortT_perm b).symm)
theorem sort_spec {v : Value} (ts : List (Int × Int)) (hsz : ts.length < 4611686018427387904) (w0 w : World) (F : Asn) {K : Value → World → Prop} (s : St w0 (F * own 32 2 v ts.length (ts.flatMap encT)) w)
    (hk : ∀ r w', St w0 (F * own 32 2 v ts.length ((sortT ts).flatMap encT)) w' → K r w') :
    CallW Try.prog 33 [v, .func (.func 34) #[] #[]] K w := by
  have h := sort_run sortLays 2 Try.isAgg32 Try.sizeOf32 encT (fun _ => rfl) (fun x v hv => by simp at hv; rcases hv with rfl | rfl <;> rfl) ordF ordO ordT 34
    (enters_of Try.func34 (by kernel_rfl) rfl) order_calls hsz s
  refine Calls.mono h ?_
  rintro e w' ⟨rfl, s'⟩
  exact ⟨_, rfl, hk _ _ s'⟩
end Go.HL.Wh

namespace Go.HL.Wh
open Go.HL Go.Proofs
set_option maxRecDepth 4000
set_option linter.unusedSimpArgs false
set_option linter.unusedVariables false
def endD (top last l : Nat) : Tm → Bool := if l ≤ top then vD l 0 else vD top (last + 1)
theorem level_part (p now to mv0 : Nat) (ts : List Tm) (w0 w : World) (A : Asn) {Q : EX → List Value → World → Prop} (l top last : Nat) (v x2 x3 x8 x9 x10 x11 x12 : Value) (hp : advP now to mv0 ts) (htl : lvF to now = (top, last)) (hl : l ≤ top)
    (s : St w0 (A * advA p to mv0 ts (vD l 0) v) w)
    (hk : ∀ v' y8 y9 y10 y11 y12 w', St w0 (A * advA p to mv0 ts (endD top last (l + 1)) v') w' → Q .nrm [.pointer (some ⟨p, 0, none⟩), .int .i64 to, x2, x3, .int .i64 top, .int .i64 last, v', .int .i64 l, y8, y9, y10, y11, y12] w') :
    (HC.block 2 h14_24).wp U2 Q [.pointer (some ⟨p, 0, none⟩), .int .i64 to, x2, x3, .int .i64 top, .int .i64 last, v, .int .i64 l, x8, x9, x10, x11, x12] w := by
  have hbd := lvF_bd to now
  rw [htl] at hbd
  obtain ⟨ht4, hl64, h40⟩ := hbd
  simp only at ht4 hl64 h40
  simp
  refine loopI (fun env w' => ∃ (i : Nat) (v y8 y9 y10 y12 : Value), env = [.pointer (some ⟨p, 0, none⟩), .int .i64 to, x2, x3, .int .i64 top, .int .i64 last, v, .int .i64 l, y8, y9, y10, .int .i64 i, y12] ∧ i ≤ 64 ∧ (l = 4 → i ≤ 1) ∧ (l = top → i ≤ last + 1) ∧ St w0 (A * advA p to mv0 ts (vD l i) v) w') (fun env _ => 64 - slotN env 11)
    ⟨0, v, x8, x9, x10, x12, rfl, by omega, by omega, by omega, s⟩ ?_
  rintro LQ env w' ⟨i, v, y8, y9, y10, y12, rfl, hi, hi4, hit, s'⟩ hN hE hR
  simp
  refine cndI (fun h => ?_) (fun h => ?_)
  · simp at h
    simp
    refine ⟨fun g => ?_, ?_⟩
    · rw [if_pos g]
      by_cases e : (l : Int) = top <;> simp [e]
    have hb : isB (if ¬(l : Int) = 4 ∨ i = 0 then Value.bool (decide ((l : Int) = top)) else Value.tuple #[]) true = (decide (¬(l : Int) = 4 ∨ i = 0) && decide ((l : Int) = top)) := by
      split
      · rename_i g
        simp [g]
      · rename_i g
        simp [g]
        rfl
    rw [hb]
    refine cndI (fun h2 => ?_) (fun h2 => ?_)
    · simp at h2
      have h3 : l = top ∧ i = last + 1 := by
        by_cases e : l = 4
        · have g1 := h40 (by omega)
          have g2 := hi4 e
          omega
        · omega
      simp
      refine hE _ _ _ ?_
      simp
      refine hk _ _ _ _ _ _ _ ?_
      have : endD top last (l + 1) = vD l i := by
        unfold endD
        rw [if_neg (by omega), h3.1, h3.2]
      rw [this]; exact s'
    · simp at h2
      have hv : visF now to (l, i) := by
        unfold visF
        rw [htl]
        simp only
        by_cases e : l = 4
        · have g1 := h40 (by omega)
          omega
        · omega
      have h4 : l = 4 → i = 0 := by
        intro e
        omega
      show HC.wp U2 h14_17 _ _ _
      refine slot_part p now to mv0 ts w0 w' A l i v x2 x3 (.int .i64 top) (.int .i64 last) y9 y10 (.int .i64 i) y12 hp (by omega) (by omega) h4 hv s' fun v' z9 z10 z12 w3 s3 => ?_
      simp
      try simp (disch := omega) only [wrap64]
      refine hN _ _ ⟨i + 1, v', .int .i64 i, z9, z10, z12, by simp, by omega, fun e => by have := h4 e; omega, fun e => ?_, s3⟩ (by simp [slotN]; omega)
      unfold visF at hv
      rw [htl] at hv
      simp only at hv
      omega
  · simp at h
    have hi : i = 64 := by omega
    subst hi
    simp
    refine hE _ _ _ ?_
    simp
    refine hk _ _ _ _ _ _ _ ?_
    by_cases e : l = top
    · have : endD top last (l + 1) = vD l 64 := by
        unfold endD
        rw [if_neg (by omega), e, show last + 1 = 64 from Nat.le_antisymm hl64 (hit e)]
      rw [this]; exact s'
    · have : endD top last (l + 1) = vD (l + 1) 0 := by
        unfold endD
        rw [if_pos (by omega)]
      rw [this, ← adv_congr (next_level hp.pl l)]; exact s'
end Go.HL.Wh

namespace Go.HL.Wh
open Go.HL Go.Proofs
set_option maxRecDepth 4000
set_option linter.unusedSimpArgs false
set_option linter.unusedVariables false
theorem rest_same {now : Nat} {ts : List Tm} (h : plOK now ts) : restT now ts = ts ∧ dueT now ts = [] ∧ movedT now ts = [] := by
  have hg : ∀ t ∈ ts, hgT t now = t := fun t ht => by
    obtain ⟨p1, p2⟩ := h.pl t ht
    exact hgT_same p1.symm p2.symm
  refine ⟨?_, ?_, ?_⟩
  · unfold restT
    rw [List.filter_eq_self.2 (fun t ht => by simpa using h.ah t ht)]
    exact (List.map_congr_left (g := id) hg).trans (List.map_id _)
  · exact List.filter_eq_nil_iff.2 fun t ht => by have := h.ah t ht; simp; omega
  · exact List.filter_eq_nil_iff.2 fun t ht => by have := (h.pl t ht).1; simp [movB, this]
theorem Advance_spec (p now mv : Nat) (ts : List Tm) (to : Int) (w0 w : World) (A : Asn) {K : Value → World → Prop} (hpl : plOK now ts) (hnow : now ≤ 1099511627776) (hlen : ts.length ≤ 65536) (hmv : mv ≤ 2305843009213693952)
    (s : St w0 (A * whl p now mv ts) w)
    (hk : ∀ r w', (if now ≤ to ∧ to ≤ 1099511627776 then ∃ v, r = .tuple #[v, .int .i64 0] ∧ St w0 (A * whl p to.toNat (mv + (movedT to.toNat ts).length) (restT to.toNat ts) * outs v (sortT ((dueT to.toNat ts).map tmr))) w' else r = .tuple #[.slice none 0 0, .int .i64 90] ∧ St w0 (A * whl p now mv ts) w') → K r w') :
    CallW Try.prog 14 [.pointer (some ⟨p, 0, none⟩), .int .i64 to] K w := by
  refine callW_of_lift l14_ok (by simp [l14]) ?_
  simp [l14]
  obtain ⟨am, aes, ac, Y, hok, t1⟩ := wopen s
  refine eff_ldc (v := .int .i64 now) (t1.row_cells 0 _ rfl) ?_
  simp
  refine cndI (fun c2 => ?_) (fun c2 => ?_)
  · simp at c2
    simp
    refine hk _ _ ?_
    rw [if_neg (by omega)]
    exact ⟨rfl, s⟩
  simp at c2
  obtain ⟨to, rfl⟩ : ∃ a : Nat, to = a := ⟨to.toNat, by omega⟩
  have hc : (now : Int) ≤ to ∧ (to : Int) ≤ 1099511627776 := by omega
  simp only [if_pos hc, Int.toNat_natCast] at hk
  simp
  refine eff_ldc (v := .int .i64 now) (t1.row_cells 0 _ rfl) ?_
  simp
  refine cndI (fun c3 => ?_) (fun c3 => ?_)
  · simp at c3
    have c3 : to = now := by omega
    subst c3
    simp
    obtain ⟨r1, r2, r3⟩ := rest_same hpl
    rw [r1, r2, r3] at hk
    refine hk _ _ ⟨_, rfl, ?_⟩
    rw [show sortT (List.map tmr []) = [] by simp [sortT]]
    exact s.own_nil 32 2
  simp at c3
  have hlt : now < to := by omega
  simp
  refine eff_ldc (v := .int .i64 now) (t1.row_cells 0 _ rfl) ?_
  simp
  refine ⟨⟨by omega, by omega⟩, ?_⟩
  obtain ⟨top, last, htl⟩ : ∃ top last, lvF to now = (top, last) := ⟨_, _, rfl⟩
  rw [htl]
  simp
  refine eff_st1 t1 rfl (by simp [wcs_len]) ?_
  intro w2 s2
  have e : (wcs now mv am Y).toArray.setIfInBounds 0 (.int .i64 to) = (wcs to mv am Y).toArray := by
    simp [wcs]
  rw [e] at s2
  have hp : advP now to mv ts := ⟨hpl, hlt, by omega, hlen, hmv⟩
  have hD0 : ∀ t : Tm, vD 0 0 t = false := fun t => by simp [vD]
  have e1 : curT to (vD 0 0) ts = ts := by
    unfold curT
    rw [List.filter_eq_self.2 (fun t ht => by simp [hD0])]
    exact (List.map_congr_left (g := id) fun t ht => by simp [hD0]).trans (List.map_id _)
  have e2 : outT to (vD 0 0) ts = [] := List.filter_eq_nil_iff.2 fun t ht => by simp [hD0]
  have e3 : movT to (vD 0 0) ts = [] := List.filter_eq_nil_iff.2 fun t ht => by simp [hD0]
  have s3 : St w0 (A * advA p to mv ts (vD 0 0) (.slice none 0 0)) w2 := by
    refine advclose (os := []) (by rw [e2]; exact List.Perm.refl _) ?_
    rw [e1, e3]
    have s4 := wclose hok s2
    rw [show outs (.slice none 0 0) [] = own 32 2 (.slice none 0 0) 0 [] from rfl]
    exact (s4.own_nil 32 2).to (by show A * whl p to mv ts * _ = A * _ * whl p to mv ts; ac_rfl)
  simp
  have hbd := lvF_bd to now
  rw [htl] at hbd
  obtain ⟨ht4, hl64, h40⟩ := hbd
  simp only at ht4 hl64 h40
  refine loopI (fun env w' => ∃ (l : Nat) (v y8 y9 y10 y11 y12 : Value), env = [.pointer (some ⟨p, 0, none⟩), .int .i64 to, .slice none 0 0, .int .i64 0, .int .i64 top, .int .i64 last, v, .int .i64 l, y8, y9, y10, y11, y12] ∧ l ≤ top + 1 ∧ St w0 (A * advA p to mv ts (endD top last l) v) w') (fun env _ => top + 1 - slotN env 7)
    ⟨0, _, _, _, _, _, _, rfl, by omega, by rw [show endD top last 0 = vD 0 0 from rfl]; exact s3⟩ ?_
  rintro LQ env w' ⟨l, v, y8, y9, y10, y11, y12, rfl, hl, s'⟩ hN hE hR
  simp
  refine cndI (fun h => ?_) (fun h => ?_)
  · simp at h
    show HC.wp U2 (.block 2 h14_24) _ _ _
    refine level_part p now to mv ts w0 w' A l top last v _ _ y8 y9 y10 y11 y12 hp htl (by omega) ?_ fun v' z8 z9 z10 z11 z12 w3 s4 => ?_
    · rw [show endD top last l = vD l 0 from if_pos (by omega)] at s'; exact s'
    show HC.wp U2 h14_2 LQ _ _
    simp
    try simp (disch := omega) only [wrap64]
    exact hN _ _ ⟨l + 1, v', z8, z9, z10, z11, z12, by simp, by omega, s4⟩ (by simp [slotN]; omega)
  · simp at h
    simp
    refine hE _ _ _ ?_
    simp
    have hl2 : l = top + 1 := by omega
    subst hl2
    have hvis : ∀ t ∈ ts, endD top last (top + 1) t = true ↔ visF now to (t.l, t.s) := by
      intro t ht
      unfold endD visF
      rw [if_neg (by omega), htl]
      simp only [vD, Bool.or_eq_true, Bool.and_eq_true, decide_eq_true_eq]
      omega
    obtain ⟨q1, q2, q3⟩ := end_cur hpl hlt hvis
    obtain ⟨os, hos, s5⟩ := advopen s'
    rw [q1, q3] at s5
    rw [q2] at hos
    have hol : os.length ≤ 65536 := by
      have h1 := hos.length_eq
      rw [List.length_map] at h1
      have h2 : (dueT to ts).length ≤ ts.length := List.length_filter_le _ _
      omega
    rw [show outs v os = own 32 2 v os.length (os.flatMap encT) from rfl] at s5
    refine eff_call (sort_spec os (by omega) w0 w' (A * whl p to (mv + (movedT to ts).length) (restT to ts)) (s5.to (by ac_rfl)) fun r w6 s6 => ?_)
    simp
    refine hk _ _ ⟨v, rfl, ?_⟩
    have e4 : outs v (sortT ((dueT to ts).map tmr)) = own 32 2 v os.length ((sortT os).flatMap encT) := by
      rw [← sortT_congr hos]
      show own _ 2 v (sortT os).length _ = _
      rw [sortT_len]
    rw [e4]
    exact s6
end Go.HL.Wh

namespace Go.HL.Wh
open Go.HL Go.Proofs
set_option maxRecDepth 4000
set_option linter.unusedSimpArgs false
set_option linter.unusedVariables false
-- (*bazaar/wheel.Wheel).find
def h35_0 : HC := (.seq (.reg (.chk none .chkp (.cons (.inp 0) .nil) (.chk none (.fld 2) (.cons (.op .chkp (.cons (.inp 0) .nil)) .nil) (.eff (.ld false 1) (.cons (.op (.fld 2) (.cons (.op .chkp (.cons (.inp 0) .nil)) .nil)) .nil) (.eff (.look 72 false) (.cons (.bv 0) (.cons (.inp 1) .nil)) (.chk none .chkp (.cons (.bv 1) .nil) (.eff (.ld true 4) (.cons (.op .chkp (.cons (.bv 1) .nil)) .nil) (.eff (.st 4) (.cons (.inp 2) (.cons (.bv 2) .nil)) (.done [(3, (.cst (.int .i64 0)))] none))))))))) .ret)
@[simp] theorem h35_0_wp {P : Program} {F : PF P} {Q : EX → List Value → World → Prop} {env : List Value} {w : World} : h35_0.wp F Q env w = HC.wp F (.seq (.reg (.chk none .chkp (.cons (.inp 0) .nil) (.chk none (.fld 2) (.cons (.op .chkp (.cons (.inp 0) .nil)) .nil) (.eff (.ld false 1) (.cons (.op (.fld 2) (.cons (.op .chkp (.cons (.inp 0) .nil)) .nil)) .nil) (.eff (.look 72 false) (.cons (.bv 0) (.cons (.inp 1) .nil)) (.chk none .chkp (.cons (.bv 1) .nil) (.eff (.ld true 4) (.cons (.op .chkp (.cons (.bv 1) .nil)) .nil) (.eff (.st 4) (.cons (.inp 2) (.cons (.bv 2) .nil)) (.done [(3, (.cst (.int .i64 0)))] none))))))))) .ret) Q env w := rfl
def h35_1 : HC := (.seq (.reg (.chk none (.build #[(.int .i64 0), (.int .i64 0), (.int .i64 0), (.int .i64 0)] [(0, 2), (2, 1), (3, 1)] []) .nil (.eff (.st 4) (.cons (.inp 2) (.cons (.op (.build #[(.int .i64 0), (.int .i64 0), (.int .i64 0), (.int .i64 0)] [(0, 2), (2, 1), (3, 1)] []) .nil) .nil)) (.done [(3, (.cst (.int .i64 1)))] none)))) .ret)
@[simp] theorem h35_1_wp {P : Program} {F : PF P} {Q : EX → List Value → World → Prop} {env : List Value} {w : World} : h35_1.wp F Q env w = HC.wp F (.seq (.reg (.chk none (.build #[(.int .i64 0), (.int .i64 0), (.int .i64 0), (.int .i64 0)] [(0, 2), (2, 1), (3, 1)] []) .nil (.eff (.st 4) (.cons (.inp 2) (.cons (.op (.build #[(.int .i64 0), (.int .i64 0), (.int .i64 0), (.int .i64 0)] [(0, 2), (2, 1), (3, 1)] []) .nil) .nil)) (.done [(3, (.cst (.int .i64 1)))] none)))) .ret) Q env w := rfl
def h35_2 : HC := (.seq (.reg (.chk none (.build #[(.int .i64 0), (.int .i64 0), (.int .i64 0), (.int .i64 0)] [(0, 2), (2, 1), (3, 1)] []) .nil (.eff (.st 4) (.cons (.inp 2) (.cons (.op (.build #[(.int .i64 0), (.int .i64 0), (.int .i64 0), (.int .i64 0)] [(0, 2), (2, 1), (3, 1)] []) .nil) .nil)) (.done [(3, (.cst (.int .i64 93)))] none)))) .ret)
@[simp] theorem h35_2_wp {P : Program} {F : PF P} {Q : EX → List Value → World → Prop} {env : List Value} {w : World} : h35_2.wp F Q env w = HC.wp F (.seq (.reg (.chk none (.build #[(.int .i64 0), (.int .i64 0), (.int .i64 0), (.int .i64 0)] [(0, 2), (2, 1), (3, 1)] []) .nil (.eff (.st 4) (.cons (.inp 2) (.cons (.op (.build #[(.int .i64 0), (.int .i64 0), (.int .i64 0), (.int .i64 0)] [(0, 2), (2, 1), (3, 1)] []) .nil) .nil)) (.done [(3, (.cst (.int .i64 93)))] none)))) .ret) Q env w := rfl
def h35_3 : HC := (.br (.chk none .chkp (.cons (.inp 0) .nil) (.chk none (.fld 2) (.cons (.op .chkp (.cons (.inp 0) .nil)) .nil) (.eff (.ld false 1) (.cons (.op (.fld 2) (.cons (.op .chkp (.cons (.inp 0) .nil)) .nil)) .nil) (.eff (.look 72 false) (.cons (.bv 0) (.cons (.inp 1) .nil)) (.chk none (.eqNil false (.pointer 79) (.pointer none)) (.cons (.bv 1) .nil) (.done [] (some (.op (.eqNil false (.pointer 79) (.pointer none)) (.cons (.bv 1) .nil))))))))) h35_2 .skip)
@[simp] theorem h35_3_wp {P : Program} {F : PF P} {Q : EX → List Value → World → Prop} {env : List Value} {w : World} : h35_3.wp F Q env w = HC.wp F (.br (.chk none .chkp (.cons (.inp 0) .nil) (.chk none (.fld 2) (.cons (.op .chkp (.cons (.inp 0) .nil)) .nil) (.eff (.ld false 1) (.cons (.op (.fld 2) (.cons (.op .chkp (.cons (.inp 0) .nil)) .nil)) .nil) (.eff (.look 72 false) (.cons (.bv 0) (.cons (.inp 1) .nil)) (.chk none (.eqNil false (.pointer 79) (.pointer none)) (.cons (.bv 1) .nil) (.done [] (some (.op (.eqNil false (.pointer 79) (.pointer none)) (.cons (.bv 1) .nil))))))))) h35_2 .skip) Q env w := rfl
def h35_4 : HC := (.br (.chk none (.eqNil false (.pointer 76) (.pointer none)) (.cons (.inp 0) .nil) (.done [] (some (.op (.eqNil false (.pointer 76) (.pointer none)) (.cons (.inp 0) .nil))))) h35_1 h35_3)
@[simp] theorem h35_4_wp {P : Program} {F : PF P} {Q : EX → List Value → World → Prop} {env : List Value} {w : World} : h35_4.wp F Q env w = HC.wp F (.br (.chk none (.eqNil false (.pointer 76) (.pointer none)) (.cons (.inp 0) .nil) (.done [] (some (.op (.eqNil false (.pointer 76) (.pointer none)) (.cons (.inp 0) .nil))))) h35_1 h35_3) Q env w := rfl
def h35_5 : HC := (.seq (.block 0 h35_4) h35_0)
@[simp] theorem h35_5_wp {P : Program} {F : PF P} {Q : EX → List Value → World → Prop} {env : List Value} {w : World} : h35_5.wp F Q env w = HC.wp F (.seq (.block 0 h35_4) h35_0) Q env w := rfl
def l35 : Lifted := ⟨[0, 1, 4, 5], 27, [.cell 2 true 4, .slot 3], (.seq (.reg (.eff (.new 79 (.agg #[(.int .i64 0), (.int .i64 0), (.int .i64 0), (.int .i64 0)])) .nil (.done [(2, (.bv 0)), (3, (.cst (.int .i64 0)))] none))) h35_5)⟩
theorem l35_ok : liftFn U2 35 400 = some l35 := by kernel_rfl

-- (*bazaar/wheel.Wheel).Place
def h25_0 : HC := (.seq (.regq (some 0) (.chk none (.fld 2) (.cons (.inp 5) .nil) (.eff (.ld false 1) (.cons (.op (.fld 2) (.cons (.inp 5) .nil)) .nil) (.chk none (.fld 3) (.cons (.inp 5) .nil) (.eff (.ld false 1) (.cons (.op (.fld 3) (.cons (.inp 5) .nil)) .nil) (.done [(2, (.bv 0)), (3, (.bv 1)), (4, (.inp 6))] none)))))) .ret)
@[simp] theorem h25_0_wp {P : Program} {F : PF P} {Q : EX → List Value → World → Prop} {env : List Value} {w : World} : h25_0.wp F Q env w = HC.wp F (.seq (.regq (some 0) (.chk none (.fld 2) (.cons (.inp 5) .nil) (.eff (.ld false 1) (.cons (.op (.fld 2) (.cons (.inp 5) .nil)) .nil) (.chk none (.fld 3) (.cons (.inp 5) .nil) (.eff (.ld false 1) (.cons (.op (.fld 3) (.cons (.inp 5) .nil)) .nil) (.done [(2, (.bv 0)), (3, (.bv 1)), (4, (.inp 6))] none)))))) .ret) Q env w := rfl
def h25_1 : HC := (.seq (.reg (.eff (.call 35) (.cons (.inp 0) (.cons (.inp 1) .nil)) (.chk none (.ext 0) (.cons (.bv 0) .nil) (.chk none (.ext 1) (.cons (.bv 0) .nil) (.eff (.new 79 (.agg #[(.int .i64 0), (.int .i64 0), (.int .i64 0), (.int .i64 0)])) .nil (.eff (.st 4) (.cons (.bv 1) (.cons (.op (.ext 0) (.cons (.bv 0) .nil)) .nil)) (.done [(5, (.bv 1)), (6, (.op (.ext 1) (.cons (.bv 0) .nil)))] none))))))) h25_0)
@[simp] theorem h25_1_wp {P : Program} {F : PF P} {Q : EX → List Value → World → Prop} {env : List Value} {w : World} : h25_1.wp F Q env w = HC.wp F (.seq (.reg (.eff (.call 35) (.cons (.inp 0) (.cons (.inp 1) .nil)) (.chk none (.ext 0) (.cons (.bv 0) .nil) (.chk none (.ext 1) (.cons (.bv 0) .nil) (.eff (.new 79 (.agg #[(.int .i64 0), (.int .i64 0), (.int .i64 0), (.int .i64 0)])) .nil (.eff (.st 4) (.cons (.bv 1) (.cons (.op (.ext 0) (.cons (.bv 0) .nil)) .nil)) (.done [(5, (.bv 1)), (6, (.op (.ext 1) (.cons (.bv 0) .nil)))] none))))))) h25_0) Q env w := rfl
def l25 : Lifted := ⟨[0, 1, 4, 5, 6, 7, 8], 20, [.slot 2, .slot 3, .slot 4], (.seq (.reg (.done [(2, (.cst (.int .i64 0))), (3, (.cst (.int .i64 0))), (4, (.cst (.int .i64 0)))] none)) h25_1)⟩
theorem l25_ok : liftFn U2 25 400 = some l25 := by kernel_rfl

-- (*bazaar/wheel.Wheel).When
def h42_0 : HC := (.seq (.reg (.chk none (.fld 0) (.cons (.inp 4) .nil) (.chk none (.fld 1) (.cons (.op (.fld 0) (.cons (.inp 4) .nil)) .nil) (.eff (.ld false 1) (.cons (.op (.fld 1) (.cons (.op (.fld 0) (.cons (.inp 4) .nil)) .nil)) .nil) (.done [(2, (.bv 0)), (3, (.inp 5))] none))))) .ret)
@[simp] theorem h42_0_wp {P : Program} {F : PF P} {Q : EX → List Value → World → Prop} {env : List Value} {w : World} : h42_0.wp F Q env w = HC.wp F (.seq (.reg (.chk none (.fld 0) (.cons (.inp 4) .nil) (.chk none (.fld 1) (.cons (.op (.fld 0) (.cons (.inp 4) .nil)) .nil) (.eff (.ld false 1) (.cons (.op (.fld 1) (.cons (.op (.fld 0) (.cons (.inp 4) .nil)) .nil)) .nil) (.done [(2, (.bv 0)), (3, (.inp 5))] none))))) .ret) Q env w := rfl
def h42_1 : HC := (.seq (.reg (.eff (.call 35) (.cons (.inp 0) (.cons (.inp 1) .nil)) (.chk none (.ext 0) (.cons (.bv 0) .nil) (.chk none (.ext 1) (.cons (.bv 0) .nil) (.eff (.new 79 (.agg #[(.int .i64 0), (.int .i64 0), (.int .i64 0), (.int .i64 0)])) .nil (.eff (.st 4) (.cons (.bv 1) (.cons (.op (.ext 0) (.cons (.bv 0) .nil)) .nil)) (.done [(4, (.bv 1)), (5, (.op (.ext 1) (.cons (.bv 0) .nil)))] none))))))) h42_0)
@[simp] theorem h42_1_wp {P : Program} {F : PF P} {Q : EX → List Value → World → Prop} {env : List Value} {w : World} : h42_1.wp F Q env w = HC.wp F (.seq (.reg (.eff (.call 35) (.cons (.inp 0) (.cons (.inp 1) .nil)) (.chk none (.ext 0) (.cons (.bv 0) .nil) (.chk none (.ext 1) (.cons (.bv 0) .nil) (.eff (.new 79 (.agg #[(.int .i64 0), (.int .i64 0), (.int .i64 0), (.int .i64 0)])) .nil (.eff (.st 4) (.cons (.bv 1) (.cons (.op (.ext 0) (.cons (.bv 0) .nil)) .nil)) (.done [(4, (.bv 1)), (5, (.op (.ext 1) (.cons (.bv 0) .nil)))] none))))))) h42_0) Q env w := rfl
def l42 : Lifted := ⟨[0, 1, 4, 5, 6, 7], 18, [.slot 2, .slot 3], (.seq (.reg (.done [(2, (.cst (.int .i64 0))), (3, (.cst (.int .i64 0)))] none)) h42_1)⟩
theorem l42_ok : liftFn U2 42 400 = some l42 := by kernel_rfl


def fnd (ts : List Tm) (n : Int) : Option Tm := ts.find? fun t => decide (t.n = n)
def fcs : Option Tm → List Value
  | none => [.int .i64 0, .int .i64 0, .int .i64 0, .int .i64 0]
  | some t => t.cs
def fer : Option Tm → Int
  | none => 93
  | some _ => 0
theorem fcs_one (o : Option Tm) : ∀ u ∈ fcs o, u.oneCell' = true := fun u hu => by
  cases o with
  | none => simp [fcs] at hu; subst hu; rfl
  | some t => simp [fcs] at hu; rcases hu with rfl | rfl | rfl | rfl <;> rfl
theorem fcs_len (o : Option Tm) : (fcs o).length = 4 := by cases o <;> rfl
theorem find_spec (p now mv : Nat) (ts : List Tm) (n : Int) (w0 w : World) (A : Asn) (s : St w0 (A * whl p now mv ts) w) :
    CallW Try.prog 35 [.pointer (some ⟨p, 0, none⟩), .int .i64 n] (fun r w' => r = .tuple #[.agg (fcs (fnd ts n)).toArray, .int .i64 (fer (fnd ts n))] ∧ St w0 (A * whl p now mv ts) w') w := by
  refine callW_of_lift l35_ok (by simp [l35]) ?_
  simp [l35]
  refine eff_new s ?_
  intro b w1 s1
  simp
  obtain ⟨am, aes, ac, Y, hok, t1⟩ := wopen s1.swap
  refine eff_ldc (v := .map (some am)) (t1.row_cells 2 _ rfl) ?_
  simp
  refine eff_lookI hungI t1.drop.look ?_
  rw [getI_alls hok.alls, show (ts.find? fun t => decide (t.n = n)) = fnd ts n from rfl]
  have one : ∀ o : Option Tm, ∀ u ∈ fcs o, u.oneCell' = true := fun o u hu => by
    cases o with
    | none => simp [fcs] at hu; subst hu; rfl
    | some t => simp [fcs] at hu; rcases hu with rfl | rfl | rfl | rfl <;> rfl
  cases hf : fnd ts n with
  | none =>
    simp [Instr.fill, Value.cells]
    refine eff_stA (vs := fcs none) s1 rfl rfl (one none) (by simp) ?_
    intro w2 s3
    simp
    have s4 : St w0 (A * whl p now mv ts * pt b (.cells (fcs none).toArray 79 (0, 0))) w2 := by simpa [fcs] using s3
    refine rv_cellA (vs := fcs none) rfl s4.row_cells rfl ?_
    simp [fer]
    exact s4.drop
  | some t =>
    simp
    refine eff_ldc (v := .map (some am)) (t1.row_cells 2 _ rfl) ?_
    simp
    refine eff_lookI hungI t1.drop.look ?_
    rw [getI_alls hok.alls, show (ts.find? fun t => decide (t.n = n)) = fnd ts n from rfl, hf]
    simp
    have ht : t ∈ ts := List.mem_of_find?_eq_some hf
    have t2 := t1
    rw [hungA_off hok.num ht] at t2
    have t3 : St w0 (A * pt b _ * hungA (offT ts t.n) * bigA slA Y 257 * imap am aes ac * wc p now mv am Y * tmA t) w1 := t2.to (by ac_rfl)
    refine eff_ldcs (vs := t.cs) (fun j u hu => t3.row_cells j u hu) rfl ?_
    simp
    refine eff_stA (vs := fcs (some t)) s1 rfl rfl (one (some t)) (by simp) ?_
    intro w2 s3
    simp
    have s4 : St w0 (A * whl p now mv ts * pt b (.cells (fcs (some t)).toArray 79 (0, 0))) w2 := by simpa [fcs] using s3
    refine rv_cellA (vs := fcs (some t)) rfl s4.row_cells rfl ?_
    simp [fer]
    exact s4.drop
def fat : Option Tm → Nat
  | none => 0
  | some t => t.a
def fpl : Option Tm → Nat × Nat
  | none => (0, 0)
  | some t => (t.l, t.s)
theorem When_spec (p now mv : Nat) (ts : List Tm) (n : Int) (w0 w : World) (A : Asn) (s : St w0 (A * whl p now mv ts) w) :
    CallW Try.prog 42 [.pointer (some ⟨p, 0, none⟩), .int .i64 n] (fun r w' => r = .tuple #[.int .i64 (fat (fnd ts n)), .int .i64 (fer (fnd ts n))] ∧ St w0 (A * whl p now mv ts) w') w := by
  refine callW_of_lift l42_ok (by simp [l42]) ?_
  simp [l42]
  refine eff_call ((find_spec p now mv ts n w0 w A s).mono ?_)
  rintro r w1 ⟨rfl, s1⟩
  simp
  refine eff_new s1 ?_
  intro b w2 s2
  simp
  refine eff_stA (vs := fcs (fnd ts n)) s2 rfl (fcs_len _) (fcs_one _) (by simp) ?_
  intro w3 s3
  have s4 : St w0 (A * whl p now mv ts * pt b (.cells (fcs (fnd ts n)).toArray 79 (0, 0))) w3 := by simpa [fcs_len] using s3
  simp
  have h1 : (fcs (fnd ts n))[1]? = some (.int .i64 (fat (fnd ts n))) := by cases fnd ts n <;> rfl
  refine eff_ldc (v := .int .i64 (fat (fnd ts n))) (by have := s4.row_cells 1 _ h1; exact this) ?_
  simp
  exact s4.drop
theorem Place_spec (p now mv : Nat) (ts : List Tm) (n : Int) (w0 w : World) (A : Asn) (s : St w0 (A * whl p now mv ts) w) :
    CallW Try.prog 25 [.pointer (some ⟨p, 0, none⟩), .int .i64 n] (fun r w' => r = .tuple #[.int .i64 (fpl (fnd ts n)).1, .int .i64 (fpl (fnd ts n)).2, .int .i64 (fer (fnd ts n))] ∧ St w0 (A * whl p now mv ts) w') w := by
  refine callW_of_lift l25_ok (by simp [l25]) ?_
  simp [l25]
  refine eff_call ((find_spec p now mv ts n w0 w A s).mono ?_)
  rintro r w1 ⟨rfl, s1⟩
  simp
  refine eff_new s1 ?_
  intro b w2 s2
  simp
  refine eff_stA (vs := fcs (fnd ts n)) s2 rfl (fcs_len _) (fcs_one _) (by simp) ?_
  intro w3 s3
  have s4 : St w0 (A * whl p now mv ts * pt b (.cells (fcs (fnd ts n)).toArray 79 (0, 0))) w3 := by simpa [fcs_len] using s3
  simp
  have h2 : (fcs (fnd ts n))[2]? = some (.int .i64 ((fpl (fnd ts n)).1 : Nat)) := by cases fnd ts n <;> rfl
  have h3 : (fcs (fnd ts n))[3]? = some (.int .i64 ((fpl (fnd ts n)).2 : Nat)) := by cases fnd ts n <;> rfl
  refine regqI s4 ?_
  simp
  refine effq_ldc (v := .int .i64 ((fpl (fnd ts n)).1 : Nat)) (fun w h => by have := h.row_cells 2 _ h2; exact this) ?_
  simp
  refine effq_ldc (v := .int .i64 ((fpl (fnd ts n)).2 : Nat)) (fun w h => by have := h.row_cells 3 _ h3; exact this) ?_
  simp
  intro w5 s5
  exact s5.drop
end Go.HL.Wh

namespace Go.HL.Wh
open Go.HL Go.Proofs
set_option maxRecDepth 4000
set_option linter.unusedSimpArgs false
set_option linter.unusedVariables false
-- bazaar/bazaarlaw09.known
theorem tmT : PrimStruct Try.prog 32 [.int .i64, .int .i64] := ⟨by kernel_rfl, by kernel_rfl, by kernel_rfl, by kernel_rfl⟩
end Go.HL.Wh

namespace Go.HL.Wh
open Go.HL Go.Proofs
set_option maxRecDepth 4000
set_option linter.unusedSimpArgs false
set_option linter.unusedVariables false
abbrev setE (ts : List Tm) : List (Int × Value) := ts.map fun t => (t.n, .int .i64 t.a)
def kv (es : List En) : List (Int × Value) := es.map fun e => (e.k, e.v)
theorem getI_kv (f : Tm → Value) : ∀ {es : List En} {ts : List Tm}, kv es = ts.map (fun t => (t.n, f t)) → ∀ n, getI es n = (fnd ts n).map f
  | [], [], _, _ => rfl
  | [], _ :: _, h, _ => by cases h
  | _ :: _, [], h, _ => by cases h
  | e :: r, t :: ts, h, n => by
    unfold kv at h
    simp only [List.map_cons, List.cons.injEq, Prod.mk.injEq] at h
    obtain ⟨⟨h1, h2⟩, h3⟩ := h
    unfold fnd
    simp only [getI, h1, h2]
    by_cases hn : n = t.n
    · subst hn; simp
    · rw [if_neg hn, List.find?_cons_of_neg (by simpa using fun g : t.n = n => hn g.symm)]
      exact getI_kv f h3 n
theorem kv_off (f : Tm → Value) : ∀ {es : List En} {ts : List Tm} (n : Int), kv es = ts.map (fun t => (t.n, f t)) → kv (es.filter fun e => decide (e.k ≠ n)) = (offT ts n).map fun t => (t.n, f t)
  | [], [], _, _ => rfl
  | [], _ :: _, _, h => by cases h
  | _ :: _, [], _, h => by cases h
  | e :: r, t :: ts, n, h => by
    unfold kv at h
    simp only [List.map_cons, List.cons.injEq, Prod.mk.injEq] at h
    obtain ⟨⟨h1, h2⟩, h3⟩ := h
    have ih := kv_off f n (es := r) h3
    unfold offT kv at ih ⊢
    by_cases hn : t.n = n
    · rw [List.filter_cons_of_neg (by simp [h1, hn]), List.filter_cons_of_neg (by simp [hn])]
      exact ih
    · rw [List.filter_cons_of_pos (by simp [h1, hn]), List.filter_cons_of_pos (by simp [hn]), List.map_cons, List.map_cons, ih, h1, h2]
/-- the set of a law: what it holds -/
structure setOK (es : List En) (c : Nat) (ts : List Tm) : Prop where
  ok : okE es c
  eq : kv es = setE ts
theorem setOK.get {es : List En} {c : Nat} {ts : List Tm} (h : setOK es c ts) (n : Int) : getI es n = (fnd ts n).map fun t => .int .i64 t.a := getI_kv (fun t => .int .i64 t.a) h.eq n
theorem setOK.del {es : List En} {c : Nat} {ts : List Tm} (h : setOK es c ts) (n : Int) : setOK (delI es n) c (offT ts n) := by
  refine ⟨okE_del h.ok n, ?_⟩
  rw [delI_eq h.ok.kn]
  exact kv_off (fun t => .int .i64 t.a) n h.eq
theorem setOK.add {es : List En} {c : Nat} {ts : List Tm} (h : setOK es c ts) {t : Tm} (hf : ∀ u ∈ ts, u.n ≠ t.n) : setOK (es ++ [⟨t.n, .int .i64 t.a, c⟩]) (c + 1) (ts ++ [t]) := by
  have hn : getI es t.n = none := by
    rw [h.get, fnd, List.find?_eq_none.2 (fun u hu => by simpa using hf u hu)]; rfl
  refine ⟨okE_push h.ok hn _, ?_⟩
  have := h.eq
  unfold kv setE at this ⊢
  rw [List.map_append, List.map_append, this]
  rfl
theorem setOK.len {es : List En} {c : Nat} {ts : List Tm} (h : setOK es c ts) : es.length = ts.length := by
  have := congrArg List.length h.eq
  simpa [kv] using this
theorem fnd_num {ts : List Tm} (h : (ts.map (·.n)).Nodup) {t : Tm} (ht : t ∈ ts) : fnd ts t.n = some t := find_num h ht
theorem fnd_none {ts : List Tm} {n : Int} : fnd ts n = none ↔ ∀ t ∈ ts, t.n ≠ n := by
  unfold fnd
  rw [List.find?_eq_none]
  simp
/-- what comes out -/
abbrev outL (to : Nat) (ts : List Tm) : List (Int × Int) := sortT ((dueT to ts).map tmr)
section
variable {now to : Nat} {ts : List Tm}
theorem outL_len (to : Nat) (ts : List Tm) : (outL to ts).length ≤ ts.length := by
  rw [sortT_len, List.length_map]
  exact List.length_filter_le _ _
/-- what is left of the set behind so many of those that came -/
def leftS (L : List (Int × Int)) (k : Nat) (ts : List Tm) : List Tm := ts.filter fun t => decide (t.n ∉ (L.take k).map (·.1))
end
def lvs (ts : List Tm) : Nat := (ts.map (·.l)).sum
theorem lvs_app (a b : List Tm) : lvs (a ++ b) = lvs a + lvs b := by simp [lvs]
theorem lvs_filter (p : Tm → Bool) : ∀ ts, lvs (ts.filter p) ≤ lvs ts
  | [] => Nat.le_refl _
  | t :: r => by
    have ih := lvs_filter p r
    unfold lvs at ih ⊢
    rw [List.filter_cons]
    split
    · simp only [List.map_cons, List.sum_cons]; omega
    · simp only [List.map_cons, List.sum_cons]; omega
end Go.HL.Wh

namespace Go.HL.Wh
open Go.HL Go.Proofs
set_option maxRecDepth 4000
set_option linter.unusedSimpArgs false
set_option linter.unusedVariables false
theorem setI : MapI Try.prog 30 3 3 (.int .i64 0) := ⟨by kernel_rfl, by kernel_rfl, by kernel_rfl⟩
-- bazaar/bazaarlaw09.WheelDue
abbrev lastA (lb : Nat) (x : Int × Int) : Asn := pt lb (.cells (encT x).toArray 32 (0, 0))
theorem encT_one (x : Int × Int) : ∀ u ∈ encT x, u.oneCell' = true := fun u hu => by simp at hu; rcases hu with rfl | rfl <;> rfl
theorem flatT_at {L : List (Int × Int)} {k : Nat} (hk : k < L.length) (j : Nat) (u : Value) (hu : (encT L[k])[j]? = some u) : (L.flatMap encT)[k * 2 + j]? = some u := by
  have hj : j < 2 := by
    have := (List.getElem?_eq_some_iff.1 hu).1
    simpa using this
  rw [flat_get encT 2 (fun _ => rfl) L k j hk hj]; exact hu
end Go.HL.Wh

namespace Go.HL.Wh
open Go.HL Go.Proofs
set_option maxRecDepth 4000
set_option linter.unusedSimpArgs false
set_option linter.unusedVariables false
theorem left_push {es : List En} {seen : Array Nat} {e : En} (he : e ∈ es) (hn : e.b ∉ seen) : (leftE es (seen.push e.b)).length + 1 ≤ (leftE es seen).length := by
  have e1 : leftE es (seen.push e.b) = (leftE es seen).filter fun x => !decide (x.b = e.b) := by
    unfold leftE
    rw [List.filter_filter]
    refine List.filter_congr fun x _ => ?_
    rw [Bool.eq_iff_iff]
    simp [and_comm]
  rw [e1]
  refine Nat.lt_of_le_of_ne (List.length_filter_le _ _) fun h => ?_
  have h2 := (List.length_filter_eq_length_iff.1 h) e (List.mem_filter.2 ⟨he, by simpa using hn⟩)
  simp at h2
theorem left_start (es : List En) : (leftE es #[]).length + (#[] : Array Nat).size ≤ es.length := by
  exact List.length_filter_le (fun e : En => !(#[] : Array Nat).contains e.b) es
end Go.HL.Wh

namespace Go.HL.Wh
open Go.HL Go.Proofs
set_option maxRecDepth 4000
set_option linter.unusedSimpArgs false
set_option linter.unusedVariables false
-- bazaar/wheel.From
def h18_0 : HC := (.seq (.reg (.done [(2, (.inp 4)), (3, (.cst (.int .i64 0)))] none)) .ret)
@[simp] theorem h18_0_wp {P : Program} {F : PF P} {Q : EX → List Value → World → Prop} {env : List Value} {w : World} : h18_0.wp F Q env w = HC.wp F (.seq (.reg (.done [(2, (.inp 4)), (3, (.cst (.int .i64 0)))] none)) .ret) Q env w := rfl
def h18_1 : HC := (.seq (.reg (.done [(2, (.cst (.pointer none))), (3, (.inp 5))] none)) .ret)
@[simp] theorem h18_1_wp {P : Program} {F : PF P} {Q : EX → List Value → World → Prop} {env : List Value} {w : World} : h18_1.wp F Q env w = HC.wp F (.seq (.reg (.done [(2, (.cst (.pointer none))), (3, (.inp 5))] none)) .ret) Q env w := rfl
def h18_2 : HC := (.seq (.br (.chk none (.bin .neq) (.cons (.inp 5) (.cons (.cst (.int .i64 0)) .nil)) (.done [] (some (.op (.bin .neq) (.cons (.inp 5) (.cons (.cst (.int .i64 0)) .nil)))))) h18_1 .skip) h18_0)
@[simp] theorem h18_2_wp {P : Program} {F : PF P} {Q : EX → List Value → World → Prop} {env : List Value} {w : World} : h18_2.wp F Q env w = HC.wp F (.seq (.br (.chk none (.bin .neq) (.cons (.inp 5) (.cons (.cst (.int .i64 0)) .nil)) (.done [] (some (.op (.bin .neq) (.cons (.inp 5) (.cons (.cst (.int .i64 0)) .nil)))))) h18_1 .skip) h18_0) Q env w := rfl
def h18_3 : HC := (.reg (.chk none (.bin .add) (.cons (.inp 9) (.cons (.cst (.int .i64 1)) .nil)) (.done [(9, (.op (.bin .add) (.cons (.inp 9) (.cons (.cst (.int .i64 1)) .nil))))] none)))
@[simp] theorem h18_3_wp {P : Program} {F : PF P} {Q : EX → List Value → World → Prop} {env : List Value} {w : World} : h18_3.wp F Q env w = HC.wp F (.reg (.chk none (.bin .add) (.cons (.inp 9) (.cons (.cst (.int .i64 1)) .nil)) (.done [(9, (.op (.bin .add) (.cons (.inp 9) (.cons (.cst (.int .i64 1)) .nil))))] none))) Q env w := rfl
def h18_4 : HC := (.reg (.chk none (.fld 0) (.cons (.inp 6) .nil) (.eff (.ld false 1) (.cons (.op (.fld 0) (.cons (.inp 6) .nil)) .nil) (.chk none (.fld 1) (.cons (.inp 6) .nil) (.eff (.ld false 1) (.cons (.op (.fld 1) (.cons (.inp 6) .nil)) .nil) (.eff (.call 12) (.cons (.inp 4) (.cons (.bv 0) (.cons (.bv 1) .nil))) (.done [(5, (.bv 2))] none)))))))
@[simp] theorem h18_4_wp {P : Program} {F : PF P} {Q : EX → List Value → World → Prop} {env : List Value} {w : World} : h18_4.wp F Q env w = HC.wp F (.reg (.chk none (.fld 0) (.cons (.inp 6) .nil) (.eff (.ld false 1) (.cons (.op (.fld 0) (.cons (.inp 6) .nil)) .nil) (.chk none (.fld 1) (.cons (.inp 6) .nil) (.eff (.ld false 1) (.cons (.op (.fld 1) (.cons (.inp 6) .nil)) .nil) (.eff (.call 12) (.cons (.inp 4) (.cons (.bv 0) (.cons (.bv 1) .nil))) (.done [(5, (.bv 2))] none))))))) Q env w := rfl
def h18_5 : HC := (.br (.chk none (.bin .eql) (.cons (.inp 5) (.cons (.cst (.int .i64 0)) .nil)) (.done [] (some (.op (.bin .eql) (.cons (.inp 5) (.cons (.cst (.int .i64 0)) .nil)))))) h18_4 .skip)
@[simp] theorem h18_5_wp {P : Program} {F : PF P} {Q : EX → List Value → World → Prop} {env : List Value} {w : World} : h18_5.wp F Q env w = HC.wp F (.br (.chk none (.bin .eql) (.cons (.inp 5) (.cons (.cst (.int .i64 0)) .nil)) (.done [] (some (.op (.bin .eql) (.cons (.inp 5) (.cons (.cst (.int .i64 0)) .nil)))))) h18_4 .skip) Q env w := rfl
def h18_6 : HC := (.seq (.reg (.chk none (.idxL 2) (.cons (.inp 7) (.cons (.inp 9) .nil)) (.eff (.ld true 2) (.cons (.op (.idxL 2) (.cons (.inp 7) (.cons (.inp 9) .nil))) .nil) (.eff (.new 32 (.agg #[(.int .i64 0), (.int .i64 0)])) .nil (.eff (.st 2) (.cons (.bv 1) (.cons (.bv 0) .nil)) (.done [(6, (.bv 1))] none)))))) h18_5)
@[simp] theorem h18_6_wp {P : Program} {F : PF P} {Q : EX → List Value → World → Prop} {env : List Value} {w : World} : h18_6.wp F Q env w = HC.wp F (.seq (.reg (.chk none (.idxL 2) (.cons (.inp 7) (.cons (.inp 9) .nil)) (.eff (.ld true 2) (.cons (.op (.idxL 2) (.cons (.inp 7) (.cons (.inp 9) .nil))) .nil) (.eff (.new 32 (.agg #[(.int .i64 0), (.int .i64 0)])) .nil (.eff (.st 2) (.cons (.bv 1) (.cons (.bv 0) .nil)) (.done [(6, (.bv 1))] none)))))) h18_5) Q env w := rfl
def h18_7 : HC := (.seq (.block 1 h18_6) h18_3)
@[simp] theorem h18_7_wp {P : Program} {F : PF P} {Q : EX → List Value → World → Prop} {env : List Value} {w : World} : h18_7.wp F Q env w = HC.wp F (.seq (.block 1 h18_6) h18_3) Q env w := rfl
def h18_8 : HC := (.seq (.br (.chk none (.bin .lss) (.cons (.inp 9) (.cons (.inp 8) .nil)) (.done [] (some (.op (.bin .lss) (.cons (.inp 9) (.cons (.inp 8) .nil)))))) .skip (.exit 0)) h18_7)
@[simp] theorem h18_8_wp {P : Program} {F : PF P} {Q : EX → List Value → World → Prop} {env : List Value} {w : World} : h18_8.wp F Q env w = HC.wp F (.seq (.br (.chk none (.bin .lss) (.cons (.inp 9) (.cons (.inp 8) .nil)) (.done [] (some (.op (.bin .lss) (.cons (.inp 9) (.cons (.inp 8) .nil)))))) .skip (.exit 0)) h18_7) Q env w := rfl
def h18_9 : HC := (.loop h18_8)
@[simp] theorem h18_9_wp {P : Program} {F : PF P} {Q : EX → List Value → World → Prop} {env : List Value} {w : World} : h18_9.wp F Q env w = HC.wp F (.loop h18_8) Q env w := rfl
def h18_10 : HC := (.seq (.block 0 h18_9) h18_2)
@[simp] theorem h18_10_wp {P : Program} {F : PF P} {Q : EX → List Value → World → Prop} {env : List Value} {w : World} : h18_10.wp F Q env w = HC.wp F (.seq (.block 0 h18_9) h18_2) Q env w := rfl
def h18_11 : HC := (.seq (.reg (.chk none .lenL (.cons (.inp 1) .nil) (.done [(7, (.inp 1)), (8, (.op .lenL (.cons (.inp 1) .nil))), (9, (.cst (.int .i64 0)))] none))) h18_10)
@[simp] theorem h18_11_wp {P : Program} {F : PF P} {Q : EX → List Value → World → Prop} {env : List Value} {w : World} : h18_11.wp F Q env w = HC.wp F (.seq (.reg (.chk none .lenL (.cons (.inp 1) .nil) (.done [(7, (.inp 1)), (8, (.op .lenL (.cons (.inp 1) .nil))), (9, (.cst (.int .i64 0)))] none))) h18_10) Q env w := rfl
def h18_12 : HC := (.seq (.reg (.eff (.call 9) (.cons (.inp 0) .nil) (.chk none (.ext 0) (.cons (.bv 0) .nil) (.chk none (.ext 1) (.cons (.bv 0) .nil) (.done [(4, (.op (.ext 0) (.cons (.bv 0) .nil))), (5, (.op (.ext 1) (.cons (.bv 0) .nil)))] none))))) h18_11)
@[simp] theorem h18_12_wp {P : Program} {F : PF P} {Q : EX → List Value → World → Prop} {env : List Value} {w : World} : h18_12.wp F Q env w = HC.wp F (.seq (.reg (.eff (.call 9) (.cons (.inp 0) .nil) (.chk none (.ext 0) (.cons (.bv 0) .nil) (.chk none (.ext 1) (.cons (.bv 0) .nil) (.done [(4, (.op (.ext 0) (.cons (.bv 0) .nil))), (5, (.op (.ext 1) (.cons (.bv 0) .nil)))] none))))) h18_11) Q env w := rfl
def l18 : Lifted := ⟨[0, 1, 4, 5, 6, 7, 9, 15, 16, 17], 34, [.slot 2, .slot 3], (.seq (.reg (.done [(2, (.cst (.pointer none))), (3, (.cst (.int .i64 0)))] none)) h18_12)⟩
theorem l18_ok : liftFn U2 18 400 = some l18 := by kernel_rfl

-- (*bazaar/wheel.Wheel).All
def h20_0 : HC := (.seq (.reg (.done [(1, (.inp 2))] none)) .ret)
@[simp] theorem h20_0_wp {P : Program} {F : PF P} {Q : EX → List Value → World → Prop} {env : List Value} {w : World} : h20_0.wp F Q env w = HC.wp F (.seq (.reg (.done [(1, (.inp 2))] none)) .ret) Q env w := rfl
def h20_1 : HC := (.seq (.reg (.eff (.call 33) (.cons (.inp 2) (.cons (.cst (.func (.func 34) #[] #[])) .nil)) (.done [] none))) h20_0)
@[simp] theorem h20_1_wp {P : Program} {F : PF P} {Q : EX → List Value → World → Prop} {env : List Value} {w : World} : h20_1.wp F Q env w = HC.wp F (.seq (.reg (.eff (.call 33) (.cons (.inp 2) (.cons (.cst (.func (.func 34) #[] #[])) .nil)) (.done [] none))) h20_0) Q env w := rfl
def h20_2 : HC := (.reg (.chk none .chkp (.cons (.inp 3) .nil) (.chk none (.fld 0) (.cons (.op .chkp (.cons (.inp 3) .nil)) .nil) (.eff (.ld true 2) (.cons (.op (.fld 0) (.cons (.op .chkp (.cons (.inp 3) .nil)) .nil)) .nil) (.eff (.bsl 32 1 2 #[(.int .i64 0), (.int .i64 0)] [0]) (.cons (.bv 0) .nil) (.eff (.app 38 38 32 2 16 (.agg #[(.int .i64 0), (.int .i64 0)])) (.cons (.inp 2) (.cons (.bv 1) .nil)) (.done [(2, (.bv 2))] none)))))))
@[simp] theorem h20_2_wp {P : Program} {F : PF P} {Q : EX → List Value → World → Prop} {env : List Value} {w : World} : h20_2.wp F Q env w = HC.wp F (.reg (.chk none .chkp (.cons (.inp 3) .nil) (.chk none (.fld 0) (.cons (.op .chkp (.cons (.inp 3) .nil)) .nil) (.eff (.ld true 2) (.cons (.op (.fld 0) (.cons (.op .chkp (.cons (.inp 3) .nil)) .nil)) .nil) (.eff (.bsl 32 1 2 #[(.int .i64 0), (.int .i64 0)] [0]) (.cons (.bv 0) .nil) (.eff (.app 38 38 32 2 16 (.agg #[(.int .i64 0), (.int .i64 0)])) (.cons (.inp 2) (.cons (.bv 1) .nil)) (.done [(2, (.bv 2))] none))))))) Q env w := rfl
def h20_3 : HC := (.seq (.reg (.eff .ent (.cons (.inp 4) .nil) (.chk none (.ext 1) (.cons (.bv 0) .nil) (.done [(3, (.op (.ext 1) (.cons (.bv 0) .nil)))] none)))) h20_2)
@[simp] theorem h20_3_wp {P : Program} {F : PF P} {Q : EX → List Value → World → Prop} {env : List Value} {w : World} : h20_3.wp F Q env w = HC.wp F (.seq (.reg (.eff .ent (.cons (.inp 4) .nil) (.chk none (.ext 1) (.cons (.bv 0) .nil) (.done [(3, (.op (.ext 1) (.cons (.bv 0) .nil)))] none)))) h20_2) Q env w := rfl
def h20_4 : HC := (.block 1 h20_3)
@[simp] theorem h20_4_wp {P : Program} {F : PF P} {Q : EX → List Value → World → Prop} {env : List Value} {w : World} : h20_4.wp F Q env w = HC.wp F (.block 1 h20_3) Q env w := rfl
def h20_5 : HC := (.seq (.br (.eff (.nxt false 0) (.cons (.inp 4) .nil) (.chk none (.ext 0) (.cons (.bv 0) .nil) (.done [] (some (.op (.ext 0) (.cons (.bv 0) .nil)))))) .skip (.exit 0)) h20_4)
@[simp] theorem h20_5_wp {P : Program} {F : PF P} {Q : EX → List Value → World → Prop} {env : List Value} {w : World} : h20_5.wp F Q env w = HC.wp F (.seq (.br (.eff (.nxt false 0) (.cons (.inp 4) .nil) (.chk none (.ext 0) (.cons (.bv 0) .nil) (.done [] (some (.op (.ext 0) (.cons (.bv 0) .nil)))))) .skip (.exit 0)) h20_4) Q env w := rfl
def h20_6 : HC := (.loop h20_5)
@[simp] theorem h20_6_wp {P : Program} {F : PF P} {Q : EX → List Value → World → Prop} {env : List Value} {w : World} : h20_6.wp F Q env w = HC.wp F (.loop h20_5) Q env w := rfl
def h20_7 : HC := (.seq (.block 0 h20_6) h20_1)
@[simp] theorem h20_7_wp {P : Program} {F : PF P} {Q : EX → List Value → World → Prop} {env : List Value} {w : World} : h20_7.wp F Q env w = HC.wp F (.seq (.block 0 h20_6) h20_1) Q env w := rfl
def h20_8 : HC := (.seq (.reg (.chk none .chkp (.cons (.inp 0) .nil) (.chk none (.fld 2) (.cons (.op .chkp (.cons (.inp 0) .nil)) .nil) (.eff (.ld false 1) (.cons (.op (.fld 2) (.cons (.op .chkp (.cons (.inp 0) .nil)) .nil)) .nil) (.eff (.rng 72) (.cons (.bv 0) .nil) (.done [(4, (.bv 1))] none)))))) h20_7)
@[simp] theorem h20_8_wp {P : Program} {F : PF P} {Q : EX → List Value → World → Prop} {env : List Value} {w : World} : h20_8.wp F Q env w = HC.wp F (.seq (.reg (.chk none .chkp (.cons (.inp 0) .nil) (.chk none (.fld 2) (.cons (.op .chkp (.cons (.inp 0) .nil)) .nil) (.eff (.ld false 1) (.cons (.op (.fld 2) (.cons (.op .chkp (.cons (.inp 0) .nil)) .nil)) .nil) (.eff (.rng 72) (.cons (.bv 0) .nil) (.done [(4, (.bv 1))] none)))))) h20_7) Q env w := rfl
def h20_9 : HC := (.seq (.reg (.done [(2, (.cst (.slice none 0 0)))] none)) h20_8)
@[simp] theorem h20_9_wp {P : Program} {F : PF P} {Q : EX → List Value → World → Prop} {env : List Value} {w : World} : h20_9.wp F Q env w = HC.wp F (.seq (.reg (.done [(2, (.cst (.slice none 0 0)))] none)) h20_8) Q env w := rfl
def h20_10 : HC := (.seq (.reg (.done [(1, (.cst (.slice none 0 0)))] none)) .ret)
@[simp] theorem h20_10_wp {P : Program} {F : PF P} {Q : EX → List Value → World → Prop} {env : List Value} {w : World} : h20_10.wp F Q env w = HC.wp F (.seq (.reg (.done [(1, (.cst (.slice none 0 0)))] none)) .ret) Q env w := rfl
def h20_11 : HC := (.seq (.br (.chk none (.eqNil false (.pointer 76) (.pointer none)) (.cons (.inp 0) .nil) (.done [] (some (.op (.eqNil false (.pointer 76) (.pointer none)) (.cons (.inp 0) .nil))))) h20_10 .skip) h20_9)
@[simp] theorem h20_11_wp {P : Program} {F : PF P} {Q : EX → List Value → World → Prop} {env : List Value} {w : World} : h20_11.wp F Q env w = HC.wp F (.seq (.br (.chk none (.eqNil false (.pointer 76) (.pointer none)) (.cons (.inp 0) .nil) (.done [] (some (.op (.eqNil false (.pointer 76) (.pointer none)) (.cons (.inp 0) .nil))))) h20_10 .skip) h20_9) Q env w := rfl
def l20 : Lifted := ⟨[0, 2, 3, 5, 12], 27, [.slot 1], (.seq (.reg (.done [(1, (.cst (.slice none 0 0)))] none)) h20_11)⟩
theorem l20_ok : liftFn U2 20 400 = some l20 := by kernel_rfl


/-- what Schedule answers, by the pairs there are -/
def schP (now : Nat) (L : List (Int × Int)) (n a : Int) : Int := if n < 1 then 2 else if a ≤ now ∨ 1099511627776 < a then 90 else if ¬ ∀ u ∈ L, u.1 ≠ n then 92 else if 65536 ≤ L.length then 91 else 0
theorem schF_P (now : Nat) (ts : List Tm) (n a : Int) : schF now ts n a = schP now (ts.map tmr) n a := by
  have h : (∀ u ∈ ts, u.n ≠ n) ↔ ∀ u ∈ ts.map tmr, u.1 ≠ n := by simp [tmr]
  unfold schF schP
  simp only [h, List.length_map]
def frE (now : Nat) : List (Int × Int) → List (Int × Int) → Int
  | _, [] => 0
  | L, x :: r => if schP now L x.1 x.2 = 0 then frE now (L ++ [x]) r else schP now L x.1 x.2
theorem plOK.sch {now : Nat} {ts : List Tm} (h : plOK now ts) {n a : Int} (b : Nat) (hs : schF now ts n a = 0) : plOK now (ts ++ [hgT ⟨n, a.toNat, 0, 0, b⟩ now]) := by
  obtain ⟨h1, h2, h3, h4, h5⟩ := schF_zero.1 hs
  refine ⟨?_, fun t ht => ?_, fun t ht => ?_, fun t ht => ?_⟩
  · rw [List.map_append]
    refine List.nodup_append.2 ⟨h.num, by simp, fun x hx y hy => ?_⟩
    obtain ⟨u, hu, rfl⟩ := List.mem_map.1 hx
    simp at hy
    subst hy
    exact h4 u hu
  all_goals
    rcases List.mem_append.1 ht with ht | ht
  · exact h.pl t ht
  · rw [List.mem_singleton.1 ht]; exact ⟨rfl, rfl⟩
  · exact h.ah t ht
  · rw [List.mem_singleton.1 ht]; show now < a.toNat; omega
  · exact h.bd t ht
  · rw [List.mem_singleton.1 ht]; exact ⟨by show a.toNat ≤ _; omega, h1⟩
theorem tmr_sch {now : Nat} {ts : List Tm} {n a : Int} (b : Nat) (hs : schF now ts n a = 0) : (ts ++ [hgT ⟨n, a.toNat, 0, 0, b⟩ now]).map tmr = ts.map tmr ++ [(n, a)] := by
  obtain ⟨h1, h2, h3, h4, h5⟩ := schF_zero.1 hs
  rw [List.map_append]
  have : ((a.toNat : Nat) : Int) = a := by omega
  simp [tmr, hgT, this]
abbrev tmA1 (b : Nat) (x : Int × Int) : Asn := pt b (.cells (encT x).toArray 32 (0, 0))
theorem encT_one' (x : Int × Int) : ∀ u ∈ encT x, u.oneCell' = true := fun u hu => by simp at hu; rcases hu with rfl | rfl <;> rfl
theorem From_spec (now : Int) (l : List (Int × Int)) (v : Value) (w0 w : World) (A : Asn) {K : Value → World → Prop} (hl : l.length ≤ 1048576) (hrow : Row w0 A v l.length 2 (l.flatMap encT)) (s : St w0 A w)
    (hk : ∀ r w', (if 0 ≤ now ∧ now ≤ 1099511627776 then (if frE now.toNat [] l = 0 then ∃ p ts, r = .tuple #[.pointer (some ⟨p, 0, none⟩), .int .i64 0] ∧ plOK now.toNat ts ∧ ts.map tmr = l ∧ St w0 (A * whl p now.toNat 0 ts) w' else r = .tuple #[.pointer none, .int .i64 (frE now.toNat [] l)] ∧ St w0 A w') else r = .tuple #[.pointer none, .int .i64 90] ∧ St w0 A w') → K r w') :
    CallW Try.prog 18 [.int .i64 now, v] K w := by
  obtain ⟨a, cap, rfl⟩ := hrow.val
  refine callW_of_lift l18_ok (by simp [l18]) ?_
  simp [l18]
  refine eff_call (New_spec now w0 w A s fun r w1 h1 => ?_)
  obtain ⟨tot, htot⟩ : ∃ tot : Int, tot = if 0 ≤ now ∧ now ≤ 1099511627776 then frE now.toNat [] l else 90 := ⟨_, rfl⟩
  have key : ∀ (wv : Value) (e : Int) (w1 : World), (∃ ts F, St w0 (A * F) w1 ∧ ((e = 0 ∧ (0 ≤ now ∧ now ≤ 1099511627776) ∧ ∃ p, wv = .pointer (some ⟨p, 0, none⟩) ∧ F = whl p now.toNat 0 ts ∧ plOK now.toNat ts ∧ ts.map tmr = [] ∧ tot = frE now.toNat [] l) ∨ (e ≠ 0 ∧ tot = e))) →
      h18_10.wp U2 (endQ Try.prog [.slot 2, .slot 3] K) [.int .i64 now, .slice a l.length cap, .pointer none, .int .i64 0, wv, .int .i64 e, undef, .slice a l.length cap, .int .i64 l.length, .int .i64 0] w1 := by
    intro wv e w1 h
    simp
    refine loopI (fun env w' => ∃ (i : Nat) (e : Int) (x6 : Value) (ts : List Tm) (F : Asn), env = [.int .i64 now, .slice a l.length cap, .pointer none, .int .i64 0, wv, .int .i64 e, x6, .slice a l.length cap, .int .i64 l.length, .int .i64 i] ∧ i ≤ l.length ∧ St w0 (A * F) w' ∧
      ((e = 0 ∧ (0 ≤ now ∧ now ≤ 1099511627776) ∧ ∃ p, wv = .pointer (some ⟨p, 0, none⟩) ∧ F = whl p now.toNat 0 ts ∧ plOK now.toNat ts ∧ ts.map tmr = l.take i ∧ tot = frE now.toNat (l.take i) (l.drop i)) ∨ (e ≠ 0 ∧ tot = e)))
      (fun env _ => l.length - slotN env 9) ?_ ?_
    · obtain ⟨ts, F, s, h⟩ := h
      refine ⟨0, e, _, ts, F, rfl, by omega, s, ?_⟩
      simpa using h
    rintro LQ env w' ⟨i, e, x6, ts, F, rfl, hi, s', h⟩ hN hE hR
    simp
    refine cndI (fun hc => ?_) (fun hc => ?_)
    · simp at hc
      obtain ⟨g, o, cap', hv, hcl⟩ := hrow.at (by omega)
      cases hv
      simp [hc]
      refine eff_ldcs (vs := encT l[i]) (fun j u hu => by rw [Nat.add_assoc]; exact hcl _ s'.drop _ _ (by
        have hj : j < 2 := by
          have := (List.getElem?_eq_some_iff.1 hu).1
          simpa using this
        rw [flat_get encT 2 (fun _ => rfl) l i j hc hj]; exact hu)) rfl ?_
      simp
      refine eff_new s' ?_
      intro b w2 s2
      simp
      refine eff_stA (vs := encT l[i]) s2 rfl rfl (encT_one' _) (by simp) ?_
      intro w3 s3
      have s3 : St w0 (A * F * tmA1 b l[i]) w3 := by simpa using s3
      simp
      have hte : l.take i ++ [l[i]] = l.take (i + 1) := by rw [List.take_succ_eq_append_getElem hc]
      have hde : l.drop i = l[i] :: l.drop (i + 1) := by rw [List.drop_eq_getElem_cons hc]
      rcases h with ⟨rfl, hb, p, rfl, rfl, hp, hm, ht⟩ | ⟨he, ht⟩
      · simp
        refine eff_ldc (v := .int .i64 l[i].1) (s3.row_cells 0 _ rfl) ?_
        simp
        refine eff_ldc (v := .int .i64 l[i].2) (s3.row_cells 1 _ rfl) ?_
        simp
        refine eff_call (Sched_spec p now.toNat 0 ts l[i].1 l[i].2 w0 w3 (A * tmA1 b l[i]) (by omega) (s3.to (by ac_rfl)) fun w4 h4 => ?_)
        simp
        try simp (disch := omega) only [wrap64]
        rw [hde] at ht
        have ht : tot = if schP now.toNat (l.take i) l[i].1 l[i].2 = 0 then frE now.toNat (l.take i ++ [l[i]]) (l.drop (i + 1)) else schP now.toNat (l.take i) l[i].1 l[i].2 := ht
        rw [← hm, ← schF_P] at ht
        by_cases hz : schF now.toNat ts l[i].1 l[i].2 = 0
        · rw [if_pos hz] at h4 ht
          obtain ⟨b', s4⟩ := h4
          rw [hm, hte] at ht
          refine hN _ _ ⟨i + 1, 0, _, _, _, by simp [hz]; rfl, by omega, St.cut (tmA1 b l[i]) s4 (by ac_rfl), .inl ⟨rfl, hb, p, rfl, rfl, hp.sch b' hz, ?_, ht⟩⟩ (by simp [slotN]; omega)
          rw [tmr_sch b' hz, hm, hte]
        · rw [if_neg hz] at h4 ht
          refine hN _ _ ⟨i + 1, _, _, ts, _, by simp; rfl, by omega, St.cut (tmA1 b l[i]) h4 (sep_right _ _ _), .inr ⟨hz, ht⟩⟩ (by simp [slotN]; omega)
      · simp [he]
        try simp (disch := omega) only [wrap64]
        refine hN _ _ ⟨i + 1, e, _, ts, F, by simp; rfl, by omega, s3.drop, .inr ⟨he, ht⟩⟩ (by simp [slotN]; omega)
    · simp at hc
      simp
      refine hE _ _ _ ?_
      simp
      have hil : i = l.length := by omega
      rcases h with ⟨rfl, hb, p, rfl, rfl, hp, hm, ht⟩ | ⟨he, ht⟩
      · simp
        refine hk _ _ ?_
        have hz : frE now.toNat [] l = 0 := by
          rw [if_pos hb] at htot
          rw [← htot, ht, hil, List.drop_length]
          rfl
        rw [if_pos hb, if_pos hz]
        exact ⟨p, ts, rfl, hp, by rw [hm, hil, List.take_length], s'⟩
      · simp [he]
        refine hk _ _ ?_
        by_cases hb : 0 ≤ now ∧ now ≤ 1099511627776
        · rw [if_pos hb] at htot ⊢
          rw [if_neg (by rw [← htot, ht]; exact he)]
          exact ⟨by rw [← htot, ht], s'.drop⟩
        · rw [if_neg hb] at htot ⊢
          exact ⟨by rw [← ht, htot], s'.drop⟩
  by_cases hb : 0 ≤ now ∧ now ≤ 1099511627776
  · rw [if_pos hb] at h1 htot
    obtain ⟨p, rfl, s1⟩ := h1
    have := key (.pointer (some ⟨p, 0, none⟩)) 0 w1 ⟨[], _, s1, .inl ⟨rfl, hb, p, rfl, rfl, ⟨by simp, by simp, by simp, by simp⟩, rfl, htot⟩⟩
    simpa using this
  · rw [if_neg hb] at h1 htot
    obtain ⟨rfl, s1⟩ := h1
    have := key (.pointer none) 90 w1 ⟨[], emp, by rw [sep_emp]; exact s1, .inr ⟨by decide, htot⟩⟩
    simpa using this
def enT (ts : List Tm) (e : En) : Int × Int := match fnd ts e.k with
  | some t => tmr t
  | none => (0, 0)
theorem en_map {aes : List En} {ts : List Tm} (hn : (ts.map (·.n)).Nodup) (h : aes.map (fun e => (e.k, e.v)) = ts.map fun t => (t.n, tp t)) : aes.map (enT ts) = ts.map tmr := by
  have h1 : aes.map (·.k) = ts.map (·.n) := by
    have := congrArg (List.map Prod.fst) h
    simpa [Function.comp_def] using this
  have h2 : aes.map (enT ts) = (aes.map (·.k)).map fun n => match fnd ts n with
    | some t => tmr t
    | none => (0, 0) := by rw [List.map_map]; rfl
  rw [h2, h1, List.map_map]
  refine List.map_congr_left fun t ht => ?_
  simp [fnd_num hn ht]
theorem en_of {aes : List En} {ts : List Tm} (hn : (ts.map (·.n)).Nodup) (h : aes.map (fun e => (e.k, e.v)) = ts.map fun t => (t.n, tp t)) {e : En} (he : e ∈ aes) : ∃ t ∈ ts, e.v = tp t ∧ enT ts e = tmr t := by
  have h1 : (e.k, e.v) ∈ ts.map fun t => (t.n, tp t) := by rw [← h]; exact List.mem_map.2 ⟨e, he, rfl⟩
  obtain ⟨t, ht, h2⟩ := List.mem_map.1 h1
  refine ⟨t, ht, (congrArg Prod.snd h2).symm, ?_⟩
  have : e.k = t.n := (congrArg Prod.fst h2).symm
  unfold enT
  rw [this, fnd_num hn ht]
theorem bn_filter {es : List En} (h : (es.map (·.b)).Nodup) {e : En} (he : e ∈ es) : es.filter (fun x => decide (x.b = e.b)) = [e] := by
  induction es with
  | nil => cases he
  | cons x r ih =>
    rw [List.map_cons, List.nodup_cons] at h
    rcases List.mem_cons.1 he with rfl | he
    · have : r.filter (fun x => decide (x.b = e.b)) = [] := List.filter_eq_nil_iff.2 fun y hy g => h.1 (List.mem_map.2 ⟨y, hy, of_decide_eq_true g⟩)
      simp [this]
    · have hne : x.b ≠ e.b := fun g => h.1 (List.mem_map.2 ⟨e, he, g.symm⟩)
      rw [List.filter_cons_of_neg (by simpa using hne)]
      exact ih h.2 he
theorem left_perm {es : List En} {seen : Array Nat} {e : En} (hb : (es.map (·.b)).Nodup) (he : e ∈ es) (hn : e.b ∉ seen) : (leftE es seen).Perm (e :: leftE es (seen.push e.b)) := by
  have h1 : (leftE es seen).filter (fun x => decide (x.b = e.b)) = [e] :=
    bn_filter (hb.sublist (List.filter_sublist.map _)) (List.mem_filter.2 ⟨he, by simpa using hn⟩)
  have h2 : (leftE es seen).filter (fun x => !decide (x.b = e.b)) = leftE es (seen.push e.b) := by
    unfold leftE
    rw [List.filter_filter]
    refine List.filter_congr fun x _ => ?_
    rw [Bool.eq_iff_iff]
    simp [and_comm]
  have h3 := List.filter_append_perm (fun x : En => decide (x.b = e.b)) (leftE es seen)
  rw [h1, h2] at h3
  exact h3.symm
theorem All_spec (p now mv : Nat) (ts : List Tm) (w0 w : World) (A : Asn) {K : Value → World → Prop} (hlen : ts.length ≤ 65536) (s : St w0 (A * whl p now mv ts) w)
    (hk : ∀ v w', St w0 (A * whl p now mv ts * outs v (sortT (ts.map tmr))) w' → K v w') :
    CallW Try.prog 20 [.pointer (some ⟨p, 0, none⟩)] K w := by
  refine callW_of_lift l20_ok (by simp [l20]) ?_
  simp [l20]
  obtain ⟨am, aes, ac, Y, hok, t1⟩ := wopen s
  refine eff_ldc (v := .map (some am)) (t1.row_cells 2 _ rfl) ?_
  simp
  refine eff_rngI hungI.ty t1 t1.drop.look ?_
  intro b w1 s1
  simp
  have hmap := en_map hok.num hok.alls
  have hal : aes.length = ts.length := by have := congrArg List.length hok.alls; simpa using this
  have s1 : St w0 (A * hungA ts * bigA slA Y 257 * wc p now mv am Y * outs (.slice none 0 0) [] * imap am aes ac * pt b (.mapIter (some am) ac #[] ac)) w1 := by
    rw [show outs (.slice none 0 0) [] = own 32 2 (.slice none 0 0) 0 [] from rfl]
    exact (s1.own_nil 32 2).to (by ac_rfl)
  refine loopI (fun env w' => ∃ (seen : Array Nat) (v x : Value) (L : List (Int × Int)), env = [.pointer (some ⟨p, 0, none⟩), .slice none 0 0, v, x, .pointer (some ⟨b, 0, none⟩)] ∧ (leftE aes seen).length + seen.size ≤ aes.length ∧ (L ++ (leftE aes seen).map (enT ts)).Perm (ts.map tmr) ∧
      St w0 (A * hungA ts * bigA slA Y 257 * wc p now mv am Y * outs v L * imap am aes ac * pt b (.mapIter (some am) ac seen ac)) w') (fun _ w' => aes.length + 1 - seenN w' b)
    ⟨#[], _, _, [], rfl, left_start aes, by rw [← hmap, show leftE aes #[] = aes from List.filter_eq_self.2 (by simp)]; simp, s1⟩ ?_
  rintro LQ env w' ⟨seen, v, x, L, rfl, hcnt, hperm, s'⟩ hN hE hR
  have hseen : seenN w' b = seen.size := by unfold seenN; rw [s'.look]
  have hLl : L.length ≤ 65536 := by
    have := hperm.length_eq
    simp at this
    omega
  simp
  refine eff_nxtI s' hok.aok.lt (fun e he hns w2 s2 => ?_) (fun hall w2 s2 => ?_)
  · simp
    refine eff_ent s2 he hok.aok.bn ?_
    obtain ⟨t, ht, hev, hen⟩ := en_of hok.num hok.alls he
    rw [hev]
    simp
    have s3 := s2
    rw [hungA_off hok.num ht] at s3
    have s3 := s3.to (B := A * hungA (offT ts t.n) * bigA slA Y 257 * wc p now mv am Y * outs v L * imap am aes ac * pt b (.mapIter (some am) ac (seen.push e.b) ac) * tmA t) (by ac_rfl)
    refine eff_ldcs (vs := encT (tmr t)) (fun j y hy => ?_) rfl ?_
    · have hj : t.cs[j]? = some y := by
        match j, hy with
        | 0, hy => exact hy
        | 1, hy => exact hy
      exact s3.row_cells j y hj
    simp
    refine eff_bslV s3 rfl ?_
    intro c w3 s4
    simp
    refine eff_app (m := 1) (news := encT (tmr t)) (s4.to (B := A * hungA (offT ts t.n) * bigA slA Y 257 * wc p now mv am Y * imap am aes ac * pt b (.mapIter (some am) ac (seen.push e.b) ac) * tmA t * pt c (.cells (encT (tmr t)).toArray 32 (0, 0)) * outs v L) (by ac_rfl)) rfl s4.cells_look (fun y hy => by simp at hy; rcases hy with rfl | rfl <;> rfl) (by decide) rfl (by unfold maxLen; omega) (by omega) ?_
    intro v2 w4 s5
    simp
    have e2 : own 32 2 v2 (L.length + 1) (L.flatMap encT ++ encT (tmr t)) = outs v2 (L ++ [tmr t]) := by
      show _ = own _ 2 v2 (L ++ [tmr t]).length ((L ++ [tmr t]).flatMap encT)
      rw [List.length_append, List.flatMap_append]
      simp
    rw [e2] at s5
    have s6 : St w0 (A * hungA ts * bigA slA Y 257 * wc p now mv am Y * outs v2 (L ++ [tmr t]) * imap am aes ac * pt b (.mapIter (some am) ac (seen.push e.b) ac)) w4 := by
      rw [hungA_off hok.num ht]
      exact St.cut (pt c (.cells (encT (tmr t)).toArray 32 (0, 0))) s5 (by show _ = A * (hungA (offT ts t.n) * tmA t) * bigA slA Y 257 * wc p now mv am Y * outs v2 (L ++ [tmr t]) * imap am aes ac * pt b (.mapIter (some am) ac (seen.push e.b) ac) * _; ac_rfl)
    have hleft := left_push he hns
    refine hN _ _ ⟨seen.push e.b, v2, _, L ++ [tmr t], by simp; rfl, ?_, ?_, s6⟩ ?_
    · rw [Array.size_push]; omega
    · have h3 := (left_perm hok.aok.bn he hns).map (enT ts)
      rw [List.map_cons, hen] at h3
      rw [List.append_assoc]
      exact ((h3.append_left L).symm).trans hperm
    · have h1 : seenN w4 b = seen.size + 1 := by unfold seenN; rw [s6.look]; exact Array.size_push _
      rw [h1, hseen]; omega
  · simp
    refine hE _ _ _ ?_
    simp
    have hnil : leftE aes seen = [] := List.filter_eq_nil_iff.2 fun e he => by simpa using hall e he
    rw [hnil] at hperm
    have hperm : L.Perm (ts.map tmr) := by simpa using hperm
    have s3 : St w0 (A * whl p now mv ts * outs v L) w2 := (wclose hok ((s2.drop).to (B := A * outs v L * hungA ts * bigA slA Y 257 * imap am aes ac * wc p now mv am Y) (by ac_rfl))).to (by ac_rfl)
    refine eff_call (sort_spec L (by omega) w0 w2 (A * whl p now mv ts) s3 fun r w3 s4 => ?_)
    simp
    refine hk _ _ ?_
    have e4 : outs v (sortT (ts.map tmr)) = own 32 2 v L.length ((sortT L).flatMap encT) := by
      rw [← sortT_congr hperm]
      show own _ 2 v (sortT L).length _ = _
      rw [sortT_len]
    rw [e4]
    exact s4
end Go.HL.Wh

namespace Go.HL.Wh
open Go.HL Go.Proofs
set_option maxRecDepth 4000
set_option linter.unusedSimpArgs false
set_option linter.unusedVariables false
-- (*bazaar/wheel.Wheel).Load
def h21_0 : HC := (.seq (.reg (.done [(2, (.inp 3))] none)) .ret)
@[simp] theorem h21_0_wp {P : Program} {F : PF P} {Q : EX → List Value → World → Prop} {env : List Value} {w : World} : h21_0.wp F Q env w = HC.wp F (.seq (.reg (.done [(2, (.inp 3))] none)) .ret) Q env w := rfl
def h21_1 : HC := (.reg (.chk none (.bin .add) (.cons (.inp 6) (.cons (.cst (.int .i64 1)) .nil)) (.done [(6, (.op (.bin .add) (.cons (.inp 6) (.cons (.cst (.int .i64 1)) .nil))))] none)))
@[simp] theorem h21_1_wp {P : Program} {F : PF P} {Q : EX → List Value → World → Prop} {env : List Value} {w : World} : h21_1.wp F Q env w = HC.wp F (.reg (.chk none (.bin .add) (.cons (.inp 6) (.cons (.cst (.int .i64 1)) .nil)) (.done [(6, (.op (.bin .add) (.cons (.inp 6) (.cons (.cst (.int .i64 1)) .nil))))] none))) Q env w := rfl
def h21_2 : HC := (.reg (.eff (.bi .len #[72] 3 #[false]) (.cons (.inp 4) .nil) (.eff (.bsl 3 1 1 #[(.int .i64 0)] [0]) (.cons (.bv 0) .nil) (.eff (.app 47 47 3 1 8 (.int .i64 0)) (.cons (.inp 3) (.cons (.bv 1) .nil)) (.done [(3, (.bv 2))] none)))))
@[simp] theorem h21_2_wp {P : Program} {F : PF P} {Q : EX → List Value → World → Prop} {env : List Value} {w : World} : h21_2.wp F Q env w = HC.wp F (.reg (.eff (.bi .len #[72] 3 #[false]) (.cons (.inp 4) .nil) (.eff (.bsl 3 1 1 #[(.int .i64 0)] [0]) (.cons (.bv 0) .nil) (.eff (.app 47 47 3 1 8 (.int .i64 0)) (.cons (.inp 3) (.cons (.bv 1) .nil)) (.done [(3, (.bv 2))] none))))) Q env w := rfl
def h21_3 : HC := (.seq (.reg (.chk none (.chA false 64 1) (.cons (.inp 5) (.cons (.inp 6) .nil)) (.done [(4, (.op (.chA false 64 1) (.cons (.inp 5) (.cons (.inp 6) .nil))))] none))) h21_2)
@[simp] theorem h21_3_wp {P : Program} {F : PF P} {Q : EX → List Value → World → Prop} {env : List Value} {w : World} : h21_3.wp F Q env w = HC.wp F (.seq (.reg (.chk none (.chA false 64 1) (.cons (.inp 5) (.cons (.inp 6) .nil)) (.done [(4, (.op (.chA false 64 1) (.cons (.inp 5) (.cons (.inp 6) .nil))))] none))) h21_2) Q env w := rfl
def h21_4 : HC := (.seq (.block 1 h21_3) h21_1)
@[simp] theorem h21_4_wp {P : Program} {F : PF P} {Q : EX → List Value → World → Prop} {env : List Value} {w : World} : h21_4.wp F Q env w = HC.wp F (.seq (.block 1 h21_3) h21_1) Q env w := rfl
def h21_5 : HC := (.seq (.br (.chk none (.bin .lss) (.cons (.inp 6) (.cons (.cst (.int .i64 64)) .nil)) (.done [] (some (.op (.bin .lss) (.cons (.inp 6) (.cons (.cst (.int .i64 64)) .nil)))))) .skip (.exit 0)) h21_4)
@[simp] theorem h21_5_wp {P : Program} {F : PF P} {Q : EX → List Value → World → Prop} {env : List Value} {w : World} : h21_5.wp F Q env w = HC.wp F (.seq (.br (.chk none (.bin .lss) (.cons (.inp 6) (.cons (.cst (.int .i64 64)) .nil)) (.done [] (some (.op (.bin .lss) (.cons (.inp 6) (.cons (.cst (.int .i64 64)) .nil)))))) .skip (.exit 0)) h21_4) Q env w := rfl
def h21_6 : HC := (.loop h21_5)
@[simp] theorem h21_6_wp {P : Program} {F : PF P} {Q : EX → List Value → World → Prop} {env : List Value} {w : World} : h21_6.wp F Q env w = HC.wp F (.loop h21_5) Q env w := rfl
def h21_7 : HC := (.seq (.block 0 h21_6) h21_0)
@[simp] theorem h21_7_wp {P : Program} {F : PF P} {Q : EX → List Value → World → Prop} {env : List Value} {w : World} : h21_7.wp F Q env w = HC.wp F (.seq (.block 0 h21_6) h21_0) Q env w := rfl
def h21_8 : HC := (.seq (.reg (.chk none .chkp (.cons (.inp 0) .nil) (.chk none (.fld 3) (.cons (.op .chkp (.cons (.inp 0) .nil)) .nil) (.chk none (.idxP 4 64) (.cons (.op (.fld 3) (.cons (.op .chkp (.cons (.inp 0) .nil)) .nil)) (.cons (.inp 1) .nil)) (.eff (.ld true 64) (.cons (.op (.idxP 4 64) (.cons (.op (.fld 3) (.cons (.op .chkp (.cons (.inp 0) .nil)) .nil)) (.cons (.inp 1) .nil))) .nil) (.done [(5, (.bv 0)), (6, (.cst (.int .i64 0)))] none)))))) h21_7)
@[simp] theorem h21_8_wp {P : Program} {F : PF P} {Q : EX → List Value → World → Prop} {env : List Value} {w : World} : h21_8.wp F Q env w = HC.wp F (.seq (.reg (.chk none .chkp (.cons (.inp 0) .nil) (.chk none (.fld 3) (.cons (.op .chkp (.cons (.inp 0) .nil)) .nil) (.chk none (.idxP 4 64) (.cons (.op (.fld 3) (.cons (.op .chkp (.cons (.inp 0) .nil)) .nil)) (.cons (.inp 1) .nil)) (.eff (.ld true 64) (.cons (.op (.idxP 4 64) (.cons (.op (.fld 3) (.cons (.op .chkp (.cons (.inp 0) .nil)) .nil)) (.cons (.inp 1) .nil))) .nil) (.done [(5, (.bv 0)), (6, (.cst (.int .i64 0)))] none)))))) h21_7) Q env w := rfl
def h21_9 : HC := (.seq (.reg (.done [(3, (.cst (.slice none 0 0)))] none)) h21_8)
@[simp] theorem h21_9_wp {P : Program} {F : PF P} {Q : EX → List Value → World → Prop} {env : List Value} {w : World} : h21_9.wp F Q env w = HC.wp F (.seq (.reg (.done [(3, (.cst (.slice none 0 0)))] none)) h21_8) Q env w := rfl
def h21_10 : HC := (.seq (.reg (.chk none .chkp (.cons (.inp 0) .nil) (.chk none (.fld 259) (.cons (.op .chkp (.cons (.inp 0) .nil)) .nil) (.eff (.ld false 1) (.cons (.op (.fld 259) (.cons (.op .chkp (.cons (.inp 0) .nil)) .nil)) .nil) (.eff (.bi .len #[72] 3 #[false]) (.cons (.bv 0) .nil) (.eff (.bsl 3 1 1 #[(.int .i64 0)] [0]) (.cons (.bv 1) .nil) (.done [(2, (.bv 2))] none))))))) .ret)
@[simp] theorem h21_10_wp {P : Program} {F : PF P} {Q : EX → List Value → World → Prop} {env : List Value} {w : World} : h21_10.wp F Q env w = HC.wp F (.seq (.reg (.chk none .chkp (.cons (.inp 0) .nil) (.chk none (.fld 259) (.cons (.op .chkp (.cons (.inp 0) .nil)) .nil) (.eff (.ld false 1) (.cons (.op (.fld 259) (.cons (.op .chkp (.cons (.inp 0) .nil)) .nil)) .nil) (.eff (.bi .len #[72] 3 #[false]) (.cons (.bv 0) .nil) (.eff (.bsl 3 1 1 #[(.int .i64 0)] [0]) (.cons (.bv 1) .nil) (.done [(2, (.bv 2))] none))))))) .ret) Q env w := rfl
def h21_11 : HC := (.seq (.br (.chk none (.bin .eql) (.cons (.inp 1) (.cons (.cst (.int .i64 4)) .nil)) (.done [] (some (.op (.bin .eql) (.cons (.inp 1) (.cons (.cst (.int .i64 4)) .nil)))))) h21_10 .skip) h21_9)
@[simp] theorem h21_11_wp {P : Program} {F : PF P} {Q : EX → List Value → World → Prop} {env : List Value} {w : World} : h21_11.wp F Q env w = HC.wp F (.seq (.br (.chk none (.bin .eql) (.cons (.inp 1) (.cons (.cst (.int .i64 4)) .nil)) (.done [] (some (.op (.bin .eql) (.cons (.inp 1) (.cons (.cst (.int .i64 4)) .nil)))))) h21_10 .skip) h21_9) Q env w := rfl
def h21_12 : HC := (.seq (.reg (.done [(2, (.cst (.slice none 0 0)))] none)) .ret)
@[simp] theorem h21_12_wp {P : Program} {F : PF P} {Q : EX → List Value → World → Prop} {env : List Value} {w : World} : h21_12.wp F Q env w = HC.wp F (.seq (.reg (.done [(2, (.cst (.slice none 0 0)))] none)) .ret) Q env w := rfl
def h21_13 : HC := (.seq (.br (.chk none (.eqNil false (.pointer 76) (.pointer none)) (.cons (.inp 0) .nil) (.bnd (.op (.eqNil false (.pointer 76) (.pointer none)) (.cons (.inp 0) .nil)) (.chk (some ((.bv 0), false)) (.bin .lss) (.cons (.inp 1) (.cons (.cst (.int .i64 0)) .nil)) (.isb none (.bv 0) (.bnd (.ite (.bv 0) true (.cst (.bool true)) (.op (.bin .lss) (.cons (.inp 1) (.cons (.cst (.int .i64 0)) .nil)))) (.chk (some ((.bv 1), false)) (.bin .gtr) (.cons (.inp 1) (.cons (.cst (.int .i64 4)) .nil)) (.isb none (.bv 1) (.done [] (some (.ite (.bv 1) true (.cst (.bool true)) (.op (.bin .gtr) (.cons (.inp 1) (.cons (.cst (.int .i64 4)) .nil))))))))))))) h21_12 .skip) h21_11)
@[simp] theorem h21_13_wp {P : Program} {F : PF P} {Q : EX → List Value → World → Prop} {env : List Value} {w : World} : h21_13.wp F Q env w = HC.wp F (.seq (.br (.chk none (.eqNil false (.pointer 76) (.pointer none)) (.cons (.inp 0) .nil) (.bnd (.op (.eqNil false (.pointer 76) (.pointer none)) (.cons (.inp 0) .nil)) (.chk (some ((.bv 0), false)) (.bin .lss) (.cons (.inp 1) (.cons (.cst (.int .i64 0)) .nil)) (.isb none (.bv 0) (.bnd (.ite (.bv 0) true (.cst (.bool true)) (.op (.bin .lss) (.cons (.inp 1) (.cons (.cst (.int .i64 0)) .nil)))) (.chk (some ((.bv 1), false)) (.bin .gtr) (.cons (.inp 1) (.cons (.cst (.int .i64 4)) .nil)) (.isb none (.bv 1) (.done [] (some (.ite (.bv 1) true (.cst (.bool true)) (.op (.bin .gtr) (.cons (.inp 1) (.cons (.cst (.int .i64 4)) .nil))))))))))))) h21_12 .skip) h21_11) Q env w := rfl
def l21 : Lifted := ⟨[0, 1, 4, 5, 7, 31, 32], 42, [.slot 2], (.seq (.reg (.done [(2, (.cst (.slice none 0 0)))] none)) h21_13)⟩
theorem l21_ok : liftFn U2 21 400 = some l21 := by kernel_rfl


/-- the place of a tick, as_ one number -/
def lvQ (a now : Nat) : Nat := (lvF a now).1 * 64 + (lvF a now).2
def cntQ (now : Nat) (L : List (Int × Int)) (q : Nat) : Nat := (L.filter fun x => decide (lvQ x.2.toNat now = q)).length
theorem plOK.q {now : Nat} {ts : List Tm} (h : plOK now ts) {t : Tm} (ht : t ∈ ts) : tmQ t = lvQ t.a now := by
  unfold tmQ lvQ
  rw [(h.pl t ht).1, (h.pl t ht).2]
theorem SlOK.len {now : Nat} {ts : List Tm} (h : plOK now ts) {q : Nat} {x : Sl} (hs : SlOK ts q x) : (slE x).length = cntQ now (ts.map tmr) q := by
  have h1 : ((slE x).map (·.k)).Perm ((ts.filter fun t => decide (tmQ t = q)).map (·.n)) := by
    refine (List.perm_ext_iff_of_nodup hs.ok.kn (h.num.sublist (List.filter_sublist.map _))).2 fun n => ?_
    constructor
    · intro hn
      obtain ⟨e, he, rfl⟩ := List.mem_map.1 hn
      obtain ⟨t, ht, h1, h2, h3⟩ := (hs.mem e.k e.v).1 (getI_of hs.ok.kn he)
      exact List.mem_map.2 ⟨t, List.mem_filter.2 ⟨ht, decide_eq_true h2⟩, h1⟩
    · intro hn
      obtain ⟨t, ht, rfl⟩ := List.mem_map.1 hn
      obtain ⟨ht, h2⟩ := List.mem_filter.1 ht
      obtain ⟨e, he, h3, _⟩ := getI_mem ((hs.mem t.n (tp t)).2 ⟨t, ht, rfl, of_decide_eq_true h2, rfl⟩)
      exact List.mem_map.2 ⟨e, he, h3⟩
  have h2 := h1.length_eq
  rw [List.length_map, List.length_map] at h2
  rw [h2]
  unfold cntQ
  rw [List.filter_map, List.length_map]
  congr 1
  refine List.filter_congr fun t ht => ?_
  show _ = decide (lvQ (t.a : Int).toNat now = q)
  rw [h.q ht, Int.toNat_natCast]
theorem cntQ_perm (now : Nat) {L L' : List (Int × Int)} (h : L.Perm L') (q : Nat) : cntQ now L q = cntQ now L' q := (h.filter _).length_eq
theorem cntQ_le (now : Nat) (L : List (Int × Int)) (q : Nat) : cntQ now L q ≤ L.length := List.length_filter_le _ _
def ldF (now : Nat) (L : List (Int × Int)) (level : Int) : List Int :=
  if level < 0 ∨ 4 < level then [] else if level = 4 then [(cntQ now L 256 : Int)] else (List.range 64).map fun s => (cntQ now L (level.toNat * 64 + s) : Int)
theorem ldF_perm (now : Nat) {L L' : List (Int × Int)} (h : L.Perm L') (level : Int) : ldF now L level = ldF now L' level := by
  unfold ldF
  simp only [cntQ_perm now h]
abbrev intsA (v : Value) (l : List Int) : Asn := own 3 1 v l.length (l.map (Value.int .i64))
theorem eff_lenS {p am now mv : Nat} {Y : Dk} {ts : List Tm} {B : Asn} {q : Nat} {ty : TypeId} {cs : Array Bool} {w0 w : World} {K : Value → World → Prop} (hp : plOK now ts) (hq : q < 257) (hs : SlOK ts q (Y q)) (s : St w0 (B * bigA slA Y 257) w)
    (hk : K (.int .i64 (cntQ now (ts.map tmr) q)) w) : EffW Try.prog (.bi .len #[72] ty cs) [slv (Y q)] K w := by
  rw [← hs.len hp] at hk
  rw [big_at hq] at s
  cases hY : Y q with
  | none =>
    rw [hY] at hk
    exact eff_lenN hungI.ty hk
  | some x =>
    rw [hY] at hk s
    have s : St w0 (B * bigH slA Y q 257 * imap x.1 x.2.1 x.2.2) w := s.to (by rw [show slA q (some x) = imap x.1 x.2.1 x.2.2 from rfl]; ac_rfl)
    exact eff_lenI hungI.ty s.look hk
theorem Load_spec (p now mv : Nat) (ts : List Tm) (level : Int) (w0 w : World) (A : Asn) {K : Value → World → Prop} (hpl : plOK now ts) (hlen : ts.length ≤ 65536) (s : St w0 (A * whl p now mv ts) w)
    (hk : ∀ v w', St w0 (A * whl p now mv ts * intsA v (ldF now (ts.map tmr) level)) w' → K v w') :
    CallW Try.prog 21 [.pointer (some ⟨p, 0, none⟩), .int .i64 level] K w := by
  refine callW_of_lift l21_ok (by simp [l21]) ?_
  simp [l21]
  refine cndI (fun c => ?_) (fun c => ?_)
  · have hl : level < 0 ∨ 4 < level := by
      simp at c
      omega
    simp
    refine hk _ _ ?_
    have : ldF now (ts.map tmr) level = [] := by unfold ldF; rw [if_pos hl]
    rw [this]
    exact s.own_nil _ _
  have hl : 0 ≤ level ∧ level ≤ 4 := by
    simp at c
    omega
  obtain ⟨l, rfl⟩ := Int.eq_ofNat_of_zero_le hl.1
  have hl4 : l ≤ 4 := by omega
  obtain ⟨am, aes, ac, Y, hok, t1⟩ := wopen s
  simp
  refine cndI (fun c4 => ?_) (fun c4 => ?_)
  · have : l = 4 := by
      have h : (l : Int) = 4 := by simpa using c4
      omega
    subst this
    simp
    refine eff_ldc (v := slv (Y 256)) (wc_cell (q := 256) t1 (by decide)) ?_
    simp
    refine eff_lenS (p := p) (am := am) (mv := mv) (q := 256) hpl (by decide) (hok.sl 256 (by decide)) (t1.to (B := A * hungA ts * imap am aes ac * wc p now mv am Y * bigA slA Y 257) (by ac_rfl)) ?_
    simp
    refine eff_bslO (vs := [.int .i64 (cntQ now (ts.map tmr) 256)]) s (by simp [Value.oneCell']) rfl rfl (by decide) ?_
    intro v w1 s1
    simp
    exact hk _ _ s1
  have hl3 : l < 4 := by
    have : ¬ l = 4 := by
      intro e
      subst e
      simp at c4
    omega
  simp
  refine ⟨by omega, ?_⟩
  refine eff_ldcs (vs := (List.range 64).map fun j => slv (Y (l * 64 + j))) (fun j u hu => ?_) (by simp) ?_
  · have hj : j < 64 := by
      have := (List.getElem?_eq_some_iff.1 hu).1
      simpa using this
    have := wc_cell t1 (q := l * 64 + j) (by omega)
    simp [hj] at hu
    subst hu
    rw [show 3 + l * 64 + j = 3 + (l * 64 + j) by omega]
    exact this
  simp
  have s0 := t1.own_nil 3 1
  refine loopI (fun env w' => ∃ (i : Nat) (v x : Value), env = [.pointer (some ⟨p, 0, none⟩), .int .i64 l, .slice none 0 0, v, x, .agg ((List.range 64).map fun j => slv (Y (l * 64 + j))).toArray, .int .i64 i] ∧ i ≤ 64 ∧
      St w0 (A * hungA ts * bigA slA Y 257 * imap am aes ac * wc p now mv am Y * intsA v ((List.range i).map fun s => (cntQ now (ts.map tmr) (l * 64 + s) : Int))) w')
    (fun env _ => 64 - slotN env 6) ⟨0, _, _, rfl, by omega, s0⟩ ?_
  rintro LQ env w' ⟨i, v, x, rfl, hi, s'⟩ hN hE hR
  simp
  refine cndI (fun h => ?_) (fun h => ?_)
  · have hi' : i < 64 := by
      simp at h
      omega
    have hic : (i : Int) < 64 := by omega
    simp [hi', hic]
    refine eff_lenS (p := p) (am := am) (mv := mv) (q := l * 64 + i) hpl (by omega) (hok.sl _ (by omega)) (s'.to (B := A * hungA ts * imap am aes ac * wc p now mv am Y * intsA v ((List.range i).map fun s => (cntQ now (ts.map tmr) (l * 64 + s) : Int)) * bigA slA Y 257) (by ac_rfl)) ?_
    obtain ⟨c, hc⟩ : ∃ c, cntQ now (ts.map tmr) (l * 64 + i) = c := ⟨_, rfl⟩
    rw [hc]
    simp
    refine eff_bsl1 s' rfl ?_
    intro b w1 s1
    simp
    refine eff_app (m := 1) (news := [.int .i64 c]) (s1.swap) rfl (fun j u hu => ?_) (by simp [Value.oneCell']) (by decide) rfl (by simp; unfold maxLen; omega) (by simp; omega) ?_
    · exact s1.cells_look j u (by simpa using hu)
    intro v2 w2 s2
    simp
    try simp (disch := omega) only [wrap64]
    refine hN _ _ ⟨i + 1, v2, _, by simp; rfl, by omega, ?_⟩ (by simp [slotN]; omega)
    have e : intsA v2 ((List.range (i + 1)).map fun s => (cntQ now (ts.map tmr) (l * 64 + s) : Int)) = own 3 1 v2 (((List.range i).map fun s => (cntQ now (ts.map tmr) (l * 64 + s) : Int)).length + 1) (((List.range i).map fun s => (cntQ now (ts.map tmr) (l * 64 + s) : Int)).map (Value.int .i64) ++ [.int .i64 c]) := by
      show own _ _ _ _ _ = _
      rw [List.range_succ]
      simp [hc]
    rw [e]
    exact St.cut (pt b (.cells #[.int .i64 c] 3 (0, 0))) s2 (by ac_rfl)
  · have : i = 64 := by
      simp at h
      omega
    subst this
    simp
    refine hE _ _ _ ?_
    simp
    refine hk _ _ ?_
    have e : ldF now (ts.map tmr) (l : Int) = (List.range 64).map fun s => (cntQ now (ts.map tmr) (l * 64 + s) : Int) := by
      unfold ldF
      rw [if_neg (by omega), if_neg (by omega), Int.toNat_natCast]
    rw [e]
    exact (wclose hok (s'.to (B := A * intsA v ((List.range 64).map fun s => (cntQ now (ts.map tmr) (l * 64 + s) : Int)) * hungA ts * bigA slA Y 257 * imap am aes ac * wc p now mv am Y) (by ac_rfl))).swap
end Go.HL.Wh

namespace Go.HL.Wh
open Go.HL Go.Proofs
set_option maxRecDepth 4000
set_option linter.unusedSimpArgs false
set_option linter.unusedVariables false
theorem sortT_of {l : List (Int × Int)} (h : l.Pairwise fun x y => ltOf ordF y x = false) : sortT l = l :=
  List.Perm.eq_of_pairwise (fun x y _ _ h1 h2 => ordT x y h2 h1) (sortT_pw l) h (sortT_perm l)
theorem due_map (to : Nat) (ts : List Tm) : (dueT to ts).map tmr = (ts.map tmr).filter fun x => decide (x.2 ≤ (to : Int)) := by
  unfold dueT
  rw [List.filter_map]
  congr 1
  refine List.filter_congr fun t _ => ?_
  show decide (t.a ≤ to) = decide ((t.a : Int) ≤ to)
  rw [Bool.eq_iff_iff]
  simp
theorem rest_map (to : Nat) (ts : List Tm) : (restT to ts).map tmr = (ts.map tmr).filter fun x => decide ((to : Int) < x.2) := by
  unfold restT
  rw [List.filter_map, List.map_map]
  have e : (ts.filter fun t => decide (to < t.a)) = ts.filter ((fun x : Int × Int => decide ((to : Int) < x.2)) ∘ tmr) := by
    refine List.filter_congr fun t _ => ?_
    show decide (to < t.a) = decide ((to : Int) < t.a)
    rw [Bool.eq_iff_iff]
    simp
  rw [e]
  rfl
theorem moved_map {now to : Nat} {ts : List Tm} (h : plOK now ts) : (movedT to ts).length = ((ts.map tmr).filter fun x => decide ((to : Int) < x.2) && decide ((lvF x.2.toNat to).1 ≠ (lvF x.2.toNat now).1)).length := by
  unfold movedT
  rw [List.filter_map, List.length_map]
  congr 1
  refine List.filter_congr fun t ht => ?_
  show (decide (to < t.a) && decide ((lvF t.a to).1 ≠ t.l)) = (decide ((to : Int) < t.a) && decide ((lvF (t.a : Int).toNat to).1 ≠ (lvF (t.a : Int).toNat now).1))
  rw [Int.toNat_natCast, (h.pl t ht).1, Bool.eq_iff_iff]
  simp
theorem fnd_at {now : Nat} {ts : List Tm} (h : plOK now ts) {x : Int × Int} (hx : x ∈ ts.map tmr) : fpl (fnd ts x.1) = lvF x.2.toNat now ∧ fer (fnd ts x.1) = 0 ∧ fat (fnd ts x.1) = x.2.toNat := by
  obtain ⟨t, ht, rfl⟩ := List.mem_map.1 hx
  rw [show (tmr t).1 = t.n from rfl, fnd_num h.num ht]
  refine ⟨?_, rfl, rfl⟩
  show (t.l, t.s) = lvF (t.a : Int).toNat now
  rw [Int.toNat_natCast, (h.pl t ht).1, (h.pl t ht).2]
theorem plOK.pairs {now : Nat} {ts : List Tm} (h : plOK now ts) : (∀ x ∈ ts.map tmr, 1 ≤ x.1 ∧ (now : Int) < x.2 ∧ x.2 ≤ 1099511627776) ∧ ((ts.map tmr).map (·.1)).Nodup := by
  refine ⟨fun x hx => ?_, ?_⟩
  · obtain ⟨t, ht, rfl⟩ := List.mem_map.1 hx
    have h1 := h.ah t ht
    have h2 := h.bd t ht
    exact ⟨h2.2, by show (now : Int) < t.a; omega, by show (t.a : Int) ≤ _; omega⟩
  · rw [List.map_map]; exact h.num
end Go.HL.Wh

namespace Go.HL.Wh
open Go.HL Go.Proofs
set_option maxRecDepth 4000
set_option linter.unusedSimpArgs false
set_option linter.unusedVariables false
-- bazaar/bazaarlaw09.WheelSteps
-- bazaar/bazaarlaw09.ints
def h23_0 : HC := (.seq (.reg (.done [(2, (.cst (.bool true)))] none)) .ret)
@[simp] theorem h23_0_wp {P : Program} {F : PF P} {Q : EX → List Value → World → Prop} {env : List Value} {w : World} : h23_0.wp F Q env w = HC.wp F (.seq (.reg (.done [(2, (.cst (.bool true)))] none)) .ret) Q env w := rfl
def h23_1 : HC := (.reg (.chk none (.bin .add) (.cons (.inp 3) (.cons (.cst (.int .i64 1)) .nil)) (.done [(3, (.op (.bin .add) (.cons (.inp 3) (.cons (.cst (.int .i64 1)) .nil))))] none)))
@[simp] theorem h23_1_wp {P : Program} {F : PF P} {Q : EX → List Value → World → Prop} {env : List Value} {w : World} : h23_1.wp F Q env w = HC.wp F (.reg (.chk none (.bin .add) (.cons (.inp 3) (.cons (.cst (.int .i64 1)) .nil)) (.done [(3, (.op (.bin .add) (.cons (.inp 3) (.cons (.cst (.int .i64 1)) .nil))))] none))) Q env w := rfl
def h23_2 : HC := (.seq (.reg (.done [(2, (.cst (.bool false)))] none)) .ret)
@[simp] theorem h23_2_wp {P : Program} {F : PF P} {Q : EX → List Value → World → Prop} {env : List Value} {w : World} : h23_2.wp F Q env w = HC.wp F (.seq (.reg (.done [(2, (.cst (.bool false)))] none)) .ret) Q env w := rfl
def h23_3 : HC := (.brq (some 0) (.chk none (.idxL 1) (.cons (.inp 0) (.cons (.inp 3) .nil)) (.eff (.ld false 1) (.cons (.op (.idxL 1) (.cons (.inp 0) (.cons (.inp 3) .nil))) .nil) (.chk none (.idxL 1) (.cons (.inp 1) (.cons (.inp 3) .nil)) (.eff (.ld false 1) (.cons (.op (.idxL 1) (.cons (.inp 1) (.cons (.inp 3) .nil))) .nil) (.chk none (.bin .neq) (.cons (.bv 0) (.cons (.bv 1) .nil)) (.done [] (some (.op (.bin .neq) (.cons (.bv 0) (.cons (.bv 1) .nil)))))))))) h23_2 .skip)
@[simp] theorem h23_3_wp {P : Program} {F : PF P} {Q : EX → List Value → World → Prop} {env : List Value} {w : World} : h23_3.wp F Q env w = HC.wp F (.brq (some 0) (.chk none (.idxL 1) (.cons (.inp 0) (.cons (.inp 3) .nil)) (.eff (.ld false 1) (.cons (.op (.idxL 1) (.cons (.inp 0) (.cons (.inp 3) .nil))) .nil) (.chk none (.idxL 1) (.cons (.inp 1) (.cons (.inp 3) .nil)) (.eff (.ld false 1) (.cons (.op (.idxL 1) (.cons (.inp 1) (.cons (.inp 3) .nil))) .nil) (.chk none (.bin .neq) (.cons (.bv 0) (.cons (.bv 1) .nil)) (.done [] (some (.op (.bin .neq) (.cons (.bv 0) (.cons (.bv 1) .nil)))))))))) h23_2 .skip) Q env w := rfl
def h23_4 : HC := (.seq (.block 1 h23_3) h23_1)
@[simp] theorem h23_4_wp {P : Program} {F : PF P} {Q : EX → List Value → World → Prop} {env : List Value} {w : World} : h23_4.wp F Q env w = HC.wp F (.seq (.block 1 h23_3) h23_1) Q env w := rfl
def h23_5 : HC := (.seq (.br (.chk none .lenL (.cons (.inp 0) .nil) (.chk none (.bin .lss) (.cons (.inp 3) (.cons (.op .lenL (.cons (.inp 0) .nil)) .nil)) (.done [] (some (.op (.bin .lss) (.cons (.inp 3) (.cons (.op .lenL (.cons (.inp 0) .nil)) .nil))))))) .skip (.exit 0)) h23_4)
@[simp] theorem h23_5_wp {P : Program} {F : PF P} {Q : EX → List Value → World → Prop} {env : List Value} {w : World} : h23_5.wp F Q env w = HC.wp F (.seq (.br (.chk none .lenL (.cons (.inp 0) .nil) (.chk none (.bin .lss) (.cons (.inp 3) (.cons (.op .lenL (.cons (.inp 0) .nil)) .nil)) (.done [] (some (.op (.bin .lss) (.cons (.inp 3) (.cons (.op .lenL (.cons (.inp 0) .nil)) .nil))))))) .skip (.exit 0)) h23_4) Q env w := rfl
def h23_6 : HC := (.loop h23_5)
@[simp] theorem h23_6_wp {P : Program} {F : PF P} {Q : EX → List Value → World → Prop} {env : List Value} {w : World} : h23_6.wp F Q env w = HC.wp F (.loop h23_5) Q env w := rfl
def h23_7 : HC := (.seq (.block 0 h23_6) h23_0)
@[simp] theorem h23_7_wp {P : Program} {F : PF P} {Q : EX → List Value → World → Prop} {env : List Value} {w : World} : h23_7.wp F Q env w = HC.wp F (.seq (.block 0 h23_6) h23_0) Q env w := rfl
def h23_8 : HC := (.seq (.reg (.done [(3, (.cst (.int .i64 0)))] none)) h23_7)
@[simp] theorem h23_8_wp {P : Program} {F : PF P} {Q : EX → List Value → World → Prop} {env : List Value} {w : World} : h23_8.wp F Q env w = HC.wp F (.seq (.reg (.done [(3, (.cst (.int .i64 0)))] none)) h23_7) Q env w := rfl
def h23_9 : HC := (.seq (.reg (.done [(2, (.cst (.bool false)))] none)) .ret)
@[simp] theorem h23_9_wp {P : Program} {F : PF P} {Q : EX → List Value → World → Prop} {env : List Value} {w : World} : h23_9.wp F Q env w = HC.wp F (.seq (.reg (.done [(2, (.cst (.bool false)))] none)) .ret) Q env w := rfl
def h23_10 : HC := (.seq (.br (.chk none .lenL (.cons (.inp 0) .nil) (.chk none .lenL (.cons (.inp 1) .nil) (.chk none (.bin .neq) (.cons (.op .lenL (.cons (.inp 0) .nil)) (.cons (.op .lenL (.cons (.inp 1) .nil)) .nil)) (.done [] (some (.op (.bin .neq) (.cons (.op .lenL (.cons (.inp 0) .nil)) (.cons (.op .lenL (.cons (.inp 1) .nil)) .nil)))))))) h23_9 .skip) h23_8)
@[simp] theorem h23_10_wp {P : Program} {F : PF P} {Q : EX → List Value → World → Prop} {env : List Value} {w : World} : h23_10.wp F Q env w = HC.wp F (.seq (.br (.chk none .lenL (.cons (.inp 0) .nil) (.chk none .lenL (.cons (.inp 1) .nil) (.chk none (.bin .neq) (.cons (.op .lenL (.cons (.inp 0) .nil)) (.cons (.op .lenL (.cons (.inp 1) .nil)) .nil)) (.done [] (some (.op (.bin .neq) (.cons (.op .lenL (.cons (.inp 0) .nil)) (.cons (.op .lenL (.cons (.inp 1) .nil)) .nil)))))))) h23_9 .skip) h23_8) Q env w := rfl
def l23 : Lifted := ⟨[0, 1, 4, 5], 26, [.slot 2], (.seq (.reg (.done [(2, (.cst (.bool false)))] none)) h23_10)⟩
theorem l23_ok : liftFn U2 23 400 = some l23 := by kernel_rfl


theorem ints_at {l : List Int} {i : Nat} (h : i < l.length) : (l.map (Value.int .i64))[i]? = some (.int .i64 l[i]) := by simp [h]
theorem ints_spec (x y : List Int) (v1 v2 : Value) (w0 w : World) (A : Asn) (hx : x.length ≤ 1048576) (h1 : Row w0 A v1 x.length 1 (x.map (Value.int .i64))) (h2 : Row w0 A v2 y.length 1 (y.map (Value.int .i64))) (s : St w0 A w) :
    CallW Try.prog 23 [v1, v2] (fun r w' => r = .bool (x == y) ∧ St w0 A w') w := by
  obtain ⟨a1, c1, rfl⟩ := h1.val
  obtain ⟨a2, c2, rfl⟩ := h2.val
  refine callW_of_lift l23_ok (by simp [l23]) ?_
  simp [l23]
  refine cndI (fun h => ?_) (fun h => ?_)
  · simp at h
    have : (x == y) = false := by
      simp only [beq_eq_false_iff_ne]
      rintro rfl
      exact h rfl
    simp [this]
    exact s
  simp at h
  simp
  refine loopI (fun env w' => ∃ (i : Nat), env = [.slice a1 x.length c1, .slice a2 y.length c2, .bool false, .int .i64 i] ∧ i ≤ x.length ∧ x.take i = y.take i ∧ St w0 A w')
    (fun env _ => x.length - slotN env 3) ⟨0, rfl, by omega, rfl, s⟩ ?_
  rintro LQ env w' ⟨i, rfl, hi, ht, s'⟩ hN hE hR
  simp
  refine cndI (fun h3 => ?_) (fun h3 => ?_)
  · simp at h3
    obtain ⟨g1, o1, c1', e1, k1⟩ := h1.at (by omega)
    cases e1
    obtain ⟨g2, o2, c2', e2, k2⟩ := h2.at (by omega)
    cases e2
    have hy : i < y.length := by omega
    refine brqI s' ?_
    simp [h3]
    refine effq_ldc (fun w s => k1 w s i _ (ints_at h3)) ?_
    simp [hy]
    refine effq_ldc (fun w s => k2 w s i _ (ints_at hy)) ?_
    simp
    intro w2 s2
    refine cndI (fun h4 => ?_) (fun h4 => ?_)
    · simp at h4
      have : (x == y) = false := by
        simp only [beq_eq_false_iff_ne]
        rintro rfl
        exact h4 rfl
      simp
      refine hR _ _ ?_
      simp [this]
      exact s2
    · simp at h4
      simp [thenQ]
      try simp (disch := omega) only [wrap64]
      refine hN _ _ ⟨i + 1, by simp, by omega, ?_, s2⟩ (by simp [slotN]; omega)
      rw [List.take_succ_eq_append_getElem h3, List.take_succ_eq_append_getElem hy, ht, h4]
  · simp at h3
    simp
    refine hE _ _ _ ?_
    simp
    have e : i = x.length := by omega
    have e2 : i = y.length := by omega
    rw [e, List.take_length, ← e, e2, List.take_length] at ht
    subst ht
    simp
    exact s'
theorem row_ints {A B : Asn} {v : Value} {l : List Int} {w0 w : World} (s : St w0 A w) (h : A = B * intsA v l) : Row w0 A v l.length 1 (l.map (Value.int .i64)) := row_in s h
theorem row_outs {A B : Asn} {v : Value} {l : List (Int × Int)} {w0 w : World} (s : St w0 A w) (h : A = B * outs v l) : Row w0 A v l.length 2 (l.flatMap encT) := row_in s h
abbrev QS (w0 : World) (A : Asn) : EX → List Value → World → Prop := endQ Try.prog [.slot 4] fun r w' => r = .bool true ∧ St w0 A w'
theorem ldF_len (now : Nat) (L : List (Int × Int)) (level : Int) : (ldF now L level).length ≤ 64 := by
  unfold ldF
  split
  · simp
  · split
    · simp
    · simp
structure StE (to : Nat) (ts us cs : List Tm) : Prop where
  a : plOK to ts
  b : plOK to us
  c : plOK to cs
  la : ts.length ≤ 65536
  ab : ts.map tmr = us.map tmr
  ac : (ts.map tmr).Perm (cs.map tmr)
theorem StE.lb {to : Nat} {ts us cs : List Tm} (h : StE to ts us cs) : us.length = ts.length := by
  have := congrArg List.length h.ab
  simpa using this.symm
theorem StE.lc {to : Nat} {ts us cs : List Tm} (h : StE to ts us cs) : cs.length = ts.length := by
  have := h.ac.length_eq
  simpa using this.symm
end Go.HL.Wh

namespace Go.HL.Wh
open Go.HL Go.Proofs
set_option maxRecDepth 4000
set_option linter.unusedSimpArgs false
set_option linter.unusedVariables false
def flat (l : List (Int × Int)) : List Value := l.flatMap encT
def ints (l : List Int) : List Value := l.map (Value.int .i64)
theorem flat_len (l : List (Int × Int)) : (flat l).length = l.length * 2 := flat_length encT 2 (fun _ => rfl) l
theorem flat_at {l : List (Int × Int)} {k : Nat} (h : k < l.length) (j : Nat) (u : Value) (hu : (encT l[k])[j]? = some u) : (flat l)[k * 2 + j]? = some u := flatT_at h j u hu
theorem ints_at2 {l : List Int} {i : Nat} (h : i < l.length) : (ints l)[i]? = some (.int .i64 l[i]) := by simp [ints, h]
theorem range_at {R : Nat → Value} {n i : Nat} (h : i < n) : ((List.range n).map R)[i]? = some (R i) := by simp [h]
def fresh (i m : Nat) : List (Int × Int) := (List.range m).map fun (k : Nat) => (1000 + i, (k : Int))
theorem fresh_succ (i m : Nat) : flat (fresh i m) ++ encT (1000 + i, m) = flat (fresh i (m + 1)) := by simp [fresh, flat, List.range_succ]
def freshI (i m : Nat) : List Int := (List.range m).map fun (k : Nat) => 1000 * (i : Int) + k
theorem freshI_succ (i m : Nat) : ints (freshI i m) ++ [.int .i64 (1000 * (i : Int) + m)] = ints (freshI i (m + 1)) := by simp [freshI, ints, List.range_succ]
def gv (o : Option Value) : Value := o.getD (.slice none 0 0)
theorem gv_succ (G : Nat → Option Value) (i : Nat) (g : Value) : (List.range i).map (fun j => gv (G j)) ++ [g] = (List.range (i + 1)).map (fun j => gv (upF G i (some g) j)) := by
  rw [List.range_succ, List.map_append]
  congr 1
  · refine List.map_congr_left fun j hj => ?_
    rw [upF_ne _ _ (by have := List.mem_range.1 hj; omega)]
  · simp [upF_at, gv]
def GRf (R : Nat → Value) (Y : Nat → List (Int × Int)) (j : Nat) : Option Value → Asn
  | none => own 32 2 (R j) (Y j).length (flat (Y j))
  | some g => grw 32 2 (R j) g (Y j).length 80 (flat (Y j)) (flat (fresh j 80))
def GLf (L : Nat → Value) (Z : Nat → List Int) (j : Nat) : Option Value → Asn
  | none => own 3 1 (L j) (Z j).length (ints (Z j))
  | some g => grw 3 1 (L j) g (Z j).length 80 (ints (Z j)) (ints (freshI j 80))
-- bazaar/bazaarlaw09.apart
def h24_0 : HC := (.seq (.reg (.done [(2, (.cst (.bool true)))] none)) .ret)
@[simp] theorem h24_0_wp {P : Program} {F : PF P} {Q : EX → List Value → World → Prop} {env : List Value} {w : World} : h24_0.wp F Q env w = HC.wp F (.seq (.reg (.done [(2, (.cst (.bool true)))] none)) .ret) Q env w := rfl
def h24_1 : HC := (.reg (.chk none (.bin .add) (.cons (.inp 18) (.cons (.cst (.int .i64 1)) .nil)) (.done [(18, (.op (.bin .add) (.cons (.inp 18) (.cons (.cst (.int .i64 1)) .nil))))] none)))
@[simp] theorem h24_1_wp {P : Program} {F : PF P} {Q : EX → List Value → World → Prop} {env : List Value} {w : World} : h24_1.wp F Q env w = HC.wp F (.reg (.chk none (.bin .add) (.cons (.inp 18) (.cons (.cst (.int .i64 1)) .nil)) (.done [(18, (.op (.bin .add) (.cons (.inp 18) (.cons (.cst (.int .i64 1)) .nil))))] none))) Q env w := rfl
def h24_2 : HC := (.reg (.chk none (.bin .add) (.cons (.inp 20) (.cons (.cst (.int .i64 1)) .nil)) (.done [(20, (.op (.bin .add) (.cons (.inp 20) (.cons (.cst (.int .i64 1)) .nil))))] none)))
@[simp] theorem h24_2_wp {P : Program} {F : PF P} {Q : EX → List Value → World → Prop} {env : List Value} {w : World} : h24_2.wp F Q env w = HC.wp F (.reg (.chk none (.bin .add) (.cons (.inp 20) (.cons (.cst (.int .i64 1)) .nil)) (.done [(20, (.op (.bin .add) (.cons (.inp 20) (.cons (.cst (.int .i64 1)) .nil))))] none))) Q env w := rfl
def h24_3 : HC := (.seq (.reg (.done [(2, (.cst (.bool false)))] none)) .ret)
@[simp] theorem h24_3_wp {P : Program} {F : PF P} {Q : EX → List Value → World → Prop} {env : List Value} {w : World} : h24_3.wp F Q env w = HC.wp F (.seq (.reg (.done [(2, (.cst (.bool false)))] none)) .ret) Q env w := rfl
def h24_4 : HC := (.br (.chk none (.bin .lss) (.cons (.inp 20) (.cons (.inp 19) .nil)) (.bnd (.op (.bin .lss) (.cons (.inp 20) (.cons (.inp 19) .nil))) (.chk (some ((.bv 0), true)) (.idxL 1) (.cons (.inp 1) (.cons (.inp 18) .nil)) (.ite (.bv 0) true (.eff (.ld false 1) (.cons (.ite (.bv 0) true (.op (.idxL 1) (.cons (.inp 1) (.cons (.inp 18) .nil))) (.cst (.tuple #[]))) .nil) (.chk none (.idxL 1) (.cons (.bv 1) (.cons (.inp 20) .nil)) (.eff (.ld false 1) (.cons (.op (.idxL 1) (.cons (.bv 1) (.cons (.inp 20) .nil))) .nil) (.chk none (.bin .mul) (.cons (.cst (.int .i64 (-1000))) (.cons (.inp 18) .nil)) (.chk none (.bin .sub) (.cons (.op (.bin .mul) (.cons (.cst (.int .i64 (-1000))) (.cons (.inp 18) .nil))) (.cons (.inp 20) .nil)) (.chk none (.bin .sub) (.cons (.op (.bin .sub) (.cons (.op (.bin .mul) (.cons (.cst (.int .i64 (-1000))) (.cons (.inp 18) .nil))) (.cons (.inp 20) .nil))) (.cons (.cst (.int .i64 1)) .nil)) (.chk none (.bin .neq) (.cons (.bv 2) (.cons (.op (.bin .sub) (.cons (.op (.bin .sub) (.cons (.op (.bin .mul) (.cons (.cst (.int .i64 (-1000))) (.cons (.inp 18) .nil))) (.cons (.inp 20) .nil))) (.cons (.cst (.int .i64 1)) .nil))) .nil)) (.isb none (.bv 0) (.bnd (.op (.bin .neq) (.cons (.bv 2) (.cons (.op (.bin .sub) (.cons (.op (.bin .sub) (.cons (.op (.bin .mul) (.cons (.cst (.int .i64 (-1000))) (.cons (.inp 18) .nil))) (.cons (.inp 20) .nil))) (.cons (.cst (.int .i64 1)) .nil))) .nil))) (.chk (some ((.bv 3), false)) (.bin .geq) (.cons (.inp 20) (.cons (.inp 19) .nil)) (.bnd (.ite (.bv 3) false (.op (.bin .geq) (.cons (.inp 20) (.cons (.inp 19) .nil))) (.cst (.tuple #[]))) (.chk (some ((.bv 4), true)) (.idxL 1) (.cons (.inp 11) (.cons (.inp 18) .nil)) (.ite (.bv 4) true (.eff (.ld false 1) (.cons (.ite (.bv 4) true (.op (.idxL 1) (.cons (.inp 11) (.cons (.inp 18) .nil))) (.cst (.tuple #[]))) .nil) (.chk none (.idxL 1) (.cons (.bv 5) (.cons (.inp 20) .nil)) (.eff (.ld false 1) (.cons (.op (.idxL 1) (.cons (.bv 5) (.cons (.inp 20) .nil))) .nil) (.chk none (.bin .mul) (.cons (.cst (.int .i64 1000)) (.cons (.inp 18) .nil)) (.chk none (.bin .add) (.cons (.op (.bin .mul) (.cons (.cst (.int .i64 1000)) (.cons (.inp 18) .nil))) (.cons (.inp 20) .nil)) (.chk none (.bin .sub) (.cons (.op (.bin .add) (.cons (.op (.bin .mul) (.cons (.cst (.int .i64 1000)) (.cons (.inp 18) .nil))) (.cons (.inp 20) .nil))) (.cons (.inp 19) .nil)) (.chk none (.bin .neq) (.cons (.bv 6) (.cons (.op (.bin .sub) (.cons (.op (.bin .add) (.cons (.op (.bin .mul) (.cons (.cst (.int .i64 1000)) (.cons (.inp 18) .nil))) (.cons (.inp 20) .nil))) (.cons (.inp 19) .nil))) .nil)) (.isb (some ((.bv 3), false)) (.bv 4) (.isb none (.bv 3) (.done [] (some (.ite (.bv 3) true (.cst (.bool true)) (.op (.bin .neq) (.cons (.bv 6) (.cons (.op (.bin .sub) (.cons (.op (.bin .add) (.cons (.op (.bin .mul) (.cons (.cst (.int .i64 1000)) (.cons (.inp 18) .nil))) (.cons (.inp 20) .nil))) (.cons (.inp 19) .nil))) .nil))))))))))))))) (.isb (some ((.bv 3), false)) (.bv 4) (.isb none (.bv 3) (.done [] (some (.ite (.bv 3) true (.cst (.bool true)) (.cst (.bool false)))))))))))))))))))) (.isb none (.bv 0) (.chk none (.bin .geq) (.cons (.inp 20) (.cons (.inp 19) .nil)) (.bnd (.op (.bin .geq) (.cons (.inp 20) (.cons (.inp 19) .nil))) (.chk (some ((.bv 1), true)) (.idxL 1) (.cons (.inp 11) (.cons (.inp 18) .nil)) (.ite (.bv 1) true (.eff (.ld false 1) (.cons (.ite (.bv 1) true (.op (.idxL 1) (.cons (.inp 11) (.cons (.inp 18) .nil))) (.cst (.tuple #[]))) .nil) (.chk none (.idxL 1) (.cons (.bv 2) (.cons (.inp 20) .nil)) (.eff (.ld false 1) (.cons (.op (.idxL 1) (.cons (.bv 2) (.cons (.inp 20) .nil))) .nil) (.chk none (.bin .mul) (.cons (.cst (.int .i64 1000)) (.cons (.inp 18) .nil)) (.chk none (.bin .add) (.cons (.op (.bin .mul) (.cons (.cst (.int .i64 1000)) (.cons (.inp 18) .nil))) (.cons (.inp 20) .nil)) (.chk none (.bin .sub) (.cons (.op (.bin .add) (.cons (.op (.bin .mul) (.cons (.cst (.int .i64 1000)) (.cons (.inp 18) .nil))) (.cons (.inp 20) .nil))) (.cons (.inp 19) .nil)) (.chk none (.bin .neq) (.cons (.bv 3) (.cons (.op (.bin .sub) (.cons (.op (.bin .add) (.cons (.op (.bin .mul) (.cons (.cst (.int .i64 1000)) (.cons (.inp 18) .nil))) (.cons (.inp 20) .nil))) (.cons (.inp 19) .nil))) .nil)) (.isb none (.bv 1) (.isb none (.cst (.bool false)) (.done [] (some (.op (.bin .neq) (.cons (.bv 3) (.cons (.op (.bin .sub) (.cons (.op (.bin .add) (.cons (.op (.bin .mul) (.cons (.cst (.int .i64 1000)) (.cons (.inp 18) .nil))) (.cons (.inp 20) .nil))) (.cons (.inp 19) .nil))) .nil)))))))))))))) (.isb none (.bv 1) (.isb none (.cst (.bool false)) (.done [] (some (.cst (.bool false))))))))))))))) h24_3 .skip)
@[simp] theorem h24_4_wp {P : Program} {F : PF P} {Q : EX → List Value → World → Prop} {env : List Value} {w : World} : h24_4.wp F Q env w = HC.wp F (.br (.chk none (.bin .lss) (.cons (.inp 20) (.cons (.inp 19) .nil)) (.bnd (.op (.bin .lss) (.cons (.inp 20) (.cons (.inp 19) .nil))) (.chk (some ((.bv 0), true)) (.idxL 1) (.cons (.inp 1) (.cons (.inp 18) .nil)) (.ite (.bv 0) true (.eff (.ld false 1) (.cons (.ite (.bv 0) true (.op (.idxL 1) (.cons (.inp 1) (.cons (.inp 18) .nil))) (.cst (.tuple #[]))) .nil) (.chk none (.idxL 1) (.cons (.bv 1) (.cons (.inp 20) .nil)) (.eff (.ld false 1) (.cons (.op (.idxL 1) (.cons (.bv 1) (.cons (.inp 20) .nil))) .nil) (.chk none (.bin .mul) (.cons (.cst (.int .i64 (-1000))) (.cons (.inp 18) .nil)) (.chk none (.bin .sub) (.cons (.op (.bin .mul) (.cons (.cst (.int .i64 (-1000))) (.cons (.inp 18) .nil))) (.cons (.inp 20) .nil)) (.chk none (.bin .sub) (.cons (.op (.bin .sub) (.cons (.op (.bin .mul) (.cons (.cst (.int .i64 (-1000))) (.cons (.inp 18) .nil))) (.cons (.inp 20) .nil))) (.cons (.cst (.int .i64 1)) .nil)) (.chk none (.bin .neq) (.cons (.bv 2) (.cons (.op (.bin .sub) (.cons (.op (.bin .sub) (.cons (.op (.bin .mul) (.cons (.cst (.int .i64 (-1000))) (.cons (.inp 18) .nil))) (.cons (.inp 20) .nil))) (.cons (.cst (.int .i64 1)) .nil))) .nil)) (.isb none (.bv 0) (.bnd (.op (.bin .neq) (.cons (.bv 2) (.cons (.op (.bin .sub) (.cons (.op (.bin .sub) (.cons (.op (.bin .mul) (.cons (.cst (.int .i64 (-1000))) (.cons (.inp 18) .nil))) (.cons (.inp 20) .nil))) (.cons (.cst (.int .i64 1)) .nil))) .nil))) (.chk (some ((.bv 3), false)) (.bin .geq) (.cons (.inp 20) (.cons (.inp 19) .nil)) (.bnd (.ite (.bv 3) false (.op (.bin .geq) (.cons (.inp 20) (.cons (.inp 19) .nil))) (.cst (.tuple #[]))) (.chk (some ((.bv 4), true)) (.idxL 1) (.cons (.inp 11) (.cons (.inp 18) .nil)) (.ite (.bv 4) true (.eff (.ld false 1) (.cons (.ite (.bv 4) true (.op (.idxL 1) (.cons (.inp 11) (.cons (.inp 18) .nil))) (.cst (.tuple #[]))) .nil) (.chk none (.idxL 1) (.cons (.bv 5) (.cons (.inp 20) .nil)) (.eff (.ld false 1) (.cons (.op (.idxL 1) (.cons (.bv 5) (.cons (.inp 20) .nil))) .nil) (.chk none (.bin .mul) (.cons (.cst (.int .i64 1000)) (.cons (.inp 18) .nil)) (.chk none (.bin .add) (.cons (.op (.bin .mul) (.cons (.cst (.int .i64 1000)) (.cons (.inp 18) .nil))) (.cons (.inp 20) .nil)) (.chk none (.bin .sub) (.cons (.op (.bin .add) (.cons (.op (.bin .mul) (.cons (.cst (.int .i64 1000)) (.cons (.inp 18) .nil))) (.cons (.inp 20) .nil))) (.cons (.inp 19) .nil)) (.chk none (.bin .neq) (.cons (.bv 6) (.cons (.op (.bin .sub) (.cons (.op (.bin .add) (.cons (.op (.bin .mul) (.cons (.cst (.int .i64 1000)) (.cons (.inp 18) .nil))) (.cons (.inp 20) .nil))) (.cons (.inp 19) .nil))) .nil)) (.isb (some ((.bv 3), false)) (.bv 4) (.isb none (.bv 3) (.done [] (some (.ite (.bv 3) true (.cst (.bool true)) (.op (.bin .neq) (.cons (.bv 6) (.cons (.op (.bin .sub) (.cons (.op (.bin .add) (.cons (.op (.bin .mul) (.cons (.cst (.int .i64 1000)) (.cons (.inp 18) .nil))) (.cons (.inp 20) .nil))) (.cons (.inp 19) .nil))) .nil))))))))))))))) (.isb (some ((.bv 3), false)) (.bv 4) (.isb none (.bv 3) (.done [] (some (.ite (.bv 3) true (.cst (.bool true)) (.cst (.bool false)))))))))))))))))))) (.isb none (.bv 0) (.chk none (.bin .geq) (.cons (.inp 20) (.cons (.inp 19) .nil)) (.bnd (.op (.bin .geq) (.cons (.inp 20) (.cons (.inp 19) .nil))) (.chk (some ((.bv 1), true)) (.idxL 1) (.cons (.inp 11) (.cons (.inp 18) .nil)) (.ite (.bv 1) true (.eff (.ld false 1) (.cons (.ite (.bv 1) true (.op (.idxL 1) (.cons (.inp 11) (.cons (.inp 18) .nil))) (.cst (.tuple #[]))) .nil) (.chk none (.idxL 1) (.cons (.bv 2) (.cons (.inp 20) .nil)) (.eff (.ld false 1) (.cons (.op (.idxL 1) (.cons (.bv 2) (.cons (.inp 20) .nil))) .nil) (.chk none (.bin .mul) (.cons (.cst (.int .i64 1000)) (.cons (.inp 18) .nil)) (.chk none (.bin .add) (.cons (.op (.bin .mul) (.cons (.cst (.int .i64 1000)) (.cons (.inp 18) .nil))) (.cons (.inp 20) .nil)) (.chk none (.bin .sub) (.cons (.op (.bin .add) (.cons (.op (.bin .mul) (.cons (.cst (.int .i64 1000)) (.cons (.inp 18) .nil))) (.cons (.inp 20) .nil))) (.cons (.inp 19) .nil)) (.chk none (.bin .neq) (.cons (.bv 3) (.cons (.op (.bin .sub) (.cons (.op (.bin .add) (.cons (.op (.bin .mul) (.cons (.cst (.int .i64 1000)) (.cons (.inp 18) .nil))) (.cons (.inp 20) .nil))) (.cons (.inp 19) .nil))) .nil)) (.isb none (.bv 1) (.isb none (.cst (.bool false)) (.done [] (some (.op (.bin .neq) (.cons (.bv 3) (.cons (.op (.bin .sub) (.cons (.op (.bin .add) (.cons (.op (.bin .mul) (.cons (.cst (.int .i64 1000)) (.cons (.inp 18) .nil))) (.cons (.inp 20) .nil))) (.cons (.inp 19) .nil))) .nil)))))))))))))) (.isb none (.bv 1) (.isb none (.cst (.bool false)) (.done [] (some (.cst (.bool false))))))))))))))) h24_3 .skip) Q env w := rfl
def h24_5 : HC := (.seq (.block 23 h24_4) h24_2)
@[simp] theorem h24_5_wp {P : Program} {F : PF P} {Q : EX → List Value → World → Prop} {env : List Value} {w : World} : h24_5.wp F Q env w = HC.wp F (.seq (.block 23 h24_4) h24_2) Q env w := rfl
def h24_6 : HC := (.seq (.br (.chk none (.bin .add) (.cons (.inp 19) (.cons (.cst (.int .i64 80)) .nil)) (.chk none (.bin .lss) (.cons (.inp 20) (.cons (.op (.bin .add) (.cons (.inp 19) (.cons (.cst (.int .i64 80)) .nil))) .nil)) (.done [] (some (.op (.bin .lss) (.cons (.inp 20) (.cons (.op (.bin .add) (.cons (.inp 19) (.cons (.cst (.int .i64 80)) .nil))) .nil))))))) .skip (.exit 22)) h24_5)
@[simp] theorem h24_6_wp {P : Program} {F : PF P} {Q : EX → List Value → World → Prop} {env : List Value} {w : World} : h24_6.wp F Q env w = HC.wp F (.seq (.br (.chk none (.bin .add) (.cons (.inp 19) (.cons (.cst (.int .i64 80)) .nil)) (.chk none (.bin .lss) (.cons (.inp 20) (.cons (.op (.bin .add) (.cons (.inp 19) (.cons (.cst (.int .i64 80)) .nil))) .nil)) (.done [] (some (.op (.bin .lss) (.cons (.inp 20) (.cons (.op (.bin .add) (.cons (.inp 19) (.cons (.cst (.int .i64 80)) .nil))) .nil))))))) .skip (.exit 22)) h24_5) Q env w := rfl
def h24_7 : HC := (.loop h24_6)
@[simp] theorem h24_7_wp {P : Program} {F : PF P} {Q : EX → List Value → World → Prop} {env : List Value} {w : World} : h24_7.wp F Q env w = HC.wp F (.loop h24_6) Q env w := rfl
def h24_8 : HC := (.block 22 h24_7)
@[simp] theorem h24_8_wp {P : Program} {F : PF P} {Q : EX → List Value → World → Prop} {env : List Value} {w : World} : h24_8.wp F Q env w = HC.wp F (.block 22 h24_7) Q env w := rfl
def h24_9 : HC := (.seq (.reg (.done [(20, (.cst (.int .i64 0)))] none)) h24_8)
@[simp] theorem h24_9_wp {P : Program} {F : PF P} {Q : EX → List Value → World → Prop} {env : List Value} {w : World} : h24_9.wp F Q env w = HC.wp F (.seq (.reg (.done [(20, (.cst (.int .i64 0)))] none)) h24_8) Q env w := rfl
def h24_10 : HC := (.seq (.reg (.chk none (.idxL 1) (.cons (.inp 1) (.cons (.inp 18) .nil)) (.eff (.ld false 1) (.cons (.op (.idxL 1) (.cons (.inp 1) (.cons (.inp 18) .nil))) .nil) (.chk none .lenL (.cons (.bv 0) .nil) (.done [(19, (.op .lenL (.cons (.bv 0) .nil)))] none))))) h24_9)
@[simp] theorem h24_10_wp {P : Program} {F : PF P} {Q : EX → List Value → World → Prop} {env : List Value} {w : World} : h24_10.wp F Q env w = HC.wp F (.seq (.reg (.chk none (.idxL 1) (.cons (.inp 1) (.cons (.inp 18) .nil)) (.eff (.ld false 1) (.cons (.op (.idxL 1) (.cons (.inp 1) (.cons (.inp 18) .nil))) .nil) (.chk none .lenL (.cons (.bv 0) .nil) (.done [(19, (.op .lenL (.cons (.bv 0) .nil)))] none))))) h24_9) Q env w := rfl
def h24_11 : HC := (.seq (.block 21 h24_10) h24_1)
@[simp] theorem h24_11_wp {P : Program} {F : PF P} {Q : EX → List Value → World → Prop} {env : List Value} {w : World} : h24_11.wp F Q env w = HC.wp F (.seq (.block 21 h24_10) h24_1) Q env w := rfl
def h24_12 : HC := (.seq (.br (.chk none .lenL (.cons (.inp 1) .nil) (.chk none (.bin .lss) (.cons (.inp 18) (.cons (.op .lenL (.cons (.inp 1) .nil)) .nil)) (.done [] (some (.op (.bin .lss) (.cons (.inp 18) (.cons (.op .lenL (.cons (.inp 1) .nil)) .nil))))))) .skip (.exit 20)) h24_11)
@[simp] theorem h24_12_wp {P : Program} {F : PF P} {Q : EX → List Value → World → Prop} {env : List Value} {w : World} : h24_12.wp F Q env w = HC.wp F (.seq (.br (.chk none .lenL (.cons (.inp 1) .nil) (.chk none (.bin .lss) (.cons (.inp 18) (.cons (.op .lenL (.cons (.inp 1) .nil)) .nil)) (.done [] (some (.op (.bin .lss) (.cons (.inp 18) (.cons (.op .lenL (.cons (.inp 1) .nil)) .nil))))))) .skip (.exit 20)) h24_11) Q env w := rfl
def h24_13 : HC := (.loop h24_12)
@[simp] theorem h24_13_wp {P : Program} {F : PF P} {Q : EX → List Value → World → Prop} {env : List Value} {w : World} : h24_13.wp F Q env w = HC.wp F (.loop h24_12) Q env w := rfl
def h24_14 : HC := (.seq (.block 20 h24_13) h24_0)
@[simp] theorem h24_14_wp {P : Program} {F : PF P} {Q : EX → List Value → World → Prop} {env : List Value} {w : World} : h24_14.wp F Q env w = HC.wp F (.seq (.block 20 h24_13) h24_0) Q env w := rfl
def h24_15 : HC := (.seq (.reg (.done [(18, (.cst (.int .i64 0)))] none)) h24_14)
@[simp] theorem h24_15_wp {P : Program} {F : PF P} {Q : EX → List Value → World → Prop} {env : List Value} {w : World} : h24_15.wp F Q env w = HC.wp F (.seq (.reg (.done [(18, (.cst (.int .i64 0)))] none)) h24_14) Q env w := rfl
def h24_16 : HC := (.reg (.chk none (.bin .add) (.cons (.inp 15) (.cons (.cst (.int .i64 1)) .nil)) (.done [(15, (.op (.bin .add) (.cons (.inp 15) (.cons (.cst (.int .i64 1)) .nil))))] none)))
@[simp] theorem h24_16_wp {P : Program} {F : PF P} {Q : EX → List Value → World → Prop} {env : List Value} {w : World} : h24_16.wp F Q env w = HC.wp F (.reg (.chk none (.bin .add) (.cons (.inp 15) (.cons (.cst (.int .i64 1)) .nil)) (.done [(15, (.op (.bin .add) (.cons (.inp 15) (.cons (.cst (.int .i64 1)) .nil))))] none))) Q env w := rfl
def h24_17 : HC := (.reg (.chk none (.bin .add) (.cons (.inp 17) (.cons (.cst (.int .i64 1)) .nil)) (.done [(17, (.op (.bin .add) (.cons (.inp 17) (.cons (.cst (.int .i64 1)) .nil))))] none)))
@[simp] theorem h24_17_wp {P : Program} {F : PF P} {Q : EX → List Value → World → Prop} {env : List Value} {w : World} : h24_17.wp F Q env w = HC.wp F (.reg (.chk none (.bin .add) (.cons (.inp 17) (.cons (.cst (.int .i64 1)) .nil)) (.done [(17, (.op (.bin .add) (.cons (.inp 17) (.cons (.cst (.int .i64 1)) .nil))))] none))) Q env w := rfl
def h24_18 : HC := (.seq (.reg (.done [(2, (.cst (.bool false)))] none)) .ret)
@[simp] theorem h24_18_wp {P : Program} {F : PF P} {Q : EX → List Value → World → Prop} {env : List Value} {w : World} : h24_18.wp F Q env w = HC.wp F (.seq (.reg (.done [(2, (.cst (.bool false)))] none)) .ret) Q env w := rfl
def h24_19 : HC := (.br (.chk none (.bin .lss) (.cons (.inp 17) (.cons (.inp 16) .nil)) (.bnd (.op (.bin .lss) (.cons (.inp 17) (.cons (.inp 16) .nil))) (.chk (some ((.bv 0), true)) (.idxL 1) (.cons (.inp 0) (.cons (.inp 15) .nil)) (.ite (.bv 0) true (.eff (.ld false 1) (.cons (.ite (.bv 0) true (.op (.idxL 1) (.cons (.inp 0) (.cons (.inp 15) .nil))) (.cst (.tuple #[]))) .nil) (.chk none (.idxL 2) (.cons (.bv 1) (.cons (.inp 17) .nil)) (.eff (.ld true 2) (.cons (.op (.idxL 2) (.cons (.bv 1) (.cons (.inp 17) .nil))) .nil) (.chk none (.un .neg) (.cons (.inp 15) .nil) (.chk none (.build #[(.int .i64 0), (.int .i64 0)] [(0, 1), (1, 1)] [0, 1]) (.cons (.op (.un .neg) (.cons (.inp 15) .nil)) (.cons (.inp 17) .nil)) (.eff (.bin .neq 32 (.tmp 151) (.tmp 155)) (.cons (.bv 2) (.cons (.op (.build #[(.int .i64 0), (.int .i64 0)] [(0, 1), (1, 1)] [0, 1]) (.cons (.op (.un .neg) (.cons (.inp 15) .nil)) (.cons (.inp 17) .nil))) .nil)) (.isb none (.bv 0) (.chk (some ((.bv 3), false)) (.bin .geq) (.cons (.inp 17) (.cons (.inp 16) .nil)) (.bnd (.ite (.bv 3) false (.op (.bin .geq) (.cons (.inp 17) (.cons (.inp 16) .nil))) (.cst (.tuple #[]))) (.chk (some ((.bv 4), true)) (.idxL 1) (.cons (.inp 7) (.cons (.inp 15) .nil)) (.ite (.bv 4) true (.eff (.ld false 1) (.cons (.ite (.bv 4) true (.op (.idxL 1) (.cons (.inp 7) (.cons (.inp 15) .nil))) (.cst (.tuple #[]))) .nil) (.chk none (.idxL 2) (.cons (.bv 5) (.cons (.inp 17) .nil)) (.eff (.ld true 2) (.cons (.op (.idxL 2) (.cons (.bv 5) (.cons (.inp 17) .nil))) .nil) (.chk none (.bin .add) (.cons (.cst (.int .i64 1000)) (.cons (.inp 15) .nil)) (.chk none (.bin .sub) (.cons (.inp 17) (.cons (.inp 16) .nil)) (.chk none (.build #[(.int .i64 0), (.int .i64 0)] [(0, 1), (1, 1)] [0, 1]) (.cons (.op (.bin .add) (.cons (.cst (.int .i64 1000)) (.cons (.inp 15) .nil))) (.cons (.op (.bin .sub) (.cons (.inp 17) (.cons (.inp 16) .nil))) .nil)) (.eff (.bin .neq 32 (.tmp 169) (.tmp 175)) (.cons (.bv 6) (.cons (.op (.build #[(.int .i64 0), (.int .i64 0)] [(0, 1), (1, 1)] [0, 1]) (.cons (.op (.bin .add) (.cons (.cst (.int .i64 1000)) (.cons (.inp 15) .nil))) (.cons (.op (.bin .sub) (.cons (.inp 17) (.cons (.inp 16) .nil))) .nil))) .nil)) (.isb (some ((.bv 3), false)) (.bv 4) (.isb none (.bv 3) (.done [] (some (.ite (.bv 3) true (.cst (.bool true)) (.bv 7))))))))))))) (.isb (some ((.bv 3), false)) (.bv 4) (.isb none (.bv 3) (.done [] (some (.ite (.bv 3) true (.cst (.bool true)) (.cst (.bool false)))))))))))))))))) (.isb none (.bv 0) (.chk none (.bin .geq) (.cons (.inp 17) (.cons (.inp 16) .nil)) (.bnd (.op (.bin .geq) (.cons (.inp 17) (.cons (.inp 16) .nil))) (.chk (some ((.bv 1), true)) (.idxL 1) (.cons (.inp 7) (.cons (.inp 15) .nil)) (.ite (.bv 1) true (.eff (.ld false 1) (.cons (.ite (.bv 1) true (.op (.idxL 1) (.cons (.inp 7) (.cons (.inp 15) .nil))) (.cst (.tuple #[]))) .nil) (.chk none (.idxL 2) (.cons (.bv 2) (.cons (.inp 17) .nil)) (.eff (.ld true 2) (.cons (.op (.idxL 2) (.cons (.bv 2) (.cons (.inp 17) .nil))) .nil) (.chk none (.bin .add) (.cons (.cst (.int .i64 1000)) (.cons (.inp 15) .nil)) (.chk none (.bin .sub) (.cons (.inp 17) (.cons (.inp 16) .nil)) (.chk none (.build #[(.int .i64 0), (.int .i64 0)] [(0, 1), (1, 1)] [0, 1]) (.cons (.op (.bin .add) (.cons (.cst (.int .i64 1000)) (.cons (.inp 15) .nil))) (.cons (.op (.bin .sub) (.cons (.inp 17) (.cons (.inp 16) .nil))) .nil)) (.eff (.bin .neq 32 (.tmp 169) (.tmp 175)) (.cons (.bv 3) (.cons (.op (.build #[(.int .i64 0), (.int .i64 0)] [(0, 1), (1, 1)] [0, 1]) (.cons (.op (.bin .add) (.cons (.cst (.int .i64 1000)) (.cons (.inp 15) .nil))) (.cons (.op (.bin .sub) (.cons (.inp 17) (.cons (.inp 16) .nil))) .nil))) .nil)) (.isb none (.bv 1) (.isb none (.cst (.bool false)) (.done [] (some (.bv 4)))))))))))) (.isb none (.bv 1) (.isb none (.cst (.bool false)) (.done [] (some (.cst (.bool false))))))))))))))) h24_18 .skip)
@[simp] theorem h24_19_wp {P : Program} {F : PF P} {Q : EX → List Value → World → Prop} {env : List Value} {w : World} : h24_19.wp F Q env w = HC.wp F (.br (.chk none (.bin .lss) (.cons (.inp 17) (.cons (.inp 16) .nil)) (.bnd (.op (.bin .lss) (.cons (.inp 17) (.cons (.inp 16) .nil))) (.chk (some ((.bv 0), true)) (.idxL 1) (.cons (.inp 0) (.cons (.inp 15) .nil)) (.ite (.bv 0) true (.eff (.ld false 1) (.cons (.ite (.bv 0) true (.op (.idxL 1) (.cons (.inp 0) (.cons (.inp 15) .nil))) (.cst (.tuple #[]))) .nil) (.chk none (.idxL 2) (.cons (.bv 1) (.cons (.inp 17) .nil)) (.eff (.ld true 2) (.cons (.op (.idxL 2) (.cons (.bv 1) (.cons (.inp 17) .nil))) .nil) (.chk none (.un .neg) (.cons (.inp 15) .nil) (.chk none (.build #[(.int .i64 0), (.int .i64 0)] [(0, 1), (1, 1)] [0, 1]) (.cons (.op (.un .neg) (.cons (.inp 15) .nil)) (.cons (.inp 17) .nil)) (.eff (.bin .neq 32 (.tmp 151) (.tmp 155)) (.cons (.bv 2) (.cons (.op (.build #[(.int .i64 0), (.int .i64 0)] [(0, 1), (1, 1)] [0, 1]) (.cons (.op (.un .neg) (.cons (.inp 15) .nil)) (.cons (.inp 17) .nil))) .nil)) (.isb none (.bv 0) (.chk (some ((.bv 3), false)) (.bin .geq) (.cons (.inp 17) (.cons (.inp 16) .nil)) (.bnd (.ite (.bv 3) false (.op (.bin .geq) (.cons (.inp 17) (.cons (.inp 16) .nil))) (.cst (.tuple #[]))) (.chk (some ((.bv 4), true)) (.idxL 1) (.cons (.inp 7) (.cons (.inp 15) .nil)) (.ite (.bv 4) true (.eff (.ld false 1) (.cons (.ite (.bv 4) true (.op (.idxL 1) (.cons (.inp 7) (.cons (.inp 15) .nil))) (.cst (.tuple #[]))) .nil) (.chk none (.idxL 2) (.cons (.bv 5) (.cons (.inp 17) .nil)) (.eff (.ld true 2) (.cons (.op (.idxL 2) (.cons (.bv 5) (.cons (.inp 17) .nil))) .nil) (.chk none (.bin .add) (.cons (.cst (.int .i64 1000)) (.cons (.inp 15) .nil)) (.chk none (.bin .sub) (.cons (.inp 17) (.cons (.inp 16) .nil)) (.chk none (.build #[(.int .i64 0), (.int .i64 0)] [(0, 1), (1, 1)] [0, 1]) (.cons (.op (.bin .add) (.cons (.cst (.int .i64 1000)) (.cons (.inp 15) .nil))) (.cons (.op (.bin .sub) (.cons (.inp 17) (.cons (.inp 16) .nil))) .nil)) (.eff (.bin .neq 32 (.tmp 169) (.tmp 175)) (.cons (.bv 6) (.cons (.op (.build #[(.int .i64 0), (.int .i64 0)] [(0, 1), (1, 1)] [0, 1]) (.cons (.op (.bin .add) (.cons (.cst (.int .i64 1000)) (.cons (.inp 15) .nil))) (.cons (.op (.bin .sub) (.cons (.inp 17) (.cons (.inp 16) .nil))) .nil))) .nil)) (.isb (some ((.bv 3), false)) (.bv 4) (.isb none (.bv 3) (.done [] (some (.ite (.bv 3) true (.cst (.bool true)) (.bv 7))))))))))))) (.isb (some ((.bv 3), false)) (.bv 4) (.isb none (.bv 3) (.done [] (some (.ite (.bv 3) true (.cst (.bool true)) (.cst (.bool false)))))))))))))))))) (.isb none (.bv 0) (.chk none (.bin .geq) (.cons (.inp 17) (.cons (.inp 16) .nil)) (.bnd (.op (.bin .geq) (.cons (.inp 17) (.cons (.inp 16) .nil))) (.chk (some ((.bv 1), true)) (.idxL 1) (.cons (.inp 7) (.cons (.inp 15) .nil)) (.ite (.bv 1) true (.eff (.ld false 1) (.cons (.ite (.bv 1) true (.op (.idxL 1) (.cons (.inp 7) (.cons (.inp 15) .nil))) (.cst (.tuple #[]))) .nil) (.chk none (.idxL 2) (.cons (.bv 2) (.cons (.inp 17) .nil)) (.eff (.ld true 2) (.cons (.op (.idxL 2) (.cons (.bv 2) (.cons (.inp 17) .nil))) .nil) (.chk none (.bin .add) (.cons (.cst (.int .i64 1000)) (.cons (.inp 15) .nil)) (.chk none (.bin .sub) (.cons (.inp 17) (.cons (.inp 16) .nil)) (.chk none (.build #[(.int .i64 0), (.int .i64 0)] [(0, 1), (1, 1)] [0, 1]) (.cons (.op (.bin .add) (.cons (.cst (.int .i64 1000)) (.cons (.inp 15) .nil))) (.cons (.op (.bin .sub) (.cons (.inp 17) (.cons (.inp 16) .nil))) .nil)) (.eff (.bin .neq 32 (.tmp 169) (.tmp 175)) (.cons (.bv 3) (.cons (.op (.build #[(.int .i64 0), (.int .i64 0)] [(0, 1), (1, 1)] [0, 1]) (.cons (.op (.bin .add) (.cons (.cst (.int .i64 1000)) (.cons (.inp 15) .nil))) (.cons (.op (.bin .sub) (.cons (.inp 17) (.cons (.inp 16) .nil))) .nil))) .nil)) (.isb none (.bv 1) (.isb none (.cst (.bool false)) (.done [] (some (.bv 4)))))))))))) (.isb none (.bv 1) (.isb none (.cst (.bool false)) (.done [] (some (.cst (.bool false))))))))))))))) h24_18 .skip) Q env w := rfl
def h24_20 : HC := (.seq (.block 19 h24_19) h24_17)
@[simp] theorem h24_20_wp {P : Program} {F : PF P} {Q : EX → List Value → World → Prop} {env : List Value} {w : World} : h24_20.wp F Q env w = HC.wp F (.seq (.block 19 h24_19) h24_17) Q env w := rfl
def h24_21 : HC := (.seq (.br (.chk none (.bin .add) (.cons (.inp 16) (.cons (.cst (.int .i64 80)) .nil)) (.chk none (.bin .lss) (.cons (.inp 17) (.cons (.op (.bin .add) (.cons (.inp 16) (.cons (.cst (.int .i64 80)) .nil))) .nil)) (.done [] (some (.op (.bin .lss) (.cons (.inp 17) (.cons (.op (.bin .add) (.cons (.inp 16) (.cons (.cst (.int .i64 80)) .nil))) .nil))))))) .skip (.exit 18)) h24_20)
@[simp] theorem h24_21_wp {P : Program} {F : PF P} {Q : EX → List Value → World → Prop} {env : List Value} {w : World} : h24_21.wp F Q env w = HC.wp F (.seq (.br (.chk none (.bin .add) (.cons (.inp 16) (.cons (.cst (.int .i64 80)) .nil)) (.chk none (.bin .lss) (.cons (.inp 17) (.cons (.op (.bin .add) (.cons (.inp 16) (.cons (.cst (.int .i64 80)) .nil))) .nil)) (.done [] (some (.op (.bin .lss) (.cons (.inp 17) (.cons (.op (.bin .add) (.cons (.inp 16) (.cons (.cst (.int .i64 80)) .nil))) .nil))))))) .skip (.exit 18)) h24_20) Q env w := rfl
def h24_22 : HC := (.loop h24_21)
@[simp] theorem h24_22_wp {P : Program} {F : PF P} {Q : EX → List Value → World → Prop} {env : List Value} {w : World} : h24_22.wp F Q env w = HC.wp F (.loop h24_21) Q env w := rfl
def h24_23 : HC := (.block 18 h24_22)
@[simp] theorem h24_23_wp {P : Program} {F : PF P} {Q : EX → List Value → World → Prop} {env : List Value} {w : World} : h24_23.wp F Q env w = HC.wp F (.block 18 h24_22) Q env w := rfl
def h24_24 : HC := (.seq (.reg (.done [(17, (.cst (.int .i64 0)))] none)) h24_23)
@[simp] theorem h24_24_wp {P : Program} {F : PF P} {Q : EX → List Value → World → Prop} {env : List Value} {w : World} : h24_24.wp F Q env w = HC.wp F (.seq (.reg (.done [(17, (.cst (.int .i64 0)))] none)) h24_23) Q env w := rfl
def h24_25 : HC := (.seq (.reg (.chk none (.idxL 1) (.cons (.inp 0) (.cons (.inp 15) .nil)) (.eff (.ld false 1) (.cons (.op (.idxL 1) (.cons (.inp 0) (.cons (.inp 15) .nil))) .nil) (.chk none .lenL (.cons (.bv 0) .nil) (.done [(16, (.op .lenL (.cons (.bv 0) .nil)))] none))))) h24_24)
@[simp] theorem h24_25_wp {P : Program} {F : PF P} {Q : EX → List Value → World → Prop} {env : List Value} {w : World} : h24_25.wp F Q env w = HC.wp F (.seq (.reg (.chk none (.idxL 1) (.cons (.inp 0) (.cons (.inp 15) .nil)) (.eff (.ld false 1) (.cons (.op (.idxL 1) (.cons (.inp 0) (.cons (.inp 15) .nil))) .nil) (.chk none .lenL (.cons (.bv 0) .nil) (.done [(16, (.op .lenL (.cons (.bv 0) .nil)))] none))))) h24_24) Q env w := rfl
def h24_26 : HC := (.seq (.block 17 h24_25) h24_16)
@[simp] theorem h24_26_wp {P : Program} {F : PF P} {Q : EX → List Value → World → Prop} {env : List Value} {w : World} : h24_26.wp F Q env w = HC.wp F (.seq (.block 17 h24_25) h24_16) Q env w := rfl
def h24_27 : HC := (.seq (.br (.chk none .lenL (.cons (.inp 0) .nil) (.chk none (.bin .lss) (.cons (.inp 15) (.cons (.op .lenL (.cons (.inp 0) .nil)) .nil)) (.done [] (some (.op (.bin .lss) (.cons (.inp 15) (.cons (.op .lenL (.cons (.inp 0) .nil)) .nil))))))) .skip (.exit 16)) h24_26)
@[simp] theorem h24_27_wp {P : Program} {F : PF P} {Q : EX → List Value → World → Prop} {env : List Value} {w : World} : h24_27.wp F Q env w = HC.wp F (.seq (.br (.chk none .lenL (.cons (.inp 0) .nil) (.chk none (.bin .lss) (.cons (.inp 15) (.cons (.op .lenL (.cons (.inp 0) .nil)) .nil)) (.done [] (some (.op (.bin .lss) (.cons (.inp 15) (.cons (.op .lenL (.cons (.inp 0) .nil)) .nil))))))) .skip (.exit 16)) h24_26) Q env w := rfl
def h24_28 : HC := (.loop h24_27)
@[simp] theorem h24_28_wp {P : Program} {F : PF P} {Q : EX → List Value → World → Prop} {env : List Value} {w : World} : h24_28.wp F Q env w = HC.wp F (.loop h24_27) Q env w := rfl
def h24_29 : HC := (.seq (.block 16 h24_28) h24_15)
@[simp] theorem h24_29_wp {P : Program} {F : PF P} {Q : EX → List Value → World → Prop} {env : List Value} {w : World} : h24_29.wp F Q env w = HC.wp F (.seq (.block 16 h24_28) h24_15) Q env w := rfl
def h24_30 : HC := (.seq (.reg (.done [(15, (.cst (.int .i64 0)))] none)) h24_29)
@[simp] theorem h24_30_wp {P : Program} {F : PF P} {Q : EX → List Value → World → Prop} {env : List Value} {w : World} : h24_30.wp F Q env w = HC.wp F (.seq (.reg (.done [(15, (.cst (.int .i64 0)))] none)) h24_29) Q env w := rfl
def h24_31 : HC := (.reg (.chk none (.bin .add) (.cons (.inp 12) (.cons (.cst (.int .i64 1)) .nil)) (.done [(12, (.op (.bin .add) (.cons (.inp 12) (.cons (.cst (.int .i64 1)) .nil))))] none)))
@[simp] theorem h24_31_wp {P : Program} {F : PF P} {Q : EX → List Value → World → Prop} {env : List Value} {w : World} : h24_31.wp F Q env w = HC.wp F (.reg (.chk none (.bin .add) (.cons (.inp 12) (.cons (.cst (.int .i64 1)) .nil)) (.done [(12, (.op (.bin .add) (.cons (.inp 12) (.cons (.cst (.int .i64 1)) .nil))))] none))) Q env w := rfl
def h24_32 : HC := (.reg (.eff (.bsl 47 1 1 #[(.slice none 0 0)] [0]) (.cons (.inp 13) .nil) (.eff (.app 49 49 47 1 24 (.slice none 0 0)) (.cons (.inp 11) (.cons (.bv 0) .nil)) (.done [(11, (.bv 1))] none))))
@[simp] theorem h24_32_wp {P : Program} {F : PF P} {Q : EX → List Value → World → Prop} {env : List Value} {w : World} : h24_32.wp F Q env w = HC.wp F (.reg (.eff (.bsl 47 1 1 #[(.slice none 0 0)] [0]) (.cons (.inp 13) .nil) (.eff (.app 49 49 47 1 24 (.slice none 0 0)) (.cons (.inp 11) (.cons (.bv 0) .nil)) (.done [(11, (.bv 1))] none)))) Q env w := rfl
def h24_33 : HC := (.reg (.chk none (.bin .add) (.cons (.inp 14) (.cons (.cst (.int .i64 1)) .nil)) (.done [(14, (.op (.bin .add) (.cons (.inp 14) (.cons (.cst (.int .i64 1)) .nil))))] none)))
@[simp] theorem h24_33_wp {P : Program} {F : PF P} {Q : EX → List Value → World → Prop} {env : List Value} {w : World} : h24_33.wp F Q env w = HC.wp F (.reg (.chk none (.bin .add) (.cons (.inp 14) (.cons (.cst (.int .i64 1)) .nil)) (.done [(14, (.op (.bin .add) (.cons (.inp 14) (.cons (.cst (.int .i64 1)) .nil))))] none))) Q env w := rfl
def h24_34 : HC := (.reg (.chk none (.bin .mul) (.cons (.cst (.int .i64 1000)) (.cons (.inp 12) .nil)) (.chk none (.bin .add) (.cons (.op (.bin .mul) (.cons (.cst (.int .i64 1000)) (.cons (.inp 12) .nil))) (.cons (.inp 14) .nil)) (.eff (.bsl 3 1 1 #[(.int .i64 0)] [0]) (.cons (.op (.bin .add) (.cons (.op (.bin .mul) (.cons (.cst (.int .i64 1000)) (.cons (.inp 12) .nil))) (.cons (.inp 14) .nil))) .nil) (.eff (.app 47 47 3 1 8 (.int .i64 0)) (.cons (.inp 13) (.cons (.bv 0) .nil)) (.done [(13, (.bv 1))] none))))))
@[simp] theorem h24_34_wp {P : Program} {F : PF P} {Q : EX → List Value → World → Prop} {env : List Value} {w : World} : h24_34.wp F Q env w = HC.wp F (.reg (.chk none (.bin .mul) (.cons (.cst (.int .i64 1000)) (.cons (.inp 12) .nil)) (.chk none (.bin .add) (.cons (.op (.bin .mul) (.cons (.cst (.int .i64 1000)) (.cons (.inp 12) .nil))) (.cons (.inp 14) .nil)) (.eff (.bsl 3 1 1 #[(.int .i64 0)] [0]) (.cons (.op (.bin .add) (.cons (.op (.bin .mul) (.cons (.cst (.int .i64 1000)) (.cons (.inp 12) .nil))) (.cons (.inp 14) .nil))) .nil) (.eff (.app 47 47 3 1 8 (.int .i64 0)) (.cons (.inp 13) (.cons (.bv 0) .nil)) (.done [(13, (.bv 1))] none)))))) Q env w := rfl
def h24_35 : HC := (.seq (.block 15 h24_34) h24_33)
@[simp] theorem h24_35_wp {P : Program} {F : PF P} {Q : EX → List Value → World → Prop} {env : List Value} {w : World} : h24_35.wp F Q env w = HC.wp F (.seq (.block 15 h24_34) h24_33) Q env w := rfl
def h24_36 : HC := (.seq (.br (.chk none (.bin .lss) (.cons (.inp 14) (.cons (.cst (.int .i64 80)) .nil)) (.done [] (some (.op (.bin .lss) (.cons (.inp 14) (.cons (.cst (.int .i64 80)) .nil)))))) .skip (.exit 14)) h24_35)
@[simp] theorem h24_36_wp {P : Program} {F : PF P} {Q : EX → List Value → World → Prop} {env : List Value} {w : World} : h24_36.wp F Q env w = HC.wp F (.seq (.br (.chk none (.bin .lss) (.cons (.inp 14) (.cons (.cst (.int .i64 80)) .nil)) (.done [] (some (.op (.bin .lss) (.cons (.inp 14) (.cons (.cst (.int .i64 80)) .nil)))))) .skip (.exit 14)) h24_35) Q env w := rfl
def h24_37 : HC := (.loop h24_36)
@[simp] theorem h24_37_wp {P : Program} {F : PF P} {Q : EX → List Value → World → Prop} {env : List Value} {w : World} : h24_37.wp F Q env w = HC.wp F (.loop h24_36) Q env w := rfl
def h24_38 : HC := (.seq (.block 14 h24_37) h24_32)
@[simp] theorem h24_38_wp {P : Program} {F : PF P} {Q : EX → List Value → World → Prop} {env : List Value} {w : World} : h24_38.wp F Q env w = HC.wp F (.seq (.block 14 h24_37) h24_32) Q env w := rfl
def h24_39 : HC := (.seq (.reg (.done [(14, (.cst (.int .i64 0)))] none)) h24_38)
@[simp] theorem h24_39_wp {P : Program} {F : PF P} {Q : EX → List Value → World → Prop} {env : List Value} {w : World} : h24_39.wp F Q env w = HC.wp F (.seq (.reg (.done [(14, (.cst (.int .i64 0)))] none)) h24_38) Q env w := rfl
def h24_40 : HC := (.seq (.reg (.chk none (.idxL 1) (.cons (.inp 1) (.cons (.inp 12) .nil)) (.eff (.ld false 1) (.cons (.op (.idxL 1) (.cons (.inp 1) (.cons (.inp 12) .nil))) .nil) (.done [(13, (.bv 0))] none)))) h24_39)
@[simp] theorem h24_40_wp {P : Program} {F : PF P} {Q : EX → List Value → World → Prop} {env : List Value} {w : World} : h24_40.wp F Q env w = HC.wp F (.seq (.reg (.chk none (.idxL 1) (.cons (.inp 1) (.cons (.inp 12) .nil)) (.eff (.ld false 1) (.cons (.op (.idxL 1) (.cons (.inp 1) (.cons (.inp 12) .nil))) .nil) (.done [(13, (.bv 0))] none)))) h24_39) Q env w := rfl
def h24_41 : HC := (.seq (.block 13 h24_40) h24_31)
@[simp] theorem h24_41_wp {P : Program} {F : PF P} {Q : EX → List Value → World → Prop} {env : List Value} {w : World} : h24_41.wp F Q env w = HC.wp F (.seq (.block 13 h24_40) h24_31) Q env w := rfl
def h24_42 : HC := (.seq (.br (.chk none .lenL (.cons (.inp 1) .nil) (.chk none (.bin .lss) (.cons (.inp 12) (.cons (.op .lenL (.cons (.inp 1) .nil)) .nil)) (.done [] (some (.op (.bin .lss) (.cons (.inp 12) (.cons (.op .lenL (.cons (.inp 1) .nil)) .nil))))))) .skip (.exit 12)) h24_41)
@[simp] theorem h24_42_wp {P : Program} {F : PF P} {Q : EX → List Value → World → Prop} {env : List Value} {w : World} : h24_42.wp F Q env w = HC.wp F (.seq (.br (.chk none .lenL (.cons (.inp 1) .nil) (.chk none (.bin .lss) (.cons (.inp 12) (.cons (.op .lenL (.cons (.inp 1) .nil)) .nil)) (.done [] (some (.op (.bin .lss) (.cons (.inp 12) (.cons (.op .lenL (.cons (.inp 1) .nil)) .nil))))))) .skip (.exit 12)) h24_41) Q env w := rfl
def h24_43 : HC := (.loop h24_42)
@[simp] theorem h24_43_wp {P : Program} {F : PF P} {Q : EX → List Value → World → Prop} {env : List Value} {w : World} : h24_43.wp F Q env w = HC.wp F (.loop h24_42) Q env w := rfl
def h24_44 : HC := (.seq (.block 12 h24_43) h24_30)
@[simp] theorem h24_44_wp {P : Program} {F : PF P} {Q : EX → List Value → World → Prop} {env : List Value} {w : World} : h24_44.wp F Q env w = HC.wp F (.seq (.block 12 h24_43) h24_30) Q env w := rfl
def h24_45 : HC := (.seq (.reg (.done [(12, (.cst (.int .i64 0)))] none)) h24_44)
@[simp] theorem h24_45_wp {P : Program} {F : PF P} {Q : EX → List Value → World → Prop} {env : List Value} {w : World} : h24_45.wp F Q env w = HC.wp F (.seq (.reg (.done [(12, (.cst (.int .i64 0)))] none)) h24_44) Q env w := rfl
def h24_46 : HC := (.seq (.reg (.done [(11, (.cst (.slice none 0 0)))] none)) h24_45)
@[simp] theorem h24_46_wp {P : Program} {F : PF P} {Q : EX → List Value → World → Prop} {env : List Value} {w : World} : h24_46.wp F Q env w = HC.wp F (.seq (.reg (.done [(11, (.cst (.slice none 0 0)))] none)) h24_45) Q env w := rfl
def h24_47 : HC := (.reg (.chk none (.bin .add) (.cons (.inp 8) (.cons (.cst (.int .i64 1)) .nil)) (.done [(8, (.op (.bin .add) (.cons (.inp 8) (.cons (.cst (.int .i64 1)) .nil))))] none)))
@[simp] theorem h24_47_wp {P : Program} {F : PF P} {Q : EX → List Value → World → Prop} {env : List Value} {w : World} : h24_47.wp F Q env w = HC.wp F (.reg (.chk none (.bin .add) (.cons (.inp 8) (.cons (.cst (.int .i64 1)) .nil)) (.done [(8, (.op (.bin .add) (.cons (.inp 8) (.cons (.cst (.int .i64 1)) .nil))))] none))) Q env w := rfl
def h24_48 : HC := (.reg (.eff (.bsl 38 1 1 #[(.slice none 0 0)] [0]) (.cons (.inp 9) .nil) (.eff (.app 46 46 38 1 24 (.slice none 0 0)) (.cons (.inp 7) (.cons (.bv 0) .nil)) (.done [(7, (.bv 1))] none))))
@[simp] theorem h24_48_wp {P : Program} {F : PF P} {Q : EX → List Value → World → Prop} {env : List Value} {w : World} : h24_48.wp F Q env w = HC.wp F (.reg (.eff (.bsl 38 1 1 #[(.slice none 0 0)] [0]) (.cons (.inp 9) .nil) (.eff (.app 46 46 38 1 24 (.slice none 0 0)) (.cons (.inp 7) (.cons (.bv 0) .nil)) (.done [(7, (.bv 1))] none)))) Q env w := rfl
def h24_49 : HC := (.reg (.chk none (.bin .add) (.cons (.inp 10) (.cons (.cst (.int .i64 1)) .nil)) (.done [(10, (.op (.bin .add) (.cons (.inp 10) (.cons (.cst (.int .i64 1)) .nil))))] none)))
@[simp] theorem h24_49_wp {P : Program} {F : PF P} {Q : EX → List Value → World → Prop} {env : List Value} {w : World} : h24_49.wp F Q env w = HC.wp F (.reg (.chk none (.bin .add) (.cons (.inp 10) (.cons (.cst (.int .i64 1)) .nil)) (.done [(10, (.op (.bin .add) (.cons (.inp 10) (.cons (.cst (.int .i64 1)) .nil))))] none))) Q env w := rfl
def h24_50 : HC := (.reg (.chk none (.bin .add) (.cons (.cst (.int .i64 1000)) (.cons (.inp 8) .nil)) (.chk none (.build #[(.int .i64 0), (.int .i64 0)] [(0, 1), (1, 1)] [0, 1]) (.cons (.op (.bin .add) (.cons (.cst (.int .i64 1000)) (.cons (.inp 8) .nil))) (.cons (.inp 10) .nil)) (.eff (.bsl 32 1 2 #[(.int .i64 0), (.int .i64 0)] [0]) (.cons (.op (.build #[(.int .i64 0), (.int .i64 0)] [(0, 1), (1, 1)] [0, 1]) (.cons (.op (.bin .add) (.cons (.cst (.int .i64 1000)) (.cons (.inp 8) .nil))) (.cons (.inp 10) .nil))) .nil) (.eff (.app 38 38 32 2 16 (.agg #[(.int .i64 0), (.int .i64 0)])) (.cons (.inp 9) (.cons (.bv 0) .nil)) (.done [(9, (.bv 1))] none))))))
@[simp] theorem h24_50_wp {P : Program} {F : PF P} {Q : EX → List Value → World → Prop} {env : List Value} {w : World} : h24_50.wp F Q env w = HC.wp F (.reg (.chk none (.bin .add) (.cons (.cst (.int .i64 1000)) (.cons (.inp 8) .nil)) (.chk none (.build #[(.int .i64 0), (.int .i64 0)] [(0, 1), (1, 1)] [0, 1]) (.cons (.op (.bin .add) (.cons (.cst (.int .i64 1000)) (.cons (.inp 8) .nil))) (.cons (.inp 10) .nil)) (.eff (.bsl 32 1 2 #[(.int .i64 0), (.int .i64 0)] [0]) (.cons (.op (.build #[(.int .i64 0), (.int .i64 0)] [(0, 1), (1, 1)] [0, 1]) (.cons (.op (.bin .add) (.cons (.cst (.int .i64 1000)) (.cons (.inp 8) .nil))) (.cons (.inp 10) .nil))) .nil) (.eff (.app 38 38 32 2 16 (.agg #[(.int .i64 0), (.int .i64 0)])) (.cons (.inp 9) (.cons (.bv 0) .nil)) (.done [(9, (.bv 1))] none)))))) Q env w := rfl
def h24_51 : HC := (.seq (.block 11 h24_50) h24_49)
@[simp] theorem h24_51_wp {P : Program} {F : PF P} {Q : EX → List Value → World → Prop} {env : List Value} {w : World} : h24_51.wp F Q env w = HC.wp F (.seq (.block 11 h24_50) h24_49) Q env w := rfl
def h24_52 : HC := (.seq (.br (.chk none (.bin .lss) (.cons (.inp 10) (.cons (.cst (.int .i64 80)) .nil)) (.done [] (some (.op (.bin .lss) (.cons (.inp 10) (.cons (.cst (.int .i64 80)) .nil)))))) .skip (.exit 10)) h24_51)
@[simp] theorem h24_52_wp {P : Program} {F : PF P} {Q : EX → List Value → World → Prop} {env : List Value} {w : World} : h24_52.wp F Q env w = HC.wp F (.seq (.br (.chk none (.bin .lss) (.cons (.inp 10) (.cons (.cst (.int .i64 80)) .nil)) (.done [] (some (.op (.bin .lss) (.cons (.inp 10) (.cons (.cst (.int .i64 80)) .nil)))))) .skip (.exit 10)) h24_51) Q env w := rfl
def h24_53 : HC := (.loop h24_52)
@[simp] theorem h24_53_wp {P : Program} {F : PF P} {Q : EX → List Value → World → Prop} {env : List Value} {w : World} : h24_53.wp F Q env w = HC.wp F (.loop h24_52) Q env w := rfl
def h24_54 : HC := (.seq (.block 10 h24_53) h24_48)
@[simp] theorem h24_54_wp {P : Program} {F : PF P} {Q : EX → List Value → World → Prop} {env : List Value} {w : World} : h24_54.wp F Q env w = HC.wp F (.seq (.block 10 h24_53) h24_48) Q env w := rfl
def h24_55 : HC := (.seq (.reg (.done [(10, (.cst (.int .i64 0)))] none)) h24_54)
@[simp] theorem h24_55_wp {P : Program} {F : PF P} {Q : EX → List Value → World → Prop} {env : List Value} {w : World} : h24_55.wp F Q env w = HC.wp F (.seq (.reg (.done [(10, (.cst (.int .i64 0)))] none)) h24_54) Q env w := rfl
def h24_56 : HC := (.seq (.reg (.chk none (.idxL 1) (.cons (.inp 0) (.cons (.inp 8) .nil)) (.eff (.ld false 1) (.cons (.op (.idxL 1) (.cons (.inp 0) (.cons (.inp 8) .nil))) .nil) (.done [(9, (.bv 0))] none)))) h24_55)
@[simp] theorem h24_56_wp {P : Program} {F : PF P} {Q : EX → List Value → World → Prop} {env : List Value} {w : World} : h24_56.wp F Q env w = HC.wp F (.seq (.reg (.chk none (.idxL 1) (.cons (.inp 0) (.cons (.inp 8) .nil)) (.eff (.ld false 1) (.cons (.op (.idxL 1) (.cons (.inp 0) (.cons (.inp 8) .nil))) .nil) (.done [(9, (.bv 0))] none)))) h24_55) Q env w := rfl
def h24_57 : HC := (.seq (.block 9 h24_56) h24_47)
@[simp] theorem h24_57_wp {P : Program} {F : PF P} {Q : EX → List Value → World → Prop} {env : List Value} {w : World} : h24_57.wp F Q env w = HC.wp F (.seq (.block 9 h24_56) h24_47) Q env w := rfl
def h24_58 : HC := (.seq (.br (.chk none .lenL (.cons (.inp 0) .nil) (.chk none (.bin .lss) (.cons (.inp 8) (.cons (.op .lenL (.cons (.inp 0) .nil)) .nil)) (.done [] (some (.op (.bin .lss) (.cons (.inp 8) (.cons (.op .lenL (.cons (.inp 0) .nil)) .nil))))))) .skip (.exit 8)) h24_57)
@[simp] theorem h24_58_wp {P : Program} {F : PF P} {Q : EX → List Value → World → Prop} {env : List Value} {w : World} : h24_58.wp F Q env w = HC.wp F (.seq (.br (.chk none .lenL (.cons (.inp 0) .nil) (.chk none (.bin .lss) (.cons (.inp 8) (.cons (.op .lenL (.cons (.inp 0) .nil)) .nil)) (.done [] (some (.op (.bin .lss) (.cons (.inp 8) (.cons (.op .lenL (.cons (.inp 0) .nil)) .nil))))))) .skip (.exit 8)) h24_57) Q env w := rfl
def h24_59 : HC := (.loop h24_58)
@[simp] theorem h24_59_wp {P : Program} {F : PF P} {Q : EX → List Value → World → Prop} {env : List Value} {w : World} : h24_59.wp F Q env w = HC.wp F (.loop h24_58) Q env w := rfl
def h24_60 : HC := (.seq (.block 8 h24_59) h24_46)
@[simp] theorem h24_60_wp {P : Program} {F : PF P} {Q : EX → List Value → World → Prop} {env : List Value} {w : World} : h24_60.wp F Q env w = HC.wp F (.seq (.block 8 h24_59) h24_46) Q env w := rfl
def h24_61 : HC := (.seq (.reg (.done [(8, (.cst (.int .i64 0)))] none)) h24_60)
@[simp] theorem h24_61_wp {P : Program} {F : PF P} {Q : EX → List Value → World → Prop} {env : List Value} {w : World} : h24_61.wp F Q env w = HC.wp F (.seq (.reg (.done [(8, (.cst (.int .i64 0)))] none)) h24_60) Q env w := rfl
def h24_62 : HC := (.seq (.reg (.done [(7, (.cst (.slice none 0 0)))] none)) h24_61)
@[simp] theorem h24_62_wp {P : Program} {F : PF P} {Q : EX → List Value → World → Prop} {env : List Value} {w : World} : h24_62.wp F Q env w = HC.wp F (.seq (.reg (.done [(7, (.cst (.slice none 0 0)))] none)) h24_61) Q env w := rfl
def h24_63 : HC := (.reg (.chk none (.bin .add) (.cons (.inp 5) (.cons (.cst (.int .i64 1)) .nil)) (.done [(5, (.op (.bin .add) (.cons (.inp 5) (.cons (.cst (.int .i64 1)) .nil))))] none)))
@[simp] theorem h24_63_wp {P : Program} {F : PF P} {Q : EX → List Value → World → Prop} {env : List Value} {w : World} : h24_63.wp F Q env w = HC.wp F (.reg (.chk none (.bin .add) (.cons (.inp 5) (.cons (.cst (.int .i64 1)) .nil)) (.done [(5, (.op (.bin .add) (.cons (.inp 5) (.cons (.cst (.int .i64 1)) .nil))))] none))) Q env w := rfl
def h24_64 : HC := (.reg (.chk none (.bin .add) (.cons (.inp 6) (.cons (.cst (.int .i64 1)) .nil)) (.done [(6, (.op (.bin .add) (.cons (.inp 6) (.cons (.cst (.int .i64 1)) .nil))))] none)))
@[simp] theorem h24_64_wp {P : Program} {F : PF P} {Q : EX → List Value → World → Prop} {env : List Value} {w : World} : h24_64.wp F Q env w = HC.wp F (.reg (.chk none (.bin .add) (.cons (.inp 6) (.cons (.cst (.int .i64 1)) .nil)) (.done [(6, (.op (.bin .add) (.cons (.inp 6) (.cons (.cst (.int .i64 1)) .nil))))] none))) Q env w := rfl
def h24_65 : HC := (.reg (.chk none (.idxL 1) (.cons (.inp 1) (.cons (.inp 5) .nil)) (.eff (.ld false 1) (.cons (.op (.idxL 1) (.cons (.inp 1) (.cons (.inp 5) .nil))) .nil) (.chk none (.bin .mul) (.cons (.cst (.int .i64 (-1000))) (.cons (.inp 5) .nil)) (.chk none (.bin .sub) (.cons (.op (.bin .mul) (.cons (.cst (.int .i64 (-1000))) (.cons (.inp 5) .nil))) (.cons (.inp 6) .nil)) (.chk none (.bin .sub) (.cons (.op (.bin .sub) (.cons (.op (.bin .mul) (.cons (.cst (.int .i64 (-1000))) (.cons (.inp 5) .nil))) (.cons (.inp 6) .nil))) (.cons (.cst (.int .i64 1)) .nil)) (.chk none (.idxL 1) (.cons (.bv 0) (.cons (.inp 6) .nil)) (.eff (.st 1) (.cons (.op (.idxL 1) (.cons (.bv 0) (.cons (.inp 6) .nil))) (.cons (.op (.bin .sub) (.cons (.op (.bin .sub) (.cons (.op (.bin .mul) (.cons (.cst (.int .i64 (-1000))) (.cons (.inp 5) .nil))) (.cons (.inp 6) .nil))) (.cons (.cst (.int .i64 1)) .nil))) .nil)) (.done [] none)))))))))
@[simp] theorem h24_65_wp {P : Program} {F : PF P} {Q : EX → List Value → World → Prop} {env : List Value} {w : World} : h24_65.wp F Q env w = HC.wp F (.reg (.chk none (.idxL 1) (.cons (.inp 1) (.cons (.inp 5) .nil)) (.eff (.ld false 1) (.cons (.op (.idxL 1) (.cons (.inp 1) (.cons (.inp 5) .nil))) .nil) (.chk none (.bin .mul) (.cons (.cst (.int .i64 (-1000))) (.cons (.inp 5) .nil)) (.chk none (.bin .sub) (.cons (.op (.bin .mul) (.cons (.cst (.int .i64 (-1000))) (.cons (.inp 5) .nil))) (.cons (.inp 6) .nil)) (.chk none (.bin .sub) (.cons (.op (.bin .sub) (.cons (.op (.bin .mul) (.cons (.cst (.int .i64 (-1000))) (.cons (.inp 5) .nil))) (.cons (.inp 6) .nil))) (.cons (.cst (.int .i64 1)) .nil)) (.chk none (.idxL 1) (.cons (.bv 0) (.cons (.inp 6) .nil)) (.eff (.st 1) (.cons (.op (.idxL 1) (.cons (.bv 0) (.cons (.inp 6) .nil))) (.cons (.op (.bin .sub) (.cons (.op (.bin .sub) (.cons (.op (.bin .mul) (.cons (.cst (.int .i64 (-1000))) (.cons (.inp 5) .nil))) (.cons (.inp 6) .nil))) (.cons (.cst (.int .i64 1)) .nil))) .nil)) (.done [] none))))))))) Q env w := rfl
def h24_66 : HC := (.seq (.block 7 h24_65) h24_64)
@[simp] theorem h24_66_wp {P : Program} {F : PF P} {Q : EX → List Value → World → Prop} {env : List Value} {w : World} : h24_66.wp F Q env w = HC.wp F (.seq (.block 7 h24_65) h24_64) Q env w := rfl
def h24_67 : HC := (.seq (.br (.chk none (.idxL 1) (.cons (.inp 1) (.cons (.inp 5) .nil)) (.eff (.ld false 1) (.cons (.op (.idxL 1) (.cons (.inp 1) (.cons (.inp 5) .nil))) .nil) (.chk none .lenL (.cons (.bv 0) .nil) (.chk none (.bin .lss) (.cons (.inp 6) (.cons (.op .lenL (.cons (.bv 0) .nil)) .nil)) (.done [] (some (.op (.bin .lss) (.cons (.inp 6) (.cons (.op .lenL (.cons (.bv 0) .nil)) .nil))))))))) .skip (.exit 6)) h24_66)
@[simp] theorem h24_67_wp {P : Program} {F : PF P} {Q : EX → List Value → World → Prop} {env : List Value} {w : World} : h24_67.wp F Q env w = HC.wp F (.seq (.br (.chk none (.idxL 1) (.cons (.inp 1) (.cons (.inp 5) .nil)) (.eff (.ld false 1) (.cons (.op (.idxL 1) (.cons (.inp 1) (.cons (.inp 5) .nil))) .nil) (.chk none .lenL (.cons (.bv 0) .nil) (.chk none (.bin .lss) (.cons (.inp 6) (.cons (.op .lenL (.cons (.bv 0) .nil)) .nil)) (.done [] (some (.op (.bin .lss) (.cons (.inp 6) (.cons (.op .lenL (.cons (.bv 0) .nil)) .nil))))))))) .skip (.exit 6)) h24_66) Q env w := rfl
def h24_68 : HC := (.loop h24_67)
@[simp] theorem h24_68_wp {P : Program} {F : PF P} {Q : EX → List Value → World → Prop} {env : List Value} {w : World} : h24_68.wp F Q env w = HC.wp F (.loop h24_67) Q env w := rfl
def h24_69 : HC := (.block 6 h24_68)
@[simp] theorem h24_69_wp {P : Program} {F : PF P} {Q : EX → List Value → World → Prop} {env : List Value} {w : World} : h24_69.wp F Q env w = HC.wp F (.block 6 h24_68) Q env w := rfl
def h24_70 : HC := (.seq (.reg (.done [(6, (.cst (.int .i64 0)))] none)) h24_69)
@[simp] theorem h24_70_wp {P : Program} {F : PF P} {Q : EX → List Value → World → Prop} {env : List Value} {w : World} : h24_70.wp F Q env w = HC.wp F (.seq (.reg (.done [(6, (.cst (.int .i64 0)))] none)) h24_69) Q env w := rfl
def h24_71 : HC := (.seq (.block 5 h24_70) h24_63)
@[simp] theorem h24_71_wp {P : Program} {F : PF P} {Q : EX → List Value → World → Prop} {env : List Value} {w : World} : h24_71.wp F Q env w = HC.wp F (.seq (.block 5 h24_70) h24_63) Q env w := rfl
def h24_72 : HC := (.seq (.br (.chk none .lenL (.cons (.inp 1) .nil) (.chk none (.bin .lss) (.cons (.inp 5) (.cons (.op .lenL (.cons (.inp 1) .nil)) .nil)) (.done [] (some (.op (.bin .lss) (.cons (.inp 5) (.cons (.op .lenL (.cons (.inp 1) .nil)) .nil))))))) .skip (.exit 4)) h24_71)
@[simp] theorem h24_72_wp {P : Program} {F : PF P} {Q : EX → List Value → World → Prop} {env : List Value} {w : World} : h24_72.wp F Q env w = HC.wp F (.seq (.br (.chk none .lenL (.cons (.inp 1) .nil) (.chk none (.bin .lss) (.cons (.inp 5) (.cons (.op .lenL (.cons (.inp 1) .nil)) .nil)) (.done [] (some (.op (.bin .lss) (.cons (.inp 5) (.cons (.op .lenL (.cons (.inp 1) .nil)) .nil))))))) .skip (.exit 4)) h24_71) Q env w := rfl
def h24_73 : HC := (.loop h24_72)
@[simp] theorem h24_73_wp {P : Program} {F : PF P} {Q : EX → List Value → World → Prop} {env : List Value} {w : World} : h24_73.wp F Q env w = HC.wp F (.loop h24_72) Q env w := rfl
def h24_74 : HC := (.seq (.block 4 h24_73) h24_62)
@[simp] theorem h24_74_wp {P : Program} {F : PF P} {Q : EX → List Value → World → Prop} {env : List Value} {w : World} : h24_74.wp F Q env w = HC.wp F (.seq (.block 4 h24_73) h24_62) Q env w := rfl
def h24_75 : HC := (.seq (.reg (.done [(5, (.cst (.int .i64 0)))] none)) h24_74)
@[simp] theorem h24_75_wp {P : Program} {F : PF P} {Q : EX → List Value → World → Prop} {env : List Value} {w : World} : h24_75.wp F Q env w = HC.wp F (.seq (.reg (.done [(5, (.cst (.int .i64 0)))] none)) h24_74) Q env w := rfl
def h24_76 : HC := (.reg (.chk none (.bin .add) (.cons (.inp 3) (.cons (.cst (.int .i64 1)) .nil)) (.done [(3, (.op (.bin .add) (.cons (.inp 3) (.cons (.cst (.int .i64 1)) .nil))))] none)))
@[simp] theorem h24_76_wp {P : Program} {F : PF P} {Q : EX → List Value → World → Prop} {env : List Value} {w : World} : h24_76.wp F Q env w = HC.wp F (.reg (.chk none (.bin .add) (.cons (.inp 3) (.cons (.cst (.int .i64 1)) .nil)) (.done [(3, (.op (.bin .add) (.cons (.inp 3) (.cons (.cst (.int .i64 1)) .nil))))] none))) Q env w := rfl
def h24_77 : HC := (.reg (.chk none (.bin .add) (.cons (.inp 4) (.cons (.cst (.int .i64 1)) .nil)) (.done [(4, (.op (.bin .add) (.cons (.inp 4) (.cons (.cst (.int .i64 1)) .nil))))] none)))
@[simp] theorem h24_77_wp {P : Program} {F : PF P} {Q : EX → List Value → World → Prop} {env : List Value} {w : World} : h24_77.wp F Q env w = HC.wp F (.reg (.chk none (.bin .add) (.cons (.inp 4) (.cons (.cst (.int .i64 1)) .nil)) (.done [(4, (.op (.bin .add) (.cons (.inp 4) (.cons (.cst (.int .i64 1)) .nil))))] none))) Q env w := rfl
def h24_78 : HC := (.reg (.chk none (.idxL 1) (.cons (.inp 0) (.cons (.inp 3) .nil)) (.eff (.ld false 1) (.cons (.op (.idxL 1) (.cons (.inp 0) (.cons (.inp 3) .nil))) .nil) (.chk none (.un .neg) (.cons (.inp 3) .nil) (.chk none (.build #[(.int .i64 0), (.int .i64 0)] [(0, 1), (1, 1)] [0, 1]) (.cons (.op (.un .neg) (.cons (.inp 3) .nil)) (.cons (.inp 4) .nil)) (.chk none (.idxL 2) (.cons (.bv 0) (.cons (.inp 4) .nil)) (.eff (.st 2) (.cons (.op (.idxL 2) (.cons (.bv 0) (.cons (.inp 4) .nil))) (.cons (.op (.build #[(.int .i64 0), (.int .i64 0)] [(0, 1), (1, 1)] [0, 1]) (.cons (.op (.un .neg) (.cons (.inp 3) .nil)) (.cons (.inp 4) .nil))) .nil)) (.done [] none))))))))
@[simp] theorem h24_78_wp {P : Program} {F : PF P} {Q : EX → List Value → World → Prop} {env : List Value} {w : World} : h24_78.wp F Q env w = HC.wp F (.reg (.chk none (.idxL 1) (.cons (.inp 0) (.cons (.inp 3) .nil)) (.eff (.ld false 1) (.cons (.op (.idxL 1) (.cons (.inp 0) (.cons (.inp 3) .nil))) .nil) (.chk none (.un .neg) (.cons (.inp 3) .nil) (.chk none (.build #[(.int .i64 0), (.int .i64 0)] [(0, 1), (1, 1)] [0, 1]) (.cons (.op (.un .neg) (.cons (.inp 3) .nil)) (.cons (.inp 4) .nil)) (.chk none (.idxL 2) (.cons (.bv 0) (.cons (.inp 4) .nil)) (.eff (.st 2) (.cons (.op (.idxL 2) (.cons (.bv 0) (.cons (.inp 4) .nil))) (.cons (.op (.build #[(.int .i64 0), (.int .i64 0)] [(0, 1), (1, 1)] [0, 1]) (.cons (.op (.un .neg) (.cons (.inp 3) .nil)) (.cons (.inp 4) .nil))) .nil)) (.done [] none)))))))) Q env w := rfl
def h24_79 : HC := (.seq (.block 3 h24_78) h24_77)
@[simp] theorem h24_79_wp {P : Program} {F : PF P} {Q : EX → List Value → World → Prop} {env : List Value} {w : World} : h24_79.wp F Q env w = HC.wp F (.seq (.block 3 h24_78) h24_77) Q env w := rfl
def h24_80 : HC := (.seq (.br (.chk none (.idxL 1) (.cons (.inp 0) (.cons (.inp 3) .nil)) (.eff (.ld false 1) (.cons (.op (.idxL 1) (.cons (.inp 0) (.cons (.inp 3) .nil))) .nil) (.chk none .lenL (.cons (.bv 0) .nil) (.chk none (.bin .lss) (.cons (.inp 4) (.cons (.op .lenL (.cons (.bv 0) .nil)) .nil)) (.done [] (some (.op (.bin .lss) (.cons (.inp 4) (.cons (.op .lenL (.cons (.bv 0) .nil)) .nil))))))))) .skip (.exit 2)) h24_79)
@[simp] theorem h24_80_wp {P : Program} {F : PF P} {Q : EX → List Value → World → Prop} {env : List Value} {w : World} : h24_80.wp F Q env w = HC.wp F (.seq (.br (.chk none (.idxL 1) (.cons (.inp 0) (.cons (.inp 3) .nil)) (.eff (.ld false 1) (.cons (.op (.idxL 1) (.cons (.inp 0) (.cons (.inp 3) .nil))) .nil) (.chk none .lenL (.cons (.bv 0) .nil) (.chk none (.bin .lss) (.cons (.inp 4) (.cons (.op .lenL (.cons (.bv 0) .nil)) .nil)) (.done [] (some (.op (.bin .lss) (.cons (.inp 4) (.cons (.op .lenL (.cons (.bv 0) .nil)) .nil))))))))) .skip (.exit 2)) h24_79) Q env w := rfl
def h24_81 : HC := (.loop h24_80)
@[simp] theorem h24_81_wp {P : Program} {F : PF P} {Q : EX → List Value → World → Prop} {env : List Value} {w : World} : h24_81.wp F Q env w = HC.wp F (.loop h24_80) Q env w := rfl
def h24_82 : HC := (.block 2 h24_81)
@[simp] theorem h24_82_wp {P : Program} {F : PF P} {Q : EX → List Value → World → Prop} {env : List Value} {w : World} : h24_82.wp F Q env w = HC.wp F (.block 2 h24_81) Q env w := rfl
def h24_83 : HC := (.seq (.reg (.done [(4, (.cst (.int .i64 0)))] none)) h24_82)
@[simp] theorem h24_83_wp {P : Program} {F : PF P} {Q : EX → List Value → World → Prop} {env : List Value} {w : World} : h24_83.wp F Q env w = HC.wp F (.seq (.reg (.done [(4, (.cst (.int .i64 0)))] none)) h24_82) Q env w := rfl
def h24_84 : HC := (.seq (.block 1 h24_83) h24_76)
@[simp] theorem h24_84_wp {P : Program} {F : PF P} {Q : EX → List Value → World → Prop} {env : List Value} {w : World} : h24_84.wp F Q env w = HC.wp F (.seq (.block 1 h24_83) h24_76) Q env w := rfl
def h24_85 : HC := (.seq (.br (.chk none .lenL (.cons (.inp 0) .nil) (.chk none (.bin .lss) (.cons (.inp 3) (.cons (.op .lenL (.cons (.inp 0) .nil)) .nil)) (.done [] (some (.op (.bin .lss) (.cons (.inp 3) (.cons (.op .lenL (.cons (.inp 0) .nil)) .nil))))))) .skip (.exit 0)) h24_84)
@[simp] theorem h24_85_wp {P : Program} {F : PF P} {Q : EX → List Value → World → Prop} {env : List Value} {w : World} : h24_85.wp F Q env w = HC.wp F (.seq (.br (.chk none .lenL (.cons (.inp 0) .nil) (.chk none (.bin .lss) (.cons (.inp 3) (.cons (.op .lenL (.cons (.inp 0) .nil)) .nil)) (.done [] (some (.op (.bin .lss) (.cons (.inp 3) (.cons (.op .lenL (.cons (.inp 0) .nil)) .nil))))))) .skip (.exit 0)) h24_84) Q env w := rfl
def h24_86 : HC := (.loop h24_85)
@[simp] theorem h24_86_wp {P : Program} {F : PF P} {Q : EX → List Value → World → Prop} {env : List Value} {w : World} : h24_86.wp F Q env w = HC.wp F (.loop h24_85) Q env w := rfl
def h24_87 : HC := (.seq (.block 0 h24_86) h24_75)
@[simp] theorem h24_87_wp {P : Program} {F : PF P} {Q : EX → List Value → World → Prop} {env : List Value} {w : World} : h24_87.wp F Q env w = HC.wp F (.seq (.block 0 h24_86) h24_75) Q env w := rfl
def h24_88 : HC := (.seq (.reg (.done [(3, (.cst (.int .i64 0)))] none)) h24_87)
@[simp] theorem h24_88_wp {P : Program} {F : PF P} {Q : EX → List Value → World → Prop} {env : List Value} {w : World} : h24_88.wp F Q env w = HC.wp F (.seq (.reg (.done [(3, (.cst (.int .i64 0)))] none)) h24_87) Q env w := rfl
def l24 : Lifted := ⟨[0, 1, 4, 5, 6, 7, 8, 9, 10, 11, 12, 13, 14, 15, 16, 17, 18, 19, 20, 21, 22], 235, [.slot 2], (.seq (.reg (.done [(2, (.cst (.bool false)))] none)) h24_88)⟩
theorem l24_ok : liftFn U2 24 400 = some l24 := by kernel_rfl


theorem apart_spec (R L : Nat → Value) (Y : Nat → List (Int × Int)) (Z : Nat → List Int) (nr nl : Nat) (v1 v2 : Value) (w0 w : World) (A : Asn) (hnr : nr ≤ 1000) (hnl : nl ≤ 1000) (hY : ∀ j, (Y j).length ≤ 1048576) (hZ : ∀ j, (Z j).length ≤ 1048576)
    (h1 : Row w0 A v1 nr 1 ((List.range nr).map R)) (h2 : Row w0 A v2 nl 1 ((List.range nl).map L))
    (s : St w0 (A * bigA (fun j ys => own 32 2 (R j) (Y j).length (flat ys)) Y nr * bigA (fun j zs => own 3 1 (L j) (Z j).length (ints zs)) Z nl) w) :
    CallW Try.prog 24 [v1, v2] (fun r w' => r = .bool true ∧ St w0 A w') w := by
  obtain ⟨a1, c1, rfl⟩ := h1.val
  obtain ⟨a2, c2, rfl⟩ := h2.val
  generalize hFR : (fun (j : Nat) (ys : List (Int × Int)) => own 32 2 (R j) (Y j).length (flat ys)) = FR at s
  generalize hFL : (fun (j : Nat) (zs : List Int) => own 3 1 (L j) (Z j).length (ints zs)) = FL at s
  have eFR : ∀ j ys, FR j ys = own 32 2 (R j) (Y j).length (flat ys) := fun j ys => by rw [← hFR]
  have eFL : ∀ j zs, FL j zs = own 3 1 (L j) (Z j).length (ints zs) := fun j zs => by rw [← hFL]
  refine callW_of_lift l24_ok (by simp [l24]) ?_
  simp [l24]
  -- all rows are marked
  refine loopI (fun env w' => ∃ (i : Nat) (Y' : Nat → List (Int × Int)) (o4 : Value), env = [.slice a1 nr c1, .slice a2 nl c2, .bool false, .int .i64 i, o4, undef, undef, undef, undef, undef, undef, undef, undef, undef, undef, undef, undef, undef, undef, undef, undef] ∧ i ≤ nr ∧
      (∀ j, (Y' j).length = (Y j).length) ∧ (∀ j, j < i → ∀ k, k < (Y j).length → (Y' j)[k]? = some (-(j : Int), (k : Int))) ∧ St w0 (A * bigA FR Y' nr * bigA FL Z nl) w')
    (fun env _ => nr - slotN env 3) ⟨0, Y, _, rfl, by omega, fun _ => rfl, fun j hj => by omega, s⟩ ?_
  rintro LQ env w' ⟨i, Y', o4, rfl, hi, hYl, hYm, s'⟩ hN hE hR
  simp
  refine cndI (fun h => ?_) (fun h => ?_)
  · simp at h
    obtain ⟨g1, b1, c1', hv, hc1⟩ := h1.at (by omega)
    cases hv
    simp
    rw [big_at h] at s'
    have s1 := s'.to (B := A * bigH FR Y' i nr * bigA FL Z nl * FR i (Y' i)) (by ac_rfl)
    refine loopI (fun env w' => ∃ (k : Nat) (ys : List (Int × Int)), env = [.slice (some ⟨g1, b1, none⟩) nr c1, .slice a2 nl c2, .bool false, .int .i64 i, .int .i64 k, undef, undef, undef, undef, undef, undef, undef, undef, undef, undef, undef, undef, undef, undef, undef, undef] ∧ k ≤ (Y i).length ∧
        ys.length = (Y i).length ∧ (∀ j, j < k → ys[j]? = some (-(i : Int), (j : Int))) ∧ St w0 (A * bigH FR Y' i nr * bigA FL Z nl * FR i ys) w')
      (fun env _ => (Y i).length - slotN env 4) ⟨0, Y' i, rfl, by omega, hYl i, fun j hj => by omega, s1⟩ ?_
    rintro LQ2 env w2 ⟨k, ys, rfl, hk, hyl, hym, s2⟩ hN2 hE2 hR2
    rw [eFR] at s2
    obtain ⟨ra, rc, hR', hrc, _⟩ := s2.own_val
    have hload : w2.cell? ⟨g1, b1 + i, none⟩ = some (.slice ra (Y i).length rc) := by rw [← hR']; exact hc1 _ s2.drop.drop.drop i _ (range_at h)
    simp [h]
    refine eff_ldc hload ?_
    simp
    refine cndI (fun h3 => ?_) (fun h3 => ?_)
    · simp at h3
      have hyL := hY i
      rw [hR'] at s2
      obtain ⟨g, cap, hv, _⟩ := s2.own_at (by omega)
      cases hv
      simp [h]
      refine eff_ldc hload ?_
      simp [h3, Instr.fill, Value.cells]
      try simp (disch := omega) only [wrap64]
      have hfl := flat_len ys
      refine eff_stR (vs := encT (-(i : Int), k)) s2 rfl rfl (encT_one _) (by omega) ?_
      intro w3 s3
      rw [show flat ys = ys.flatMap encT from rfl, flat_set encT 2 (fun _ => rfl) _ ys k (by omega)] at s3
      simp
      try simp (disch := omega) only [wrap64]
      refine hN2 _ _ ⟨k + 1, ys.set k (-(i : Int), (k : Int)), by simp, by omega, by simp [hyl], fun j hj => ?_, by rw [eFR, hR']; exact s3⟩ (by simp [slotN]; omega)
      by_cases e : j = k
      · subst e; rw [List.getElem?_set_self (by omega)]
      · rw [List.getElem?_set_ne (by omega)]; exact hym j (by omega)
    · simp at h3
      simp
      refine hE2 _ _ _ ?_
      simp
      try simp (disch := omega) only [wrap64]
      refine hN _ _ ⟨i + 1, upF Y' i ys, .int .i64 k, by simp, by omega, fun j => ?_, fun j hj k' hk' => ?_, ?_⟩ (by simp [slotN]; omega)
      · by_cases e : j = i
        · subst e; rw [upF_at, hyl]
        · rw [upF_ne _ _ e, hYl]
      · by_cases e : j = i
        · subst e; rw [upF_at]; exact hym k' (by omega)
        · rw [upF_ne _ _ e]; exact hYm j (by omega) k' hk'
      · rw [big_set h, eFR]; exact s2.to (by ac_rfl)
  simp at h
  simp
  refine hE _ _ _ ?_
  simp
  have hin : i = nr := by omega
  subst hin
  clear hN hE hR s
  -- all lists are marked
  refine loopI (fun env w' => ∃ (i' : Nat) (Z' : Nat → List Int) (o6 : Value), env = [.slice a1 i c1, .slice a2 nl c2, .bool false, .int .i64 i, o4, .int .i64 i', o6, undef, undef, undef, undef, undef, undef, undef, undef, undef, undef, undef, undef, undef, undef] ∧ i' ≤ nl ∧
      (∀ j, (Z' j).length = (Z j).length) ∧ (∀ j, j < i' → ∀ k, k < (Z j).length → (Z' j)[k]? = some (-1000 * (j : Int) - k - 1)) ∧ St w0 (A * bigA FR Y' i * bigA FL Z' nl) w')
    (fun env _ => nl - slotN env 5) ⟨0, Z, _, rfl, by omega, fun _ => rfl, fun j hj => by omega, s'⟩ ?_
  clear s'
  rintro LQ env w' ⟨i', Z', o6, rfl, hi', hZl, hZm, s'⟩ hN hE hR
  simp
  refine cndI (fun h => ?_) (fun h => ?_)
  · simp at h
    obtain ⟨g2, b2, c2', hv, hc2⟩ := h2.at (by omega)
    cases hv
    simp
    rw [big_at h] at s'
    have s1 := s'.to (B := A * bigH FL Z' i' nl * bigA FR Y' i * FL i' (Z' i')) (by ac_rfl)
    refine loopI (fun env w' => ∃ (k : Nat) (zs : List Int), env = [.slice a1 i c1, .slice (some ⟨g2, b2, none⟩) nl c2, .bool false, .int .i64 i, o4, .int .i64 i', .int .i64 k, undef, undef, undef, undef, undef, undef, undef, undef, undef, undef, undef, undef, undef, undef] ∧ k ≤ (Z i').length ∧
        zs.length = (Z i').length ∧ (∀ j, j < k → zs[j]? = some (-1000 * (i' : Int) - j - 1)) ∧ St w0 (A * bigH FL Z' i' nl * bigA FR Y' i * FL i' zs) w')
      (fun env _ => (Z i').length - slotN env 6) ⟨0, Z' i', rfl, by omega, hZl i', fun j hj => by omega, s1⟩ ?_
    rintro LQ2 env w2 ⟨k, zs, rfl, hk, hzl, hzm, s2⟩ hN2 hE2 hR2
    rw [eFL] at s2
    obtain ⟨ra, rc, hR', hrc, _⟩ := s2.own_val
    have hload : w2.cell? ⟨g2, b2 + i', none⟩ = some (.slice ra (Z i').length rc) := by rw [← hR']; exact hc2 _ s2.drop.drop.drop i' _ (range_at h)
    simp [h]
    refine eff_ldc hload ?_
    simp
    refine cndI (fun h3 => ?_) (fun h3 => ?_)
    · simp at h3
      have hzL := hZ i'
      rw [hR'] at s2
      obtain ⟨g, cap, hv, _⟩ := s2.own_at (by omega)
      cases hv
      simp [h]
      refine eff_ldc hload ?_
      simp [h3]
      try simp (disch := omega) only [wrap64]
      refine eff_stC (u := .int .i64 (-1000 * (i' : Int) - k - 1)) s2 (by simp [ints]; omega) rfl ?_
      intro w3 s3
      rw [show (ints zs).set k (.int .i64 (-1000 * (i' : Int) - k - 1)) = ints (zs.set k (-1000 * (i' : Int) - k - 1)) by simp [ints, List.map_set]] at s3
      simp
      try simp (disch := omega) only [wrap64]
      refine hN2 _ _ ⟨k + 1, zs.set k (-1000 * (i' : Int) - k - 1), by simp, by omega, by simp [hzl], fun j hj => ?_, by rw [eFL, hR']; exact s3⟩ (by simp [slotN]; omega)
      by_cases e : j = k
      · subst e; rw [List.getElem?_set_self (by omega)]
      · rw [List.getElem?_set_ne (by omega)]; exact hzm j (by omega)
    · simp at h3
      simp
      refine hE2 _ _ _ ?_
      simp
      try simp (disch := omega) only [wrap64]
      refine hN _ _ ⟨i' + 1, upF Z' i' zs, .int .i64 k, by simp, by omega, fun j => ?_, fun j hj k' hk' => ?_, ?_⟩ (by simp [slotN]; omega)
      · by_cases e : j = i'
        · subst e; rw [upF_at, hzl]
        · rw [upF_ne _ _ e, hZl]
      · by_cases e : j = i'
        · subst e; rw [upF_at]; exact hzm k' (by omega)
        · rw [upF_ne _ _ e]; exact hZm j (by omega) k' hk'
      · rw [big_set h, eFL]; exact s2.to (by ac_rfl)
  simp at h
  simp
  refine hE _ _ _ ?_
  simp
  have hin : i' = nl := by omega
  subst hin
  clear hN hE hR
  have s3 : St w0 (A * bigA (GLf L Z') (fun _ => none) i' * bigA (GRf R Y') (fun _ => none) i) w' := by
    have e1 : bigA FR Y' i = bigA (GRf R Y') (fun _ => none) i := big_congr fun j hj => by rw [eFR]; simp only [GRf]; rw [hYl]
    have e2 : bigA FL Z' i' = bigA (GLf L Z') (fun _ => none) i' := big_congr fun j hj => by rw [eFL]; simp only [GLf]; rw [hZl]
    rw [e1, e2] at s'
    exact s'.swap
  clear s'
  have hY' : ∀ j, (Y' j).length ≤ 1048576 := fun j => by rw [hYl]; exact hY j
  have hZ' : ∀ j, (Z' j).length ≤ 1048576 := fun j => by rw [hZl]; exact hZ j
  have hYm' : ∀ j, j < i → ∀ k, k < (Y' j).length → (Y' j)[k]? = some (-(j : Int), (k : Int)) := fun j hj k hk => hYm j hj k (by rw [← hYl]; exact hk)
  have hZm' : ∀ j, j < i' → ∀ k, k < (Z' j).length → (Z' j)[k]? = some (-1000 * (j : Int) - k - 1) := fun j hj k hk => hZm j hj k (by rw [← hZl]; exact hk)
  generalize hGR : GRf R Y' = GR at s3
  generalize hGL : GLf L Z' = GL at s3
  have eRn : ∀ j, GR j none = own 32 2 (R j) (Y' j).length (flat (Y' j)) := fun j => by rw [← hGR]; rfl
  have eRs : ∀ j g, GR j (some g) = grw 32 2 (R j) g (Y' j).length 80 (flat (Y' j)) (flat (fresh j 80)) := fun j g => by rw [← hGR]; rfl
  have eLn : ∀ j, GL j none = own 3 1 (L j) (Z' j).length (ints (Z' j)) := fun j => by rw [← hGL]; rfl
  have eLs : ∀ j g, GL j (some g) = grw 3 1 (L j) g (Z' j).length 80 (ints (Z' j)) (ints (freshI j 80)) := fun j g => by rw [← hGL]; rfl
  -- all rows are gone on with
  refine loopI (fun env w' => ∃ (n : Nat) (G : Nat → Option Value) (lv o9 o10 : Value), env = [.slice a1 i c1, .slice a2 i' c2, .bool false, .int .i64 i, o4, .int .i64 i', o6, lv, .int .i64 n, o9, o10, undef, undef, undef, undef, undef, undef, undef, undef, undef, undef] ∧ n ≤ i ∧
      (∀ j, j < n → ∃ g, G j = some g) ∧ (∀ j, n ≤ j → G j = none) ∧ St w0 (A * bigA GL (fun _ => none) i' * bigA GR G i * own 38 1 lv n ((List.range n).map fun j => gv (G j))) w')
    (fun env _ => i - slotN env 8) ⟨0, fun _ => none, _, _, _, rfl, by omega, fun j hj => by omega, fun _ _ => rfl, s3.own_nil _ _⟩ ?_
  rintro LQ env w' ⟨n, G, lv, o9, o10, rfl, hn, hG1, hG2, s'⟩ hN hE hR
  simp
  refine cndI (fun h => ?_) (fun h => ?_)
  · simp at h
    obtain ⟨g1, b1, c1', hv, hc1⟩ := h1.at (by omega)
    cases hv
    simp [h]
    refine eff_ldc (hc1 _ s'.drop.drop.drop n _ (range_at h)) ?_
    simp
    rw [big_at h, hG2 n (Nat.le_refl n), eRn] at s'
    have s1 := grw_start (s'.to (B := A * bigA GL (fun _ => none) i' * bigH GR G n i * own 38 1 lv n ((List.range n).map fun j => gv (G j)) * own 32 2 (R n) (Y' n).length (flat (Y' n))) (by ac_rfl))
    refine loopI (fun env w' => ∃ (k : Nat) (g : Value), env = [.slice (some ⟨g1, b1, none⟩) i c1, .slice a2 i' c2, .bool false, .int .i64 i, o4, .int .i64 i', o6, lv, .int .i64 n, g, .int .i64 k, undef, undef, undef, undef, undef, undef, undef, undef, undef, undef] ∧ k ≤ 80 ∧
        St w0 (A * bigA GL (fun _ => none) i' * bigH GR G n i * own 38 1 lv n ((List.range n).map fun j => gv (G j)) * grw 32 2 (R n) g (Y' n).length k (flat (Y' n)) (flat (fresh n k))) w')
      (fun env _ => 80 - slotN env 10) ⟨0, R n, rfl, by omega, by have e0 : flat (fresh n 0) = [] := rfl; rw [e0]; exact s1⟩ ?_
    rintro LQ2 env w2 ⟨k, g, rfl, hk, s2⟩ hN2 hE2 hR2
    simp
    have hyL := hY' n
    refine cndI (fun h3 => ?_) (fun h3 => ?_)
    · simp at h3
      obtain ⟨X, sX⟩ := grw_new s2
      obtain ⟨ga, gc, rfl, _⟩ := sX.own_val
      simp [Instr.fill, Value.cells]
      try simp (disch := omega) only [wrap64]
      refine eff_bslV s2 rfl ?_
      intro c w3 s3
      simp
      have s3' : St w0 (A * bigA GL (fun _ => none) i' * bigH GR G n i * own 38 1 lv n ((List.range n).map fun j => gv (G j)) * pt c (.cells (encT (1000 + n, k)).toArray 32 (0, 0)) * grw 32 2 (R n) (.slice ga ((Y' n).length + k) gc) (Y' n).length k (flat (Y' n)) (flat (fresh n k))) w3 := s3.swap
      refine eff_appG (k := 1) (news := encT (1000 + n, k)) s3' rfl s3.cells_look (encT_one _) (by decide) rfl (by omega) (by unfold maxLen; omega) (by omega) ?_
      intro v2 w4 s4
      rw [fresh_succ] at s4
      simp
      try simp (disch := omega) only [wrap64]
      exact hN2 _ _ ⟨k + 1, v2, by simp, by omega, s4.swap.drop⟩ (by simp [slotN]; omega)
    · simp at h3
      simp
      refine hE2 _ _ _ ?_
      simp
      have hk80 : k = 80 := by omega
      subst hk80
      obtain ⟨X, sX⟩ := grw_new s2
      obtain ⟨ga, gc, rfl, _⟩ := sX.own_val
      refine eff_bsl1 s2 rfl ?_
      intro c w3 s3
      simp
      have s3' := s3.to (B := A * bigA GL (fun _ => none) i' * bigH GR G n i * pt c (.cells #[.slice ga ((Y' n).length + 80) gc] 38 (0, 0)) * grw 32 2 (R n) (.slice ga ((Y' n).length + 80) gc) (Y' n).length 80 (flat (Y' n)) (flat (fresh n 80)) * own 38 1 lv n ((List.range n).map fun j => gv (G j))) (by ac_rfl)
      refine eff_app (m := 1) (news := [.slice ga ((Y' n).length + 80) gc]) s3' rfl s3.cells_look (by simp [Value.oneCell']) (by decide) rfl (by unfold maxLen; omega) (by omega) ?_
      intro lv2 w4 s4
      simp
      try simp (disch := omega) only [wrap64]
      rw [gv_succ] at s4
      refine hN _ _ ⟨n + 1, upF G n (some (.slice ga ((Y' n).length + 80) gc)), lv2, .slice ga ((Y' n).length + 80) gc, .int .i64 80, by simp, by omega, fun j hj => ?_, fun j hj => ?_, ?_⟩ (by simp [slotN]; omega)
      · by_cases e : j = n
        · subst e; exact ⟨_, upF_at _ _ _⟩
        · rw [upF_ne _ _ e]; exact hG1 j (by omega)
      · rw [upF_ne _ _ (by omega)]; exact hG2 j (by omega)
      · rw [big_set h, eRs]
        exact St.cut (pt c (.cells #[.slice ga ((Y' n).length + 80) gc] 38 (0, 0))) s4 (by ac_rfl)
  simp at h
  simp
  refine hE _ _ _ ?_
  simp
  have hin : n = i := by omega
  subst hin
  clear hN hE hR s3 hG2
  -- all lists are gone on with
  obtain ⟨la, lc, rfl, _⟩ := s'.own_val
  generalize hLV : own 38 1 (.slice la n lc) n ((List.range n).map fun j => gv (G j)) = LV at s'
  refine loopI (fun env w' => ∃ (m : Nat) (G2 : Nat → Option Value) (gl o13 o14 : Value), env = [.slice a1 n c1, .slice a2 i' c2, .bool false, .int .i64 n, o4, .int .i64 i', o6, .slice la n lc, .int .i64 n, o9, o10, gl, .int .i64 m, o13, o14, undef, undef, undef, undef, undef, undef] ∧ m ≤ i' ∧
      (∀ j, j < m → ∃ g, G2 j = some g) ∧ (∀ j, m ≤ j → G2 j = none) ∧ St w0 (A * bigA GL G2 i' * (bigA GR G n * LV) * own 47 1 gl m ((List.range m).map fun j => gv (G2 j))) w')
    (fun env _ => i' - slotN env 12) ⟨0, fun _ => none, _, _, _, rfl, by omega, fun j hj => by omega, fun _ _ => rfl, (s'.to (by ac_rfl)).own_nil _ _⟩ ?_
  clear s'
  rintro LQ env w' ⟨m, G2', gl, o13, o14, rfl, hm, hL1, hL2, s'⟩ hN hE hR
  simp
  refine cndI (fun h => ?_) (fun h => ?_)
  · simp at h
    obtain ⟨g2, b2, c2', hv, hc2⟩ := h2.at (by omega)
    cases hv
    simp [h]
    refine eff_ldc (hc2 _ s'.drop.drop.drop m _ (range_at h)) ?_
    simp
    rw [big_at h, hL2 m (Nat.le_refl m), eLn] at s'
    have s1 := grw_start (s'.to (B := A * bigH GL G2' m i' * (bigA GR G n * LV) * own 47 1 gl m ((List.range m).map fun j => gv (G2' j)) * own 3 1 (L m) (Z' m).length (ints (Z' m))) (by ac_rfl))
    refine loopI (fun env w' => ∃ (k : Nat) (g : Value), env = [.slice a1 n c1, .slice (some ⟨g2, b2, none⟩) i' c2, .bool false, .int .i64 n, o4, .int .i64 i', o6, .slice la n lc, .int .i64 n, o9, o10, gl, .int .i64 m, g, .int .i64 k, undef, undef, undef, undef, undef, undef] ∧ k ≤ 80 ∧
        St w0 (A * bigH GL G2' m i' * (bigA GR G n * LV) * own 47 1 gl m ((List.range m).map fun j => gv (G2' j)) * grw 3 1 (L m) g (Z' m).length k (ints (Z' m)) (ints (freshI m k))) w')
      (fun env _ => 80 - slotN env 14) ⟨0, L m, rfl, by omega, by have e0 : ints (freshI m 0) = [] := rfl; rw [e0]; exact s1⟩ ?_
    rintro LQ2 env w2 ⟨k, g, rfl, hk, s2⟩ hN2 hE2 hR2
    simp
    have hzL := hZ' m
    refine cndI (fun h3 => ?_) (fun h3 => ?_)
    · simp at h3
      obtain ⟨X, sX⟩ := grw_new s2
      obtain ⟨ga, gc, rfl, _⟩ := sX.own_val
      simp
      try simp (disch := omega) only [wrap64]
      refine eff_bsl1 s2 rfl ?_
      intro c w3 s3
      simp
      refine eff_appG (k := 1) (news := [.int .i64 (1000 * (m : Int) + k)]) s3.swap rfl s3.cells_look (by simp [Value.oneCell']) (by decide) rfl (by omega) (by unfold maxLen; omega) (by omega) ?_
      intro v2 w4 s4
      rw [freshI_succ] at s4
      simp
      try simp (disch := omega) only [wrap64]
      exact hN2 _ _ ⟨k + 1, v2, by simp, by omega, s4.swap.drop⟩ (by simp [slotN]; omega)
    · simp at h3
      simp
      refine hE2 _ _ _ ?_
      simp
      have hk80 : k = 80 := by omega
      subst hk80
      obtain ⟨X, sX⟩ := grw_new s2
      obtain ⟨ga, gc, rfl, _⟩ := sX.own_val
      refine eff_bsl1 s2 rfl ?_
      intro c w3 s3
      simp
      have s3' := s3.to (B := A * bigH GL G2' m i' * (bigA GR G n * LV) * pt c (.cells #[.slice ga ((Z' m).length + 80) gc] 47 (0, 0)) * grw 3 1 (L m) (.slice ga ((Z' m).length + 80) gc) (Z' m).length 80 (ints (Z' m)) (ints (freshI m 80)) * own 47 1 gl m ((List.range m).map fun j => gv (G2' j))) (by ac_rfl)
      refine eff_app (m := 1) (news := [.slice ga ((Z' m).length + 80) gc]) s3' rfl s3.cells_look (by simp [Value.oneCell']) (by decide) rfl (by unfold maxLen; omega) (by omega) ?_
      intro lv2 w4 s4
      simp
      try simp (disch := omega) only [wrap64]
      rw [gv_succ] at s4
      refine hN _ _ ⟨m + 1, upF G2' m (some (.slice ga ((Z' m).length + 80) gc)), lv2, .slice ga ((Z' m).length + 80) gc, .int .i64 80, by simp, by omega, fun j hj => ?_, fun j hj => ?_, ?_⟩ (by simp [slotN]; omega)
      · by_cases e : j = m
        · subst e; exact ⟨_, upF_at _ _ _⟩
        · rw [upF_ne _ _ e]; exact hL1 j (by omega)
      · rw [upF_ne _ _ (by omega)]; exact hL2 j (by omega)
      · rw [big_set h, eLs]
        exact St.cut (pt c (.cells #[.slice ga ((Z' m).length + 80) gc] 47 (0, 0))) s4 (by ac_rfl)
  simp at h
  simp
  refine hE _ _ _ ?_
  simp
  have hin : m = i' := by omega
  subst hin
  clear hN hE hR hL2
  -- all rows are looked at
  obtain ⟨ga0, gc0, rfl, _⟩ := s'.own_val
  generalize hLG : own 47 1 (.slice ga0 m gc0) m ((List.range m).map fun j => gv (G2' j)) = LG at s'
  have longAt : ∀ {j : Nat} {w : World}, j < n → St w0 (A * bigA GL G2' m * (bigA GR G n * LV) * LG) w → ∃ b, la = some ⟨b, 0, none⟩ ∧ w.cell? ⟨b, j, none⟩ = some (gv (G j)) := by
    intro j w hj s
    rw [← hLV] at s
    have t := s.to (B := A * bigA GL G2' m * bigA GR G n * LG * own 38 1 (.slice la n lc) n ((List.range n).map fun j => gv (G j))) (by ac_rfl)
    obtain ⟨b, cap, e1, _, hc⟩ := t.own_at (by omega)
    cases e1
    exact ⟨b, rfl, hc j _ (range_at (R := fun j => gv (G j)) hj)⟩
  have rowsAt : ∀ {j : Nat} {w : World}, j < n → St w0 (A * bigA GL G2' m * (bigA GR G n * LV) * LG) w → ∃ (g : Value) (ra : Option Addr) (rc : Nat) (ga : Option Addr) (gc : Nat), G j = some g ∧ R j = .slice ra (Y' j).length rc ∧ g = .slice ga ((Y' j).length + 80) gc ∧
      (∀ (k : Nat), k < (Y' j).length → ∃ b, ra = some ⟨b, 0, none⟩ ∧ ∀ i u, (encT (-(j : Int), k))[i]? = some u → w.cell? ⟨b, k * 2 + i, none⟩ = some u) ∧
      (∀ (k : Nat), k < 80 → ∃ b, ga = some ⟨b, 0, none⟩ ∧ ∀ i u, (encT (1000 + (j : Int), k))[i]? = some u → w.cell? ⟨b, ((Y' j).length + k) * 2 + i, none⟩ = some u) := by
    intro j w hj s
    obtain ⟨g, eg⟩ := hG1 j hj
    have t := s.to (B := A * bigA GL G2' m * LV * LG * bigH GR G j n * GR j (G j)) (by rw [big_at hj]; ac_rfl)
    rw [eg, eRs] at t
    obtain ⟨X, tX⟩ := grw_old t
    obtain ⟨X2, tX2⟩ := grw_new t
    obtain ⟨ra, rc, er, _⟩ := tX.own_val
    obtain ⟨ga, gc, eg2, _⟩ := tX2.own_val
    refine ⟨g, ra, rc, ga, gc, eg, er, eg2, fun k hk => ?_, fun k hk => ?_⟩
    · obtain ⟨b, cap, e1, _, hc⟩ := tX.own_at (by omega)
      rw [er] at e1
      cases e1
      refine ⟨b, rfl, fun i u hu => hc _ _ ?_⟩
      have hm := hYm' j hj k hk
      have hget : (Y' j)[k] = (-(j : Int), (k : Int)) := by rw [List.getElem?_eq_getElem hk] at hm; simpa using hm
      exact flat_at hk i u (by rw [hget]; exact hu)
    · obtain ⟨b, cap, e1, _, hc⟩ := tX2.own_at (by omega)
      rw [eg2] at e1
      cases e1
      refine ⟨b, rfl, fun i u hu => hc _ _ ?_⟩
      have hfl := flat_len (Y' j)
      have h80 : k < (fresh j 80).length := by simp [fresh]; exact hk
      have hget : (fresh j 80)[k] = (1000 + (j : Int), (k : Int)) := by simp [fresh]
      rw [List.getElem?_append_right (by omega), hfl, show ((Y' j).length + k) * 2 + i - (Y' j).length * 2 = k * 2 + i by omega]
      exact flat_at h80 i u (by rw [hget]; exact hu)
  refine loopI (fun env w' => ∃ (q : Nat) (o16 o17 : Value), env = [.slice a1 n c1, .slice a2 m c2, .bool false, .int .i64 n, o4, .int .i64 m, o6, .slice la n lc, .int .i64 n, o9, o10, .slice ga0 m gc0, .int .i64 m, o13, o14, .int .i64 q, o16, o17, undef, undef, undef] ∧ q ≤ n ∧
      St w0 (A * bigA GL G2' m * (bigA GR G n * LV) * LG) w')
    (fun env _ => n - slotN env 15) ⟨0, _, _, rfl, by omega, s'⟩ ?_
  clear s'
  rintro LQ env w' ⟨q0, o16, o17, rfl, hq, s'⟩ hN hE hR
  simp
  refine cndI (fun h => ?_) (fun h => ?_)
  · simp at h
    obtain ⟨g1, b1, c1', hv, hc1⟩ := h1.at (by omega)
    cases hv
    simp [h]
    obtain ⟨g, ra, rc, ga, gc, eg, er, eg2, _, _⟩ := rowsAt h s'
    have hload : ∀ w, St w0 (A * bigA GL G2' m * (bigA GR G n * LV) * LG) w → w.cell? ⟨g1, b1 + q0, none⟩ = some (.slice ra (Y' q0).length rc) := fun w s => by
      rw [← er]; exact hc1 _ s.drop.drop.drop q0 _ (range_at h)
    refine eff_ldc (hload _ s') ?_
    simp
    refine loopI (fun env w' => ∃ (k : Nat), env = [.slice (some ⟨g1, b1, none⟩) n c1, .slice a2 m c2, .bool false, .int .i64 n, o4, .int .i64 m, o6, .slice la n lc, .int .i64 n, o9, o10, .slice ga0 m gc0, .int .i64 m, o13, o14, .int .i64 q0, .int .i64 (Y' q0).length, .int .i64 k, undef, undef, undef] ∧ k ≤ (Y' q0).length + 80 ∧
        St w0 (A * bigA GL G2' m * (bigA GR G n * LV) * LG) w')
      (fun env _ => (Y' q0).length + 80 - slotN env 17) ⟨0, rfl, by omega, s'⟩ ?_
    clear s'
    rintro LQ2 env w2 ⟨k, rfl, hk, s2⟩ hN2 hE2 hR2
    have hyL := hY' q0
    simp
    try simp (disch := omega) only [wrap64]
    refine cndI (fun h3 => ?_) (fun h3 => ?_)
    · simp at h3
      obtain ⟨g', ra', rc', ga', gc', eg', er', eg2', hin1, hin2⟩ := rowsAt h s2
      rw [er] at er'
      cases er'
      rw [eg] at eg'
      cases eg'
      rw [eg2] at eg2'
      cases eg2'
      by_cases hkn : k < (Y' q0).length
      · obtain ⟨b, rfl, hcell⟩ := hin1 k hkn
        have hnk : ¬ ((Y' q0).length ≤ k) := by omega
        simp [hkn, h, hnk]
        refine eff_ldc (hload _ s2) ?_
        simp [hkn]
        refine eff_ldcs (vs := encT (-(q0 : Int), k)) hcell rfl ?_
        simp [Instr.fill, Value.cells]
        try simp (disch := omega) only [wrap64]
        refine eff_neqP tmT [.int .i64 (-(q0 : Int)), .int .i64 k] [.int .i64 (-(q0 : Int)), .int .i64 k] rfl rfl ?_
        simp [hkn, hnk]
        try simp (disch := omega) only [wrap64]
        exact hN2 _ _ ⟨k + 1, by simp, by omega, s2⟩ (by simp [slotN]; omega)
      · obtain ⟨b, rfl, hcell⟩ := hin2 (k - (Y' q0).length) (by omega)
        obtain ⟨lb, rfl, hlong⟩ := longAt h s2
        have hkn2 : (Y' q0).length ≤ k := by omega
        have ek : (Y' q0).length + (k - (Y' q0).length) = k := by omega
        rw [ek] at hcell
        rw [eg, eg2] at hlong
        change _ = some (Value.slice (some ⟨b, 0, none⟩) ((Y' q0).length + 80) gc) at hlong
        have hlt : (k : Int) < (Y' q0).length + 80 := by omega
        simp [hkn, h, hkn2]
        refine eff_ldc hlong ?_
        simp [hkn, hkn2, hlt]
        refine eff_ldcs (vs := encT (1000 + (q0 : Int), ((k - (Y' q0).length : Nat) : Int))) hcell rfl ?_
        simp [hkn, hkn2, Instr.fill, Value.cells]
        try simp (disch := omega) only [wrap64]
        have ek2 : (k : Int) - (Y' q0).length = ((k - (Y' q0).length : Nat) : Int) := by omega
        rw [ek2]
        refine eff_neqP tmT [.int .i64 (1000 + (q0 : Int)), .int .i64 ((k - (Y' q0).length : Nat) : Int)] [.int .i64 (1000 + (q0 : Int)), .int .i64 ((k - (Y' q0).length : Nat) : Int)] rfl rfl ?_
        simp [hkn, hkn2]
        try simp (disch := omega) only [wrap64]
        exact hN2 _ _ ⟨k + 1, by simp, by omega, s2⟩ (by simp [slotN]; omega)
    · simp at h3
      simp
      refine hE2 _ _ _ ?_
      simp
      try simp (disch := omega) only [wrap64]
      exact hN _ _ ⟨q0 + 1, .int .i64 (Y' q0).length, .int .i64 k, by simp, by omega, s2⟩ (by simp [slotN]; omega)
  simp at h
  simp
  refine hE _ _ _ ?_
  simp
  clear hN hE hR rowsAt longAt
  -- all lists are looked at
  rw [← hLG] at s'
  have s'' := s'.to (B := A * bigA GL G2' m * (bigA GR G n * LV) * own 47 1 (.slice ga0 m gc0) m ((List.range m).map fun j => gv (G2' j))) (by ac_rfl)
  clear s'
  generalize bigA GR G n * LV = MM at s''
  have longAt : ∀ {j : Nat} {w : World}, j < m → St w0 (A * bigA GL G2' m * MM * own 47 1 (.slice ga0 m gc0) m ((List.range m).map fun j => gv (G2' j))) w → ∃ b, ga0 = some ⟨b, 0, none⟩ ∧ w.cell? ⟨b, j, none⟩ = some (gv (G2' j)) := by
    intro j w hj t
    obtain ⟨b, cap, e1, _, hc⟩ := t.own_at (by omega)
    cases e1
    exact ⟨b, rfl, hc j _ (range_at (R := fun j => gv (G2' j)) hj)⟩
  have listsAt : ∀ {j : Nat} {w : World}, j < m → St w0 (A * bigA GL G2' m * MM * own 47 1 (.slice ga0 m gc0) m ((List.range m).map fun j => gv (G2' j))) w → ∃ (g : Value) (ra : Option Addr) (rc : Nat) (ga : Option Addr) (gc : Nat), G2' j = some g ∧ L j = .slice ra (Z' j).length rc ∧ g = .slice ga ((Z' j).length + 80) gc ∧
      (∀ (k : Nat), k < (Z' j).length → ∃ b, ra = some ⟨b, 0, none⟩ ∧ w.cell? ⟨b, k, none⟩ = some (.int .i64 (-1000 * (j : Int) - k - 1))) ∧
      (∀ (k : Nat), k < 80 → ∃ b, ga = some ⟨b, 0, none⟩ ∧ w.cell? ⟨b, (Z' j).length + k, none⟩ = some (.int .i64 (1000 * (j : Int) + k))) := by
    intro j w hj s
    obtain ⟨g, eg⟩ := hL1 j hj
    have t := s.to (B := A * MM * own 47 1 (.slice ga0 m gc0) m ((List.range m).map fun j => gv (G2' j)) * bigH GL G2' j m * GL j (G2' j)) (by rw [big_at hj]; ac_rfl)
    rw [eg, eLs] at t
    obtain ⟨X, tX⟩ := grw_old t
    obtain ⟨X2, tX2⟩ := grw_new t
    obtain ⟨ra, rc, er, _⟩ := tX.own_val
    obtain ⟨ga, gc, eg2, _⟩ := tX2.own_val
    refine ⟨g, ra, rc, ga, gc, eg, er, eg2, fun k hk => ?_, fun k hk => ?_⟩
    · obtain ⟨b, cap, e1, _, hc⟩ := tX.own_at (by omega)
      rw [er] at e1
      cases e1
      refine ⟨b, rfl, hc _ _ ?_⟩
      have hm := hZm' j hj k hk
      have hget : (Z' j)[k] = -1000 * (j : Int) - k - 1 := by rw [List.getElem?_eq_getElem hk] at hm; simpa using hm
      rw [← hget]; exact ints_at2 hk
    · obtain ⟨b, cap, e1, _, hc⟩ := tX2.own_at (by omega)
      rw [eg2] at e1
      cases e1
      refine ⟨b, rfl, hc _ _ ?_⟩
      have h80 : k < (freshI j 80).length := by simp [freshI]; exact hk
      have hget : (freshI j 80)[k] = 1000 * (j : Int) + k := by simp [freshI]
      have hzl : (ints (Z' j)).length = (Z' j).length := by simp [ints]
      rw [List.getElem?_append_right (by omega), hzl, Nat.add_sub_cancel_left, ← hget]
      exact ints_at2 h80
  refine loopI (fun env w' => ∃ (q : Nat) (o19 o20 : Value), env = [.slice a1 n c1, .slice a2 m c2, .bool false, .int .i64 n, o4, .int .i64 m, o6, .slice la n lc, .int .i64 n, o9, o10, .slice ga0 m gc0, .int .i64 m, o13, o14, .int .i64 q0, o16, o17, .int .i64 q, o19, o20] ∧ q ≤ m ∧
      St w0 (A * bigA GL G2' m * MM * own 47 1 (.slice ga0 m gc0) m ((List.range m).map fun j => gv (G2' j))) w')
    (fun env _ => m - slotN env 18) ⟨0, _, _, rfl, by omega, s''⟩ ?_
  clear s''
  rintro LQ env w' ⟨q, o19, o20, rfl, hq, s'⟩ hN hE hR
  simp
  refine cndI (fun h => ?_) (fun h => ?_)
  · simp at h
    obtain ⟨g2, b2, c2', hv, hc2⟩ := h2.at (by omega)
    cases hv
    simp [h]
    obtain ⟨g, ra, rc, ga, gc, eg, er, eg2, _, _⟩ := listsAt h s'
    have hload : ∀ w, St w0 (A * bigA GL G2' m * MM * own 47 1 (.slice ga0 m gc0) m ((List.range m).map fun j => gv (G2' j))) w → w.cell? ⟨g2, b2 + q, none⟩ = some (.slice ra (Z' q).length rc) := fun w s => by
      rw [← er]; exact hc2 _ s.drop.drop.drop q _ (range_at h)
    refine eff_ldc (hload _ s') ?_
    simp
    refine loopI (fun env w' => ∃ (k : Nat), env = [.slice a1 n c1, .slice (some ⟨g2, b2, none⟩) m c2, .bool false, .int .i64 n, o4, .int .i64 m, o6, .slice la n lc, .int .i64 n, o9, o10, .slice ga0 m gc0, .int .i64 m, o13, o14, .int .i64 q0, o16, o17, .int .i64 q, .int .i64 (Z' q).length, .int .i64 k] ∧ k ≤ (Z' q).length + 80 ∧
        St w0 (A * bigA GL G2' m * MM * own 47 1 (.slice ga0 m gc0) m ((List.range m).map fun j => gv (G2' j))) w')
      (fun env _ => (Z' q).length + 80 - slotN env 20) ⟨0, rfl, by omega, s'⟩ ?_
    clear s'
    rintro LQ2 env w2 ⟨k, rfl, hk, s2⟩ hN2 hE2 hR2
    have hyL := hZ' q
    simp
    try simp (disch := omega) only [wrap64]
    refine cndI (fun h3 => ?_) (fun h3 => ?_)
    · simp at h3
      obtain ⟨g', ra', rc', ga', gc', eg', er', eg2', hin1, hin2⟩ := listsAt h s2
      rw [er] at er'
      cases er'
      rw [eg] at eg'
      cases eg'
      rw [eg2] at eg2'
      cases eg2'
      by_cases hkn : k < (Z' q).length
      · obtain ⟨b, rfl, hcell⟩ := hin1 k hkn
        have hnk : ¬ ((Z' q).length ≤ k) := by omega
        simp [hkn, h, hnk]
        refine eff_ldc (hload _ s2) ?_
        simp [hkn]
        refine eff_ldc hcell ?_
        simp
        try simp (disch := omega) only [wrap64]
        simp [hkn, hnk]
        try simp (disch := omega) only [wrap64]
        exact hN2 _ _ ⟨k + 1, by simp, by omega, s2⟩ (by simp [slotN]; omega)
      · obtain ⟨b, rfl, hcell⟩ := hin2 (k - (Z' q).length) (by omega)
        obtain ⟨lb, rfl, hlong⟩ := longAt h s2
        have hkn2 : (Z' q).length ≤ k := by omega
        have ek : (Z' q).length + (k - (Z' q).length) = k := by omega
        rw [ek] at hcell
        rw [eg, eg2] at hlong
        change _ = some (Value.slice (some ⟨b, 0, none⟩) ((Z' q).length + 80) gc) at hlong
        have hlt : (k : Int) < (Z' q).length + 80 := by omega
        simp [hkn, h, hkn2]
        refine eff_ldc hlong ?_
        simp [hkn, hkn2, hlt]
        refine eff_ldc hcell ?_
        simp [hkn, hkn2]
        try simp (disch := omega) only [wrap64]
        have ek2 : ((k - (Z' q).length : Nat) : Int) = (k : Int) - (Z' q).length := by omega
        rw [ek2]
        have ek3 : 1000 * (q : Int) + ((k : Int) - (Z' q).length) = 1000 * (q : Int) + k - (Z' q).length := by omega
        simp [ek3, hkn, hkn2]
        try simp (disch := omega) only [wrap64]
        exact hN2 _ _ ⟨k + 1, by simp, by omega, s2⟩ (by simp [slotN]; omega)
    · simp at h3
      simp
      refine hE2 _ _ _ ?_
      simp
      try simp (disch := omega) only [wrap64]
      exact hN _ _ ⟨q + 1, .int .i64 (Z' q).length, .int .i64 k, by simp, by omega, s2⟩ (by simp [slotN]; omega)
  simp at h
  simp
  refine hE _ _ _ ?_
  simp
  exact s'.drop.drop.drop
end Go.HL.Wh

namespace Go.HL.Wh
open Go.HL Go.Proofs
set_option maxRecDepth 4000
set_option linter.unusedSimpArgs false
set_option linter.unusedVariables false
end Go.HL.Wh

namespace Go.HL.Wh
open Go.HL Go.Proofs
set_option maxRecDepth 4000
set_option linter.unusedSimpArgs false
set_option linter.unusedVariables false
/-- an act -/
structure Ac where
  k : Int
  n : Int
  x : Int
def Ac.cs (a : Ac) : List Value := [.int .i64 a.k, .int .i64 a.n, .int .i64 a.x]
abbrev actA (b : Nat) (x : Ac) : Asn := pt b (.cells x.cs.toArray 34 (0, 0))
/-- all is well -/
structure DI (now mv ever : Nat) (ts : List Tm) (es : List En) (c : Nat) (x : Int × Int) : Prop where
  pl : plOK now ts
  set : setOK es c ts
  x1 : x.1 = 0
  x2 : x.2 ≤ now + 1
  now : now ≤ 1099511627776
  len : ts.length ≤ 65536
  mv : mv + lvs ts ≤ 4 * ever
theorem plOK.add {now : Nat} {ts : List Tm} (h : plOK now ts) (n : Int) (a b : Nat) (hn : 1 ≤ n) (ha : now < a) (h2 : a ≤ 1099511627776) (hf : ∀ u ∈ ts, u.n ≠ n) : plOK now (ts ++ [hgT ⟨n, a, 0, 0, b⟩ now]) := by
  refine ⟨?_, fun t ht => ?_, fun t ht => ?_, fun t ht => ?_⟩
  · rw [List.map_append]
    refine List.nodup_append.2 ⟨h.num, by simp, fun x hx y hy => ?_⟩
    obtain ⟨u, hu, rfl⟩ := List.mem_map.1 hx
    simp at hy
    subst hy
    exact hf u hu
  all_goals
    rcases List.mem_append.1 ht with ht | ht
  · exact h.pl t ht
  · rw [List.mem_singleton.1 ht]; exact ⟨rfl, rfl⟩
  · exact h.ah t ht
  · rw [List.mem_singleton.1 ht]; exact ha
  · exact h.bd t ht
  · rw [List.mem_singleton.1 ht]; exact ⟨h2, hn⟩
theorem plOK.off {now : Nat} {ts : List Tm} (h : plOK now ts) (n : Int) : plOK now (offT ts n) := by
  have hm : ∀ t ∈ offT ts n, t ∈ ts := fun t ht => (List.mem_filter.1 ht).1
  exact ⟨h.num.sublist (List.filter_sublist.map _), fun t ht => h.pl t (hm t ht), fun t ht => h.ah t (hm t ht), fun t ht => h.bd t (hm t ht)⟩
theorem DI.add {now mv ever : Nat} {ts : List Tm} {es : List En} {c : Nat} {x : Int × Int} (h : DI now mv ever ts es c x) (n : Int) (a b : Nat) (hn : 1 ≤ n) (ha : now < a) (h2 : a ≤ 1099511627776) (hf : ∀ u ∈ ts, u.n ≠ n) (hl : ts.length < 65536) :
    DI now mv (ever + 1) (ts ++ [hgT ⟨n, a, 0, 0, b⟩ now]) (es ++ [⟨n, .int .i64 a, c⟩]) (c + 1) x := by
  refine ⟨h.pl.add n a b hn ha h2 hf, h.set.add (t := hgT ⟨n, a, 0, 0, b⟩ now) hf, h.x1, h.x2, h.now, by simp; omega, ?_⟩
  have h1 := h.mv
  rw [lvs_app]
  have h3 : lvs [hgT ⟨n, a, 0, 0, b⟩ now] ≤ 4 := by
    have := (lvF_bd a now).1
    simpa [lvs, hgT] using this
  omega
theorem DI.off {now mv ever : Nat} {ts : List Tm} {es : List En} {c : Nat} {x : Int × Int} (h : DI now mv ever ts es c x) (n : Int) : DI now mv ever (offT ts n) (delI es n) c x := by
  refine ⟨h.pl.off n, h.set.del n, h.x1, h.x2, h.now, Nat.le_trans (List.length_filter_le _ _) h.len, ?_⟩
  have h1 := h.mv
  have h2 := lvs_filter (fun u => decide (u.n ≠ n)) ts
  have : lvs (offT ts n) ≤ lvs ts := h2
  omega
end Go.HL.Wh

namespace Go.HL.Wh
open Go.HL Go.Proofs
set_option maxRecDepth 4000
set_option linter.unusedSimpArgs false
set_option linter.unusedVariables false
def acs (l : List Ac) : List Value := l.flatMap Ac.cs
end Go.HL.Wh

namespace Go.HL.Wh
open Go.HL Go.Proofs
set_option maxRecDepth 4000
set_option linter.unusedSimpArgs false
set_option linter.unusedVariables false
def emN (x : Int) (n : Nat) : Nat := (x.emod n).toNat
theorem emN_lt (x : Int) {n : Nat} (h : 0 < n) : emN x n < n := by
  have h1 := Int.emod_lt_of_pos x (show (0 : Int) < n by omega)
  have h2 : x.emod n < n := h1
  unfold emN
  omega
theorem emN_max (x : Int) (n : Nat) : max (x.emod (n : Int)) 0 = (emN x n : Int) := (Int.ofNat_toNat _).symm
def schA (p now : Nat) (ts : List Tm) (n a : Int) : Asn := fun h => ∃ ts', (schF now ts n a = 0 → ∃ b, ts' = ts ++ [hgT ⟨n, a.toNat, 0, 0, b⟩ now]) ∧ (schF now ts n a ≠ 0 → ts' = ts) ∧ whl p now 0 ts' h
def twoC (w0 : World) (S0 S1 S2 : Asn) (r : Value) : List Value → World → Prop
  | [], w => St w0 S0 w
  | [v], w => v = r ∧ St w0 S1 w
  | v :: u :: _, w => (v = r ∧ u = r) ∧ St w0 S2 w
end Go.HL.Wh

namespace Go.HL.Wh
open Go.HL Go.Proofs
set_option maxRecDepth 4000
set_option linter.unusedSimpArgs false
set_option linter.unusedVariables false
-- bazaar/bazaarlaw09.WheelOwn
def h4_0 : HC := (.seq (.regq (some 6) (.eff (.call 20) (.cons (.inp 6) .nil) (.chk none (.idxL 1) (.cons (.inp 16) (.cons (.cst (.int .i64 2)) .nil)) (.eff (.ld false 1) (.cons (.op (.idxL 1) (.cons (.inp 16) (.cons (.cst (.int .i64 2)) .nil))) .nil) (.eff (.call 22) (.cons (.bv 0) (.cons (.bv 1) .nil)) (.ite (.bv 2) true (.eff (.call 20) (.cons (.ite (.bv 2) true (.inp 10) (.cst (.tuple #[]))) .nil) (.chk none (.idxL 1) (.cons (.inp 16) (.cons (.cst (.int .i64 5)) .nil)) (.eff (.ld false 1) (.cons (.op (.idxL 1) (.cons (.inp 16) (.cons (.cst (.int .i64 5)) .nil))) .nil) (.eff (.call 22) (.cons (.bv 3) (.cons (.bv 4) .nil)) (.isb none (.bv 2) (.ite (.bv 5) true (.eff (.call 21) (.cons (.ite (.bv 5) true (.inp 6) (.cst (.tuple #[]))) (.cons (.cst (.int .i64 0)) .nil)) (.chk none (.idxL 1) (.cons (.inp 17) (.cons (.cst (.int .i64 0)) .nil)) (.eff (.ld false 1) (.cons (.op (.idxL 1) (.cons (.inp 17) (.cons (.cst (.int .i64 0)) .nil))) .nil) (.eff (.call 23) (.cons (.bv 6) (.cons (.bv 7) .nil)) (.isb none (.bv 5) (.done [(3, (.bv 8))] none)))))) (.isb none (.bv 5) (.done [(3, (.cst (.bool false)))] none)))))))) (.isb none (.bv 2) (.isb none (.cst (.bool false)) (.done [(3, (.cst (.bool false)))] none))))))))) .ret)
@[simp] theorem h4_0_wp {P : Program} {F : PF P} {Q : EX → List Value → World → Prop} {env : List Value} {w : World} : h4_0.wp F Q env w = HC.wp F (.seq (.regq (some 6) (.eff (.call 20) (.cons (.inp 6) .nil) (.chk none (.idxL 1) (.cons (.inp 16) (.cons (.cst (.int .i64 2)) .nil)) (.eff (.ld false 1) (.cons (.op (.idxL 1) (.cons (.inp 16) (.cons (.cst (.int .i64 2)) .nil))) .nil) (.eff (.call 22) (.cons (.bv 0) (.cons (.bv 1) .nil)) (.ite (.bv 2) true (.eff (.call 20) (.cons (.ite (.bv 2) true (.inp 10) (.cst (.tuple #[]))) .nil) (.chk none (.idxL 1) (.cons (.inp 16) (.cons (.cst (.int .i64 5)) .nil)) (.eff (.ld false 1) (.cons (.op (.idxL 1) (.cons (.inp 16) (.cons (.cst (.int .i64 5)) .nil))) .nil) (.eff (.call 22) (.cons (.bv 3) (.cons (.bv 4) .nil)) (.isb none (.bv 2) (.ite (.bv 5) true (.eff (.call 21) (.cons (.ite (.bv 5) true (.inp 6) (.cst (.tuple #[]))) (.cons (.cst (.int .i64 0)) .nil)) (.chk none (.idxL 1) (.cons (.inp 17) (.cons (.cst (.int .i64 0)) .nil)) (.eff (.ld false 1) (.cons (.op (.idxL 1) (.cons (.inp 17) (.cons (.cst (.int .i64 0)) .nil))) .nil) (.eff (.call 23) (.cons (.bv 6) (.cons (.bv 7) .nil)) (.isb none (.bv 5) (.done [(3, (.bv 8))] none)))))) (.isb none (.bv 5) (.done [(3, (.cst (.bool false)))] none)))))))) (.isb none (.bv 2) (.isb none (.cst (.bool false)) (.done [(3, (.cst (.bool false)))] none))))))))) .ret) Q env w := rfl
def h4_1 : HC := (.seq (.reg (.done [(3, (.cst (.bool false)))] none)) .ret)
@[simp] theorem h4_1_wp {P : Program} {F : PF P} {Q : EX → List Value → World → Prop} {env : List Value} {w : World} : h4_1.wp F Q env w = HC.wp F (.seq (.reg (.done [(3, (.cst (.bool false)))] none)) .ret) Q env w := rfl
def h4_2 : HC := (.seq (.brq (some 3) (.chk none (.idxL 1) (.cons (.inp 16) (.cons (.cst (.int .i64 0)) .nil)) (.eff (.ld false 1) (.cons (.op (.idxL 1) (.cons (.inp 16) (.cons (.cst (.int .i64 0)) .nil))) .nil) (.chk none (.idxL 1) (.cons (.inp 16) (.cons (.cst (.int .i64 1)) .nil)) (.eff (.ld false 1) (.cons (.op (.idxL 1) (.cons (.inp 16) (.cons (.cst (.int .i64 1)) .nil))) .nil) (.eff (.call 22) (.cons (.bv 0) (.cons (.bv 1) .nil)) (.chk none (.un .not) (.cons (.bv 2) .nil) (.bnd (.op (.un .not) (.cons (.bv 2) .nil)) (.chk (some ((.bv 3), false)) (.idxL 1) (.cons (.inp 16) (.cons (.cst (.int .i64 2)) .nil)) (.ite (.bv 3) false (.eff (.ld false 1) (.cons (.ite (.bv 3) false (.op (.idxL 1) (.cons (.inp 16) (.cons (.cst (.int .i64 2)) .nil))) (.cst (.tuple #[]))) .nil) (.chk none (.idxL 1) (.cons (.inp 16) (.cons (.cst (.int .i64 4)) .nil)) (.eff (.ld false 1) (.cons (.op (.idxL 1) (.cons (.inp 16) (.cons (.cst (.int .i64 4)) .nil))) .nil) (.eff (.call 22) (.cons (.bv 4) (.cons (.bv 5) .nil)) (.chk none (.un .not) (.cons (.bv 6) .nil) (.isb none (.bv 3) (.bnd (.op (.un .not) (.cons (.bv 6) .nil)) (.ite (.bv 7) false (.eff (.call 24) (.cons (.ite (.bv 7) false (.inp 14) (.cst (.tuple #[]))) (.cons (.ite (.bv 7) false (.inp 15) (.cst (.tuple #[]))) .nil)) (.chk none (.un .not) (.cons (.bv 8) .nil) (.isb none (.bv 7) (.done [] (some (.op (.un .not) (.cons (.bv 8) .nil))))))) (.isb none (.bv 7) (.done [] (some (.cst (.bool true))))))))))))) (.isb none (.bv 3) (.isb none (.cst (.bool true)) (.done [] (some (.cst (.bool true))))))))))))))) h4_1 .skip) h4_0)
@[simp] theorem h4_2_wp {P : Program} {F : PF P} {Q : EX → List Value → World → Prop} {env : List Value} {w : World} : h4_2.wp F Q env w = HC.wp F (.seq (.brq (some 3) (.chk none (.idxL 1) (.cons (.inp 16) (.cons (.cst (.int .i64 0)) .nil)) (.eff (.ld false 1) (.cons (.op (.idxL 1) (.cons (.inp 16) (.cons (.cst (.int .i64 0)) .nil))) .nil) (.chk none (.idxL 1) (.cons (.inp 16) (.cons (.cst (.int .i64 1)) .nil)) (.eff (.ld false 1) (.cons (.op (.idxL 1) (.cons (.inp 16) (.cons (.cst (.int .i64 1)) .nil))) .nil) (.eff (.call 22) (.cons (.bv 0) (.cons (.bv 1) .nil)) (.chk none (.un .not) (.cons (.bv 2) .nil) (.bnd (.op (.un .not) (.cons (.bv 2) .nil)) (.chk (some ((.bv 3), false)) (.idxL 1) (.cons (.inp 16) (.cons (.cst (.int .i64 2)) .nil)) (.ite (.bv 3) false (.eff (.ld false 1) (.cons (.ite (.bv 3) false (.op (.idxL 1) (.cons (.inp 16) (.cons (.cst (.int .i64 2)) .nil))) (.cst (.tuple #[]))) .nil) (.chk none (.idxL 1) (.cons (.inp 16) (.cons (.cst (.int .i64 4)) .nil)) (.eff (.ld false 1) (.cons (.op (.idxL 1) (.cons (.inp 16) (.cons (.cst (.int .i64 4)) .nil))) .nil) (.eff (.call 22) (.cons (.bv 4) (.cons (.bv 5) .nil)) (.chk none (.un .not) (.cons (.bv 6) .nil) (.isb none (.bv 3) (.bnd (.op (.un .not) (.cons (.bv 6) .nil)) (.ite (.bv 7) false (.eff (.call 24) (.cons (.ite (.bv 7) false (.inp 14) (.cst (.tuple #[]))) (.cons (.ite (.bv 7) false (.inp 15) (.cst (.tuple #[]))) .nil)) (.chk none (.un .not) (.cons (.bv 8) .nil) (.isb none (.bv 7) (.done [] (some (.op (.un .not) (.cons (.bv 8) .nil))))))) (.isb none (.bv 7) (.done [] (some (.cst (.bool true))))))))))))) (.isb none (.bv 3) (.isb none (.cst (.bool true)) (.done [] (some (.cst (.bool true))))))))))))))) h4_1 .skip) h4_0) Q env w := rfl
def h4_3 : HC := (.reg (.chk none (.bin .add) (.cons (.inp 21) (.cons (.cst (.int .i64 1)) .nil)) (.done [(21, (.op (.bin .add) (.cons (.inp 21) (.cons (.cst (.int .i64 1)) .nil))))] none)))
@[simp] theorem h4_3_wp {P : Program} {F : PF P} {Q : EX → List Value → World → Prop} {env : List Value} {w : World} : h4_3.wp F Q env w = HC.wp F (.reg (.chk none (.bin .add) (.cons (.inp 21) (.cons (.cst (.int .i64 1)) .nil)) (.done [(21, (.op (.bin .add) (.cons (.inp 21) (.cons (.cst (.int .i64 1)) .nil))))] none))) Q env w := rfl
def h4_4 : HC := (.seq (.reg (.done [(3, (.cst (.bool false)))] none)) .ret)
@[simp] theorem h4_4_wp {P : Program} {F : PF P} {Q : EX → List Value → World → Prop} {env : List Value} {w : World} : h4_4.wp F Q env w = HC.wp F (.seq (.reg (.done [(3, (.cst (.bool false)))] none)) .ret) Q env w := rfl
def h4_5 : HC := (.brq (some 1) (.chk none (.idxL 1) (.cons (.inp 15) (.cons (.inp 21) .nil)) (.eff (.ld false 1) (.cons (.op (.idxL 1) (.cons (.inp 15) (.cons (.inp 21) .nil))) .nil) (.chk none (.idxL 1) (.cons (.inp 17) (.cons (.inp 21) .nil)) (.eff (.ld false 1) (.cons (.op (.idxL 1) (.cons (.inp 17) (.cons (.inp 21) .nil))) .nil) (.eff (.call 23) (.cons (.bv 0) (.cons (.bv 1) .nil)) (.chk none (.un .not) (.cons (.bv 2) .nil) (.done [] (some (.op (.un .not) (.cons (.bv 2) .nil)))))))))) h4_4 .skip)
@[simp] theorem h4_5_wp {P : Program} {F : PF P} {Q : EX → List Value → World → Prop} {env : List Value} {w : World} : h4_5.wp F Q env w = HC.wp F (.brq (some 1) (.chk none (.idxL 1) (.cons (.inp 15) (.cons (.inp 21) .nil)) (.eff (.ld false 1) (.cons (.op (.idxL 1) (.cons (.inp 15) (.cons (.inp 21) .nil))) .nil) (.chk none (.idxL 1) (.cons (.inp 17) (.cons (.inp 21) .nil)) (.eff (.ld false 1) (.cons (.op (.idxL 1) (.cons (.inp 17) (.cons (.inp 21) .nil))) .nil) (.eff (.call 23) (.cons (.bv 0) (.cons (.bv 1) .nil)) (.chk none (.un .not) (.cons (.bv 2) .nil) (.done [] (some (.op (.un .not) (.cons (.bv 2) .nil)))))))))) h4_4 .skip) Q env w := rfl
def h4_6 : HC := (.seq (.block 9 h4_5) h4_3)
@[simp] theorem h4_6_wp {P : Program} {F : PF P} {Q : EX → List Value → World → Prop} {env : List Value} {w : World} : h4_6.wp F Q env w = HC.wp F (.seq (.block 9 h4_5) h4_3) Q env w := rfl
def h4_7 : HC := (.seq (.br (.chk none .lenL (.cons (.inp 15) .nil) (.chk none (.bin .lss) (.cons (.inp 21) (.cons (.op .lenL (.cons (.inp 15) .nil)) .nil)) (.done [] (some (.op (.bin .lss) (.cons (.inp 21) (.cons (.op .lenL (.cons (.inp 15) .nil)) .nil))))))) .skip (.exit 8)) h4_6)
@[simp] theorem h4_7_wp {P : Program} {F : PF P} {Q : EX → List Value → World → Prop} {env : List Value} {w : World} : h4_7.wp F Q env w = HC.wp F (.seq (.br (.chk none .lenL (.cons (.inp 15) .nil) (.chk none (.bin .lss) (.cons (.inp 21) (.cons (.op .lenL (.cons (.inp 15) .nil)) .nil)) (.done [] (some (.op (.bin .lss) (.cons (.inp 21) (.cons (.op .lenL (.cons (.inp 15) .nil)) .nil))))))) .skip (.exit 8)) h4_6) Q env w := rfl
def h4_8 : HC := (.loop h4_7)
@[simp] theorem h4_8_wp {P : Program} {F : PF P} {Q : EX → List Value → World → Prop} {env : List Value} {w : World} : h4_8.wp F Q env w = HC.wp F (.loop h4_7) Q env w := rfl
def h4_9 : HC := (.seq (.block 8 h4_8) h4_2)
@[simp] theorem h4_9_wp {P : Program} {F : PF P} {Q : EX → List Value → World → Prop} {env : List Value} {w : World} : h4_9.wp F Q env w = HC.wp F (.seq (.block 8 h4_8) h4_2) Q env w := rfl
def h4_10 : HC := (.seq (.reg (.done [(21, (.cst (.int .i64 0)))] none)) h4_9)
@[simp] theorem h4_10_wp {P : Program} {F : PF P} {Q : EX → List Value → World → Prop} {env : List Value} {w : World} : h4_10.wp F Q env w = HC.wp F (.seq (.reg (.done [(21, (.cst (.int .i64 0)))] none)) h4_9) Q env w := rfl
def h4_11 : HC := (.reg (.chk none (.bin .add) (.cons (.inp 20) (.cons (.cst (.int .i64 1)) .nil)) (.done [(20, (.op (.bin .add) (.cons (.inp 20) (.cons (.cst (.int .i64 1)) .nil))))] none)))
@[simp] theorem h4_11_wp {P : Program} {F : PF P} {Q : EX → List Value → World → Prop} {env : List Value} {w : World} : h4_11.wp F Q env w = HC.wp F (.reg (.chk none (.bin .add) (.cons (.inp 20) (.cons (.cst (.int .i64 1)) .nil)) (.done [(20, (.op (.bin .add) (.cons (.inp 20) (.cons (.cst (.int .i64 1)) .nil))))] none))) Q env w := rfl
def h4_12 : HC := (.seq (.reg (.done [(3, (.cst (.bool false)))] none)) .ret)
@[simp] theorem h4_12_wp {P : Program} {F : PF P} {Q : EX → List Value → World → Prop} {env : List Value} {w : World} : h4_12.wp F Q env w = HC.wp F (.seq (.reg (.done [(3, (.cst (.bool false)))] none)) .ret) Q env w := rfl
def h4_13 : HC := (.brq (some 1) (.chk none (.idxL 1) (.cons (.inp 14) (.cons (.inp 20) .nil)) (.eff (.ld false 1) (.cons (.op (.idxL 1) (.cons (.inp 14) (.cons (.inp 20) .nil))) .nil) (.chk none (.idxL 1) (.cons (.inp 16) (.cons (.inp 20) .nil)) (.eff (.ld false 1) (.cons (.op (.idxL 1) (.cons (.inp 16) (.cons (.inp 20) .nil))) .nil) (.eff (.call 22) (.cons (.bv 0) (.cons (.bv 1) .nil)) (.chk none (.un .not) (.cons (.bv 2) .nil) (.done [] (some (.op (.un .not) (.cons (.bv 2) .nil)))))))))) h4_12 .skip)
@[simp] theorem h4_13_wp {P : Program} {F : PF P} {Q : EX → List Value → World → Prop} {env : List Value} {w : World} : h4_13.wp F Q env w = HC.wp F (.brq (some 1) (.chk none (.idxL 1) (.cons (.inp 14) (.cons (.inp 20) .nil)) (.eff (.ld false 1) (.cons (.op (.idxL 1) (.cons (.inp 14) (.cons (.inp 20) .nil))) .nil) (.chk none (.idxL 1) (.cons (.inp 16) (.cons (.inp 20) .nil)) (.eff (.ld false 1) (.cons (.op (.idxL 1) (.cons (.inp 16) (.cons (.inp 20) .nil))) .nil) (.eff (.call 22) (.cons (.bv 0) (.cons (.bv 1) .nil)) (.chk none (.un .not) (.cons (.bv 2) .nil) (.done [] (some (.op (.un .not) (.cons (.bv 2) .nil)))))))))) h4_12 .skip) Q env w := rfl
def h4_14 : HC := (.seq (.block 7 h4_13) h4_11)
@[simp] theorem h4_14_wp {P : Program} {F : PF P} {Q : EX → List Value → World → Prop} {env : List Value} {w : World} : h4_14.wp F Q env w = HC.wp F (.seq (.block 7 h4_13) h4_11) Q env w := rfl
def h4_15 : HC := (.seq (.br (.chk none .lenL (.cons (.inp 14) .nil) (.chk none (.bin .lss) (.cons (.inp 20) (.cons (.op .lenL (.cons (.inp 14) .nil)) .nil)) (.done [] (some (.op (.bin .lss) (.cons (.inp 20) (.cons (.op .lenL (.cons (.inp 14) .nil)) .nil))))))) .skip (.exit 6)) h4_14)
@[simp] theorem h4_15_wp {P : Program} {F : PF P} {Q : EX → List Value → World → Prop} {env : List Value} {w : World} : h4_15.wp F Q env w = HC.wp F (.seq (.br (.chk none .lenL (.cons (.inp 14) .nil) (.chk none (.bin .lss) (.cons (.inp 20) (.cons (.op .lenL (.cons (.inp 14) .nil)) .nil)) (.done [] (some (.op (.bin .lss) (.cons (.inp 20) (.cons (.op .lenL (.cons (.inp 14) .nil)) .nil))))))) .skip (.exit 6)) h4_14) Q env w := rfl
def h4_16 : HC := (.loop h4_15)
@[simp] theorem h4_16_wp {P : Program} {F : PF P} {Q : EX → List Value → World → Prop} {env : List Value} {w : World} : h4_16.wp F Q env w = HC.wp F (.loop h4_15) Q env w := rfl
def h4_17 : HC := (.seq (.block 6 h4_16) h4_10)
@[simp] theorem h4_17_wp {P : Program} {F : PF P} {Q : EX → List Value → World → Prop} {env : List Value} {w : World} : h4_17.wp F Q env w = HC.wp F (.seq (.block 6 h4_16) h4_10) Q env w := rfl
def h4_18 : HC := (.seq (.reg (.done [(20, (.cst (.int .i64 0)))] none)) h4_17)
@[simp] theorem h4_18_wp {P : Program} {F : PF P} {Q : EX → List Value → World → Prop} {env : List Value} {w : World} : h4_18.wp F Q env w = HC.wp F (.seq (.reg (.done [(20, (.cst (.int .i64 0)))] none)) h4_17) Q env w := rfl
def h4_19 : HC := (.seq (.reg (.chk none (.bin .add) (.cons (.inp 2) (.cons (.cst (.int .i64 268435456)) .nil)) (.eff (.call 14) (.cons (.inp 8) (.cons (.op (.bin .add) (.cons (.inp 2) (.cons (.cst (.int .i64 268435456)) .nil))) .nil)) (.done [] none)))) h4_18)
@[simp] theorem h4_19_wp {P : Program} {F : PF P} {Q : EX → List Value → World → Prop} {env : List Value} {w : World} : h4_19.wp F Q env w = HC.wp F (.seq (.reg (.chk none (.bin .add) (.cons (.inp 2) (.cons (.cst (.int .i64 268435456)) .nil)) (.eff (.call 14) (.cons (.inp 8) (.cons (.op (.bin .add) (.cons (.inp 2) (.cons (.cst (.int .i64 268435456)) .nil))) .nil)) (.done [] none)))) h4_18) Q env w := rfl
def h4_20 : HC := (.reg (.chk none (.bin .add) (.cons (.inp 19) (.cons (.cst (.int .i64 1)) .nil)) (.done [(19, (.op (.bin .add) (.cons (.inp 19) (.cons (.cst (.int .i64 1)) .nil))))] none)))
@[simp] theorem h4_20_wp {P : Program} {F : PF P} {Q : EX → List Value → World → Prop} {env : List Value} {w : World} : h4_20.wp F Q env w = HC.wp F (.reg (.chk none (.bin .add) (.cons (.inp 19) (.cons (.cst (.int .i64 1)) .nil)) (.done [(19, (.op (.bin .add) (.cons (.inp 19) (.cons (.cst (.int .i64 1)) .nil))))] none))) Q env w := rfl
def h4_21 : HC := (.reg (.eff (.bsl 3 0 1 #[] []) .nil (.chk none (.idxL 1) (.cons (.inp 15) (.cons (.inp 19) .nil)) (.eff (.ld false 1) (.cons (.op (.idxL 1) (.cons (.inp 15) (.cons (.inp 19) .nil))) .nil) (.eff (.app 47 47 3 1 8 (.int .i64 0)) (.cons (.bv 0) (.cons (.bv 1) .nil)) (.eff (.bsl 47 1 1 #[(.slice none 0 0)] [0]) (.cons (.bv 2) .nil) (.eff (.app 49 49 47 1 24 (.slice none 0 0)) (.cons (.inp 17) (.cons (.bv 3) .nil)) (.done [(17, (.bv 4))] none))))))))
@[simp] theorem h4_21_wp {P : Program} {F : PF P} {Q : EX → List Value → World → Prop} {env : List Value} {w : World} : h4_21.wp F Q env w = HC.wp F (.reg (.eff (.bsl 3 0 1 #[] []) .nil (.chk none (.idxL 1) (.cons (.inp 15) (.cons (.inp 19) .nil)) (.eff (.ld false 1) (.cons (.op (.idxL 1) (.cons (.inp 15) (.cons (.inp 19) .nil))) .nil) (.eff (.app 47 47 3 1 8 (.int .i64 0)) (.cons (.bv 0) (.cons (.bv 1) .nil)) (.eff (.bsl 47 1 1 #[(.slice none 0 0)] [0]) (.cons (.bv 2) .nil) (.eff (.app 49 49 47 1 24 (.slice none 0 0)) (.cons (.inp 17) (.cons (.bv 3) .nil)) (.done [(17, (.bv 4))] none)))))))) Q env w := rfl
def h4_22 : HC := (.seq (.block 5 h4_21) h4_20)
@[simp] theorem h4_22_wp {P : Program} {F : PF P} {Q : EX → List Value → World → Prop} {env : List Value} {w : World} : h4_22.wp F Q env w = HC.wp F (.seq (.block 5 h4_21) h4_20) Q env w := rfl
def h4_23 : HC := (.seq (.br (.chk none .lenL (.cons (.inp 15) .nil) (.chk none (.bin .lss) (.cons (.inp 19) (.cons (.op .lenL (.cons (.inp 15) .nil)) .nil)) (.done [] (some (.op (.bin .lss) (.cons (.inp 19) (.cons (.op .lenL (.cons (.inp 15) .nil)) .nil))))))) .skip (.exit 4)) h4_22)
@[simp] theorem h4_23_wp {P : Program} {F : PF P} {Q : EX → List Value → World → Prop} {env : List Value} {w : World} : h4_23.wp F Q env w = HC.wp F (.seq (.br (.chk none .lenL (.cons (.inp 15) .nil) (.chk none (.bin .lss) (.cons (.inp 19) (.cons (.op .lenL (.cons (.inp 15) .nil)) .nil)) (.done [] (some (.op (.bin .lss) (.cons (.inp 19) (.cons (.op .lenL (.cons (.inp 15) .nil)) .nil))))))) .skip (.exit 4)) h4_22) Q env w := rfl
def h4_24 : HC := (.loop h4_23)
@[simp] theorem h4_24_wp {P : Program} {F : PF P} {Q : EX → List Value → World → Prop} {env : List Value} {w : World} : h4_24.wp F Q env w = HC.wp F (.loop h4_23) Q env w := rfl
def h4_25 : HC := (.seq (.block 4 h4_24) h4_19)
@[simp] theorem h4_25_wp {P : Program} {F : PF P} {Q : EX → List Value → World → Prop} {env : List Value} {w : World} : h4_25.wp F Q env w = HC.wp F (.seq (.block 4 h4_24) h4_19) Q env w := rfl
def h4_26 : HC := (.seq (.reg (.done [(19, (.cst (.int .i64 0)))] none)) h4_25)
@[simp] theorem h4_26_wp {P : Program} {F : PF P} {Q : EX → List Value → World → Prop} {env : List Value} {w : World} : h4_26.wp F Q env w = HC.wp F (.seq (.reg (.done [(19, (.cst (.int .i64 0)))] none)) h4_25) Q env w := rfl
def h4_27 : HC := (.reg (.chk none (.bin .add) (.cons (.inp 18) (.cons (.cst (.int .i64 1)) .nil)) (.done [(18, (.op (.bin .add) (.cons (.inp 18) (.cons (.cst (.int .i64 1)) .nil))))] none)))
@[simp] theorem h4_27_wp {P : Program} {F : PF P} {Q : EX → List Value → World → Prop} {env : List Value} {w : World} : h4_27.wp F Q env w = HC.wp F (.reg (.chk none (.bin .add) (.cons (.inp 18) (.cons (.cst (.int .i64 1)) .nil)) (.done [(18, (.op (.bin .add) (.cons (.inp 18) (.cons (.cst (.int .i64 1)) .nil))))] none))) Q env w := rfl
def h4_28 : HC := (.reg (.eff (.bsl 32 0 2 #[] []) .nil (.chk none (.idxL 1) (.cons (.inp 14) (.cons (.inp 18) .nil)) (.eff (.ld false 1) (.cons (.op (.idxL 1) (.cons (.inp 14) (.cons (.inp 18) .nil))) .nil) (.eff (.app 38 38 32 2 16 (.agg #[(.int .i64 0), (.int .i64 0)])) (.cons (.bv 0) (.cons (.bv 1) .nil)) (.eff (.bsl 38 1 1 #[(.slice none 0 0)] [0]) (.cons (.bv 2) .nil) (.eff (.app 46 46 38 1 24 (.slice none 0 0)) (.cons (.inp 16) (.cons (.bv 3) .nil)) (.done [(16, (.bv 4))] none))))))))
@[simp] theorem h4_28_wp {P : Program} {F : PF P} {Q : EX → List Value → World → Prop} {env : List Value} {w : World} : h4_28.wp F Q env w = HC.wp F (.reg (.eff (.bsl 32 0 2 #[] []) .nil (.chk none (.idxL 1) (.cons (.inp 14) (.cons (.inp 18) .nil)) (.eff (.ld false 1) (.cons (.op (.idxL 1) (.cons (.inp 14) (.cons (.inp 18) .nil))) .nil) (.eff (.app 38 38 32 2 16 (.agg #[(.int .i64 0), (.int .i64 0)])) (.cons (.bv 0) (.cons (.bv 1) .nil)) (.eff (.bsl 38 1 1 #[(.slice none 0 0)] [0]) (.cons (.bv 2) .nil) (.eff (.app 46 46 38 1 24 (.slice none 0 0)) (.cons (.inp 16) (.cons (.bv 3) .nil)) (.done [(16, (.bv 4))] none)))))))) Q env w := rfl
def h4_29 : HC := (.seq (.block 3 h4_28) h4_27)
@[simp] theorem h4_29_wp {P : Program} {F : PF P} {Q : EX → List Value → World → Prop} {env : List Value} {w : World} : h4_29.wp F Q env w = HC.wp F (.seq (.block 3 h4_28) h4_27) Q env w := rfl
def h4_30 : HC := (.seq (.br (.chk none .lenL (.cons (.inp 14) .nil) (.chk none (.bin .lss) (.cons (.inp 18) (.cons (.op .lenL (.cons (.inp 14) .nil)) .nil)) (.done [] (some (.op (.bin .lss) (.cons (.inp 18) (.cons (.op .lenL (.cons (.inp 14) .nil)) .nil))))))) .skip (.exit 2)) h4_29)
@[simp] theorem h4_30_wp {P : Program} {F : PF P} {Q : EX → List Value → World → Prop} {env : List Value} {w : World} : h4_30.wp F Q env w = HC.wp F (.seq (.br (.chk none .lenL (.cons (.inp 14) .nil) (.chk none (.bin .lss) (.cons (.inp 18) (.cons (.op .lenL (.cons (.inp 14) .nil)) .nil)) (.done [] (some (.op (.bin .lss) (.cons (.inp 18) (.cons (.op .lenL (.cons (.inp 14) .nil)) .nil))))))) .skip (.exit 2)) h4_29) Q env w := rfl
def h4_31 : HC := (.loop h4_30)
@[simp] theorem h4_31_wp {P : Program} {F : PF P} {Q : EX → List Value → World → Prop} {env : List Value} {w : World} : h4_31.wp F Q env w = HC.wp F (.loop h4_30) Q env w := rfl
def h4_32 : HC := (.seq (.block 2 h4_31) h4_26)
@[simp] theorem h4_32_wp {P : Program} {F : PF P} {Q : EX → List Value → World → Prop} {env : List Value} {w : World} : h4_32.wp F Q env w = HC.wp F (.seq (.block 2 h4_31) h4_26) Q env w := rfl
def h4_33 : HC := (.seq (.reg (.done [(18, (.cst (.int .i64 0)))] none)) h4_32)
@[simp] theorem h4_33_wp {P : Program} {F : PF P} {Q : EX → List Value → World → Prop} {env : List Value} {w : World} : h4_33.wp F Q env w = HC.wp F (.seq (.reg (.done [(18, (.cst (.int .i64 0)))] none)) h4_32) Q env w := rfl
def h4_34 : HC := (.seq (.reg (.done [(17, (.cst (.slice none 0 0)))] none)) h4_33)
@[simp] theorem h4_34_wp {P : Program} {F : PF P} {Q : EX → List Value → World → Prop} {env : List Value} {w : World} : h4_34.wp F Q env w = HC.wp F (.seq (.reg (.done [(17, (.cst (.slice none 0 0)))] none)) h4_33) Q env w := rfl
def h4_35 : HC := (.seq (.reg (.done [(16, (.cst (.slice none 0 0)))] none)) h4_34)
@[simp] theorem h4_35_wp {P : Program} {F : PF P} {Q : EX → List Value → World → Prop} {env : List Value} {w : World} : h4_35.wp F Q env w = HC.wp F (.seq (.reg (.done [(16, (.cst (.slice none 0 0)))] none)) h4_34) Q env w := rfl
def h4_36 : HC := (.seq (.reg (.eff (.call 21) (.cons (.inp 6) (.cons (.cst (.int .i64 0)) .nil)) (.eff (.call 21) (.cons (.inp 6) (.cons (.cst (.int .i64 0)) .nil)) (.eff (.call 21) (.cons (.inp 10) (.cons (.cst (.int .i64 1)) .nil)) (.eff (.call 21) (.cons (.inp 10) (.cons (.cst (.int .i64 4)) .nil)) (.eff (.call 21) (.cons (.inp 10) (.cons (.cst (.int .i64 4)) .nil)) (.eff (.bsl 47 5 1 #[(.slice none 0 0)] [0, 1, 2, 3, 4]) (.cons (.bv 0) (.cons (.bv 1) (.cons (.bv 2) (.cons (.bv 3) (.cons (.bv 4) .nil))))) (.done [(15, (.bv 5))] none)))))))) h4_35)
@[simp] theorem h4_36_wp {P : Program} {F : PF P} {Q : EX → List Value → World → Prop} {env : List Value} {w : World} : h4_36.wp F Q env w = HC.wp F (.seq (.reg (.eff (.call 21) (.cons (.inp 6) (.cons (.cst (.int .i64 0)) .nil)) (.eff (.call 21) (.cons (.inp 6) (.cons (.cst (.int .i64 0)) .nil)) (.eff (.call 21) (.cons (.inp 10) (.cons (.cst (.int .i64 1)) .nil)) (.eff (.call 21) (.cons (.inp 10) (.cons (.cst (.int .i64 4)) .nil)) (.eff (.call 21) (.cons (.inp 10) (.cons (.cst (.int .i64 4)) .nil)) (.eff (.bsl 47 5 1 #[(.slice none 0 0)] [0, 1, 2, 3, 4]) (.cons (.bv 0) (.cons (.bv 1) (.cons (.bv 2) (.cons (.bv 3) (.cons (.bv 4) .nil))))) (.done [(15, (.bv 5))] none)))))))) h4_35) Q env w := rfl
def h4_37 : HC := (.seq (.reg (.eff (.call 20) (.cons (.inp 6) .nil) (.eff (.call 20) (.cons (.inp 6) .nil) (.eff (.call 20) (.cons (.inp 8) .nil) (.eff (.call 20) (.cons (.inp 10) .nil) (.eff (.bsl 38 6 1 #[(.slice none 0 0)] [0, 1, 2, 3, 4, 5]) (.cons (.inp 12) (.cons (.inp 13) (.cons (.bv 0) (.cons (.bv 1) (.cons (.bv 2) (.cons (.bv 3) .nil)))))) (.done [(14, (.bv 4))] none))))))) h4_36)
@[simp] theorem h4_37_wp {P : Program} {F : PF P} {Q : EX → List Value → World → Prop} {env : List Value} {w : World} : h4_37.wp F Q env w = HC.wp F (.seq (.reg (.eff (.call 20) (.cons (.inp 6) .nil) (.eff (.call 20) (.cons (.inp 6) .nil) (.eff (.call 20) (.cons (.inp 8) .nil) (.eff (.call 20) (.cons (.inp 10) .nil) (.eff (.bsl 38 6 1 #[(.slice none 0 0)] [0, 1, 2, 3, 4, 5]) (.cons (.inp 12) (.cons (.inp 13) (.cons (.bv 0) (.cons (.bv 1) (.cons (.bv 2) (.cons (.bv 3) .nil)))))) (.done [(14, (.bv 4))] none))))))) h4_36) Q env w := rfl
def h4_38 : HC := (.seq (.reg (.eff (.call 14) (.cons (.inp 8) (.cons (.inp 2) .nil)) (.chk none (.ext 0) (.cons (.bv 0) .nil) (.chk none (.ext 1) (.cons (.bv 0) .nil) (.done [(13, (.op (.ext 0) (.cons (.bv 0) .nil)))] none))))) h4_37)
@[simp] theorem h4_38_wp {P : Program} {F : PF P} {Q : EX → List Value → World → Prop} {env : List Value} {w : World} : h4_38.wp F Q env w = HC.wp F (.seq (.reg (.eff (.call 14) (.cons (.inp 8) (.cons (.inp 2) .nil)) (.chk none (.ext 0) (.cons (.bv 0) .nil) (.chk none (.ext 1) (.cons (.bv 0) .nil) (.done [(13, (.op (.ext 0) (.cons (.bv 0) .nil)))] none))))) h4_37) Q env w := rfl
def h4_39 : HC := (.seq (.reg (.eff (.call 14) (.cons (.inp 6) (.cons (.inp 2) .nil)) (.chk none (.ext 0) (.cons (.bv 0) .nil) (.chk none (.ext 1) (.cons (.bv 0) .nil) (.done [(12, (.op (.ext 0) (.cons (.bv 0) .nil)))] none))))) h4_38)
@[simp] theorem h4_39_wp {P : Program} {F : PF P} {Q : EX → List Value → World → Prop} {env : List Value} {w : World} : h4_39.wp F Q env w = HC.wp F (.seq (.reg (.eff (.call 14) (.cons (.inp 6) (.cons (.inp 2) .nil)) (.chk none (.ext 0) (.cons (.bv 0) .nil) (.chk none (.ext 1) (.cons (.bv 0) .nil) (.done [(12, (.op (.ext 0) (.cons (.bv 0) .nil)))] none))))) h4_38) Q env w := rfl
def h4_40 : HC := (.seq (.reg (.chk none (.cal 11) (.cons (.inp 2) .nil) (.chk none (.bin .add) (.cons (.inp 0) (.cons (.op (.cal 11) (.cons (.inp 2) .nil)) .nil)) (.done [(2, (.op (.bin .add) (.cons (.inp 0) (.cons (.op (.cal 11) (.cons (.inp 2) .nil)) .nil))))] none)))) h4_39)
@[simp] theorem h4_40_wp {P : Program} {F : PF P} {Q : EX → List Value → World → Prop} {env : List Value} {w : World} : h4_40.wp F Q env w = HC.wp F (.seq (.reg (.chk none (.cal 11) (.cons (.inp 2) .nil) (.chk none (.bin .add) (.cons (.inp 0) (.cons (.op (.cal 11) (.cons (.inp 2) .nil)) .nil)) (.done [(2, (.op (.bin .add) (.cons (.inp 0) (.cons (.op (.cal 11) (.cons (.inp 2) .nil)) .nil))))] none)))) h4_39) Q env w := rfl
def h4_41 : HC := (.seq (.reg (.eff (.call 19) (.cons (.inp 4) .nil) (.done [] none))) h4_40)
@[simp] theorem h4_41_wp {P : Program} {F : PF P} {Q : EX → List Value → World → Prop} {env : List Value} {w : World} : h4_41.wp F Q env w = HC.wp F (.seq (.reg (.eff (.call 19) (.cons (.inp 4) .nil) (.done [] none))) h4_40) Q env w := rfl
def h4_42 : HC := (.seq (.reg (.done [(3, (.cst (.bool false)))] none)) .ret)
@[simp] theorem h4_42_wp {P : Program} {F : PF P} {Q : EX → List Value → World → Prop} {env : List Value} {w : World} : h4_42.wp F Q env w = HC.wp F (.seq (.reg (.done [(3, (.cst (.bool false)))] none)) .ret) Q env w := rfl
def h4_43 : HC := (.seq (.br (.chk none (.cal 10) (.cons (.inp 7) .nil) (.chk none (.bin .neq) (.cons (.op (.cal 10) (.cons (.inp 7) .nil)) (.cons (.cst (.int .i64 0)) .nil)) (.bnd (.op (.bin .neq) (.cons (.op (.cal 10) (.cons (.inp 7) .nil)) (.cons (.cst (.int .i64 0)) .nil))) (.chk (some ((.bv 0), false)) (.cal 10) (.cons (.inp 9) .nil) (.chk (some ((.bv 0), false)) (.bin .neq) (.cons (.op (.cal 10) (.cons (.inp 9) .nil)) (.cons (.cst (.int .i64 0)) .nil)) (.isb none (.bv 0) (.bnd (.ite (.bv 0) true (.cst (.bool true)) (.op (.bin .neq) (.cons (.op (.cal 10) (.cons (.inp 9) .nil)) (.cons (.cst (.int .i64 0)) .nil)))) (.chk (some ((.bv 1), false)) (.cal 10) (.cons (.inp 11) .nil) (.chk (some ((.bv 1), false)) (.bin .neq) (.cons (.op (.cal 10) (.cons (.inp 11) .nil)) (.cons (.cst (.int .i64 0)) .nil)) (.isb none (.bv 1) (.done [] (some (.ite (.bv 1) true (.cst (.bool true)) (.op (.bin .neq) (.cons (.op (.cal 10) (.cons (.inp 11) .nil)) (.cons (.cst (.int .i64 0)) .nil)))))))))))))))) h4_42 .skip) h4_41)
@[simp] theorem h4_43_wp {P : Program} {F : PF P} {Q : EX → List Value → World → Prop} {env : List Value} {w : World} : h4_43.wp F Q env w = HC.wp F (.seq (.br (.chk none (.cal 10) (.cons (.inp 7) .nil) (.chk none (.bin .neq) (.cons (.op (.cal 10) (.cons (.inp 7) .nil)) (.cons (.cst (.int .i64 0)) .nil)) (.bnd (.op (.bin .neq) (.cons (.op (.cal 10) (.cons (.inp 7) .nil)) (.cons (.cst (.int .i64 0)) .nil))) (.chk (some ((.bv 0), false)) (.cal 10) (.cons (.inp 9) .nil) (.chk (some ((.bv 0), false)) (.bin .neq) (.cons (.op (.cal 10) (.cons (.inp 9) .nil)) (.cons (.cst (.int .i64 0)) .nil)) (.isb none (.bv 0) (.bnd (.ite (.bv 0) true (.cst (.bool true)) (.op (.bin .neq) (.cons (.op (.cal 10) (.cons (.inp 9) .nil)) (.cons (.cst (.int .i64 0)) .nil)))) (.chk (some ((.bv 1), false)) (.cal 10) (.cons (.inp 11) .nil) (.chk (some ((.bv 1), false)) (.bin .neq) (.cons (.op (.cal 10) (.cons (.inp 11) .nil)) (.cons (.cst (.int .i64 0)) .nil)) (.isb none (.bv 1) (.done [] (some (.ite (.bv 1) true (.cst (.bool true)) (.op (.bin .neq) (.cons (.op (.cal 10) (.cons (.inp 11) .nil)) (.cons (.cst (.int .i64 0)) .nil)))))))))))))))) h4_42 .skip) h4_41) Q env w := rfl
def h4_44 : HC := (.seq (.reg (.eff (.call 18) (.cons (.inp 0) (.cons (.inp 4) .nil)) (.chk none (.ext 0) (.cons (.bv 0) .nil) (.chk none (.ext 1) (.cons (.bv 0) .nil) (.done [(10, (.op (.ext 0) (.cons (.bv 0) .nil))), (11, (.op (.ext 1) (.cons (.bv 0) .nil)))] none))))) h4_43)
@[simp] theorem h4_44_wp {P : Program} {F : PF P} {Q : EX → List Value → World → Prop} {env : List Value} {w : World} : h4_44.wp F Q env w = HC.wp F (.seq (.reg (.eff (.call 18) (.cons (.inp 0) (.cons (.inp 4) .nil)) (.chk none (.ext 0) (.cons (.bv 0) .nil) (.chk none (.ext 1) (.cons (.bv 0) .nil) (.done [(10, (.op (.ext 0) (.cons (.bv 0) .nil))), (11, (.op (.ext 1) (.cons (.bv 0) .nil)))] none))))) h4_43) Q env w := rfl
def h4_45 : HC := (.seq (.reg (.eff (.call 18) (.cons (.inp 0) (.cons (.inp 4) .nil)) (.chk none (.ext 0) (.cons (.bv 0) .nil) (.chk none (.ext 1) (.cons (.bv 0) .nil) (.done [(8, (.op (.ext 0) (.cons (.bv 0) .nil))), (9, (.op (.ext 1) (.cons (.bv 0) .nil)))] none))))) h4_44)
@[simp] theorem h4_45_wp {P : Program} {F : PF P} {Q : EX → List Value → World → Prop} {env : List Value} {w : World} : h4_45.wp F Q env w = HC.wp F (.seq (.reg (.eff (.call 18) (.cons (.inp 0) (.cons (.inp 4) .nil)) (.chk none (.ext 0) (.cons (.bv 0) .nil) (.chk none (.ext 1) (.cons (.bv 0) .nil) (.done [(8, (.op (.ext 0) (.cons (.bv 0) .nil))), (9, (.op (.ext 1) (.cons (.bv 0) .nil)))] none))))) h4_44) Q env w := rfl
def h4_46 : HC := (.seq (.reg (.eff (.call 18) (.cons (.inp 0) (.cons (.inp 4) .nil)) (.chk none (.ext 0) (.cons (.bv 0) .nil) (.chk none (.ext 1) (.cons (.bv 0) .nil) (.done [(6, (.op (.ext 0) (.cons (.bv 0) .nil))), (7, (.op (.ext 1) (.cons (.bv 0) .nil)))] none))))) h4_45)
@[simp] theorem h4_46_wp {P : Program} {F : PF P} {Q : EX → List Value → World → Prop} {env : List Value} {w : World} : h4_46.wp F Q env w = HC.wp F (.seq (.reg (.eff (.call 18) (.cons (.inp 0) (.cons (.inp 4) .nil)) (.chk none (.ext 0) (.cons (.bv 0) .nil) (.chk none (.ext 1) (.cons (.bv 0) .nil) (.done [(6, (.op (.ext 0) (.cons (.bv 0) .nil))), (7, (.op (.ext 1) (.cons (.bv 0) .nil)))] none))))) h4_45) Q env w := rfl
def h4_47 : HC := (.reg (.chk none (.bin .add) (.cons (.inp 5) (.cons (.cst (.int .i64 1)) .nil)) (.done [(5, (.op (.bin .add) (.cons (.inp 5) (.cons (.cst (.int .i64 1)) .nil))))] none)))
@[simp] theorem h4_47_wp {P : Program} {F : PF P} {Q : EX → List Value → World → Prop} {env : List Value} {w : World} : h4_47.wp F Q env w = HC.wp F (.reg (.chk none (.bin .add) (.cons (.inp 5) (.cons (.cst (.int .i64 1)) .nil)) (.done [(5, (.op (.bin .add) (.cons (.inp 5) (.cons (.cst (.int .i64 1)) .nil))))] none))) Q env w := rfl
def h4_48 : HC := (.reg (.chk none (.bin .add) (.cons (.inp 5) (.cons (.cst (.int .i64 1)) .nil)) (.chk none (.idxL 3) (.cons (.inp 1) (.cons (.inp 5) .nil)) (.chk none (.fld 2) (.cons (.op (.idxL 3) (.cons (.inp 1) (.cons (.inp 5) .nil))) .nil) (.eff (.ld false 1) (.cons (.op (.fld 2) (.cons (.op (.idxL 3) (.cons (.inp 1) (.cons (.inp 5) .nil))) .nil)) .nil) (.chk none (.cal 11) (.cons (.bv 0) .nil) (.chk none (.bin .add) (.cons (.inp 0) (.cons (.op (.cal 11) (.cons (.bv 0) .nil)) .nil)) (.chk none (.build #[(.int .i64 0), (.int .i64 0)] [(0, 1), (1, 1)] [0, 1]) (.cons (.op (.bin .add) (.cons (.inp 5) (.cons (.cst (.int .i64 1)) .nil))) (.cons (.op (.bin .add) (.cons (.inp 0) (.cons (.op (.cal 11) (.cons (.bv 0) .nil)) .nil))) .nil)) (.eff (.bsl 32 1 2 #[(.int .i64 0), (.int .i64 0)] [0]) (.cons (.op (.build #[(.int .i64 0), (.int .i64 0)] [(0, 1), (1, 1)] [0, 1]) (.cons (.op (.bin .add) (.cons (.inp 5) (.cons (.cst (.int .i64 1)) .nil))) (.cons (.op (.bin .add) (.cons (.inp 0) (.cons (.op (.cal 11) (.cons (.bv 0) .nil)) .nil))) .nil))) .nil) (.eff (.app 38 38 32 2 16 (.agg #[(.int .i64 0), (.int .i64 0)])) (.cons (.inp 4) (.cons (.bv 1) .nil)) (.done [(4, (.bv 2))] none)))))))))))
@[simp] theorem h4_48_wp {P : Program} {F : PF P} {Q : EX → List Value → World → Prop} {env : List Value} {w : World} : h4_48.wp F Q env w = HC.wp F (.reg (.chk none (.bin .add) (.cons (.inp 5) (.cons (.cst (.int .i64 1)) .nil)) (.chk none (.idxL 3) (.cons (.inp 1) (.cons (.inp 5) .nil)) (.chk none (.fld 2) (.cons (.op (.idxL 3) (.cons (.inp 1) (.cons (.inp 5) .nil))) .nil) (.eff (.ld false 1) (.cons (.op (.fld 2) (.cons (.op (.idxL 3) (.cons (.inp 1) (.cons (.inp 5) .nil))) .nil)) .nil) (.chk none (.cal 11) (.cons (.bv 0) .nil) (.chk none (.bin .add) (.cons (.inp 0) (.cons (.op (.cal 11) (.cons (.bv 0) .nil)) .nil)) (.chk none (.build #[(.int .i64 0), (.int .i64 0)] [(0, 1), (1, 1)] [0, 1]) (.cons (.op (.bin .add) (.cons (.inp 5) (.cons (.cst (.int .i64 1)) .nil))) (.cons (.op (.bin .add) (.cons (.inp 0) (.cons (.op (.cal 11) (.cons (.bv 0) .nil)) .nil))) .nil)) (.eff (.bsl 32 1 2 #[(.int .i64 0), (.int .i64 0)] [0]) (.cons (.op (.build #[(.int .i64 0), (.int .i64 0)] [(0, 1), (1, 1)] [0, 1]) (.cons (.op (.bin .add) (.cons (.inp 5) (.cons (.cst (.int .i64 1)) .nil))) (.cons (.op (.bin .add) (.cons (.inp 0) (.cons (.op (.cal 11) (.cons (.bv 0) .nil)) .nil))) .nil))) .nil) (.eff (.app 38 38 32 2 16 (.agg #[(.int .i64 0), (.int .i64 0)])) (.cons (.inp 4) (.cons (.bv 1) .nil)) (.done [(4, (.bv 2))] none))))))))))) Q env w := rfl
def h4_49 : HC := (.seq (.block 1 h4_48) h4_47)
@[simp] theorem h4_49_wp {P : Program} {F : PF P} {Q : EX → List Value → World → Prop} {env : List Value} {w : World} : h4_49.wp F Q env w = HC.wp F (.seq (.block 1 h4_48) h4_47) Q env w := rfl
def h4_50 : HC := (.seq (.br (.chk none .lenL (.cons (.inp 1) .nil) (.chk none (.bin .lss) (.cons (.inp 5) (.cons (.op .lenL (.cons (.inp 1) .nil)) .nil)) (.bnd (.op (.bin .lss) (.cons (.inp 5) (.cons (.op .lenL (.cons (.inp 1) .nil)) .nil))) (.chk (some ((.bv 0), true)) (.bin .lss) (.cons (.inp 5) (.cons (.cst (.int .i64 60000)) .nil)) (.isb none (.bv 0) (.done [] (some (.ite (.bv 0) true (.op (.bin .lss) (.cons (.inp 5) (.cons (.cst (.int .i64 60000)) .nil))) (.cst (.bool false)))))))))) .skip (.exit 0)) h4_49)
@[simp] theorem h4_50_wp {P : Program} {F : PF P} {Q : EX → List Value → World → Prop} {env : List Value} {w : World} : h4_50.wp F Q env w = HC.wp F (.seq (.br (.chk none .lenL (.cons (.inp 1) .nil) (.chk none (.bin .lss) (.cons (.inp 5) (.cons (.op .lenL (.cons (.inp 1) .nil)) .nil)) (.bnd (.op (.bin .lss) (.cons (.inp 5) (.cons (.op .lenL (.cons (.inp 1) .nil)) .nil))) (.chk (some ((.bv 0), true)) (.bin .lss) (.cons (.inp 5) (.cons (.cst (.int .i64 60000)) .nil)) (.isb none (.bv 0) (.done [] (some (.ite (.bv 0) true (.op (.bin .lss) (.cons (.inp 5) (.cons (.cst (.int .i64 60000)) .nil))) (.cst (.bool false)))))))))) .skip (.exit 0)) h4_49) Q env w := rfl
def h4_51 : HC := (.loop h4_50)
@[simp] theorem h4_51_wp {P : Program} {F : PF P} {Q : EX → List Value → World → Prop} {env : List Value} {w : World} : h4_51.wp F Q env w = HC.wp F (.loop h4_50) Q env w := rfl
def h4_52 : HC := (.seq (.block 0 h4_51) h4_46)
@[simp] theorem h4_52_wp {P : Program} {F : PF P} {Q : EX → List Value → World → Prop} {env : List Value} {w : World} : h4_52.wp F Q env w = HC.wp F (.seq (.block 0 h4_51) h4_46) Q env w := rfl
def h4_53 : HC := (.seq (.reg (.done [(5, (.cst (.int .i64 0)))] none)) h4_52)
@[simp] theorem h4_53_wp {P : Program} {F : PF P} {Q : EX → List Value → World → Prop} {env : List Value} {w : World} : h4_53.wp F Q env w = HC.wp F (.seq (.reg (.done [(5, (.cst (.int .i64 0)))] none)) h4_52) Q env w := rfl
def h4_54 : HC := (.seq (.reg (.done [(4, (.cst (.slice none 0 0)))] none)) h4_53)
@[simp] theorem h4_54_wp {P : Program} {F : PF P} {Q : EX → List Value → World → Prop} {env : List Value} {w : World} : h4_54.wp F Q env w = HC.wp F (.seq (.reg (.done [(4, (.cst (.slice none 0 0)))] none)) h4_53) Q env w := rfl
def h4_55 : HC := (.seq (.reg (.chk none (.cal 8) (.cons (.inp 0) (.cons (.cst (.int .i64 549755813888)) .nil)) (.done [(0, (.op (.cal 8) (.cons (.inp 0) (.cons (.cst (.int .i64 549755813888)) .nil))))] none))) h4_54)
@[simp] theorem h4_55_wp {P : Program} {F : PF P} {Q : EX → List Value → World → Prop} {env : List Value} {w : World} : h4_55.wp F Q env w = HC.wp F (.seq (.reg (.chk none (.cal 8) (.cons (.inp 0) (.cons (.cst (.int .i64 549755813888)) .nil)) (.done [(0, (.op (.cal 8) (.cons (.inp 0) (.cons (.cst (.int .i64 549755813888)) .nil))))] none))) h4_54) Q env w := rfl
def h4_56 : HC := (.seq (.reg (.done [(3, (.cst (.bool false)))] none)) .ret)
@[simp] theorem h4_56_wp {P : Program} {F : PF P} {Q : EX → List Value → World → Prop} {env : List Value} {w : World} : h4_56.wp F Q env w = HC.wp F (.seq (.reg (.done [(3, (.cst (.bool false)))] none)) .ret) Q env w := rfl
def h4_57 : HC := (.seq (.br (.eff (.call 7) .nil (.chk none (.un .not) (.cons (.bv 0) .nil) (.done [] (some (.op (.un .not) (.cons (.bv 0) .nil)))))) h4_56 .skip) h4_55)
@[simp] theorem h4_57_wp {P : Program} {F : PF P} {Q : EX → List Value → World → Prop} {env : List Value} {w : World} : h4_57.wp F Q env w = HC.wp F (.seq (.br (.eff (.call 7) .nil (.chk none (.un .not) (.cons (.bv 0) .nil) (.done [] (some (.op (.un .not) (.cons (.bv 0) .nil)))))) h4_56 .skip) h4_55) Q env w := rfl
def l4 : Lifted := ⟨[0, 1, 2, 6, 7, 8, 9, 10, 11, 12, 13, 14, 15, 17, 19, 20, 21, 22, 23, 24, 25, 26], 238, [.slot 3], (.seq (.reg (.done [(3, (.cst (.bool false)))] none)) h4_57)⟩
-- bazaar/bazaarlaw09.sameTimers
-- bazaar/bazaarlaw09.spoilt
def h19_0 : HC := (.reg (.chk none (.bin .add) (.cons (.inp 1) (.cons (.cst (.int .i64 1)) .nil)) (.done [(1, (.op (.bin .add) (.cons (.inp 1) (.cons (.cst (.int .i64 1)) .nil))))] none)))
@[simp] theorem h19_0_wp {P : Program} {F : PF P} {Q : EX → List Value → World → Prop} {env : List Value} {w : World} : h19_0.wp F Q env w = HC.wp F (.reg (.chk none (.bin .add) (.cons (.inp 1) (.cons (.cst (.int .i64 1)) .nil)) (.done [(1, (.op (.bin .add) (.cons (.inp 1) (.cons (.cst (.int .i64 1)) .nil))))] none))) Q env w := rfl
def h19_1 : HC := (.reg (.chk none (.build #[(.int .i64 0), (.int .i64 0)] [(0, 1), (1, 1)] [0, 1]) (.cons (.cst (.int .i64 (-7))) (.cons (.cst (.int .i64 (-7))) .nil)) (.chk none (.idxL 2) (.cons (.inp 0) (.cons (.inp 1) .nil)) (.eff (.st 2) (.cons (.op (.idxL 2) (.cons (.inp 0) (.cons (.inp 1) .nil))) (.cons (.op (.build #[(.int .i64 0), (.int .i64 0)] [(0, 1), (1, 1)] [0, 1]) (.cons (.cst (.int .i64 (-7))) (.cons (.cst (.int .i64 (-7))) .nil))) .nil)) (.done [] none)))))
@[simp] theorem h19_1_wp {P : Program} {F : PF P} {Q : EX → List Value → World → Prop} {env : List Value} {w : World} : h19_1.wp F Q env w = HC.wp F (.reg (.chk none (.build #[(.int .i64 0), (.int .i64 0)] [(0, 1), (1, 1)] [0, 1]) (.cons (.cst (.int .i64 (-7))) (.cons (.cst (.int .i64 (-7))) .nil)) (.chk none (.idxL 2) (.cons (.inp 0) (.cons (.inp 1) .nil)) (.eff (.st 2) (.cons (.op (.idxL 2) (.cons (.inp 0) (.cons (.inp 1) .nil))) (.cons (.op (.build #[(.int .i64 0), (.int .i64 0)] [(0, 1), (1, 1)] [0, 1]) (.cons (.cst (.int .i64 (-7))) (.cons (.cst (.int .i64 (-7))) .nil))) .nil)) (.done [] none))))) Q env w := rfl
def h19_2 : HC := (.seq (.block 1 h19_1) h19_0)
@[simp] theorem h19_2_wp {P : Program} {F : PF P} {Q : EX → List Value → World → Prop} {env : List Value} {w : World} : h19_2.wp F Q env w = HC.wp F (.seq (.block 1 h19_1) h19_0) Q env w := rfl
def h19_3 : HC := (.seq (.br (.chk none .lenL (.cons (.inp 0) .nil) (.chk none (.bin .lss) (.cons (.inp 1) (.cons (.op .lenL (.cons (.inp 0) .nil)) .nil)) (.done [] (some (.op (.bin .lss) (.cons (.inp 1) (.cons (.op .lenL (.cons (.inp 0) .nil)) .nil))))))) .skip (.exit 0)) h19_2)
@[simp] theorem h19_3_wp {P : Program} {F : PF P} {Q : EX → List Value → World → Prop} {env : List Value} {w : World} : h19_3.wp F Q env w = HC.wp F (.seq (.br (.chk none .lenL (.cons (.inp 0) .nil) (.chk none (.bin .lss) (.cons (.inp 1) (.cons (.op .lenL (.cons (.inp 0) .nil)) .nil)) (.done [] (some (.op (.bin .lss) (.cons (.inp 1) (.cons (.op .lenL (.cons (.inp 0) .nil)) .nil))))))) .skip (.exit 0)) h19_2) Q env w := rfl
def h19_4 : HC := (.loop h19_3)
@[simp] theorem h19_4_wp {P : Program} {F : PF P} {Q : EX → List Value → World → Prop} {env : List Value} {w : World} : h19_4.wp F Q env w = HC.wp F (.loop h19_3) Q env w := rfl
def h19_5 : HC := (.block 0 h19_4)
@[simp] theorem h19_5_wp {P : Program} {F : PF P} {Q : EX → List Value → World → Prop} {env : List Value} {w : World} : h19_5.wp F Q env w = HC.wp F (.block 0 h19_4) Q env w := rfl
def l19 : Lifted := ⟨[0, 2], 13, [], (.seq (.reg (.done [(1, (.cst (.int .i64 0)))] none)) h19_5)⟩
theorem l19_ok : liftFn U2 19 400 = some l19 := by kernel_rfl


theorem spoilt_spec (l : List (Int × Int)) (v : Value) (w0 w : World) (A : Asn) {K : Value → World → Prop} (hl : l.length ≤ 4194304) (s : St w0 (A * outs v l) w)
    (hk : ∀ r w', St w0 (A * outs v (l.map fun _ => (-7, -7))) w' → K r w') :
    CallW Try.prog 19 [v] K w := by
  obtain ⟨va, vc, rfl, _⟩ := s.own_val
  refine callW_of_lift l19_ok (by simp [l19]) ?_
  simp [l19]
  refine loopI (fun env w' => ∃ (k : Nat) (gs : List (Int × Int)), env = [.slice va l.length vc, .int .i64 k] ∧ k ≤ l.length ∧ gs.length = l.length ∧ (∀ j, j < k → gs[j]? = some (-7, -7)) ∧
      St w0 (A * own 32 2 (.slice va l.length vc) l.length (gs.flatMap encT)) w')
    (fun env _ => l.length - slotN env 1) ⟨0, l, rfl, by omega, rfl, fun j hj => by omega, s⟩ ?_
  clear s
  rintro LQ env w' ⟨k, gs, rfl, hk', hgs, hm, s'⟩ hN hE hR
  simp
  refine cndI (fun h => ?_) (fun h => ?_)
  · simp at h
    obtain ⟨g, cap, hv, _⟩ := s'.own_at (by omega)
    cases hv
    simp [h, Instr.fill, Value.cells]
    have hfl : (gs.flatMap encT).length = gs.length * 2 := flat_length encT 2 (fun _ => rfl) gs
    refine eff_stR (vs := encT (-7, -7)) s' rfl rfl (encT_one _) (by omega) ?_
    intro w3 s3
    rw [flat_set encT 2 (fun _ => rfl) _ gs k (by omega)] at s3
    simp
    try simp (disch := omega) only [wrap64]
    refine hN _ _ ⟨k + 1, gs.set k (-7, -7), by simp, by omega, by simp [hgs], fun j hj => ?_, s3⟩ (by simp [slotN]; omega)
    by_cases e : j = k
    · subst e; rw [List.getElem?_set_self (by omega)]
    · rw [List.getElem?_set_ne (by omega)]; exact hm j (by omega)
  · simp at h
    simp
    refine hE _ _ _ ?_
    simp
    refine hk _ _ ?_
    have e : gs = l.map fun _ => ((-7 : Int), (-7 : Int)) := by
      apply List.ext_getElem?
      intro j
      by_cases hj : j < l.length
      · rw [hm j (by omega)]; simp [hj]
      · rw [List.getElem?_eq_none (by omega), List.getElem?_eq_none (by simp; omega)]
    rw [← e]
    show St w0 (A * own _ 2 _ gs.length (gs.flatMap encT)) w'
    rw [hgs]
    exact s'
abbrev QO (w0 : World) (A : Asn) : EX → List Value → World → Prop := endQ Try.prog [.slot 3] fun r w' => r = .bool true ∧ St w0 A w'
def lastO (A B : Asn) (w0 : World) (RR AL : List (Int × Int)) (z : List Int) : List Value → World → Prop
  | [], w => St w0 B w
  | [r0], w => St w0 (B * outs r0 RR) w
  | [_, r1], w => r1 = .bool true ∧ St w0 B w
  | [_, _, r2], w => St w0 (B * outs r2 AL) w
  | [_, _, _, r3], w => r3 = .bool true ∧ St w0 B w
  | [_, _, _, _, r4], w => St w0 (B * intsA r4 z) w
  | [_, _, _, _, _, r5], w => r5 = .bool true ∧ St w0 A w
  | _, _ => False
end Go.HL.Wh
