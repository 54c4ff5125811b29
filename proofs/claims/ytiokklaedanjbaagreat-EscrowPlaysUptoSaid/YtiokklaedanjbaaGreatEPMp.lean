/-
  What the claim leans on, part 16 of 18. Conditions: as each theorem says.
-/
import Derived.Test.YtiokklaedanjbaaGreatEPMo
import Derived.Shelf.SlIterI.Nil
import Derived.Shelf.SortM.Plain
import Derived.Shelf.SortM.SortNone
namespace Go.HL.Es
open Go.HL Go.Proofs Go.Sort
set_option maxRecDepth 4000
noncomputable def keysL_ren : Go.Shelf.Ren := ⟨fun | 7 => 41 | 10 => 81 | n => n, fun | 23 => 93 | 26 => 3 | 3 => 23 | 28 => 104 | 0 => 0 | 27 => 103 | 33 => 89 | 4 => 4 | n => n, fun | n => n⟩
theorem keysL : Go.Proofs.SlLaysZI.n7 Tryz.prog keysL_ren := {
    mixed := by kernel_rfl,
    f7 := ⟨Tryz.f41.name, by decide, Tryz.func41.trans (congrArg some (by kernel_rfl))⟩,
    f10 := ⟨Tryz.f81.name, by decide, Tryz.func81.trans (congrArg some (by kernel_rfl))⟩,
    t0 := Tryz.underlying0,
    a0 := Tryz.isAgg0,
    z0 := Tryz.sizeOf0,
    v0 := Tryz.zeroValue0,
    t4 := Tryz.underlying4,
    a4 := Tryz.isAgg4,
    z4 := Tryz.sizeOf4,
    v4 := Tryz.zeroValue4,
    t23 := Tryz.underlying93,
    a23 := Tryz.isAgg93,
    z23 := Tryz.sizeOf93,
    v23 := Tryz.zeroValue93,
    t26 := Tryz.underlying3,
    a26 := Tryz.isAgg3,
    z26 := Tryz.sizeOf3,
    v26 := Tryz.zeroValue3,
    t27 := Tryz.underlying103,
    a27 := Tryz.isAgg103,
    z27 := Tryz.sizeOf103,
    v27 := Tryz.zeroValue103,
    t28 := Tryz.underlying104,
    a28 := Tryz.isAgg104,
    z28 := Tryz.sizeOf104,
    v28 := Tryz.zeroValue104,
    t33 := Tryz.underlying89,
    a33 := Tryz.isAgg89,
    z33 := Tryz.sizeOf89,
    v33 := Tryz.zeroValue89 }
noncomputable def sortedL_ren : Go.Shelf.Ren := ⟨fun | 6 => 40 | 8 => 79 | 9 => 80 | 11 => 106 | 13 => 108 | 12 => 107 | 23 => 141 | 24 => 142 | 14 => 132 | 15 => 133 | 16 => 134 | 17 => 135 | 18 => 136 | 19 => 137 | 20 => 138 | 21 => 139 | 22 => 140 | 25 => 161 | 26 => 162 | 27 => 163 | 28 => 164 | 29 => 165 | 30 => 166 | 31 => 171 | n => n, fun | 26 => 3 | 28 => 104 | 24 => 44 | 0 => 0 | 3 => 3 | 37 => 173 | 48 => 204 | 50 => 23 | 4 => 4 | 40 => 197 | 39 => 196 | 45 => 53 | 5 => 5 | 9 => 9 | 51 => 217 | 55 => 220 | 57 => 225 | 58 => 133 | 33 => 89 | n => n, fun | n => n⟩
theorem sortedL : Go.Proofs.SlLaysZI.n6 Tryz.prog sortedL_ren := {
    mixed := by kernel_rfl,
    f6 := ⟨Tryz.f40.name, by decide, Tryz.func40.trans (congrArg some (by kernel_rfl))⟩,
    f8 := ⟨Tryz.f79.name, by decide, Tryz.func79.trans (congrArg some (by kernel_rfl))⟩,
    f11 := ⟨Tryz.f106.name, by decide, Tryz.func106.trans (congrArg some (by kernel_rfl))⟩,
    t0 := Tryz.underlying0,
    a0 := Tryz.isAgg0,
    z0 := Tryz.sizeOf0,
    v0 := Tryz.zeroValue0,
    t24 := Tryz.underlying44,
    a24 := Tryz.isAgg44,
    z24 := Tryz.sizeOf44,
    v24 := Tryz.zeroValue44,
    t26 := Tryz.underlying3,
    a26 := Tryz.isAgg3,
    z26 := Tryz.sizeOf3,
    v26 := Tryz.zeroValue3,
    t28 := Tryz.underlying104,
    a28 := Tryz.isAgg104,
    z28 := Tryz.sizeOf104,
    v28 := Tryz.zeroValue104,
    i26 := by kernel_rfl }
noncomputable def sortL_ren : Go.Shelf.Ren := ⟨fun | 5 => 80 | 8 => 108 | 7 => 107 | 19 => 141 | 20 => 142 | 10 => 132 | 11 => 133 | 12 => 134 | 13 => 135 | 14 => 136 | 15 => 137 | 16 => 138 | 17 => 139 | 18 => 140 | 30 => 161 | 31 => 162 | 32 => 163 | 33 => 164 | 34 => 165 | 35 => 166 | 40 => 171 | n => n, fun | 23 => 44 | 25 => 3 | 3 => 3 | 32 => 173 | 22 => 44 | 0 => 0 | 44 => 204 | 46 => 23 | 4 => 4 | 36 => 197 | 35 => 196 | 41 => 53 | 5 => 5 | 9 => 9 | 53 => 217 | 57 => 220 | 63 => 225 | 64 => 133 | n => n, fun | n => n⟩
theorem sortL : Go.Proofs.SlLaysM.n5 Tryz.prog sortL_ren := {
    mixed := by kernel_rfl,
    f5 := ⟨Tryz.f80.name, by decide, Tryz.func80.trans (congrArg some (by kernel_rfl))⟩,
    f7 := ⟨Tryz.f107.name, by decide, Tryz.func107.trans (congrArg some (by kernel_rfl))⟩,
    f8 := Tryz.func108.trans (congrArg some (by kernel_rfl)),
    f10 := ⟨Tryz.f132.name, by decide, Tryz.func132.trans (congrArg some (by kernel_rfl))⟩,
    f11 := ⟨Tryz.f133.name, by decide, Tryz.func133.trans (congrArg some (by kernel_rfl))⟩,
    f12 := ⟨Tryz.f134.name, by decide, Tryz.func134.trans (congrArg some (by kernel_rfl))⟩,
    f13 := ⟨Tryz.f135.name, by decide, Tryz.func135.trans (congrArg some (by kernel_rfl))⟩,
    f14 := ⟨Tryz.f136.name, by decide, Tryz.func136.trans (congrArg some (by kernel_rfl))⟩,
    f15 := ⟨Tryz.f137.name, by decide, Tryz.func137.trans (congrArg some (by kernel_rfl))⟩,
    f16 := ⟨Tryz.f138.name, by decide, Tryz.func138.trans (congrArg some (by kernel_rfl))⟩,
    f17 := ⟨Tryz.f139.name, by decide, Tryz.func139.trans (congrArg some (by kernel_rfl))⟩,
    f18 := ⟨Tryz.f140.name, by decide, Tryz.func140.trans (congrArg some (by kernel_rfl))⟩,
    f19 := Tryz.func141.trans (congrArg some (by kernel_rfl)),
    f20 := Tryz.func142.trans (congrArg some (by kernel_rfl)),
    f30 := ⟨Tryz.f161.name, by decide, Tryz.func161.trans (congrArg some (by kernel_rfl))⟩,
    f31 := Tryz.func162.trans (congrArg some (by kernel_rfl)),
    f32 := Tryz.func163.trans (congrArg some (by kernel_rfl)),
    f33 := ⟨Tryz.f164.name, by decide, Tryz.func164.trans (congrArg some (by kernel_rfl))⟩,
    f34 := ⟨Tryz.f165.name, by decide, Tryz.func165.trans (congrArg some (by kernel_rfl))⟩,
    f35 := ⟨Tryz.f166.name, by decide, Tryz.func166.trans (congrArg some (by kernel_rfl))⟩,
    f40 := ⟨Tryz.f171.name, by decide, Tryz.func171.trans (congrArg some (by kernel_rfl))⟩,
    t0 := Tryz.underlying0,
    a0 := Tryz.isAgg0,
    z0 := Tryz.sizeOf0,
    v0 := Tryz.zeroValue0,
    t3 := Tryz.underlying3,
    a3 := Tryz.isAgg3,
    z3 := Tryz.sizeOf3,
    v3 := Tryz.zeroValue3,
    t4 := Tryz.underlying4,
    a4 := Tryz.isAgg4,
    z4 := Tryz.sizeOf4,
    v4 := Tryz.zeroValue4,
    t5 := Tryz.underlying5,
    a5 := Tryz.isAgg5,
    z5 := Tryz.sizeOf5,
    v5 := Tryz.zeroValue5,
    t9 := Tryz.underlying9,
    a9 := Tryz.isAgg9,
    z9 := Tryz.sizeOf9,
    v9 := Tryz.zeroValue9,
    t22 := Tryz.underlying44,
    a22 := Tryz.isAgg44,
    z22 := Tryz.sizeOf44,
    v22 := Tryz.zeroValue44,
    t23 := Tryz.underlying44,
    a23 := Tryz.isAgg44,
    z23 := Tryz.sizeOf44,
    v23 := Tryz.zeroValue44,
    t25 := Tryz.underlying3,
    a25 := Tryz.isAgg3,
    z25 := Tryz.sizeOf3,
    v25 := Tryz.zeroValue3,
    t32 := Tryz.underlying173,
    a32 := Tryz.isAgg173,
    z32 := Tryz.sizeOf173,
    v32 := Tryz.zeroValue173,
    t35 := Tryz.underlying196,
    a35 := Tryz.isAgg196,
    z35 := Tryz.sizeOf196,
    v35 := Tryz.zeroValue196,
    t36 := Tryz.underlying197,
    a36 := Tryz.isAgg197,
    z36 := Tryz.sizeOf197,
    v36 := Tryz.zeroValue197,
    t41 := Tryz.underlying53,
    a41 := Tryz.isAgg53,
    z41 := Tryz.sizeOf53,
    v41 := Tryz.zeroValue53,
    t44 := Tryz.underlying204,
    a44 := Tryz.isAgg204,
    z44 := Tryz.sizeOf204,
    v44 := Tryz.zeroValue204,
    t46 := Tryz.underlying23,
    a46 := Tryz.isAgg23,
    z46 := Tryz.sizeOf23,
    v46 := Tryz.zeroValue23,
    t53 := Tryz.underlying217,
    a53 := Tryz.isAgg217,
    z53 := Tryz.sizeOf217,
    v53 := Tryz.zeroValue217,
    t57 := Tryz.underlying220,
    a57 := Tryz.isAgg220,
    z57 := Tryz.sizeOf220,
    v57 := Tryz.zeroValue220,
    t63 := Tryz.underlying225,
    a63 := Tryz.isAgg225,
    z63 := Tryz.sizeOf225,
    v63 := Tryz.zeroValue225,
    t64 := Tryz.underlying133,
    a64 := Tryz.isAgg133,
    z64 := Tryz.sizeOf133,
    v64 := Tryz.zeroValue133 }
end Go.HL.Es

namespace Go.HL.Es
open Go.HL Go.Proofs Go.Sort Go.Shelf Go.Maps Go.WideElems Go.RowKit
set_option maxRecDepth 4000
set_option linter.unusedSimpArgs false
set_option linter.unusedVariables false
theorem St.below {w0 w w' : World} {F : Asn} (h0 : w0.drawn = 0) (s : St w0 F w) (hb : Below w.heap.size w w') {e n : Nat} {xs : List Value} {v : Value} (hr : w'.ownsRow w.heap.size e 1 v n xs) : St w0 (F * own e 1 v n xs) w' := by
  have base : St w0 F w' := by
    refine ⟨hb.os.trans s.os, hb.output.trans s.out, Nat.le_trans s.size hb.size, ⟨hb.tape.trans s.ran.1, by rw [h0]; exact Nat.zero_le _⟩, ?_⟩
    obtain ⟨g, hg, hF⟩ := s.holds
    refine ⟨g, fun b o hbo => ?_, hF⟩
    have h1 : w.heap[b]? = some o := hg b o hbo
    have hlt := (Array.getElem?_eq_some_iff.1 h1).1
    exact (hb.block b hlt).trans h1
  obtain ⟨hl, ⟨rfl, rfl⟩ | ⟨g, cap, cur, rfl, hge, hcur, h1, h2, h3, h4⟩⟩ := hr
  · have := List.eq_nil_of_length_eq_zero (by simpa using hl)
    subst this
    exact base.own_nil e 1
  · refine St.own_mk (cur := cur) (base.of ?_) h1 h2 h3 h4
    obtain ⟨k, hk, hF⟩ := s.holds
    have hn : k g = none := by
      cases hh : k g with
      | none => rfl
      | some o =>
        have h1 : w.heap[g]? = some o := hk g o hh
        have := (Array.getElem?_eq_some_iff.1 h1).1
        omega
    refine ⟨Hp.un k (fun b => if b = g then some (.cells cur e (0, 0)) else none), fun b o hbo => ?_, k, _, fun b => ?_, rfl, hF, by simp, fun c hc => by simp [hc]⟩
    · show w'.heap[b]? = some o
      simp only [Hp.un] at hbo
      by_cases eb : b = g
      · subst eb; simp only [hn, if_true] at hbo; rw [hcur]; exact hbo
      · simp only [eb, if_false] at hbo
        cases hh : k b with
        | none => rw [hh] at hbo; cases hbo
        | some o' =>
          rw [hh] at hbo; cases hbo
          have h1 : w.heap[b]? = some o := hk b o hh
          exact (hb.block b (Array.getElem?_eq_some_iff.1 h1).1).trans h1
    · by_cases eb : b = g
      · subst eb; exact .inl hn
      · right; simp [eb]
theorem sortsL (m : Nat) : AnyZI.SortsIn Tryz.prog sortedL_ren Fence.wide m :=
  ⟨fun blk off cap ss W hH hblk hsz => callsIn_wide.2 (AnyM.slices_Sort_int sortL blk off cap ss W hH hblk hsz),
   fun p cap W => callsIn_wide.2 (AnyM.slices_Sort_int_none sortL p cap W)⟩
theorem sorted_rows {l : List Rw} (h : l.Pairwise (fun a b => a.1 < b.1)) {ss : List Int} (hp : ss.Perm (l.map (·.1))) : ss.mergeSort (fun x y => decide (x ≤ y)) = l.map (·.1) := by
  have e := mergeSort_of_perm_i hp
  refine e.trans ?_
  refine List.mergeSort_of_pairwise ?_
  rw [List.pairwise_map]
  exact h.imp fun h => by simp only [decide_eq_true_eq]; omega
def nilR (_ : Value) : Option (DataW Unit × List MemPlace) := some (.nil, [])
theorem owns_of {w : World} {m c : Nat} {es : List En} {l : List Rw} (hb : w.heap[m]? = some (.map (entA es) c)) (hE : EH es c l) (ok : RwOK l) (hl : l.length ≤ 4194304) :
    ∃ D0 : DataW Unit, w.ownsMap Tryz.prog 3 nilR m l.length D0 ∧ Maps.size D0 = l.length ∧ (intKeys D0).Perm (l.map (·.1)) := by
  have hlen : es.length = l.length := by have := hE.perm.length_eq; simpa using this
  have hk : ∀ e ∈ es, 1 ≤ e.k ∧ e.k < 9223372036854775808 := fun e he => by
    have : prE e ∈ l.map prR := hE.perm.mem_iff.1 (List.mem_map.2 ⟨e, he, rfl⟩)
    obtain ⟨r, hr, hr2⟩ := List.mem_map.1 this
    simp only [prE, prR, Prod.mk.injEq] at hr2
    have := ok.2 r hr
    omega
  have hrd : ∀ e ∈ es, rd Tryz.prog 3 nilR (⟨.int .i64 e.k, e.v, e.b⟩ : MapEntry) = some (.int .i64 e.k, .nil) := fun e he => by
    have h1 := hk e he
    refine rd_mk (yv := (.nil, [])) ?_ rfl
    have hw : (Lit.int .i64 e.k).wf = true := by
      have h2 : -9223372036854775808 ≤ e.k := by omega
      have h3 : e.k ≤ 9223372036854775807 := by omega
      simp [Lit.wf, IntKind.min, IntKind.max, IntKind.signed, IntKind.bits, h2, h3]
    simp [keyOf, Tryz.underlying3, mapKey, hw]
  have hrg : (entA es).toList.map (rg Tryz.prog 3 nilR) = es.map fun e => ((.int .i64 e.k, .nil) : Lit × DataW Unit) := by
    simp only [entA, List.toList_toArray, List.map_map]
    refine List.map_congr_left fun e he => ?_
    exact rg_of (hrd e he)
  refine ⟨_, ⟨entA es, c, hb, ⟨by simp [entA]; unfold maxLen; omega, ⟨?_, ?_, ?_⟩, ?_⟩, by simp [entA, hlen], rfl⟩, ?_, ?_⟩
  · intro x hx
    simp only [entA, List.toList_toArray] at hx
    obtain ⟨e, he, rfl⟩ := List.mem_map.1 hx
    exact hE.clock e he
  · have e1 : (entA es).toList.map (·.born) = es.map (·.b) := by simp [entA]
    rw [e1]; exact hE.borns
  · have e1 : (entA es).toList.map (·.key) = (es.map (·.k)).map (Value.int .i64) := by simp [entA]
    rw [e1]
    refine List.pairwise_map.2 (hE.keys.imp fun h => ?_)
    simpa using h
  · intro x hx
    simp only [entA, List.toList_toArray] at hx
    obtain ⟨e, he, rfl⟩ := List.mem_map.1 hx
    exact ⟨_, hrd e he⟩
  · rw [hrg]
    show (List.foldr DataW.insert [] _).length = _
    rw [(Go.WideShapes.sorted_perm _).length_eq]; simp [hlen]
  · rw [hrg]
    show ((List.foldr DataW.insert [] _).map fun p => intOf p.1).Perm _
    refine ((Go.WideShapes.sorted_perm _).map _).trans ?_
    rw [List.map_map]
    have h2 := hE.perm.map Prod.fst
    simp only [List.map_map] at h2
    exact h2

def h41_0 : HC := (.seq (.reg (.chk none (.mkf (.func 81) 0) (.cons (.inp 1) .nil) (.done [(2, (.op (.mkf (.func 81) 0) (.cons (.inp 1) .nil)))] none))) .ret)
@[simp] theorem h41_0_wp : type_of% (@wpH h41_0 _ h41_0.eq_1) := wpH h41_0.eq_1
def l41 : Lifted := ⟨[0, 1, 2], 4, [.slot 2], (.seq (.reg (.eff (.box 93) (.cons (.inp 0) .nil) (.done [(1, (.bv 0)), (2, (.cst .nilFunc))] none))) h41_0)⟩
theorem l41_ok : liftFn E0 41 400 = some l41 := by kernel_rfl

def h42_0 : HC := (.seq (.reg (.chk none .lenL (.cons (.inp 0) .nil) (.chk none .lenL (.cons (.inp 0) .nil) (.chk none (.slL 2 false true true) (.cons (.inp 0) (.cons (.op .lenL (.cons (.inp 0) .nil)) (.cons (.op .lenL (.cons (.inp 0) .nil)) .nil))) (.done [(1, (.op (.slL 2 false true true) (.cons (.inp 0) (.cons (.op .lenL (.cons (.inp 0) .nil)) (.cons (.op .lenL (.cons (.inp 0) .nil)) .nil)))))] none))))) .ret)
@[simp] theorem h42_0_wp : type_of% (@wpH h42_0 _ h42_0.eq_1) := wpH h42_0.eq_1
def l42 : Lifted := ⟨[0, 2], 9, [.slot 1], (.seq (.reg (.done [(1, (.cst (.slice none 0 0)))] none)) h42_0)⟩
theorem l42_ok : liftFn E0 42 400 = some l42 := by kernel_rfl

def h13_0 : HC := (.seq (.reg (.eff (.call 42) (.cons (.inp 2) .nil) (.done [(1, (.bv 0))] none))) .ret)
@[simp] theorem h13_0_wp : type_of% (@wpH h13_0 _ h13_0.eq_1) := wpH h13_0.eq_1
def h13_1 : HC := (.reg (.chk none (.bin .add) (.cons (.inp 6) (.cons (.cst (.int .i64 1)) .nil)) (.done [(6, (.op (.bin .add) (.cons (.inp 6) (.cons (.cst (.int .i64 1)) .nil))))] none)))
@[simp] theorem h13_1_wp : type_of% (@wpH h13_1 _ h13_1.eq_1) := wpH h13_1.eq_1
def h13_2 : HC := (.reg (.chk none .chkp (.cons (.inp 0) .nil) (.chk none (.fld 2) (.cons (.op .chkp (.cons (.inp 0) .nil)) .nil) (.eff (.ld false 1) (.cons (.op (.fld 2) (.cons (.op .chkp (.cons (.inp 0) .nil)) .nil)) .nil) (.eff (.look 93 false) (.cons (.bv 0) (.cons (.inp 3) .nil)) (.chk none (.build #[(.int .i64 0), (.int .u64 0)] [(0, 1), (1, 1)] [0, 1]) (.cons (.inp 3) (.cons (.bv 1) .nil)) (.eff (.bsl 98 1 2 #[(.int .i64 0), (.int .u64 0)] [0]) (.cons (.op (.build #[(.int .i64 0), (.int .u64 0)] [(0, 1), (1, 1)] [0, 1]) (.cons (.inp 3) (.cons (.bv 1) .nil))) .nil) (.eff (.app 41 41 98 2 16 (.agg #[(.int .i64 0), (.int .u64 0)])) (.cons (.inp 2) (.cons (.bv 2) .nil)) (.done [(2, (.bv 3))] none)))))))))
@[simp] theorem h13_2_wp : type_of% (@wpH h13_2 _ h13_2.eq_1) := wpH h13_2.eq_1
def h13_3 : HC := (.seq (.reg (.chk none (.idxL 1) (.cons (.inp 4) (.cons (.inp 6) .nil)) (.eff (.ld false 1) (.cons (.op (.idxL 1) (.cons (.inp 4) (.cons (.inp 6) .nil))) .nil) (.done [(3, (.bv 0))] none)))) h13_2)
@[simp] theorem h13_3_wp : type_of% (@wpH h13_3 _ h13_3.eq_1) := wpH h13_3.eq_1
def h13_4 : HC := (.seq (.block 1 h13_3) h13_1)
@[simp] theorem h13_4_wp : type_of% (@wpH h13_4 _ h13_4.eq_1) := wpH h13_4.eq_1
def h13_5 : HC := (.seq (.br (.chk none (.bin .lss) (.cons (.inp 6) (.cons (.inp 5) .nil)) (.done [] (some (.op (.bin .lss) (.cons (.inp 6) (.cons (.inp 5) .nil)))))) .skip (.exit 0)) h13_4)
@[simp] theorem h13_5_wp : type_of% (@wpH h13_5 _ h13_5.eq_1) := wpH h13_5.eq_1
def h13_6 : HC := (.loop h13_5)
@[simp] theorem h13_6_wp : type_of% (@wpH h13_6 _ h13_6.eq_1) := wpH h13_6.eq_1
def h13_7 : HC := (.seq (.block 0 h13_6) h13_0)
@[simp] theorem h13_7_wp : type_of% (@wpH h13_7 _ h13_7.eq_1) := wpH h13_7.eq_1
def h13_8 : HC := (.seq (.reg (.chk none .chkp (.cons (.inp 0) .nil) (.chk none (.fld 2) (.cons (.op .chkp (.cons (.inp 0) .nil)) .nil) (.eff (.ld false 1) (.cons (.op (.fld 2) (.cons (.op .chkp (.cons (.inp 0) .nil)) .nil)) .nil) (.eff (.call 41) (.cons (.bv 0) .nil) (.eff (.call 40) (.cons (.bv 1) .nil) (.chk none .lenL (.cons (.bv 2) .nil) (.done [(4, (.bv 2)), (5, (.op .lenL (.cons (.bv 2) .nil))), (6, (.cst (.int .i64 0)))] none)))))))) h13_7)
@[simp] theorem h13_8_wp : type_of% (@wpH h13_8 _ h13_8.eq_1) := wpH h13_8.eq_1
def h13_9 : HC := (.seq (.reg (.done [(2, (.cst (.slice none 0 0)))] none)) h13_8)
@[simp] theorem h13_9_wp : type_of% (@wpH h13_9 _ h13_9.eq_1) := wpH h13_9.eq_1
def h13_10 : HC := (.seq (.reg (.done [(1, (.cst (.slice none 0 0)))] none)) .ret)
@[simp] theorem h13_10_wp : type_of% (@wpH h13_10 _ h13_10.eq_1) := wpH h13_10.eq_1
def h13_11 : HC := (.seq (.br (.chk none (.eqNil false (.pointer 95) (.pointer none)) (.cons (.inp 0) .nil) (.done [] (some (.op (.eqNil false (.pointer 95) (.pointer none)) (.cons (.inp 0) .nil))))) h13_10 .skip) h13_9)
@[simp] theorem h13_11_wp : type_of% (@wpH h13_11 _ h13_11.eq_1) := wpH h13_11.eq_1
def l13 : Lifted := ⟨[0, 2, 3, 5, 13, 14, 15], 33, [.slot 1], (.seq (.reg (.done [(1, (.cst (.slice none 0 0)))] none)) h13_11)⟩
theorem l13_ok : liftFn E0 13 400 = some l13 := by kernel_rfl
theorem keys_spec (mb : Option Nat) (w0 w : World) (A : Asn) (s : St w0 A w) :
    CallW Tryz.prog 41 [.map mb] (fun r w' => ∃ b, r = .func (.func 81) #[] #[.pointer (some ⟨b, 0, none⟩)] ∧ St w0 (A * pt b (.cells #[.map mb] 93 (0, 0))) w') w := by
  refine callW_of_lift l41_ok (by simp [l41]) ?_
  simp [l41]
  refine eff_box s fun b w1 s1 => ?_
  simp
  exact s1
set_option maxHeartbeats 1000000 in
theorem sorted_spec (m c b : Nat) (es : List En) (l : List Rw) (w0 w : World) (A : Asn) (h0 : w0.drawn = 0) (hE : EH es c l) (ok : RwOK l) (hl : l.length ≤ 4194304) (s : St w0 (A * imap m es c * pt b (.cells #[.map (some m)] 93 (0, 0))) w) :
    CallW Tryz.prog 40 [.func (.func 81) #[] #[.pointer (some ⟨b, 0, none⟩)]]
      (fun r w' => St w0 (A * imap m es c * own 3 1 r l.length (Gd.ints (l.map (·.1)))) w') w := by
  obtain ⟨D0, hown, hsz, hperm⟩ := owns_of s.drop.look hE ok hl
  have hcb : w.cell? ⟨b, 0, none⟩ = some (.map (some m)) := (cell_of s.look).trans rfl
  have hlt : b < w.heap.size := (Array.getElem?_eq_some_iff.1 s.look).1
  have hseq : SeqGives Fence.wide 2 Tryz.prog 81 #[.pointer (some ⟨b, 0, none⟩)] encZ (fun ss => ss.Perm (intKeys D0)) (Maps.size D0) w :=
    AnyZI.keys_gives (ρ := keysL_ren) { keysL with } Fence.wide _ trivial rfl (by omega) b m l.length D0 w hlt hcb hown
  have cS := AnyZI.sorted_in sortedL Fence.wide 5 trivial trivial trivial trivial rfl (by omega) (sortsL _) (enters_of Tryz.func80 (by kernel_rfl) rfl) 81 #[.pointer (some ⟨b, 0, none⟩)] trivial (enters_of Tryz.func81 (by kernel_rfl) rfl) _ (Maps.size D0) (by rw [hsz]; unfold maxLen; omega) (by rw [hsz]; omega) w hseq
  have cS2 : CallsIn Fence.wide 5 Tryz.prog 40 #[.func (.func 81) #[] #[.pointer (some ⟨b, 0, none⟩)]] w fun e w' => ∃ (v : Value) (ss : List Int), e = .returned v ∧ ss.Perm (intKeys D0) ∧
      w'.ownsRow w.heap.size 3 1 v ss.length ((ss.mergeSort (fun x y => decide (x ≤ y))).map encZ) ∧ (v = .slice none 0 0 ↔ ss = []) ∧ Below w.heap.size w w' := cS
  refine Calls.mono (callsIn_wide.1 cS2) ?_
  rintro e w' ⟨v, ss, rfl, hS, hrow, _, hb⟩
  refine ⟨v, rfl, ?_⟩
  have hp := hS.trans hperm
  have hn : ss.length = l.length := by have := hp.length_eq; simpa using this
  rw [sorted_rows ok.1 hp, hn] at hrow
  exact (St.below h0 s hb hrow).swap.drop
theorem clip_spec (v : Value) (n : Nat) (xs : List Value) (e : Nat) (w0 w : World) (A : Asn) (hn : n ≤ 4194304) (s : St w0 (A * own e 2 v n xs) w) :
    CallW Tryz.prog 42 [v] (fun r w' => St w0 (A * own e 2 r n xs) w') w := by
  obtain ⟨a, cap, rfl, hc, _⟩ := s.own_val
  refine callW_of_lift l42_ok (by simp [l42]) ?_
  simp [l42, Pu.add_zero]
  exact ⟨hc, Pu.clip_own s⟩
theorem Rows_spec (s p g : Nat) (l : List Rw) (w0 w : World) (A : Asn) (h0 : w0.drawn = 0) (ok : RwOK l) (hl : l.length ≤ 4194304) (h : St w0 (A * esc s p g l) w) :
    CallW Tryz.prog 13 [.pointer (some ⟨s, 0, none⟩)] (fun r w' => St w0 (A * esc s p g l * own 98 2 r l.length (rflat l)) w') w := by
  obtain ⟨m, es, cl, hE, h1⟩ := eopen h
  have hm : ∀ {Z : Asn} {w : World}, St w0 (A * pte s p g m * imap m es cl * Z) w → w.cell? ⟨s, 2, none⟩ = some (.map (some m)) := fun h => (cell_of h.drop.swap.look).trans rfl
  refine callW_of_lift l13_ok (by simp [l13]) ?_
  simp [l13]
  refine eff_ldc (v := .map (some m)) ((cell_of h1.swap.look).trans rfl) ?_
  simp
  refine eff_call ((keys_spec (some m) w0 w _ h1).mono ?_)
  rintro r w1 ⟨b, rfl, s1⟩
  simp
  refine eff_call ((sorted_spec m cl b es l w0 w1 _ h0 hE ok hl s1).mono ?_)
  intro kv w2 s2
  obtain ⟨ka, kcap, rfl, _⟩ := s2.own_val
  simp
  refine loopI (fun env w' => ∃ (i : Nat) (lv o3 : Value), env = [.pointer (some ⟨s, 0, none⟩), .slice none 0 0, lv, o3, .slice ka l.length kcap, .int .i64 l.length, .int .i64 i] ∧ i ≤ l.length ∧
      St w0 (A * pte s p g m * imap m es cl * own 3 1 (.slice ka l.length kcap) l.length (Gd.ints (l.map (·.1))) * own 98 2 lv i (rflat (l.take i))) w')
    (fun env _ => l.length - slotN env 6) ⟨0, _, _, rfl, by omega, s2.own_nil 98 2⟩ ?_
  clear s1 s2 h h1
  rintro LQ env w' ⟨i, lv, o3, rfl, hi, s1⟩ hN hX hR
  simp
  refine cndI (fun hc => ?_) (fun hc => ?_)
  · simp at hc
    obtain ⟨kg, kc', hv, _, hcell⟩ := s1.drop.own_at (by omega)
    cases hv
    simp [hc]
    refine eff_ldc (hcell i (.int .i64 l[i].1) (by simp [Gd.ints, hc])) ?_
    simp
    refine eff_ldc (hm (s1.to (sep_assoc _ _ _))) ?_
    simp
    refine eff_lookI escT (m := m) (es := es) (c := cl) s1.drop.drop.look ?_
    rw [(hE.get ok l[i].1).1]
    have hcn : cns l l[i].1 = l[i].2 := cns_mem ok.ne (List.getElem_mem hc)
    rw [hcn]
    simp [Instr.fill, Value.cells]
    refine eff_bslV (v := .agg l[i].cs.toArray) s1 rfl fun c w3 s3 => ?_
    simp
    refine eff_app (m := 1) (news := l[i].cs) s3.swap rfl s3.cells_look (rw_one _) (by decide) rfl (by unfold maxLen; omega) (by omega) fun v2 w4 s4 => ?_
    have e1 : rflat (l.take i) ++ l[i].cs = rflat (l.take (i + 1)) := by
      unfold rflat
      rw [List.take_succ_eq_append_getElem hc, List.flatMap_append]
      simp only [List.flatMap_cons, List.flatMap_nil, List.append_nil]
    rw [e1] at s4
    simp
    try simp (disch := omega) only [wrap64]
    exact hN _ _ ⟨i + 1, v2, _, by simp; rfl, by omega, s4.swap.drop⟩ (by simp [slotN]; omega)
  · simp at hc
    simp
    refine hX _ _ _ ?_
    have : i = l.length := by omega
    subst this
    rw [List.take_length] at s1
    simp
    refine eff_call ((clip_spec lv _ _ _ w0 w' _ hl s1).mono ?_)
    intro r w3 s3
    simp
    have := eclose (A := A * own 98 2 r l.length (rflat l)) hE (s3.cut (own 3 1 (.slice ka l.length kcap) l.length (Gd.ints (l.map (·.1)))) (by ac_rfl))
    exact this.swap
end Go.HL.Es

namespace Go.HL.Es
open Go.HL Go.Proofs
set_option maxRecDepth 4000
set_option linter.unusedSimpArgs false
set_option linter.unusedVariables false

def tailC (B : Asn) (w0 : World) (E : Eco) (cv : Int) : List Value → World → Prop
  | [], w => St w0 B w
  | [r], w => r = .int .u64 cv ∧ St w0 B w
  | [_, r], w => St w0 (B * own 98 2 r E.l.length (rflat E.l)) w
  | [_, _, r], w => r = .bool true ∧ St w0 B w
  | [_, _, _, r], w => St w0 (B * own 98 2 r E.l.length (rflat E.l)) w
  | [_, _, _, _, r], w => r = .int .u64 E.P.held ∧ St w0 B w
  | [_, _, _, _, _, r], w => r = .int .u64 E.P.held ∧ St w0 B w
  | _, _ => False
section
variable (Q : EX → List Value → World → Prop) (p g s c : Nat) (lp lg own inn no : Int) (o : So) (E0 E : Eco) (vh : Value) (w0 w : World) (B : Asn) (o0 o1 o2 o3 o5 o7 o9 o10 o12 o13 o17 o18 o19 o21 o22 : Value)
end
end Go.HL.Es

namespace Go.HL.Es
open Go.HL Go.Proofs
set_option maxRecDepth 4000
set_option linter.unusedSimpArgs false
set_option linter.unusedVariables false
section
variable (Q : EX → List Value → World → Prop) (p g s c : Nat) (lp lg own inn no : Int) (o : So) (E0 E : Eco) (vh : Value) (w0 w : World) (B : Asn) (a12 a13 a18 a19 : Option Addr) (c12 c13 c18 c19 : Nat) (o0 o1 o2 o3 o5 o7 o9 o10 o17 o20 o21 o22 z0 : Value)
end
end Go.HL.Es

namespace Go.HL.Es
open Go.HL Go.Proofs
set_option maxRecDepth 4000
set_option linter.unusedSimpArgs false
set_option linter.unusedVariables false
def soT (o : So) (k : Int) : Int := (if o.kind = 1 then 0 else toK k o.gs) - (if o.kind ≠ 3 ∧ o.e.x.acc = k then o.e.x.coins else 0)
def toldF (o : So) (no : Int) : So := if no = 0 then o else ⟨3, o.con, .slice none 0 0, [], ⟨⟨0, 0, 0⟩, 0, .slice none 0 0⟩⟩
theorem rows_len {l : List Rw} {c : Int} (h : RwOK l) : l.length ≤ (del c l).length + 1 := by
  have key : ∀ l : List Rw, l.Pairwise (fun a b => a.1 ≠ b.1) → l.length ≤ (del c l).length + 1 := by
    intro l
    induction l with
    | nil => intro _; simp
    | cons r t ih =>
      intro hp
      obtain ⟨h1, h2⟩ := List.pairwise_cons.1 hp
      by_cases e : r.1 = c
      · have : del c (r :: t) = del c t := by simp [del, e]
        rw [this, del_none fun x hx => by have := h1 x hx; omega]
        simp
      · have : del c (r :: t) = r :: del c t := by simp [del, e]
        rw [this]
        have := ih h2
        simp; omega
  exact key l h.ne
end Go.HL.Es

namespace Go.HL.Es
open Go.HL Go.Proofs
set_option maxRecDepth 4000
set_option linter.unusedSimpArgs false
set_option linter.unusedVariables false
section
variable (Q : EX → List Value → World → Prop) (p g s b c : Nat) (lp lg own no sup d : Int) (o : So) (E0 E : Eco) (w0 w : World) (A : Asn) (a12 a13 a14 : Option Addr) (c12 c13 c14 : Nat) (o0 o1 o3 o5 o7 o9 o10 o17 o18 o19 o20 o21 o22 : Value)
end
def oflat (l : List So) : List Value := l.flatMap So.cs
theorem oflat_at {l : List So} {i : Nat} (h : i < l.length) : ∀ j u, (l[i].cs)[j]? = some u → (oflat l)[i * 8 + j]? = some u := by
  intro j u hu
  have hj : j < 8 := (List.getElem?_eq_some_iff.1 hu).1
  unfold oflat
  rw [flat_get So.cs 8 (fun _ => rfl) l i j h hj]
  exact hu
end Go.HL.Es

namespace Go.HL.Pu
open Go.HL Go.HL.Nm Go.Proofs
set_option maxRecDepth 4000
set_option linter.unusedSimpArgs false
set_option linter.unusedVariables false
def nms (l : List Ac) : List (List UInt8) := l.map Ac.name
structure NI (ns : List (List UInt8)) : Prop where
  chk : ∀ n ∈ ns, (checkF n).2 = 0
  nod : (ns.map keyF).Nodup
  bank : ns[0]? = some bankB
end Go.HL.Pu

namespace Go.HL.Pu
open Go.HL Go.HL.Nm Go.Proofs
set_option maxRecDepth 4000
set_option linter.unusedSimpArgs false
set_option linter.unusedVariables false
end Go.HL.Pu

namespace Go.HL.Pu
open Go.HL Go.HL.Nm Go.Proofs
set_option maxRecDepth 4000
set_option linter.unusedSimpArgs false
set_option linter.unusedVariables false
abbrev rpt (q : Nat) (P : Ps) (v : Value) : Asn := pt q (.cells #[.int .i64 P.lim, v, .int .u64 P.sup] 154 (0, 0))
def rpur (q : Nat) (P : Ps) : Asn := fun h => ∃ v, (rpt q P v * own 58 2 v P.rows.length (flat P.rows)) h
theorem ropen {w0 w : World} {A : Asn} {q : Nat} {P : Ps} (s : St w0 (A * rpur q P) w) : ∃ v, St w0 (A * rpt q P v * own 58 2 v P.rows.length (flat P.rows)) w := by
  obtain ⟨g, h1, h2, h3, d, e, a, v, b⟩ := s.holds
  refine ⟨v, ?_⟩
  rw [sep_assoc]
  exact s.of ⟨g, h1, h2, h3, d, e, a, b⟩
theorem rclose {w0 w : World} {A : Asn} {q : Nat} {P : Ps} {v : Value} (s : St w0 (A * rpt q P v * own 58 2 v P.rows.length (flat P.rows)) w) : St w0 (A * rpur q P) w := by
  rw [sep_assoc] at s
  obtain ⟨g, h1, h2, h3, d, e, a, b⟩ := s.holds
  exact s.of ⟨g, h1, h2, h3, d, e, a, v, b⟩
theorem st_coin2 {w0 w : World} {A : Asn} {g cap i n : Nat} {c : Int} {l : List Ac} (hi : i < l.length) (hn : l.length = n)
    (s : St w0 (A * own 58 2 (.slice (some ⟨g, 0, none⟩) n cap) n (flat l)) w) {K : Value → World → Prop}
    (hk : ∀ w', St w0 (A * own 58 2 (.slice (some ⟨g, 0, none⟩) n cap) n (flat (setC l i c))) w' → K undef w') :
    EffW Tryz.prog (.st 1) [.pointer (some ⟨g, i * 2 + 1, none⟩), .int .u64 c] K w := by
  have hfl := flat_len l
  refine eff_stC (u := .int .u64 c) s (by omega) rfl ?_
  intro w3 s4
  rw [setC_at hi] at s4
  exact hk w3 s4

def h89_0 : HC := (.seq (.reg (.eff (.call 120) (.cons (.inp 0) .nil) (.eff (.call 120) (.cons (.inp 1) .nil) (.chk none (.bin .eql) (.cons (.bv 0) (.cons (.bv 1) .nil)) (.done [(2, (.op (.bin .eql) (.cons (.bv 0) (.cons (.bv 1) .nil))))] none))))) .ret)
@[simp] theorem h89_0_wp : type_of% (@wpH h89_0 _ h89_0.eq_1) := wpH h89_0.eq_1
def l89 : Lifted := ⟨[0, 1, 4], 10, [.slot 2], (.seq (.reg (.done [(2, (.cst (.bool false)))] none)) h89_0)⟩
theorem l89_ok : liftFn U1 89 400 = some l89 := by kernel_rfl

def h97_0 : HC := (.seq (.reg (.chk none (.bin .geq) (.cons (.inp 1) (.cons (.cst (.int .i64 0)) .nil)) (.bnd (.op (.bin .geq) (.cons (.inp 1) (.cons (.cst (.int .i64 0)) .nil))) (.chk (some ((.bv 0), true)) .chkp (.cons (.inp 0) .nil) (.chk (some ((.bv 0), true)) (.fld 1) (.cons (.op .chkp (.cons (.inp 0) .nil)) .nil) (.ite (.bv 0) true (.eff (.ld false 1) (.cons (.ite (.bv 0) true (.op (.fld 1) (.cons (.op .chkp (.cons (.inp 0) .nil)) .nil)) (.cst (.tuple #[]))) .nil) (.chk none .lenL (.cons (.bv 1) .nil) (.chk none (.bin .lss) (.cons (.ite (.bv 0) true (.inp 1) (.cst (.tuple #[]))) (.cons (.op .lenL (.cons (.bv 1) .nil)) .nil)) (.isb none (.bv 0) (.done [(2, (.op (.bin .lss) (.cons (.ite (.bv 0) true (.inp 1) (.cst (.tuple #[]))) (.cons (.op .lenL (.cons (.bv 1) .nil)) .nil))))] none))))) (.isb none (.bv 0) (.done [(2, (.cst (.bool false)))] none)))))))) .ret)
@[simp] theorem h97_0_wp : type_of% (@wpH h97_0 _ h97_0.eq_1) := wpH h97_0.eq_1
def l97 : Lifted := ⟨[0, 1, 4], 16, [.slot 2], (.seq (.reg (.done [(2, (.cst (.bool false)))] none)) h97_0)⟩
theorem l97_ok : liftFn U1 97 400 = some l97 := by kernel_rfl

def h58_0 : HC := (.seq (.reg (.done [(3, (.cst (.int .i64 0)))] none)) .ret)
@[simp] theorem h58_0_wp : type_of% (@wpH h58_0 _ h58_0.eq_1) := wpH h58_0.eq_1
def h58_1 : HC := (.seq (.regq (some 1) (.chk none .chkp (.cons (.inp 0) .nil) (.chk none (.fld 1) (.cons (.op .chkp (.cons (.inp 0) .nil)) .nil) (.eff (.ld false 1) (.cons (.op (.fld 1) (.cons (.op .chkp (.cons (.inp 0) .nil)) .nil)) .nil) (.chk none .chkp (.cons (.inp 0) .nil) (.chk none (.fld 1) (.cons (.op .chkp (.cons (.inp 0) .nil)) .nil) (.eff (.ld false 1) (.cons (.op (.fld 1) (.cons (.op .chkp (.cons (.inp 0) .nil)) .nil)) .nil) (.chk none (.idxL 2) (.cons (.bv 1) (.cons (.inp 1) .nil)) (.chk none (.fld 1) (.cons (.op (.idxL 2) (.cons (.bv 1) (.cons (.inp 1) .nil))) .nil) (.eff (.ld false 1) (.cons (.op (.fld 1) (.cons (.op (.idxL 2) (.cons (.bv 1) (.cons (.inp 1) .nil))) .nil)) .nil) (.chk none (.bin .add) (.cons (.bv 2) (.cons (.inp 2) .nil)) (.chk none (.idxL 2) (.cons (.bv 0) (.cons (.inp 1) .nil)) (.chk none (.fld 1) (.cons (.op (.idxL 2) (.cons (.bv 0) (.cons (.inp 1) .nil))) .nil) (.eff (.st 1) (.cons (.op (.fld 1) (.cons (.op (.idxL 2) (.cons (.bv 0) (.cons (.inp 1) .nil))) .nil)) (.cons (.op (.bin .add) (.cons (.bv 2) (.cons (.inp 2) .nil))) .nil)) (.done [] none))))))))))))))) h58_0)
@[simp] theorem h58_1_wp : type_of% (@wpH h58_1 _ h58_1.eq_1) := wpH h58_1.eq_1
def h58_2 : HC := (.seq (.reg (.chk none .chkp (.cons (.inp 0) .nil) (.chk none (.fld 2) (.cons (.op .chkp (.cons (.inp 0) .nil)) .nil) (.eff (.ld false 1) (.cons (.op (.fld 2) (.cons (.op .chkp (.cons (.inp 0) .nil)) .nil)) .nil) (.chk none (.bin .add) (.cons (.bv 0) (.cons (.inp 2) .nil)) (.chk none .chkp (.cons (.inp 0) .nil) (.chk none (.fld 2) (.cons (.op .chkp (.cons (.inp 0) .nil)) .nil) (.eff (.st 1) (.cons (.op (.fld 2) (.cons (.op .chkp (.cons (.inp 0) .nil)) .nil)) (.cons (.op (.bin .add) (.cons (.bv 0) (.cons (.inp 2) .nil))) .nil)) (.done [] none))))))))) h58_1)
@[simp] theorem h58_2_wp : type_of% (@wpH h58_2 _ h58_2.eq_1) := wpH h58_2.eq_1
def h58_3 : HC := (.seq (.reg (.done [(3, (.cst (.int .i64 144)))] none)) .ret)
@[simp] theorem h58_3_wp : type_of% (@wpH h58_3 _ h58_3.eq_1) := wpH h58_3.eq_1
def h58_4 : HC := (.seq (.br (.chk none (.bin .gtr) (.cons (.inp 2) (.cons (.cst (.int .u64 4611686018427387904)) .nil)) (.bnd (.op (.bin .gtr) (.cons (.inp 2) (.cons (.cst (.int .u64 4611686018427387904)) .nil))) (.chk (some ((.bv 0), false)) .chkp (.cons (.inp 0) .nil) (.chk (some ((.bv 0), false)) (.fld 2) (.cons (.op .chkp (.cons (.inp 0) .nil)) .nil) (.ite (.bv 0) false (.eff (.ld false 1) (.cons (.ite (.bv 0) false (.op (.fld 2) (.cons (.op .chkp (.cons (.inp 0) .nil)) .nil)) (.cst (.tuple #[]))) .nil) (.chk none (.bin .add) (.cons (.bv 1) (.cons (.inp 2) .nil)) (.chk none (.bin .gtr) (.cons (.op (.bin .add) (.cons (.bv 1) (.cons (.inp 2) .nil))) (.cons (.cst (.int .u64 4611686018427387904)) .nil)) (.isb none (.bv 0) (.done [] (some (.op (.bin .gtr) (.cons (.op (.bin .add) (.cons (.bv 1) (.cons (.inp 2) .nil))) (.cons (.cst (.int .u64 4611686018427387904)) .nil))))))))) (.isb none (.bv 0) (.done [] (some (.cst (.bool true)))))))))) h58_3 .skip) h58_2)
@[simp] theorem h58_4_wp : type_of% (@wpH h58_4 _ h58_4.eq_1) := wpH h58_4.eq_1
def h58_5 : HC := (.seq (.reg (.done [(3, (.cst (.int .i64 2)))] none)) .ret)
@[simp] theorem h58_5_wp : type_of% (@wpH h58_5 _ h58_5.eq_1) := wpH h58_5.eq_1
def h58_6 : HC := (.seq (.br (.chk none (.bin .eql) (.cons (.inp 2) (.cons (.cst (.int .u64 0)) .nil)) (.done [] (some (.op (.bin .eql) (.cons (.inp 2) (.cons (.cst (.int .u64 0)) .nil)))))) h58_5 .skip) h58_4)
@[simp] theorem h58_6_wp : type_of% (@wpH h58_6 _ h58_6.eq_1) := wpH h58_6.eq_1
def h58_7 : HC := (.seq (.reg (.done [(3, (.cst (.int .i64 142)))] none)) .ret)
@[simp] theorem h58_7_wp : type_of% (@wpH h58_7 _ h58_7.eq_1) := wpH h58_7.eq_1
def h58_8 : HC := (.seq (.br (.eff (.call 97) (.cons (.inp 0) (.cons (.inp 1) .nil)) (.chk none (.un .not) (.cons (.bv 0) .nil) (.done [] (some (.op (.un .not) (.cons (.bv 0) .nil)))))) h58_7 .skip) h58_6)
@[simp] theorem h58_8_wp : type_of% (@wpH h58_8 _ h58_8.eq_1) := wpH h58_8.eq_1
def h58_9 : HC := (.seq (.reg (.done [(3, (.cst (.int .i64 1)))] none)) .ret)
@[simp] theorem h58_9_wp : type_of% (@wpH h58_9 _ h58_9.eq_1) := wpH h58_9.eq_1
def h58_10 : HC := (.seq (.br (.chk none (.eqNil false (.pointer 154) (.pointer none)) (.cons (.inp 0) .nil) (.done [] (some (.op (.eqNil false (.pointer 154) (.pointer none)) (.cons (.inp 0) .nil))))) h58_9 .skip) h58_8)
@[simp] theorem h58_10_wp : type_of% (@wpH h58_10 _ h58_10.eq_1) := wpH h58_10.eq_1
def l58 : Lifted := ⟨[0, 1, 2, 6], 52, [.slot 3], (.seq (.reg (.done [(3, (.cst (.int .i64 0)))] none)) h58_10)⟩
theorem l58_ok : liftFn U1 58 400 = some l58 := by kernel_rfl

def h125_0 : HC := (.seq (.reg (.done [(3, (.cst (.int .i64 0)))] none)) .ret)
@[simp] theorem h125_0_wp : type_of% (@wpH h125_0 _ h125_0.eq_1) := wpH h125_0.eq_1
def h125_1 : HC := (.seq (.regq (some 1) (.chk none .chkp (.cons (.inp 0) .nil) (.chk none (.fld 1) (.cons (.op .chkp (.cons (.inp 0) .nil)) .nil) (.eff (.ld false 1) (.cons (.op (.fld 1) (.cons (.op .chkp (.cons (.inp 0) .nil)) .nil)) .nil) (.chk none .chkp (.cons (.inp 0) .nil) (.chk none (.fld 1) (.cons (.op .chkp (.cons (.inp 0) .nil)) .nil) (.eff (.ld false 1) (.cons (.op (.fld 1) (.cons (.op .chkp (.cons (.inp 0) .nil)) .nil)) .nil) (.chk none (.idxL 2) (.cons (.bv 1) (.cons (.inp 1) .nil)) (.chk none (.fld 1) (.cons (.op (.idxL 2) (.cons (.bv 1) (.cons (.inp 1) .nil))) .nil) (.eff (.ld false 1) (.cons (.op (.fld 1) (.cons (.op (.idxL 2) (.cons (.bv 1) (.cons (.inp 1) .nil))) .nil)) .nil) (.chk none (.bin .sub) (.cons (.bv 2) (.cons (.inp 2) .nil)) (.chk none (.idxL 2) (.cons (.bv 0) (.cons (.inp 1) .nil)) (.chk none (.fld 1) (.cons (.op (.idxL 2) (.cons (.bv 0) (.cons (.inp 1) .nil))) .nil) (.eff (.st 1) (.cons (.op (.fld 1) (.cons (.op (.idxL 2) (.cons (.bv 0) (.cons (.inp 1) .nil))) .nil)) (.cons (.op (.bin .sub) (.cons (.bv 2) (.cons (.inp 2) .nil))) .nil)) (.done [] none))))))))))))))) h125_0)
@[simp] theorem h125_1_wp : type_of% (@wpH h125_1 _ h125_1.eq_1) := wpH h125_1.eq_1
def h125_2 : HC := (.seq (.reg (.done [(3, (.cst (.int .i64 143)))] none)) .ret)
@[simp] theorem h125_2_wp : type_of% (@wpH h125_2 _ h125_2.eq_1) := wpH h125_2.eq_1
def h125_3 : HC := (.seq (.br (.chk none .chkp (.cons (.inp 0) .nil) (.chk none (.fld 1) (.cons (.op .chkp (.cons (.inp 0) .nil)) .nil) (.eff (.ld false 1) (.cons (.op (.fld 1) (.cons (.op .chkp (.cons (.inp 0) .nil)) .nil)) .nil) (.chk none (.idxL 2) (.cons (.bv 0) (.cons (.inp 1) .nil)) (.chk none (.fld 1) (.cons (.op (.idxL 2) (.cons (.bv 0) (.cons (.inp 1) .nil))) .nil) (.eff (.ld false 1) (.cons (.op (.fld 1) (.cons (.op (.idxL 2) (.cons (.bv 0) (.cons (.inp 1) .nil))) .nil)) .nil) (.chk none (.bin .lss) (.cons (.bv 1) (.cons (.inp 2) .nil)) (.done [] (some (.op (.bin .lss) (.cons (.bv 1) (.cons (.inp 2) .nil)))))))))))) h125_2 .skip) h125_1)
@[simp] theorem h125_3_wp : type_of% (@wpH h125_3 _ h125_3.eq_1) := wpH h125_3.eq_1
def h125_4 : HC := (.seq (.reg (.done [(3, (.cst (.int .i64 142)))] none)) .ret)
@[simp] theorem h125_4_wp : type_of% (@wpH h125_4 _ h125_4.eq_1) := wpH h125_4.eq_1
def h125_5 : HC := (.seq (.br (.eff (.call 97) (.cons (.inp 0) (.cons (.inp 1) .nil)) (.chk none (.un .not) (.cons (.bv 0) .nil) (.done [] (some (.op (.un .not) (.cons (.bv 0) .nil)))))) h125_4 .skip) h125_3)
@[simp] theorem h125_5_wp : type_of% (@wpH h125_5 _ h125_5.eq_1) := wpH h125_5.eq_1
def h125_6 : HC := (.seq (.reg (.done [(3, (.cst (.int .i64 1)))] none)) .ret)
@[simp] theorem h125_6_wp : type_of% (@wpH h125_6 _ h125_6.eq_1) := wpH h125_6.eq_1
def h125_7 : HC := (.seq (.br (.chk none (.eqNil false (.pointer 154) (.pointer none)) (.cons (.inp 0) .nil) (.done [] (some (.op (.eqNil false (.pointer 154) (.pointer none)) (.cons (.inp 0) .nil))))) h125_6 .skip) h125_5)
@[simp] theorem h125_7_wp : type_of% (@wpH h125_7 _ h125_7.eq_1) := wpH h125_7.eq_1
def l125 : Lifted := ⟨[0, 1, 2, 6], 40, [.slot 3], (.seq (.reg (.done [(3, (.cst (.int .i64 0)))] none)) h125_7)⟩
theorem l125_ok : liftFn U1 125 400 = some l125 := by kernel_rfl

def h156_0 : HC := (.seq (.reg (.done [(3, (.cst (.int .i64 0)))] none)) .ret)
@[simp] theorem h156_0_wp : type_of% (@wpH h156_0 _ h156_0.eq_1) := wpH h156_0.eq_1
def h156_1 : HC := (.seq (.regq (some 1) (.chk none .chkp (.cons (.inp 0) .nil) (.chk none (.fld 1) (.cons (.op .chkp (.cons (.inp 0) .nil)) .nil) (.eff (.ld false 1) (.cons (.op (.fld 1) (.cons (.op .chkp (.cons (.inp 0) .nil)) .nil)) .nil) (.chk none .chkp (.cons (.inp 0) .nil) (.chk none (.fld 1) (.cons (.op .chkp (.cons (.inp 0) .nil)) .nil) (.eff (.ld false 1) (.cons (.op (.fld 1) (.cons (.op .chkp (.cons (.inp 0) .nil)) .nil)) .nil) (.chk none (.idxL 2) (.cons (.bv 1) (.cons (.inp 1) .nil)) (.chk none (.fld 1) (.cons (.op (.idxL 2) (.cons (.bv 1) (.cons (.inp 1) .nil))) .nil) (.eff (.ld false 1) (.cons (.op (.fld 1) (.cons (.op (.idxL 2) (.cons (.bv 1) (.cons (.inp 1) .nil))) .nil)) .nil) (.chk none (.bin .add) (.cons (.bv 2) (.cons (.inp 2) .nil)) (.chk none (.idxL 2) (.cons (.bv 0) (.cons (.inp 1) .nil)) (.chk none (.fld 1) (.cons (.op (.idxL 2) (.cons (.bv 0) (.cons (.inp 1) .nil))) .nil) (.eff (.st 1) (.cons (.op (.fld 1) (.cons (.op (.idxL 2) (.cons (.bv 0) (.cons (.inp 1) .nil))) .nil)) (.cons (.op (.bin .add) (.cons (.bv 2) (.cons (.inp 2) .nil))) .nil)) (.done [] none))))))))))))))) h156_0)
@[simp] theorem h156_1_wp : type_of% (@wpH h156_1 _ h156_1.eq_1) := wpH h156_1.eq_1
def h156_2 : HC := (.seq (.reg (.done [(3, (.cst (.int .i64 143)))] none)) .ret)
@[simp] theorem h156_2_wp : type_of% (@wpH h156_2 _ h156_2.eq_1) := wpH h156_2.eq_1
def h156_3 : HC := (.seq (.br (.eff (.call 68) (.cons (.inp 0) .nil) (.chk none (.bin .lss) (.cons (.bv 0) (.cons (.inp 2) .nil)) (.done [] (some (.op (.bin .lss) (.cons (.bv 0) (.cons (.inp 2) .nil))))))) h156_2 .skip) h156_1)
@[simp] theorem h156_3_wp : type_of% (@wpH h156_3 _ h156_3.eq_1) := wpH h156_3.eq_1
def h156_4 : HC := (.seq (.reg (.done [(3, (.cst (.int .i64 142)))] none)) .ret)
@[simp] theorem h156_4_wp : type_of% (@wpH h156_4 _ h156_4.eq_1) := wpH h156_4.eq_1
def h156_5 : HC := (.seq (.br (.eff (.call 97) (.cons (.inp 0) (.cons (.inp 1) .nil)) (.chk none (.un .not) (.cons (.bv 0) .nil) (.done [] (some (.op (.un .not) (.cons (.bv 0) .nil)))))) h156_4 .skip) h156_3)
@[simp] theorem h156_5_wp : type_of% (@wpH h156_5 _ h156_5.eq_1) := wpH h156_5.eq_1
def h156_6 : HC := (.seq (.reg (.done [(3, (.cst (.int .i64 1)))] none)) .ret)
@[simp] theorem h156_6_wp : type_of% (@wpH h156_6 _ h156_6.eq_1) := wpH h156_6.eq_1
def h156_7 : HC := (.seq (.br (.chk none (.eqNil false (.pointer 154) (.pointer none)) (.cons (.inp 0) .nil) (.done [] (some (.op (.eqNil false (.pointer 154) (.pointer none)) (.cons (.inp 0) .nil))))) h156_6 .skip) h156_5)
@[simp] theorem h156_7_wp : type_of% (@wpH h156_7 _ h156_7.eq_1) := wpH h156_7.eq_1
def l156 : Lifted := ⟨[0, 1, 2, 6], 34, [.slot 3], (.seq (.reg (.done [(3, (.cst (.int .i64 0)))] none)) h156_7)⟩
theorem l156_ok : liftFn U1 156 400 = some l156 := by kernel_rfl

def h123_0 : HC := (.seq (.reg (.chk none .chkp (.cons (.inp 0) .nil) (.chk none (.fld 1) (.cons (.op .chkp (.cons (.inp 0) .nil)) .nil) (.eff (.ld false 1) (.cons (.op (.fld 1) (.cons (.op .chkp (.cons (.inp 0) .nil)) .nil)) .nil) (.chk none (.idxL 2) (.cons (.bv 0) (.cons (.inp 1) .nil)) (.eff (.ld true 2) (.cons (.op (.idxL 2) (.cons (.bv 0) (.cons (.inp 1) .nil))) .nil) (.eff (.st 2) (.cons (.inp 2) (.cons (.bv 1) .nil)) (.done [(3, (.cst (.int .i64 0)))] none)))))))) .ret)
@[simp] theorem h123_0_wp : type_of% (@wpH h123_0 _ h123_0.eq_1) := wpH h123_0.eq_1
def h123_1 : HC := (.seq (.reg (.chk none (.build #[(.string ⟨#[]⟩), (.int .u64 0)] [(0, 1), (1, 1)] []) .nil (.eff (.st 2) (.cons (.inp 2) (.cons (.op (.build #[(.string ⟨#[]⟩), (.int .u64 0)] [(0, 1), (1, 1)] []) .nil) .nil)) (.done [(3, (.cst (.int .i64 142)))] none)))) .ret)
@[simp] theorem h123_1_wp : type_of% (@wpH h123_1 _ h123_1.eq_1) := wpH h123_1.eq_1
def h123_2 : HC := (.seq (.br (.eff (.call 97) (.cons (.inp 0) (.cons (.inp 1) .nil)) (.chk none (.un .not) (.cons (.bv 0) .nil) (.done [] (some (.op (.un .not) (.cons (.bv 0) .nil)))))) h123_1 .skip) h123_0)
@[simp] theorem h123_2_wp : type_of% (@wpH h123_2 _ h123_2.eq_1) := wpH h123_2.eq_1
def h123_3 : HC := (.seq (.reg (.chk none (.build #[(.string ⟨#[]⟩), (.int .u64 0)] [(0, 1), (1, 1)] []) .nil (.eff (.st 2) (.cons (.inp 2) (.cons (.op (.build #[(.string ⟨#[]⟩), (.int .u64 0)] [(0, 1), (1, 1)] []) .nil) .nil)) (.done [(3, (.cst (.int .i64 1)))] none)))) .ret)
@[simp] theorem h123_3_wp : type_of% (@wpH h123_3 _ h123_3.eq_1) := wpH h123_3.eq_1
def h123_4 : HC := (.seq (.br (.chk none (.eqNil false (.pointer 154) (.pointer none)) (.cons (.inp 0) .nil) (.done [] (some (.op (.eqNil false (.pointer 154) (.pointer none)) (.cons (.inp 0) .nil))))) h123_3 .skip) h123_2)
@[simp] theorem h123_4_wp : type_of% (@wpH h123_4 _ h123_4.eq_1) := wpH h123_4.eq_1
def l123 : Lifted := ⟨[0, 1, 4, 5], 21, [.cell 2 true 2, .slot 3], (.seq (.reg (.eff (.new 58 (.agg #[(.string ⟨#[]⟩), (.int .u64 0)])) .nil (.done [(2, (.bv 0)), (3, (.cst (.int .i64 0)))] none))) h123_4)⟩
theorem l123_ok : liftFn U1 123 400 = some l123 := by kernel_rfl

def h69_0 : HC := (.seq (.reg (.chk none .chkp (.cons (.inp 0) .nil) (.chk none (.fld 2) (.cons (.op .chkp (.cons (.inp 0) .nil)) .nil) (.eff (.ld false 1) (.cons (.op (.fld 2) (.cons (.op .chkp (.cons (.inp 0) .nil)) .nil)) .nil) (.done [(1, (.bv 0))] none))))) .ret)
@[simp] theorem h69_0_wp : type_of% (@wpH h69_0 _ h69_0.eq_1) := wpH h69_0.eq_1
def h69_1 : HC := (.seq (.reg (.done [(1, (.cst (.int .u64 0)))] none)) .ret)
@[simp] theorem h69_1_wp : type_of% (@wpH h69_1 _ h69_1.eq_1) := wpH h69_1.eq_1
def h69_2 : HC := (.seq (.br (.chk none (.eqNil false (.pointer 154) (.pointer none)) (.cons (.inp 0) .nil) (.done [] (some (.op (.eqNil false (.pointer 154) (.pointer none)) (.cons (.inp 0) .nil))))) h69_1 .skip) h69_0)
@[simp] theorem h69_2_wp : type_of% (@wpH h69_2 _ h69_2.eq_1) := wpH h69_2.eq_1
def l69 : Lifted := ⟨[0, 2], 9, [.slot 1], (.seq (.reg (.done [(1, (.cst (.int .u64 0)))] none)) h69_2)⟩
theorem l69_ok : liftFn U1 69 400 = some l69 := by kernel_rfl

def h68_0 : HC := (.seq (.reg (.done [(1, (.inp 2))] none)) .ret)
@[simp] theorem h68_0_wp : type_of% (@wpH h68_0 _ h68_0.eq_1) := wpH h68_0.eq_1
def h68_1 : HC := (.reg (.chk none (.bin .add) (.cons (.inp 3) (.cons (.cst (.int .i64 1)) .nil)) (.done [(3, (.op (.bin .add) (.cons (.inp 3) (.cons (.cst (.int .i64 1)) .nil))))] none)))
@[simp] theorem h68_1_wp : type_of% (@wpH h68_1 _ h68_1.eq_1) := wpH h68_1.eq_1
def h68_2 : HC := (.reg (.chk none .chkp (.cons (.inp 0) .nil) (.chk none (.fld 1) (.cons (.op .chkp (.cons (.inp 0) .nil)) .nil) (.eff (.ld false 1) (.cons (.op (.fld 1) (.cons (.op .chkp (.cons (.inp 0) .nil)) .nil)) .nil) (.chk none (.idxL 2) (.cons (.bv 0) (.cons (.inp 3) .nil)) (.chk none (.fld 1) (.cons (.op (.idxL 2) (.cons (.bv 0) (.cons (.inp 3) .nil))) .nil) (.eff (.ld false 1) (.cons (.op (.fld 1) (.cons (.op (.idxL 2) (.cons (.bv 0) (.cons (.inp 3) .nil))) .nil)) .nil) (.chk none (.bin .sub) (.cons (.inp 2) (.cons (.bv 1) .nil)) (.done [(2, (.op (.bin .sub) (.cons (.inp 2) (.cons (.bv 1) .nil))))] none)))))))))
@[simp] theorem h68_2_wp : type_of% (@wpH h68_2 _ h68_2.eq_1) := wpH h68_2.eq_1
def h68_3 : HC := (.seq (.block 1 h68_2) h68_1)
@[simp] theorem h68_3_wp : type_of% (@wpH h68_3 _ h68_3.eq_1) := wpH h68_3.eq_1
def h68_4 : HC := (.seq (.br (.chk none .chkp (.cons (.inp 0) .nil) (.chk none (.fld 1) (.cons (.op .chkp (.cons (.inp 0) .nil)) .nil) (.eff (.ld false 1) (.cons (.op (.fld 1) (.cons (.op .chkp (.cons (.inp 0) .nil)) .nil)) .nil) (.chk none .lenL (.cons (.bv 0) .nil) (.chk none (.bin .lss) (.cons (.inp 3) (.cons (.op .lenL (.cons (.bv 0) .nil)) .nil)) (.done [] (some (.op (.bin .lss) (.cons (.inp 3) (.cons (.op .lenL (.cons (.bv 0) .nil)) .nil)))))))))) .skip (.exit 0)) h68_3)
@[simp] theorem h68_4_wp : type_of% (@wpH h68_4 _ h68_4.eq_1) := wpH h68_4.eq_1
def h68_5 : HC := (.loop h68_4)
@[simp] theorem h68_5_wp : type_of% (@wpH h68_5 _ h68_5.eq_1) := wpH h68_5.eq_1
def h68_6 : HC := (.seq (.block 0 h68_5) h68_0)
@[simp] theorem h68_6_wp : type_of% (@wpH h68_6 _ h68_6.eq_1) := wpH h68_6.eq_1
def h68_7 : HC := (.seq (.reg (.done [(3, (.cst (.int .i64 0)))] none)) h68_6)
@[simp] theorem h68_7_wp : type_of% (@wpH h68_7 _ h68_7.eq_1) := wpH h68_7.eq_1
def h68_8 : HC := (.seq (.reg (.chk none .chkp (.cons (.inp 0) .nil) (.chk none (.fld 2) (.cons (.op .chkp (.cons (.inp 0) .nil)) .nil) (.eff (.ld false 1) (.cons (.op (.fld 2) (.cons (.op .chkp (.cons (.inp 0) .nil)) .nil)) .nil) (.done [(2, (.bv 0))] none))))) h68_7)
@[simp] theorem h68_8_wp : type_of% (@wpH h68_8 _ h68_8.eq_1) := wpH h68_8.eq_1
def h68_9 : HC := (.seq (.reg (.done [(1, (.cst (.int .u64 0)))] none)) .ret)
@[simp] theorem h68_9_wp : type_of% (@wpH h68_9 _ h68_9.eq_1) := wpH h68_9.eq_1
def h68_10 : HC := (.seq (.br (.chk none (.eqNil false (.pointer 154) (.pointer none)) (.cons (.inp 0) .nil) (.done [] (some (.op (.eqNil false (.pointer 154) (.pointer none)) (.cons (.inp 0) .nil))))) h68_9 .skip) h68_8)
@[simp] theorem h68_10_wp : type_of% (@wpH h68_10 _ h68_10.eq_1) := wpH h68_10.eq_1
def l68 : Lifted := ⟨[0, 2, 3, 4], 31, [.slot 1], (.seq (.reg (.done [(1, (.cst (.int .u64 0)))] none)) h68_10)⟩
theorem l68_ok : liftFn U1 68 400 = some l68 := by kernel_rfl

def h67_0 : HC := (.seq (.reg (.chk none .chkp (.cons (.inp 0) .nil) (.chk none (.fld 1) (.cons (.op .chkp (.cons (.inp 0) .nil)) .nil) (.eff (.ld false 1) (.cons (.op (.fld 1) (.cons (.op .chkp (.cons (.inp 0) .nil)) .nil)) .nil) (.eff (.app 22 22 58 2 24 (.agg #[(.string ⟨#[]⟩), (.int .u64 0)])) (.cons (.inp 2) (.cons (.bv 0) .nil)) (.done [(1, (.bv 1))] none)))))) .ret)
@[simp] theorem h67_0_wp : type_of% (@wpH h67_0 _ h67_0.eq_1) := wpH h67_0.eq_1
def h67_1 : HC := (.seq (.reg (.done [(1, (.inp 2))] none)) .ret)
@[simp] theorem h67_1_wp : type_of% (@wpH h67_1 _ h67_1.eq_1) := wpH h67_1.eq_1
def h67_2 : HC := (.seq (.br (.chk none (.eqNil false (.pointer 154) (.pointer none)) (.cons (.inp 0) .nil) (.done [] (some (.op (.eqNil false (.pointer 154) (.pointer none)) (.cons (.inp 0) .nil))))) h67_1 .skip) h67_0)
@[simp] theorem h67_2_wp : type_of% (@wpH h67_2 _ h67_2.eq_1) := wpH h67_2.eq_1
def h67_3 : HC := (.seq (.reg (.done [(2, (.cst (.slice none 0 0)))] none)) h67_2)
@[simp] theorem h67_3_wp : type_of% (@wpH h67_3 _ h67_3.eq_1) := wpH h67_3.eq_1
def l67 : Lifted := ⟨[0, 2, 3], 13, [.slot 1], (.seq (.reg (.done [(1, (.cst (.slice none 0 0)))] none)) h67_3)⟩
theorem l67_ok : liftFn U1 67 400 = some l67 := by kernel_rfl

def h153_0 : HC := (.seq (.regq (some 2) (.chk none .chkp (.cons (.inp 0) .nil) (.chk none (.fld 0) (.cons (.op .chkp (.cons (.inp 0) .nil)) .nil) (.eff (.ld false 1) (.cons (.op (.fld 0) (.cons (.op .chkp (.cons (.inp 0) .nil)) .nil)) .nil) (.eff (.call 67) (.cons (.inp 0) .nil) (.chk none .chkp (.cons (.inp 0) .nil) (.chk none (.fld 2) (.cons (.op .chkp (.cons (.inp 0) .nil)) .nil) (.eff (.ld false 1) (.cons (.op (.fld 2) (.cons (.op .chkp (.cons (.inp 0) .nil)) .nil)) .nil) (.chk none (.build #[(.int .i64 0), (.slice none 0 0), (.int .u64 0)] [(0, 1), (1, 1), (2, 1)] [0, 1, 2]) (.cons (.bv 0) (.cons (.bv 1) (.cons (.bv 2) .nil))) (.eff (.box 154) (.cons (.op (.build #[(.int .i64 0), (.slice none 0 0), (.int .u64 0)] [(0, 1), (1, 1), (2, 1)] [0, 1, 2]) (.cons (.bv 0) (.cons (.bv 1) (.cons (.bv 2) .nil)))) .nil) (.done [(1, (.bv 3))] none))))))))))) .ret)
@[simp] theorem h153_0_wp : type_of% (@wpH h153_0 _ h153_0.eq_1) := wpH h153_0.eq_1
def h153_1 : HC := (.seq (.reg (.done [(1, (.cst (.pointer none)))] none)) .ret)
@[simp] theorem h153_1_wp : type_of% (@wpH h153_1 _ h153_1.eq_1) := wpH h153_1.eq_1
def h153_2 : HC := (.seq (.br (.chk none (.eqNil false (.pointer 154) (.pointer none)) (.cons (.inp 0) .nil) (.done [] (some (.op (.eqNil false (.pointer 154) (.pointer none)) (.cons (.inp 0) .nil))))) h153_1 .skip) h153_0)
@[simp] theorem h153_2_wp : type_of% (@wpH h153_2 _ h153_2.eq_1) := wpH h153_2.eq_1
def l153 : Lifted := ⟨[0, 2], 17, [.slot 1], (.seq (.reg (.done [(1, (.cst (.pointer none)))] none)) h153_2)⟩
theorem l153_ok : liftFn U1 153 400 = some l153 := by kernel_rfl

def h46_0 : HC := (.seq (.reg (.done [(3, (.inp 9)), (4, (.cst (.int .i64 0)))] none)) .ret)
@[simp] theorem h46_0_wp : type_of% (@wpH h46_0 _ h46_0.eq_1) := wpH h46_0.eq_1
def h46_1 : HC := (.seq (.reg (.chk none .chkp (.cons (.inp 9) .nil) (.chk none (.fld 1) (.cons (.op .chkp (.cons (.inp 9) .nil)) .nil) (.eff (.ld false 1) (.cons (.op (.fld 1) (.cons (.op .chkp (.cons (.inp 9) .nil)) .nil)) .nil) (.eff (.app 22 22 58 2 24 (.agg #[(.string ⟨#[]⟩), (.int .u64 0)])) (.cons (.bv 0) (.cons (.inp 1) .nil)) (.chk none .chkp (.cons (.inp 9) .nil) (.chk none (.fld 1) (.cons (.op .chkp (.cons (.inp 9) .nil)) .nil) (.eff (.st 1) (.cons (.op (.fld 1) (.cons (.op .chkp (.cons (.inp 9) .nil)) .nil)) (.cons (.bv 1) .nil)) (.done [] none))))))))) h46_0)
@[simp] theorem h46_1_wp : type_of% (@wpH h46_1 _ h46_1.eq_1) := wpH h46_1.eq_1
def h46_2 : HC := (.seq (.reg (.chk none (.build #[(.int .i64 0), (.slice none 0 0), (.int .u64 0)] [(0, 1), (1, 1), (2, 1)] [0, 2]) (.cons (.inp 0) (.cons (.inp 2) .nil)) (.eff (.box 154) (.cons (.op (.build #[(.int .i64 0), (.slice none 0 0), (.int .u64 0)] [(0, 1), (1, 1), (2, 1)] [0, 2]) (.cons (.inp 0) (.cons (.inp 2) .nil))) .nil) (.done [(9, (.bv 0))] none)))) h46_1)
@[simp] theorem h46_2_wp : type_of% (@wpH h46_2 _ h46_2.eq_1) := wpH h46_2.eq_1
def h46_3 : HC := (.reg (.chk none (.bin .add) (.cons (.inp 6) (.cons (.cst (.int .i64 1)) .nil)) (.done [(6, (.op (.bin .add) (.cons (.inp 6) (.cons (.cst (.int .i64 1)) .nil))))] none)))
@[simp] theorem h46_3_wp : type_of% (@wpH h46_3 _ h46_3.eq_1) := wpH h46_3.eq_1
def h46_4 : HC := (.reg (.chk none (.idxL 2) (.cons (.inp 1) (.cons (.inp 6) .nil)) (.chk none (.fld 1) (.cons (.op (.idxL 2) (.cons (.inp 1) (.cons (.inp 6) .nil))) .nil) (.eff (.ld false 1) (.cons (.op (.fld 1) (.cons (.op (.idxL 2) (.cons (.inp 1) (.cons (.inp 6) .nil))) .nil)) .nil) (.chk none (.bin .sub) (.cons (.inp 5) (.cons (.bv 0) .nil)) (.done [(5, (.op (.bin .sub) (.cons (.inp 5) (.cons (.bv 0) .nil))))] none))))))
@[simp] theorem h46_4_wp : type_of% (@wpH h46_4 _ h46_4.eq_1) := wpH h46_4.eq_1
def h46_5 : HC := (.seq (.reg (.done [(3, (.cst (.pointer none))), (4, (.cst (.int .i64 144)))] none)) .ret)
@[simp] theorem h46_5_wp : type_of% (@wpH h46_5 _ h46_5.eq_1) := wpH h46_5.eq_1
def h46_6 : HC := (.seq (.br (.chk none (.idxL 2) (.cons (.inp 1) (.cons (.inp 6) .nil)) (.chk none (.fld 1) (.cons (.op (.idxL 2) (.cons (.inp 1) (.cons (.inp 6) .nil))) .nil) (.eff (.ld false 1) (.cons (.op (.fld 1) (.cons (.op (.idxL 2) (.cons (.inp 1) (.cons (.inp 6) .nil))) .nil)) .nil) (.chk none (.bin .gtr) (.cons (.bv 0) (.cons (.inp 5) .nil)) (.done [] (some (.op (.bin .gtr) (.cons (.bv 0) (.cons (.inp 5) .nil))))))))) h46_5 .skip) h46_4)
@[simp] theorem h46_6_wp : type_of% (@wpH h46_6 _ h46_6.eq_1) := wpH h46_6.eq_1
def h46_7 : HC := (.reg (.chk none (.bin .add) (.cons (.inp 8) (.cons (.cst (.int .i64 1)) .nil)) (.done [(8, (.op (.bin .add) (.cons (.inp 8) (.cons (.cst (.int .i64 1)) .nil))))] none)))
@[simp] theorem h46_7_wp : type_of% (@wpH h46_7 _ h46_7.eq_1) := wpH h46_7.eq_1
def h46_8 : HC := (.seq (.reg (.done [(3, (.cst (.pointer none))), (4, (.cst (.int .i64 140)))] none)) .ret)
@[simp] theorem h46_8_wp : type_of% (@wpH h46_8 _ h46_8.eq_1) := wpH h46_8.eq_1
def h46_9 : HC := (.brq (some 1) (.chk none (.idxL 2) (.cons (.inp 1) (.cons (.inp 8) .nil)) (.chk none (.fld 0) (.cons (.op (.idxL 2) (.cons (.inp 1) (.cons (.inp 8) .nil))) .nil) (.eff (.ld false 1) (.cons (.op (.fld 0) (.cons (.op (.idxL 2) (.cons (.inp 1) (.cons (.inp 8) .nil))) .nil)) .nil) (.chk none (.idxL 2) (.cons (.inp 1) (.cons (.inp 6) .nil)) (.chk none (.fld 0) (.cons (.op (.idxL 2) (.cons (.inp 1) (.cons (.inp 6) .nil))) .nil) (.eff (.ld false 1) (.cons (.op (.fld 0) (.cons (.op (.idxL 2) (.cons (.inp 1) (.cons (.inp 6) .nil))) .nil)) .nil) (.eff (.call 89) (.cons (.bv 0) (.cons (.bv 1) .nil)) (.done [] (some (.bv 2)))))))))) h46_8 .skip)
@[simp] theorem h46_9_wp : type_of% (@wpH h46_9 _ h46_9.eq_1) := wpH h46_9.eq_1
def h46_10 : HC := (.seq (.block 3 h46_9) h46_7)
@[simp] theorem h46_10_wp : type_of% (@wpH h46_10 _ h46_10.eq_1) := wpH h46_10.eq_1
def h46_11 : HC := (.seq (.br (.chk none (.bin .lss) (.cons (.inp 8) (.cons (.inp 6) .nil)) (.done [] (some (.op (.bin .lss) (.cons (.inp 8) (.cons (.inp 6) .nil)))))) .skip (.exit 2)) h46_10)
@[simp] theorem h46_11_wp : type_of% (@wpH h46_11 _ h46_11.eq_1) := wpH h46_11.eq_1
def h46_12 : HC := (.loop h46_11)
@[simp] theorem h46_12_wp : type_of% (@wpH h46_12 _ h46_12.eq_1) := wpH h46_12.eq_1
def h46_13 : HC := (.seq (.block 2 h46_12) h46_6)
@[simp] theorem h46_13_wp : type_of% (@wpH h46_13 _ h46_13.eq_1) := wpH h46_13.eq_1
def h46_14 : HC := (.seq (.reg (.done [(8, (.cst (.int .i64 0)))] none)) h46_13)
@[simp] theorem h46_14_wp : type_of% (@wpH h46_14 _ h46_14.eq_1) := wpH h46_14.eq_1
def h46_15 : HC := (.seq (.reg (.done [(3, (.cst (.pointer none))), (4, (.inp 7))] none)) .ret)
@[simp] theorem h46_15_wp : type_of% (@wpH h46_15 _ h46_15.eq_1) := wpH h46_15.eq_1
def h46_16 : HC := (.seq (.br (.chk none (.bin .neq) (.cons (.inp 7) (.cons (.cst (.int .i64 0)) .nil)) (.done [] (some (.op (.bin .neq) (.cons (.inp 7) (.cons (.cst (.int .i64 0)) .nil)))))) h46_15 .skip) h46_14)
@[simp] theorem h46_16_wp : type_of% (@wpH h46_16 _ h46_16.eq_1) := wpH h46_16.eq_1
def h46_17 : HC := (.seq (.reg (.chk none (.idxL 2) (.cons (.inp 1) (.cons (.inp 6) .nil)) (.chk none (.fld 0) (.cons (.op (.idxL 2) (.cons (.inp 1) (.cons (.inp 6) .nil))) .nil) (.eff (.ld false 1) (.cons (.op (.fld 0) (.cons (.op (.idxL 2) (.cons (.inp 1) (.cons (.inp 6) .nil))) .nil)) .nil) (.eff (.call 88) (.cons (.bv 0) .nil) (.chk none (.ext 0) (.cons (.bv 1) .nil) (.chk none (.ext 1) (.cons (.bv 1) .nil) (.done [(7, (.op (.ext 1) (.cons (.bv 1) .nil)))] none)))))))) h46_16)
@[simp] theorem h46_17_wp : type_of% (@wpH h46_17 _ h46_17.eq_1) := wpH h46_17.eq_1
def h46_18 : HC := (.seq (.block 1 h46_17) h46_3)
@[simp] theorem h46_18_wp : type_of% (@wpH h46_18 _ h46_18.eq_1) := wpH h46_18.eq_1
def h46_19 : HC := (.seq (.br (.chk none .lenL (.cons (.inp 1) .nil) (.chk none (.bin .lss) (.cons (.inp 6) (.cons (.op .lenL (.cons (.inp 1) .nil)) .nil)) (.done [] (some (.op (.bin .lss) (.cons (.inp 6) (.cons (.op .lenL (.cons (.inp 1) .nil)) .nil))))))) .skip (.exit 0)) h46_18)
@[simp] theorem h46_19_wp : type_of% (@wpH h46_19 _ h46_19.eq_1) := wpH h46_19.eq_1
def h46_20 : HC := (.loop h46_19)
@[simp] theorem h46_20_wp : type_of% (@wpH h46_20 _ h46_20.eq_1) := wpH h46_20.eq_1
def h46_21 : HC := (.seq (.block 0 h46_20) h46_2)
@[simp] theorem h46_21_wp : type_of% (@wpH h46_21 _ h46_21.eq_1) := wpH h46_21.eq_1
def h46_22 : HC := (.seq (.reg (.done [(6, (.cst (.int .i64 0)))] none)) h46_21)
@[simp] theorem h46_22_wp : type_of% (@wpH h46_22 _ h46_22.eq_1) := wpH h46_22.eq_1
def h46_23 : HC := (.seq (.reg (.done [(5, (.inp 2))] none)) h46_22)
@[simp] theorem h46_23_wp : type_of% (@wpH h46_23 _ h46_23.eq_1) := wpH h46_23.eq_1
def h46_24 : HC := (.seq (.reg (.done [(3, (.cst (.pointer none))), (4, (.cst (.int .i64 142)))] none)) .ret)
@[simp] theorem h46_24_wp : type_of% (@wpH h46_24 _ h46_24.eq_1) := wpH h46_24.eq_1
def h46_25 : HC := (.seq (.br (.chk none .lenL (.cons (.inp 1) .nil) (.chk none (.bin .eql) (.cons (.op .lenL (.cons (.inp 1) .nil)) (.cons (.cst (.int .i64 0)) .nil)) (.bnd (.op (.bin .eql) (.cons (.op .lenL (.cons (.inp 1) .nil)) (.cons (.cst (.int .i64 0)) .nil))) (.chk (some ((.bv 0), false)) (.idxL 2) (.cons (.inp 1) (.cons (.cst (.int .i64 0)) .nil)) (.chk (some ((.bv 0), false)) (.fld 0) (.cons (.op (.idxL 2) (.cons (.inp 1) (.cons (.cst (.int .i64 0)) .nil))) .nil) (.ite (.bv 0) false (.eff (.ld false 1) (.cons (.ite (.bv 0) false (.op (.fld 0) (.cons (.op (.idxL 2) (.cons (.inp 1) (.cons (.cst (.int .i64 0)) .nil))) .nil)) (.cst (.tuple #[]))) .nil) (.chk none (.bin .neq) (.cons (.bv 1) (.cons (.cst (.string ⟨#[98, 97, 110, 107]⟩)) .nil)) (.isb none (.bv 0) (.done [] (some (.op (.bin .neq) (.cons (.bv 1) (.cons (.cst (.string ⟨#[98, 97, 110, 107]⟩)) .nil)))))))) (.isb none (.bv 0) (.done [] (some (.cst (.bool true))))))))))) h46_24 .skip) h46_23)
@[simp] theorem h46_25_wp : type_of% (@wpH h46_25 _ h46_25.eq_1) := wpH h46_25.eq_1
def h46_26 : HC := (.seq (.reg (.done [(3, (.cst (.pointer none))), (4, (.cst (.int .i64 141)))] none)) .ret)
@[simp] theorem h46_26_wp : type_of% (@wpH h46_26 _ h46_26.eq_1) := wpH h46_26.eq_1
def h46_27 : HC := (.seq (.br (.chk none .lenL (.cons (.inp 1) .nil) (.chk none (.bin .gtr) (.cons (.op .lenL (.cons (.inp 1) .nil)) (.cons (.inp 0) .nil)) (.done [] (some (.op (.bin .gtr) (.cons (.op .lenL (.cons (.inp 1) .nil)) (.cons (.inp 0) .nil))))))) h46_26 .skip) h46_25)
@[simp] theorem h46_27_wp : type_of% (@wpH h46_27 _ h46_27.eq_1) := wpH h46_27.eq_1
def h46_28 : HC := (.seq (.reg (.done [(3, (.cst (.pointer none))), (4, (.cst (.int .i64 144)))] none)) .ret)
@[simp] theorem h46_28_wp : type_of% (@wpH h46_28 _ h46_28.eq_1) := wpH h46_28.eq_1
def h46_29 : HC := (.seq (.br (.chk none (.bin .gtr) (.cons (.inp 2) (.cons (.cst (.int .u64 4611686018427387904)) .nil)) (.done [] (some (.op (.bin .gtr) (.cons (.inp 2) (.cons (.cst (.int .u64 4611686018427387904)) .nil)))))) h46_28 .skip) h46_27)
@[simp] theorem h46_29_wp : type_of% (@wpH h46_29 _ h46_29.eq_1) := wpH h46_29.eq_1
def h46_30 : HC := (.seq (.reg (.done [(3, (.cst (.pointer none))), (4, (.cst (.int .i64 2)))] none)) .ret)
@[simp] theorem h46_30_wp : type_of% (@wpH h46_30 _ h46_30.eq_1) := wpH h46_30.eq_1
def h46_31 : HC := (.seq (.br (.chk none (.bin .lss) (.cons (.inp 0) (.cons (.cst (.int .i64 1)) .nil)) (.bnd (.op (.bin .lss) (.cons (.inp 0) (.cons (.cst (.int .i64 1)) .nil))) (.chk (some ((.bv 0), false)) (.bin .gtr) (.cons (.inp 0) (.cons (.cst (.int .i64 64)) .nil)) (.isb none (.bv 0) (.done [] (some (.ite (.bv 0) true (.cst (.bool true)) (.op (.bin .gtr) (.cons (.inp 0) (.cons (.cst (.int .i64 64)) .nil)))))))))) h46_30 .skip) h46_29)
@[simp] theorem h46_31_wp : type_of% (@wpH h46_31 _ h46_31.eq_1) := wpH h46_31.eq_1
def l46 : Lifted := ⟨[0, 1, 2, 6, 7, 8, 9, 11, 12, 13], 99, [.slot 3, .slot 4], (.seq (.reg (.done [(3, (.cst (.pointer none))), (4, (.cst (.int .i64 0)))] none)) h46_31)⟩
theorem l46_ok : liftFn U1 46 400 = some l46 := by kernel_rfl
theorem rSame_spec (a b : List UInt8) (w0 w : World) (A : Asn) (ha : a.length ≤ 1048576) (hb : b.length ≤ 1048576) (s : St w0 A w) :
    CallW Tryz.prog 89 [.string (mk a), .string (mk b)] (fun r w' => r = .bool (decide (keyF a = keyF b)) ∧ St w0 A w') w := by
  refine callW_of_lift l89_ok (by simp [l89]) ?_
  simp [l89]
  refine eff_call ((rFold_spec a w0 w A ha s).mono ?_)
  rintro r w1 ⟨rfl, s1⟩
  simp
  refine eff_call ((rFold_spec b w0 w1 A hb s1).mono ?_)
  rintro r w2 ⟨rfl, s2⟩
  simp
  refine ⟨?_, s2⟩
  rw [Bool.eq_iff_iff]
  simp only [beq_iff_eq, decide_eq_true_eq]
  exact Iff.rfl
theorem rthere_spec (q : Nat) (P : Ps) (n : Int) (w0 w : World) (A : Asn) (s : St w0 (A * rpur q P) w) :
    CallW Tryz.prog 97 [.pointer (some ⟨q, 0, none⟩), .int .i64 n] (fun r w' => r = .bool (decide (accE P.rows n = 0)) ∧ St w0 (A * rpur q P) w') w := by
  refine callW_of_lift l97_ok (by simp [l97]) ?_
  simp [l97]
  obtain ⟨v, s1⟩ := ropen s
  obtain ⟨a, cap, rfl, _⟩ := s1.own_val
  by_cases h : 0 ≤ n
  · simp [h]
    refine eff_ldc (v := .slice a P.rows.length cap) (by rw [cell_of s1.drop.look]; rfl) ?_
    simp
    refine ⟨?_, s⟩
    unfold accE
    by_cases h2 : n < P.rows.length
    · simp [h, h2]
    · simp [h, h2]
  · simp [h]
    refine ⟨?_, s⟩
    unfold accE
    rw [if_neg (fun e => h e.1)]
    decide
theorem rSupply_spec (q : Nat) (P : Ps) (w0 w : World) (A : Asn) (s : St w0 (A * rpur q P) w) :
    CallW Tryz.prog 69 [.pointer (some ⟨q, 0, none⟩)] (fun r w' => r = .int .u64 P.sup ∧ St w0 (A * rpur q P) w') w := by
  refine callW_of_lift l69_ok (by simp [l69]) ?_
  simp [l69]
  obtain ⟨v, s1⟩ := ropen s
  obtain ⟨a, cap, rfl, _⟩ := s1.own_val
  refine eff_ldc (v := .int .u64 P.sup) (by rw [cell_of s1.drop.look]; rfl) ?_
  simp
  exact s
theorem rHeld_spec (q : Nat) (lim : Int) (P : Ps) (w0 w : World) (A : Asn) (hP : PI lim P) (s : St w0 (A * rpur q P) w) :
    CallW Tryz.prog 68 [.pointer (some ⟨q, 0, none⟩)] (fun r w' => r = .int .u64 P.held ∧ St w0 (A * rpur q P) w') w := by
  have hb := hP.bd
  have hlen := hb.len
  have h1 := hP.held
  have h2 := hP.sum
  have h3 := hP.sup
  refine callW_of_lift l68_ok (by simp [l68]) ?_
  simp [l68]
  obtain ⟨v, s1⟩ := ropen s
  clear s
  obtain ⟨a, cap, rfl, _⟩ := s1.own_val
  refine eff_ldc (v := .int .u64 P.sup) (by rw [cell_of s1.drop.look]; rfl) ?_
  simp
  refine loopI (fun env w' => ∃ (i : Nat), env = [.pointer (some ⟨q, 0, none⟩), .int .u64 0, .int .u64 (P.sup - total (P.rows.take i)), .int .i64 i] ∧ i ≤ P.rows.length ∧
      St w0 (A * rpt q P (.slice a P.rows.length cap) * own 58 2 (.slice a P.rows.length cap) P.rows.length (flat P.rows)) w')
    (fun env _ => P.rows.length - slotN env 3) ⟨0, by simp [total], by omega, s1⟩ ?_
  clear s1
  rintro LQ env w' ⟨i, rfl, hi, s⟩ hN hE hR
  simp
  refine eff_ldc (v := .slice a P.rows.length cap) (by rw [cell_of s.drop.look]; rfl) ?_
  simp
  refine cndI (fun h => ?_) (fun h => ?_)
  · simp at h
    have h : i < P.rows.length := by omega
    obtain ⟨g, _, hv, _, hcell⟩ := s.own_at (by omega)
    cases hv
    simp
    refine eff_ldc (v := .slice (some ⟨g, 0, none⟩) P.rows.length cap) (by rw [cell_of s.drop.look]; rfl) ?_
    simp [h]
    refine eff_ldc (hcell _ _ (flat_coins h)) ?_
    simp
    have ht := total_take hP.coins (i + 1)
    rw [List.take_succ_eq_append_getElem h, total_snoc] at ht
    have ht0 := total_take hP.coins i
    have hc0 := hP.coins _ (List.getElem_mem h)
    try simp (disch := omega) only [wrap64, wrapu64]
    refine hN _ _ ⟨i + 1, ?_, by omega, s⟩ (by simp [slotN]; omega)
    rw [List.take_succ_eq_append_getElem h, total_snoc]
    simp
    omega
  simp at h
  simp
  refine hE _ _ _ ?_
  have hie : i = P.rows.length := by omega
  rw [hie, List.take_length]
  have e : P.sup - total P.rows = P.held := by omega
  rw [e]
  simp
  exact rclose s
theorem rRows_spec (q : Nat) (P : Ps) (w0 w : World) (A : Asn) (hl : P.rows.length ≤ 1048576) (s : St w0 (A * rpur q P) w) :
    CallW Tryz.prog 67 [.pointer (some ⟨q, 0, none⟩)] (fun r w' => St w0 (A * rpur q P * own 58 2 r P.rows.length (flat P.rows)) w') w := by
  refine callW_of_lift l67_ok (by simp [l67]) ?_
  simp [l67]
  obtain ⟨v, s1⟩ := ropen s
  clear s
  obtain ⟨a, cap, rfl, _⟩ := s1.own_val
  refine eff_ldc (v := .slice a P.rows.length cap) (by rw [cell_of s1.drop.look]; rfl) ?_
  simp
  refine eff_appR (s1.own_nil 58 2) (row_in (e := 58) (B := A * rpt q P (.slice a P.rows.length cap) * own 58 2 (.slice none 0 0) 0 []) (s1.own_nil 58 2) (by ac_rfl)) (flat_one _) (by decide) rfl (by unfold maxLen; omega) (by omega) ?_
  intro v2 w2 s2
  simp
  have s3 : St w0 (A * rpt q P (.slice a P.rows.length cap) * own 58 2 (.slice a P.rows.length cap) P.rows.length (flat P.rows) * own 58 2 v2 P.rows.length (flat P.rows)) w2 := by simpa using s2
  exact (rclose (v := .slice a P.rows.length cap) (s3.to (B := A * own 58 2 v2 P.rows.length (flat P.rows) * rpt q P (.slice a P.rows.length cap) * own 58 2 (.slice a P.rows.length cap) P.rows.length (flat P.rows)) (by ac_rfl))).to (by ac_rfl)
end Go.HL.Pu

namespace Go.HL.Pu
open Go.HL Go.HL.Nm Go.Proofs
set_option maxRecDepth 4000
set_option linter.unusedSimpArgs false
set_option linter.unusedVariables false
theorem rMint_spec (q : Nat) (lim : Int) (P : Ps) (n c : Int) (w0 w : World) (A : Asn) (hP : PI lim P) (hc : 0 ≤ c ∧ c < 18446744073709551616) (s : St w0 (A * rpur q P) w) :
    CallW Tryz.prog 58 [.pointer (some ⟨q, 0, none⟩), .int .i64 n, .int .u64 c] (fun r w' => r = .int .i64 (mintF P n c).1 ∧ St w0 (A * rpur q (mintF P n c).2) w') w := by
  have hb := hP.bd
  have hlen := hb.len
  have hs := hb.sup
  refine callW_of_lift l58_ok (by simp [l58]) ?_
  simp [l58]
  refine eff_call ((rthere_spec q P n w0 w A s).mono ?_)
  rintro r w1 ⟨rfl, s⟩
  simp
  refine cndI (fun h => ?_) (fun h => ?_)
  · simp at h
    have h142 := (accE_or P.rows n).resolve_left h
    simp [mintF, h142]
    exact s
  simp at h
  obtain ⟨i, rfl, hi⟩ := acc_in h
  simp
  refine cndI (fun h1 => ?_) (fun h1 => ?_)
  · simp at h1
    simp [mintF, h, h1]
    exact s
  simp at h1
  simp
  obtain ⟨v, s1⟩ := ropen s
  clear s
  obtain ⟨g, cap, rfl, hcap, _⟩ := s1.own_at (by omega)
  have done144 : 4611686018427387904 - P.sup < c → mintF P (i : Int) c = (144, P) := fun e => by unfold mintF; rw [if_pos h, if_neg h1, if_pos e]
  by_cases hbig : 4611686018427387904 < c
  · simp [hbig]
    rw [done144 (by omega)]
    exact ⟨rfl, rclose s1⟩
  simp [hbig]
  refine eff_ldc (v := .int .u64 P.sup) (by rw [cell_of s1.drop.look]; rfl) ?_
  simp
  try simp (disch := omega) only [wrapu64]
  refine cndI (fun h2 => ?_) (fun h2 => ?_)
  · simp at h2
    simp
    rw [done144 (by omega)]
    exact ⟨rfl, rclose s1⟩
  simp at h2
  simp
  refine eff_ldc (v := .int .u64 P.sup) (by rw [cell_of s1.drop.look]; rfl) ?_
  simp
  try simp (disch := omega) only [wrapu64]
  refine eff_st1 (s1.to (B := A * own 58 2 (.slice (some ⟨g, 0, none⟩) P.rows.length cap) P.rows.length (flat P.rows) * rpt q P (.slice (some ⟨g, 0, none⟩) P.rows.length cap)) (by ac_rfl)) rfl (by simp) ?_
  intro w2 s2
  simp at s2
  have s2 : St w0 (A * rpt q { P with sup := P.sup + c } (.slice (some ⟨g, 0, none⟩) P.rows.length cap) * own 58 2 (.slice (some ⟨g, 0, none⟩) P.rows.length cap) P.rows.length (flat P.rows)) w2 := s2.swap
  simp
  have hci := coin_bd hb hi
  have hcell_s3 : ∀ {w}, St w0 (A * rpt q { P with sup := P.sup + c } (.slice (some ⟨g, 0, none⟩) P.rows.length cap) * own 58 2 (.slice (some ⟨g, 0, none⟩) P.rows.length cap) P.rows.length (flat P.rows)) w → w.cell? ⟨g, i * 2 + 1, none⟩ = some (.int .u64 (coin P.rows i)) := fun h => by
    obtain ⟨_, _, hv, _, hc⟩ := h.own_at (by omega)
    cases hv
    rw [hc _ _ (flat_coins hi), coin_at hi]
  have hptr_s3 : ∀ {w}, St w0 (A * rpt q { P with sup := P.sup + c } (.slice (some ⟨g, 0, none⟩) P.rows.length cap)) w → w.cell? ⟨q, 1, none⟩ = some (.slice (some ⟨g, 0, none⟩) P.rows.length cap) := fun h => by rw [cell_of h.look]; rfl
  refine regmI (cls1 (St w0 (A * rpt q { P with sup := P.sup + c } (.slice (some ⟨g, 0, none⟩) P.rows.length cap) * own 58 2 (.slice (some ⟨g, 0, none⟩) P.rows.length cap) P.rows.length (flat P.rows)))
    (St w0 (A * rpt q { P with sup := P.sup + c } (.slice (some ⟨g, 0, none⟩) P.rows.length cap) * own 58 2 (.slice (some ⟨g, 0, none⟩) P.rows.length cap) P.rows.length (flat (setC P.rows i (coin P.rows i + c)))))) s2.drew ?_
  simp
  refine effm_ldc (v := .slice (some ⟨g, 0, none⟩) P.rows.length cap) (fun vs' w he hw => cls1_low (fun h => hptr_s3 h.drop) (fun h => hptr_s3 h.drop) hw) ?_
  simp
  refine effm_ldc (v := .slice (some ⟨g, 0, none⟩) P.rows.length cap) (fun vs' w he hw => cls1_low (fun h => hptr_s3 h.drop) (fun h => hptr_s3 h.drop) hw) ?_
  simp [hi]
  refine effm_ldc (v := .int .u64 (coin P.rows i)) (fun vs' w he hw => ?_) ?_
  · match vs', hw with
    | [], hw => exact hcell_s3 hw
    | _ :: _, hw => simp [era] at he
  simp [hi]
  try simp (disch := omega) only [wrapu64]
  try simp
  refine effm_mv (by rfl) (fun w hw => ?_) (fun r hr => ?_)
  · rw [cls1_nil] at hw
    exact st_coin2 hi (by simp [setC_len]) hw fun w' h => h
  simp
  intro w_s3 s3
  have e : mintF P (i : Int) c = (0, { P with sup := P.sup + c, rows := setC P.rows i (coin P.rows i + c) }) := by unfold mintF; rw [if_pos h, if_neg h1, if_neg (by omega)]; simp
  rw [e]
  refine ⟨rfl, rclose (v := .slice (some ⟨g, 0, none⟩) P.rows.length cap) ?_⟩
  show St w0 (A * rpt q { P with sup := P.sup + c } (.slice (some ⟨g, 0, none⟩) P.rows.length cap) * own 58 2 (.slice (some ⟨g, 0, none⟩) P.rows.length cap) (setC P.rows i (coin P.rows i + c)).length (flat (setC P.rows i (coin P.rows i + c)))) _
  rw [setC_len]
  exact s3
theorem rTake_spec (q : Nat) (lim : Int) (P : Ps) (n c : Int) (w0 w : World) (A : Asn) (hP : PI lim P) (hc : 0 ≤ c ∧ c < 18446744073709551616) (s : St w0 (A * rpur q P) w) :
    CallW Tryz.prog 125 [.pointer (some ⟨q, 0, none⟩), .int .i64 n, .int .u64 c] (fun r w' => r = .int .i64 (takeF P n c).1 ∧ St w0 (A * rpur q (takeF P n c).2) w') w := by
  have hb := hP.bd
  have hlen := hb.len
  have hs := hb.sup
  refine callW_of_lift l125_ok (by simp [l125]) ?_
  simp [l125]
  refine eff_call ((rthere_spec q P n w0 w A s).mono ?_)
  rintro r w1 ⟨rfl, s⟩
  simp
  refine cndI (fun h => ?_) (fun h => ?_)
  · simp at h
    have h142 := (accE_or P.rows n).resolve_left h
    simp [takeF, h142]
    exact s
  simp at h
  obtain ⟨i, rfl, hi⟩ := acc_in h
  simp
  obtain ⟨v, s1⟩ := ropen s
  clear s
  obtain ⟨g, cap, rfl, hcap, hcell⟩ := s1.own_at (by omega)
  have hci := coin_bd hb hi
  refine eff_ldc (v := .slice (some ⟨g, 0, none⟩) P.rows.length cap) (by rw [cell_of s1.drop.look]; rfl) ?_
  simp [hi]
  refine eff_ldc (v := .int .u64 (coin P.rows i)) (by rw [hcell _ _ (flat_coins hi), coin_at hi]) ?_
  simp
  refine cndI (fun h2 => ?_) (fun h2 => ?_)
  · simp at h2
    simp [takeF, h, h2]
    exact rclose s1
  simp at h2
  simp
  have hcell_s3 : ∀ {w}, St w0 (A * rpt q P (.slice (some ⟨g, 0, none⟩) P.rows.length cap) * own 58 2 (.slice (some ⟨g, 0, none⟩) P.rows.length cap) P.rows.length (flat P.rows)) w → w.cell? ⟨g, i * 2 + 1, none⟩ = some (.int .u64 (coin P.rows i)) := fun h => by
    obtain ⟨_, _, hv, _, hc⟩ := h.own_at (by omega)
    cases hv
    rw [hc _ _ (flat_coins hi), coin_at hi]
  have hptr_s3 : ∀ {w}, St w0 (A * rpt q P (.slice (some ⟨g, 0, none⟩) P.rows.length cap)) w → w.cell? ⟨q, 1, none⟩ = some (.slice (some ⟨g, 0, none⟩) P.rows.length cap) := fun h => by rw [cell_of h.look]; rfl
  refine regmI (cls1 (St w0 (A * rpt q P (.slice (some ⟨g, 0, none⟩) P.rows.length cap) * own 58 2 (.slice (some ⟨g, 0, none⟩) P.rows.length cap) P.rows.length (flat P.rows)))
    (St w0 (A * rpt q P (.slice (some ⟨g, 0, none⟩) P.rows.length cap) * own 58 2 (.slice (some ⟨g, 0, none⟩) P.rows.length cap) P.rows.length (flat (setC P.rows i (coin P.rows i - c)))))) s1.drew ?_
  simp
  refine effm_ldc (v := .slice (some ⟨g, 0, none⟩) P.rows.length cap) (fun vs' w he hw => cls1_low (fun h => hptr_s3 h.drop) (fun h => hptr_s3 h.drop) hw) ?_
  simp
  refine effm_ldc (v := .slice (some ⟨g, 0, none⟩) P.rows.length cap) (fun vs' w he hw => cls1_low (fun h => hptr_s3 h.drop) (fun h => hptr_s3 h.drop) hw) ?_
  simp [hi]
  refine effm_ldc (v := .int .u64 (coin P.rows i)) (fun vs' w he hw => ?_) ?_
  · match vs', hw with
    | [], hw => exact hcell_s3 hw
    | _ :: _, hw => simp [era] at he
  simp [hi]
  try simp (disch := omega) only [wrapu64]
  try simp
  refine effm_mv (by rfl) (fun w hw => ?_) (fun r hr => ?_)
  · rw [cls1_nil] at hw
    exact st_coin2 hi (by simp [setC_len]) hw fun w' h => h
  simp
  intro w_s3 s3
  have e : takeF P (i : Int) c = (0, { P with held := P.held + c, rows := setC P.rows i (coin P.rows i - c) }) := by unfold takeF; rw [if_pos h, if_neg (by simp; omega)]; simp
  rw [e]
  refine ⟨rfl, rclose (v := .slice (some ⟨g, 0, none⟩) P.rows.length cap) ?_⟩
  show St w0 (A * rpt q P (.slice (some ⟨g, 0, none⟩) P.rows.length cap) * own 58 2 (.slice (some ⟨g, 0, none⟩) P.rows.length cap) (setC P.rows i (coin P.rows i - c)).length (flat (setC P.rows i (coin P.rows i - c)))) _
  rw [setC_len]
  exact s3
theorem rPut_spec (q : Nat) (lim : Int) (P : Ps) (n c : Int) (w0 w : World) (A : Asn) (hP : PI lim P) (hc : 0 ≤ c ∧ c < 18446744073709551616) (s : St w0 (A * rpur q P) w) :
    CallW Tryz.prog 156 [.pointer (some ⟨q, 0, none⟩), .int .i64 n, .int .u64 c] (fun r w' => r = .int .i64 (putF P n c).1 ∧ St w0 (A * rpur q (putF P n c).2) w') w := by
  have hb := hP.bd
  have hlen := hb.len
  have hs := hb.sup
  refine callW_of_lift l156_ok (by simp [l156]) ?_
  simp [l156]
  refine eff_call ((rthere_spec q P n w0 w A s).mono ?_)
  rintro r w1 ⟨rfl, s⟩
  simp
  refine cndI (fun h => ?_) (fun h => ?_)
  · simp at h
    have h142 := (accE_or P.rows n).resolve_left h
    simp [putF, h142]
    exact s
  simp at h
  obtain ⟨i, rfl, hi⟩ := acc_in h
  simp
  have hhd := hb.held
  refine eff_call ((rHeld_spec q lim P w0 w1 A hP s).mono ?_)
  rintro r w2 ⟨rfl, s⟩
  simp
  refine cndI (fun h2 => ?_) (fun h2 => ?_)
  · simp at h2
    simp [putF, h, h2]
    exact s
  simp at h2
  simp
  obtain ⟨v, s1⟩ := ropen s
  clear s
  obtain ⟨g, cap, rfl, hcap, hcell⟩ := s1.own_at (by omega)
  have hci := coin_bd hb hi
  have hcell_s3 : ∀ {w}, St w0 (A * rpt q P (.slice (some ⟨g, 0, none⟩) P.rows.length cap) * own 58 2 (.slice (some ⟨g, 0, none⟩) P.rows.length cap) P.rows.length (flat P.rows)) w → w.cell? ⟨g, i * 2 + 1, none⟩ = some (.int .u64 (coin P.rows i)) := fun h => by
    obtain ⟨_, _, hv, _, hc⟩ := h.own_at (by omega)
    cases hv
    rw [hc _ _ (flat_coins hi), coin_at hi]
  have hptr_s3 : ∀ {w}, St w0 (A * rpt q P (.slice (some ⟨g, 0, none⟩) P.rows.length cap)) w → w.cell? ⟨q, 1, none⟩ = some (.slice (some ⟨g, 0, none⟩) P.rows.length cap) := fun h => by rw [cell_of h.look]; rfl
  refine regmI (cls1 (St w0 (A * rpt q P (.slice (some ⟨g, 0, none⟩) P.rows.length cap) * own 58 2 (.slice (some ⟨g, 0, none⟩) P.rows.length cap) P.rows.length (flat P.rows)))
    (St w0 (A * rpt q P (.slice (some ⟨g, 0, none⟩) P.rows.length cap) * own 58 2 (.slice (some ⟨g, 0, none⟩) P.rows.length cap) P.rows.length (flat (setC P.rows i (coin P.rows i + c)))))) s1.drew ?_
  simp
  refine effm_ldc (v := .slice (some ⟨g, 0, none⟩) P.rows.length cap) (fun vs' w he hw => cls1_low (fun h => hptr_s3 h.drop) (fun h => hptr_s3 h.drop) hw) ?_
  simp
  refine effm_ldc (v := .slice (some ⟨g, 0, none⟩) P.rows.length cap) (fun vs' w he hw => cls1_low (fun h => hptr_s3 h.drop) (fun h => hptr_s3 h.drop) hw) ?_
  simp [hi]
  refine effm_ldc (v := .int .u64 (coin P.rows i)) (fun vs' w he hw => ?_) ?_
  · match vs', hw with
    | [], hw => exact hcell_s3 hw
    | _ :: _, hw => simp [era] at he
  simp [hi]
  try simp (disch := omega) only [wrapu64]
  try simp
  refine effm_mv (by rfl) (fun w hw => ?_) (fun r hr => ?_)
  · rw [cls1_nil] at hw
    exact st_coin2 hi (by simp [setC_len]) hw fun w' h => h
  simp
  intro w_s3 s3
  have e : putF P (i : Int) c = (0, { P with held := P.held - c, rows := setC P.rows i (coin P.rows i + c) }) := by unfold putF; rw [if_pos h, if_neg (by omega)]; simp
  rw [e]
  refine ⟨rfl, rclose (v := .slice (some ⟨g, 0, none⟩) P.rows.length cap) ?_⟩
  show St w0 (A * rpt q P (.slice (some ⟨g, 0, none⟩) P.rows.length cap) * own 58 2 (.slice (some ⟨g, 0, none⟩) P.rows.length cap) (setC P.rows i (coin P.rows i + c)).length (flat (setC P.rows i (coin P.rows i + c)))) _
  rw [setC_len]
  exact s3
end Go.HL.Pu

namespace Go.HL.Pu
open Go.HL Go.HL.Nm Go.Proofs
set_option maxRecDepth 4000
set_option linter.unusedSimpArgs false
set_option linter.unusedVariables false
theorem rGet_spec (q : Nat) (P : Ps) (n : Int) (w0 w : World) (A : Asn) (hP : P.rows.length ≤ 64) (s : St w0 (A * rpur q P) w) :
    CallW Tryz.prog 123 [.pointer (some ⟨q, 0, none⟩), .int .i64 n] (fun r w' => r = .tuple #[.agg (getF P n).1.cs.toArray, .int .i64 (getF P n).2] ∧ St w0 (A * rpur q P) w') w := by
  refine callW_of_lift l123_ok (by simp [l123]) ?_
  simp [l123]
  refine eff_new s ?_
  intro b w1 s1
  simp
  refine eff_call ((rthere_spec q P n w0 w1 (A * pt b (.cells (Ac.cs ⟨[], 0⟩).toArray 58 (0, 0))) (s1.to (by ac_rfl))).mono ?_)
  rintro r w2 ⟨rfl, s2⟩
  simp
  have s2' := s2.swap
  refine cndI (fun h => ?_) (fun h => ?_)
  · simp at h
    simp [getF, h, Instr.fill, Value.cells]
    refine eff_stA (vs := Ac.cs ⟨[], 0⟩) s2' rfl rfl (cs_one _) (by simp [Ac.cs]) ?_
    intro w3 s3
    simp
    have s4 : St w0 (A * rpur q P * pt b (.cells (Ac.cs ⟨[], 0⟩).toArray 58 (0, 0))) w3 := by simpa [Ac.cs] using s3
    refine rv_cellA (vs := Ac.cs ⟨[], 0⟩) rfl s4.row_cells rfl ?_
    simp
    exact s4.drop
  simp at h
  simp
  obtain ⟨i, rfl, hi⟩ := acc_in h
  obtain ⟨v, s3⟩ := ropen s2
  obtain ⟨g, gcap, hv, hcap, hcell⟩ := s3.own_at (by omega)
  subst hv
  refine eff_ldc (v := .slice (some ⟨g, 0, none⟩) P.rows.length gcap) (by rw [cell_of s3.drop.look]; rfl) ?_
  simp [hi]
  refine eff_ldcs (vs := P.rows[i].cs) (fun j u hu => hcell _ _ (flat_at hi j u hu)) rfl ?_
  simp
  have hg : getF P (i : Int) = (P.rows[i], 0) := by simp [getF, h, hi]
  refine eff_stA (vs := P.rows[i].cs) s2' rfl rfl (cs_one _) (by simp [Ac.cs]) ?_
  intro w3 s3
  simp [hg]
  have s4 : St w0 (A * rpur q P * pt b (.cells P.rows[i].cs.toArray 58 (0, 0))) w3 := by simpa [Ac.cs] using s3
  refine rv_cellA (vs := P.rows[i].cs) rfl s4.row_cells rfl ?_
  simp
  exact s4.drop
theorem rCopy_spec (q : Nat) (P : Ps) (w0 w : World) (A : Asn) (hl : P.rows.length ≤ 1048576) (s : St w0 (A * rpur q P) w) :
    CallW Tryz.prog 153 [.pointer (some ⟨q, 0, none⟩)] (fun r w' => ∃ q', r = .pointer (some ⟨q', 0, none⟩) ∧ St w0 (A * rpur q P * rpur q' P) w') w := by
  refine callW_of_lift l153_ok (by simp [l153]) ?_
  simp [l153]
  have hld : ∀ {w : World} {B : Asn}, St w0 (B * rpur q P) w → w.cell? ⟨q, 0, none⟩ = some (.int .i64 P.lim) ∧ w.cell? ⟨q, 2, none⟩ = some (.int .u64 P.sup) := fun h => by
    obtain ⟨v, s1⟩ := ropen h
    exact ⟨by rw [cell_of s1.drop.look]; rfl, by rw [cell_of s1.drop.look]; rfl⟩
  refine regmI (fun vs w => match vs with
    | [] => St w0 (A * rpur q P) w
    | [r] => St w0 (A * rpur q P * own 58 2 r P.rows.length (flat P.rows)) w
    | _ :: r :: _ => ∃ q', r = .pointer (some ⟨q', 0, none⟩) ∧ St w0 (A * rpur q P * rpur q' P) w) s.drew ?_
  simp
  refine effm_ldc (v := .int .i64 P.lim) (fun vs' w he hw => ?_) ?_
  · match vs', hw with
    | [], hw => exact (hld hw).1
    | [_], hw => exact (hld (St.drop hw)).1
    | _ :: _ :: _, hw => simp [era] at he
  simp
  refine effm_mv rfl (fun w hw => eff_call ((rRows_spec q P w0 w A hl hw).mono fun r w' h => h)) (fun r hr => ?_)
  simp
  refine effm_ldc (v := .int .u64 P.sup) (fun vs' w he hw => ?_) ?_
  · match vs', hw with
    | [], hw => exact (hld hw).2
    | [_], hw => exact (hld (St.drop hw)).2
    | _ :: _ :: _, hw => simp [era] at he
  obtain ⟨wr, hr⟩ := hr
  obtain ⟨ra, rc, rfl, _⟩ := St.own_val hr
  simp [Instr.fill, Value.cells]
  refine effm_mv rfl (fun w hw => eff_box hw fun b w' h => ⟨b, rfl, ?_⟩) (fun r2 hr2 => ?_)
  · exact rclose (v := .slice ra P.rows.length rc) (St.to (B := A * rpur q P * rpt b P (.slice ra P.rows.length rc) * own 58 2 (.slice ra P.rows.length rc) P.rows.length (flat P.rows)) h (by show A * rpur q P * own 58 2 (.slice ra P.rows.length rc) P.rows.length (flat P.rows) * rpt b P (.slice ra P.rows.length rc) = _; ac_rfl))
  obtain ⟨_, q', rfl, _⟩ := hr2
  simp
end Go.HL.Pu

namespace Go.HL.Gd
open Go.HL Go.Proofs
set_option maxRecDepth 4000
set_option linter.unusedSimpArgs false
set_option linter.unusedVariables false
end Go.HL.Gd

namespace Go.HL.Gd
open Go.HL Go.Proofs
set_option maxRecDepth 4000
set_option linter.unusedSimpArgs false
set_option linter.unusedVariables false
def rgs (p : Nat) (lim : Int) (its : List It) : Asn := fun h => ∃ v, (pt p (.cells #[.int .i64 lim, v] 157 (0, 0)) * own 60 4 v its.length (flat its)) h
theorem ropen {w0 w : World} {A : Asn} {p : Nat} {lim : Int} {its : List It} (s : St w0 (A * rgs p lim its) w) :
    ∃ v, St w0 (A * pt p (.cells #[.int .i64 lim, v] 157 (0, 0)) * own 60 4 v its.length (flat its)) w := by
  obtain ⟨g, h1, h2, h3, d, e, a, v, b⟩ := s.holds
  refine ⟨v, ?_⟩
  rw [sep_assoc]
  exact s.of ⟨g, h1, h2, h3, d, e, a, b⟩
theorem rclose {w0 w : World} {A : Asn} {p : Nat} {lim : Int} {its : List It} {v : Value}
    (s : St w0 (A * pt p (.cells #[.int .i64 lim, v] 157 (0, 0)) * own 60 4 v its.length (flat its)) w) : St w0 (A * rgs p lim its) w := by
  rw [sep_assoc] at s
  obtain ⟨g, h1, h2, h3, d, e, a, b⟩ := s.holds
  exact s.of ⟨g, h1, h2, h3, d, e, a, v, b⟩

def h91_0 : HC := (.seq (.reg (.chk none (.bin .geq) (.cons (.inp 0) (.cons (.cst (.int .i64 0)) .nil)) (.bnd (.op (.bin .geq) (.cons (.inp 0) (.cons (.cst (.int .i64 0)) .nil))) (.chk (some ((.bv 0), true)) (.bin .lss) (.cons (.inp 0) (.cons (.cst (.int .i64 64)) .nil)) (.isb none (.bv 0) (.done [(1, (.ite (.bv 0) true (.op (.bin .lss) (.cons (.inp 0) (.cons (.cst (.int .i64 64)) .nil))) (.cst (.bool false))))] none)))))) .ret)
@[simp] theorem h91_0_wp : type_of% (@wpH h91_0 _ h91_0.eq_1) := wpH h91_0.eq_1
def l91 : Lifted := ⟨[0, 2], 9, [.slot 1], (.seq (.reg (.done [(1, (.cst (.bool false)))] none)) h91_0)⟩
theorem l91_ok : liftFn G1 91 400 = some l91 := by kernel_rfl
theorem raccount_spec (u : Int) (w : World) : CallW Tryz.prog 91 [.int .i64 u] (fun r w' => r = .bool (accF u) ∧ w' = w) w := by
  refine callW_of_lift l91_ok (by simp [l91]) ?_
  simp [l91, accF, condC_ite]
noncomputable def raccS : PS Tryz.prog := PS.ib 91 .i64 accF raccount_spec
noncomputable abbrev G2 : PF Tryz.prog := PF.of [accS, kindS, raccS]
@[simp] theorem G2_r_val (args : List Value) : G2.val 91 args = raccS.val args := rfl
@[simp] theorem G2_r_ok (args : List Value) : G2.ok 91 args = raccS.ok args := rfl
@[simp] theorem racc_val (u : Int) : raccS.val [.int .i64 u] = .bool (accF u) := rfl
@[simp] theorem racc_ok (u : Int) : raccS.ok [.int .i64 u] = (IntKind.i64 = .i64) := rfl

def h90_0 : HC := (.seq (.reg (.chk none (.build #[(.int .i64 0), (.slice none 0 0)] [(0, 1), (1, 1)] [0]) (.cons (.inp 0) .nil) (.eff (.box 157) (.cons (.op (.build #[(.int .i64 0), (.slice none 0 0)] [(0, 1), (1, 1)] [0]) (.cons (.inp 0) .nil)) .nil) (.done [(1, (.bv 0)), (2, (.cst (.int .i64 0)))] none)))) .ret)
@[simp] theorem h90_0_wp : type_of% (@wpH h90_0 _ h90_0.eq_1) := wpH h90_0.eq_1
def h90_1 : HC := (.seq (.reg (.done [(1, (.cst (.pointer none))), (2, (.cst (.int .i64 2)))] none)) .ret)
@[simp] theorem h90_1_wp : type_of% (@wpH h90_1 _ h90_1.eq_1) := wpH h90_1.eq_1
def h90_2 : HC := (.seq (.br (.chk none (.bin .lss) (.cons (.inp 0) (.cons (.cst (.int .i64 0)) .nil)) (.bnd (.op (.bin .lss) (.cons (.inp 0) (.cons (.cst (.int .i64 0)) .nil))) (.chk (some ((.bv 0), false)) (.bin .gtr) (.cons (.inp 0) (.cons (.cst (.int .i64 512)) .nil)) (.isb none (.bv 0) (.done [] (some (.ite (.bv 0) true (.cst (.bool true)) (.op (.bin .gtr) (.cons (.inp 0) (.cons (.cst (.int .i64 512)) .nil)))))))))) h90_1 .skip) h90_0)
@[simp] theorem h90_2_wp : type_of% (@wpH h90_2 _ h90_2.eq_1) := wpH h90_2.eq_1
def l90 : Lifted := ⟨[0, 2, 3], 13, [.slot 1, .slot 2], (.seq (.reg (.done [(1, (.cst (.pointer none))), (2, (.cst (.int .i64 0)))] none)) h90_2)⟩
theorem l90_ok : liftFn G2 90 400 = some l90 := by kernel_rfl

def h157_0 : HC := (.seq (.reg (.done [(2, (.cst (.int .i64 (-1))))] none)) .ret)
@[simp] theorem h157_0_wp : type_of% (@wpH h157_0 _ h157_0.eq_1) := wpH h157_0.eq_1
def h157_1 : HC := (.reg (.chk none (.bin .add) (.cons (.inp 3) (.cons (.cst (.int .i64 1)) .nil)) (.done [(3, (.op (.bin .add) (.cons (.inp 3) (.cons (.cst (.int .i64 1)) .nil))))] none)))
@[simp] theorem h157_1_wp : type_of% (@wpH h157_1 _ h157_1.eq_1) := wpH h157_1.eq_1
def h157_2 : HC := (.seq (.reg (.done [(2, (.inp 3))] none)) .ret)
@[simp] theorem h157_2_wp : type_of% (@wpH h157_2 _ h157_2.eq_1) := wpH h157_2.eq_1
def h157_3 : HC := (.br (.chk none .chkp (.cons (.inp 0) .nil) (.chk none (.fld 1) (.cons (.op .chkp (.cons (.inp 0) .nil)) .nil) (.eff (.ld false 1) (.cons (.op (.fld 1) (.cons (.op .chkp (.cons (.inp 0) .nil)) .nil)) .nil) (.chk none (.idxL 4) (.cons (.bv 0) (.cons (.inp 3) .nil)) (.chk none (.fld 0) (.cons (.op (.idxL 4) (.cons (.bv 0) (.cons (.inp 3) .nil))) .nil) (.eff (.ld false 1) (.cons (.op (.fld 0) (.cons (.op (.idxL 4) (.cons (.bv 0) (.cons (.inp 3) .nil))) .nil)) .nil) (.chk none (.bin .eql) (.cons (.bv 1) (.cons (.inp 1) .nil)) (.done [] (some (.op (.bin .eql) (.cons (.bv 1) (.cons (.inp 1) .nil)))))))))))) h157_2 .skip)
@[simp] theorem h157_3_wp : type_of% (@wpH h157_3 _ h157_3.eq_1) := wpH h157_3.eq_1
def h157_4 : HC := (.seq (.block 1 h157_3) h157_1)
@[simp] theorem h157_4_wp : type_of% (@wpH h157_4 _ h157_4.eq_1) := wpH h157_4.eq_1
def h157_5 : HC := (.seq (.br (.chk none .chkp (.cons (.inp 0) .nil) (.chk none (.fld 1) (.cons (.op .chkp (.cons (.inp 0) .nil)) .nil) (.eff (.ld false 1) (.cons (.op (.fld 1) (.cons (.op .chkp (.cons (.inp 0) .nil)) .nil)) .nil) (.chk none .lenL (.cons (.bv 0) .nil) (.chk none (.bin .lss) (.cons (.inp 3) (.cons (.op .lenL (.cons (.bv 0) .nil)) .nil)) (.done [] (some (.op (.bin .lss) (.cons (.inp 3) (.cons (.op .lenL (.cons (.bv 0) .nil)) .nil)))))))))) .skip (.exit 0)) h157_4)
@[simp] theorem h157_5_wp : type_of% (@wpH h157_5 _ h157_5.eq_1) := wpH h157_5.eq_1
def h157_6 : HC := (.loop h157_5)
@[simp] theorem h157_6_wp : type_of% (@wpH h157_6 _ h157_6.eq_1) := wpH h157_6.eq_1
def h157_7 : HC := (.seq (.block 0 h157_6) h157_0)
@[simp] theorem h157_7_wp : type_of% (@wpH h157_7 _ h157_7.eq_1) := wpH h157_7.eq_1
def h157_8 : HC := (.seq (.reg (.done [(3, (.cst (.int .i64 0)))] none)) h157_7)
@[simp] theorem h157_8_wp : type_of% (@wpH h157_8 _ h157_8.eq_1) := wpH h157_8.eq_1
def l157 : Lifted := ⟨[0, 1, 4, 5], 26, [.slot 2], (.seq (.reg (.done [(2, (.cst (.int .i64 0)))] none)) h157_8)⟩
theorem l157_ok : liftFn G2 157 400 = some l157 := by kernel_rfl

def h60_0 : HC := (.seq (.reg (.chk none .chkp (.cons (.inp 0) .nil) (.chk none (.fld 1) (.cons (.op .chkp (.cons (.inp 0) .nil)) .nil) (.eff (.ld false 1) (.cons (.op (.fld 1) (.cons (.op .chkp (.cons (.inp 0) .nil)) .nil)) .nil) (.chk none .lenL (.cons (.bv 0) .nil) (.done [(3, (.op .lenL (.cons (.bv 0) .nil))), (4, (.cst (.int .i64 0)))] none)))))) .ret)
@[simp] theorem h60_0_wp : type_of% (@wpH h60_0 _ h60_0.eq_1) := wpH h60_0.eq_1
def h60_1 : HC := (.seq (.regq (some 2) (.chk none .chkp (.cons (.inp 0) .nil) (.chk none (.fld 1) (.cons (.op .chkp (.cons (.inp 0) .nil)) .nil) (.eff (.ld false 1) (.cons (.op (.fld 1) (.cons (.op .chkp (.cons (.inp 0) .nil)) .nil)) .nil) (.chk none .chkp (.cons (.inp 0) .nil) (.chk none (.fld 1) (.cons (.op .chkp (.cons (.inp 0) .nil)) .nil) (.eff (.ld false 1) (.cons (.op (.fld 1) (.cons (.op .chkp (.cons (.inp 0) .nil)) .nil)) .nil) (.chk none .lenL (.cons (.bv 1) .nil) (.chk none (.bin .add) (.cons (.op .lenL (.cons (.bv 1) .nil)) (.cons (.cst (.int .i64 1)) .nil)) (.chk none (.build #[(.int .i64 0), (.int .i64 0), (.int .i64 0), (.int .i64 0)] [(0, 1), (1, 1), (2, 1), (3, 1)] [0, 1, 2]) (.cons (.op (.bin .add) (.cons (.op .lenL (.cons (.bv 1) .nil)) (.cons (.cst (.int .i64 1)) .nil))) (.cons (.inp 1) (.cons (.inp 2) .nil))) (.eff (.bsl 60 1 4 #[(.int .i64 0), (.int .i64 0), (.int .i64 0), (.int .i64 0)] [0]) (.cons (.op (.build #[(.int .i64 0), (.int .i64 0), (.int .i64 0), (.int .i64 0)] [(0, 1), (1, 1), (2, 1), (3, 1)] [0, 1, 2]) (.cons (.op (.bin .add) (.cons (.op .lenL (.cons (.bv 1) .nil)) (.cons (.cst (.int .i64 1)) .nil))) (.cons (.inp 1) (.cons (.inp 2) .nil)))) .nil) (.eff (.app 24 24 60 4 32 (.agg #[(.int .i64 0), (.int .i64 0), (.int .i64 0), (.int .i64 0)])) (.cons (.bv 0) (.cons (.bv 2) .nil)) (.chk none .chkp (.cons (.inp 0) .nil) (.chk none (.fld 1) (.cons (.op .chkp (.cons (.inp 0) .nil)) .nil) (.eff (.st 1) (.cons (.op (.fld 1) (.cons (.op .chkp (.cons (.inp 0) .nil)) .nil)) (.cons (.bv 3) .nil)) (.done [] none)))))))))))))))) h60_0)
@[simp] theorem h60_1_wp : type_of% (@wpH h60_1 _ h60_1.eq_1) := wpH h60_1.eq_1
def h60_2 : HC := (.seq (.reg (.done [(3, (.cst (.int .i64 0))), (4, (.cst (.int .i64 150)))] none)) .ret)
@[simp] theorem h60_2_wp : type_of% (@wpH h60_2 _ h60_2.eq_1) := wpH h60_2.eq_1
def h60_3 : HC := (.seq (.brq (some 0) (.chk none .chkp (.cons (.inp 0) .nil) (.chk none (.fld 1) (.cons (.op .chkp (.cons (.inp 0) .nil)) .nil) (.eff (.ld false 1) (.cons (.op (.fld 1) (.cons (.op .chkp (.cons (.inp 0) .nil)) .nil)) .nil) (.chk none .lenL (.cons (.bv 0) .nil) (.chk none .chkp (.cons (.inp 0) .nil) (.chk none (.fld 0) (.cons (.op .chkp (.cons (.inp 0) .nil)) .nil) (.eff (.ld false 1) (.cons (.op (.fld 0) (.cons (.op .chkp (.cons (.inp 0) .nil)) .nil)) .nil) (.chk none (.bin .eql) (.cons (.op .lenL (.cons (.bv 0) .nil)) (.cons (.bv 1) .nil)) (.done [] (some (.op (.bin .eql) (.cons (.op .lenL (.cons (.bv 0) .nil)) (.cons (.bv 1) .nil))))))))))))) h60_2 .skip) h60_1)
@[simp] theorem h60_3_wp : type_of% (@wpH h60_3 _ h60_3.eq_1) := wpH h60_3.eq_1
def h60_4 : HC := (.seq (.reg (.done [(3, (.cst (.int .i64 0))), (4, (.cst (.int .i64 152)))] none)) .ret)
@[simp] theorem h60_4_wp : type_of% (@wpH h60_4 _ h60_4.eq_1) := wpH h60_4.eq_1
def h60_5 : HC := (.seq (.br (.chk none (.bin .lss) (.cons (.inp 1) (.cons (.cst (.int .i64 0)) .nil)) (.bnd (.op (.bin .lss) (.cons (.inp 1) (.cons (.cst (.int .i64 0)) .nil))) (.chk (some ((.bv 0), false)) (.bin .geq) (.cons (.inp 1) (.cons (.cst (.int .i64 16)) .nil)) (.isb none (.bv 0) (.done [] (some (.ite (.bv 0) true (.cst (.bool true)) (.op (.bin .geq) (.cons (.inp 1) (.cons (.cst (.int .i64 16)) .nil)))))))))) h60_4 .skip) h60_3)
@[simp] theorem h60_5_wp : type_of% (@wpH h60_5 _ h60_5.eq_1) := wpH h60_5.eq_1
def h60_6 : HC := (.seq (.reg (.done [(3, (.cst (.int .i64 0))), (4, (.cst (.int .i64 2)))] none)) .ret)
@[simp] theorem h60_6_wp : type_of% (@wpH h60_6 _ h60_6.eq_1) := wpH h60_6.eq_1
def h60_7 : HC := (.seq (.br (.chk none (.cal 91) (.cons (.inp 2) .nil) (.chk none (.un .not) (.cons (.op (.cal 91) (.cons (.inp 2) .nil)) .nil) (.done [] (some (.op (.un .not) (.cons (.op (.cal 91) (.cons (.inp 2) .nil)) .nil)))))) h60_6 .skip) h60_5)
@[simp] theorem h60_7_wp : type_of% (@wpH h60_7 _ h60_7.eq_1) := wpH h60_7.eq_1
def h60_8 : HC := (.seq (.reg (.done [(3, (.cst (.int .i64 0))), (4, (.cst (.int .i64 1)))] none)) .ret)
@[simp] theorem h60_8_wp : type_of% (@wpH h60_8 _ h60_8.eq_1) := wpH h60_8.eq_1
def h60_9 : HC := (.seq (.br (.chk none (.eqNil false (.pointer 157) (.pointer none)) (.cons (.inp 0) .nil) (.done [] (some (.op (.eqNil false (.pointer 157) (.pointer none)) (.cons (.inp 0) .nil))))) h60_8 .skip) h60_7)
@[simp] theorem h60_9_wp : type_of% (@wpH h60_9 _ h60_9.eq_1) := wpH h60_9.eq_1
def l60 : Lifted := ⟨[0, 1, 2, 6, 7], 52, [.slot 3, .slot 4], (.seq (.reg (.done [(3, (.cst (.int .i64 0))), (4, (.cst (.int .i64 0)))] none)) h60_9)⟩
theorem l60_ok : liftFn G2 60 400 = some l60 := by kernel_rfl

def h126_0 : HC := (.seq (.reg (.done [(3, (.cst (.int .i64 0)))] none)) .ret)
@[simp] theorem h126_0_wp : type_of% (@wpH h126_0 _ h126_0.eq_1) := wpH h126_0.eq_1
def h126_1 : HC := (.seq (.reg (.chk none .chkp (.cons (.inp 0) .nil) (.chk none (.fld 1) (.cons (.op .chkp (.cons (.inp 0) .nil)) .nil) (.eff (.ld false 1) (.cons (.op (.fld 1) (.cons (.op .chkp (.cons (.inp 0) .nil)) .nil)) .nil) (.chk none (.idxL 4) (.cons (.bv 0) (.cons (.inp 4) .nil)) (.chk none (.fld 3) (.cons (.op (.idxL 4) (.cons (.bv 0) (.cons (.inp 4) .nil))) .nil) (.eff (.st 1) (.cons (.op (.fld 3) (.cons (.op (.idxL 4) (.cons (.bv 0) (.cons (.inp 4) .nil))) .nil)) (.cons (.inp 2) .nil)) (.done [] none)))))))) h126_0)
@[simp] theorem h126_1_wp : type_of% (@wpH h126_1 _ h126_1.eq_1) := wpH h126_1.eq_1
def h126_2 : HC := (.seq (.reg (.chk none .chkp (.cons (.inp 0) .nil) (.chk none (.fld 1) (.cons (.op .chkp (.cons (.inp 0) .nil)) .nil) (.eff (.ld false 1) (.cons (.op (.fld 1) (.cons (.op .chkp (.cons (.inp 0) .nil)) .nil)) .nil) (.chk none (.idxL 4) (.cons (.bv 0) (.cons (.inp 4) .nil)) (.chk none (.fld 2) (.cons (.op (.idxL 4) (.cons (.bv 0) (.cons (.inp 4) .nil))) .nil) (.eff (.st 1) (.cons (.op (.fld 2) (.cons (.op (.idxL 4) (.cons (.bv 0) (.cons (.inp 4) .nil))) .nil)) (.cons (.cst (.int .i64 (-1))) .nil)) (.done [] none)))))))) h126_1)
@[simp] theorem h126_2_wp : type_of% (@wpH h126_2 _ h126_2.eq_1) := wpH h126_2.eq_1
def h126_3 : HC := (.seq (.reg (.done [(3, (.cst (.int .i64 151)))] none)) .ret)
@[simp] theorem h126_3_wp : type_of% (@wpH h126_3 _ h126_3.eq_1) := wpH h126_3.eq_1
def h126_4 : HC := (.seq (.br (.chk none (.bin .lss) (.cons (.inp 4) (.cons (.cst (.int .i64 0)) .nil)) (.bnd (.op (.bin .lss) (.cons (.inp 4) (.cons (.cst (.int .i64 0)) .nil))) (.chk (some ((.bv 0), false)) .chkp (.cons (.inp 0) .nil) (.chk (some ((.bv 0), false)) (.fld 1) (.cons (.op .chkp (.cons (.inp 0) .nil)) .nil) (.ite (.bv 0) false (.eff (.ld false 1) (.cons (.ite (.bv 0) false (.op (.fld 1) (.cons (.op .chkp (.cons (.inp 0) .nil)) .nil)) (.cst (.tuple #[]))) .nil) (.chk none (.idxL 4) (.cons (.bv 1) (.cons (.inp 4) .nil)) (.chk none (.fld 3) (.cons (.op (.idxL 4) (.cons (.bv 1) (.cons (.inp 4) .nil))) .nil) (.eff (.ld false 1) (.cons (.op (.fld 3) (.cons (.op (.idxL 4) (.cons (.bv 1) (.cons (.inp 4) .nil))) .nil)) .nil) (.chk none (.bin .neq) (.cons (.bv 2) (.cons (.cst (.int .i64 0)) .nil)) (.isb none (.bv 0) (.done [] (some (.op (.bin .neq) (.cons (.bv 2) (.cons (.cst (.int .i64 0)) .nil))))))))))) (.isb none (.bv 0) (.done [] (some (.cst (.bool true)))))))))) h126_3 .skip) h126_2)
@[simp] theorem h126_4_wp : type_of% (@wpH h126_4 _ h126_4.eq_1) := wpH h126_4.eq_1
def h126_5 : HC := (.seq (.reg (.eff (.call 157) (.cons (.inp 0) (.cons (.inp 1) .nil)) (.done [(4, (.bv 0))] none))) h126_4)
@[simp] theorem h126_5_wp : type_of% (@wpH h126_5 _ h126_5.eq_1) := wpH h126_5.eq_1
def h126_6 : HC := (.seq (.reg (.done [(3, (.cst (.int .i64 2)))] none)) .ret)
@[simp] theorem h126_6_wp : type_of% (@wpH h126_6 _ h126_6.eq_1) := wpH h126_6.eq_1
def h126_7 : HC := (.seq (.br (.chk none (.bin .lss) (.cons (.inp 2) (.cons (.cst (.int .i64 1)) .nil)) (.done [] (some (.op (.bin .lss) (.cons (.inp 2) (.cons (.cst (.int .i64 1)) .nil)))))) h126_6 .skip) h126_5)
@[simp] theorem h126_7_wp : type_of% (@wpH h126_7 _ h126_7.eq_1) := wpH h126_7.eq_1
def h126_8 : HC := (.seq (.reg (.done [(3, (.cst (.int .i64 1)))] none)) .ret)
@[simp] theorem h126_8_wp : type_of% (@wpH h126_8 _ h126_8.eq_1) := wpH h126_8.eq_1
def h126_9 : HC := (.seq (.br (.chk none (.eqNil false (.pointer 157) (.pointer none)) (.cons (.inp 0) .nil) (.done [] (some (.op (.eqNil false (.pointer 157) (.pointer none)) (.cons (.inp 0) .nil))))) h126_8 .skip) h126_7)
@[simp] theorem h126_9_wp : type_of% (@wpH h126_9 _ h126_9.eq_1) := wpH h126_9.eq_1
def l126 : Lifted := ⟨[0, 1, 2, 6, 7], 43, [.slot 3], (.seq (.reg (.done [(3, (.cst (.int .i64 0)))] none)) h126_9)⟩
theorem l126_ok : liftFn G2 126 400 = some l126 := by kernel_rfl

def h155_0 : HC := (.seq (.reg (.done [(3, (.cst (.int .i64 0)))] none)) .ret)
@[simp] theorem h155_0_wp : type_of% (@wpH h155_0 _ h155_0.eq_1) := wpH h155_0.eq_1
def h155_1 : HC := (.seq (.reg (.chk none .chkp (.cons (.inp 0) .nil) (.chk none (.fld 1) (.cons (.op .chkp (.cons (.inp 0) .nil)) .nil) (.eff (.ld false 1) (.cons (.op (.fld 1) (.cons (.op .chkp (.cons (.inp 0) .nil)) .nil)) .nil) (.chk none (.idxL 4) (.cons (.bv 0) (.cons (.inp 4) .nil)) (.chk none (.fld 3) (.cons (.op (.idxL 4) (.cons (.bv 0) (.cons (.inp 4) .nil))) .nil) (.eff (.st 1) (.cons (.op (.fld 3) (.cons (.op (.idxL 4) (.cons (.bv 0) (.cons (.inp 4) .nil))) .nil)) (.cons (.cst (.int .i64 0)) .nil)) (.done [] none)))))))) h155_0)
@[simp] theorem h155_1_wp : type_of% (@wpH h155_1 _ h155_1.eq_1) := wpH h155_1.eq_1
def h155_2 : HC := (.seq (.reg (.chk none .chkp (.cons (.inp 0) .nil) (.chk none (.fld 1) (.cons (.op .chkp (.cons (.inp 0) .nil)) .nil) (.eff (.ld false 1) (.cons (.op (.fld 1) (.cons (.op .chkp (.cons (.inp 0) .nil)) .nil)) .nil) (.chk none (.idxL 4) (.cons (.bv 0) (.cons (.inp 4) .nil)) (.chk none (.fld 2) (.cons (.op (.idxL 4) (.cons (.bv 0) (.cons (.inp 4) .nil))) .nil) (.eff (.st 1) (.cons (.op (.fld 2) (.cons (.op (.idxL 4) (.cons (.bv 0) (.cons (.inp 4) .nil))) .nil)) (.cons (.inp 2) .nil)) (.done [] none)))))))) h155_1)
@[simp] theorem h155_2_wp : type_of% (@wpH h155_2 _ h155_2.eq_1) := wpH h155_2.eq_1
def h155_3 : HC := (.seq (.reg (.done [(3, (.cst (.int .i64 151)))] none)) .ret)
@[simp] theorem h155_3_wp : type_of% (@wpH h155_3 _ h155_3.eq_1) := wpH h155_3.eq_1
def h155_4 : HC := (.seq (.br (.chk none (.bin .lss) (.cons (.inp 4) (.cons (.cst (.int .i64 0)) .nil)) (.bnd (.op (.bin .lss) (.cons (.inp 4) (.cons (.cst (.int .i64 0)) .nil))) (.chk (some ((.bv 0), false)) .chkp (.cons (.inp 0) .nil) (.chk (some ((.bv 0), false)) (.fld 1) (.cons (.op .chkp (.cons (.inp 0) .nil)) .nil) (.ite (.bv 0) false (.eff (.ld false 1) (.cons (.ite (.bv 0) false (.op (.fld 1) (.cons (.op .chkp (.cons (.inp 0) .nil)) .nil)) (.cst (.tuple #[]))) .nil) (.chk none (.idxL 4) (.cons (.bv 1) (.cons (.inp 4) .nil)) (.chk none (.fld 3) (.cons (.op (.idxL 4) (.cons (.bv 1) (.cons (.inp 4) .nil))) .nil) (.eff (.ld false 1) (.cons (.op (.fld 3) (.cons (.op (.idxL 4) (.cons (.bv 1) (.cons (.inp 4) .nil))) .nil)) .nil) (.chk none (.bin .eql) (.cons (.bv 2) (.cons (.cst (.int .i64 0)) .nil)) (.isb none (.bv 0) (.done [] (some (.op (.bin .eql) (.cons (.bv 2) (.cons (.cst (.int .i64 0)) .nil))))))))))) (.isb none (.bv 0) (.done [] (some (.cst (.bool true)))))))))) h155_3 .skip) h155_2)
@[simp] theorem h155_4_wp : type_of% (@wpH h155_4 _ h155_4.eq_1) := wpH h155_4.eq_1
def h155_5 : HC := (.seq (.reg (.eff (.call 157) (.cons (.inp 0) (.cons (.inp 1) .nil)) (.done [(4, (.bv 0))] none))) h155_4)
@[simp] theorem h155_5_wp : type_of% (@wpH h155_5 _ h155_5.eq_1) := wpH h155_5.eq_1
def h155_6 : HC := (.seq (.reg (.done [(3, (.cst (.int .i64 2)))] none)) .ret)
@[simp] theorem h155_6_wp : type_of% (@wpH h155_6 _ h155_6.eq_1) := wpH h155_6.eq_1
def h155_7 : HC := (.seq (.br (.chk none (.cal 91) (.cons (.inp 2) .nil) (.chk none (.un .not) (.cons (.op (.cal 91) (.cons (.inp 2) .nil)) .nil) (.done [] (some (.op (.un .not) (.cons (.op (.cal 91) (.cons (.inp 2) .nil)) .nil)))))) h155_6 .skip) h155_5)
@[simp] theorem h155_7_wp : type_of% (@wpH h155_7 _ h155_7.eq_1) := wpH h155_7.eq_1
def h155_8 : HC := (.seq (.reg (.done [(3, (.cst (.int .i64 1)))] none)) .ret)
@[simp] theorem h155_8_wp : type_of% (@wpH h155_8 _ h155_8.eq_1) := wpH h155_8.eq_1
def h155_9 : HC := (.seq (.br (.chk none (.eqNil false (.pointer 157) (.pointer none)) (.cons (.inp 0) .nil) (.done [] (some (.op (.eqNil false (.pointer 157) (.pointer none)) (.cons (.inp 0) .nil))))) h155_8 .skip) h155_7)
@[simp] theorem h155_9_wp : type_of% (@wpH h155_9 _ h155_9.eq_1) := wpH h155_9.eq_1
def l155 : Lifted := ⟨[0, 1, 2, 6, 7], 44, [.slot 3], (.seq (.reg (.done [(3, (.cst (.int .i64 0)))] none)) h155_9)⟩
theorem l155_ok : liftFn G2 155 400 = some l155 := by kernel_rfl
theorem rNew_spec (lim : Int) (w0 w : World) (A : Asn) (s : St w0 A w) :
    CallW Tryz.prog 90 [.int .i64 lim] (fun r w' => if 0 ≤ lim ∧ lim ≤ 512 then ∃ p, r = .tuple #[.pointer (some ⟨p, 0, none⟩), .int .i64 0] ∧ St w0 (A * rgs p lim []) w' else r = .tuple #[.pointer none, .int .i64 2] ∧ St w0 A w') w := by
  refine callW_of_lift l90_ok (by simp [l90]) ?_
  simp [l90]
  refine cndI (fun h => ?_) (fun h => ?_)
  · simp at h
    have : ¬ (0 ≤ lim ∧ lim ≤ 512) := by omega
    simp [this]
    exact s
  · simp at h
    simp [h, Instr.fill, Value.cells]
    refine eff_box s ?_
    intro b w1 s1
    simp
    refine rclose (v := .slice none 0 0) ?_
    exact s1.own_nil _ _
def findF (its : List It) (item : Int) : Int := if 1 ≤ item ∧ item ≤ its.length then item - 1 else -1
theorem find_spec (p : Nat) (lim : Int) (its : List It) (item : Int) (w0 w : World) (A : Asn) (hwf : WF its) (hl : its.length ≤ 1048576) (s : St w0 (A * rgs p lim its) w) :
    CallW Tryz.prog 157 [.pointer (some ⟨p, 0, none⟩), .int .i64 item] (fun r w' => r = .int .i64 (findF its item) ∧ St w0 (A * rgs p lim its) w') w := by
  refine callW_of_lift l157_ok (by simp [l157]) ?_
  simp [l157]
  obtain ⟨v, s1⟩ := ropen s
  obtain ⟨a, cap, rfl, _⟩ := s1.own_val
  refine loopI (fun env w' => ∃ (i : Nat), env = [.pointer (some ⟨p, 0, none⟩), .int .i64 item, .int .i64 0, .int .i64 i] ∧ i ≤ its.length ∧ (∀ k, k < i → item ≠ (k : Int) + 1) ∧ w' = w)
    (fun env _ => its.length - slotN env 3) ⟨0, rfl, by omega, by omega, rfl⟩ ?_
  rintro LQ env w' ⟨i, rfl, hi, hk, rfl⟩ hN hE hR
  have hall : w'.cell? ⟨p, 1, none⟩ = some (.slice a its.length cap) := by rw [cell_of s1.swap.look]; rfl
  simp
  refine eff_ldc hall ?_
  simp
  refine cndI (fun h => ?_) (fun h => ?_)
  · simp at h
    obtain ⟨g, cap', hv, _, hc⟩ := s1.own_at (by omega)
    cases hv
    simp
    refine eff_ldc hall ?_
    simp [h]
    refine eff_ldc (v := .int .i64 ((i : Int) + 1)) (by rw [← hwf.num i h]; exact hc _ _ (flat_at h 0 _ rfl)) ?_
    simp
    refine cndI (fun h2 => ?_) (fun h2 => ?_)
    · simp at h2
      have e : findF its item = i := by unfold findF; rw [if_pos (by omega)]; omega
      simp
      refine hR _ _ ?_
      simp [e]
      exact s
    · simp at h2
      simp
      try simp (disch := omega) only [wrap64]
      refine hN _ _ ⟨i + 1, by simp, by omega, ?_, rfl⟩ (by simp [slotN]; omega)
      intro k hk'
      by_cases e : k = i
      · subst e; omega
      · exact hk k (by omega)
  · simp at h
    have e : findF its item = -1 := by
      unfold findF
      rw [if_neg]
      intro hh
      exact hk (item.toNat - 1) (by omega) (by omega)
    simp
    refine hE _ _ _ ?_
    simp [e]
    exact s
theorem find_at {its : List It} {item : Int} (h : 0 ≤ findF its item) : ∃ i : Nat, item = i + 1 ∧ i < its.length ∧ findF its item = i := by
  unfold findF at h ⊢
  split
  · exact ⟨item.toNat - 1, by omega, by omega, by omega⟩
  · rename_i hn; rw [if_neg hn] at h; omega
theorem put_at {its : List It} {i : Nat} (hi : i < its.length) (held : Bool) (acc con : Int) : putF its ((i : Int) + 1) held acc con = if decide (0 < its[i].con) = held then (0, its.set i ⟨its[i].num, its[i].kind, acc, con⟩) else (151, its) := by
  unfold putF
  rw [if_pos (by omega)]
  have : ((i : Int) + 1).toNat - 1 = i := by omega
  simp [this, hi]
theorem put_off {its : List It} {item : Int} (h : ¬ 0 ≤ findF its item) (held : Bool) (acc con : Int) : putF its item held acc con = (151, its) := by
  unfold putF
  rw [if_neg]
  intro hh
  unfold findF at h
  rw [if_pos hh] at h
  omega
end Go.HL.Gd

namespace Go.HL.Gd
open Go.HL Go.Proofs
set_option maxRecDepth 4000
set_option linter.unusedSimpArgs false
set_option linter.unusedVariables false
theorem rHold_spec (p : Nat) (lim : Int) (its : List It) (item c : Int) (w0 w : World) (A : Asn) (hg : GI lim its) (s : St w0 (A * rgs p lim its) w) :
    CallW Tryz.prog 126 [.pointer (some ⟨p, 0, none⟩), .int .i64 item, .int .i64 c]
      (fun r w' => r = .int .i64 (holdF its item c).1 ∧ St w0 (A * rgs p lim (holdF its item c).2) w') w := by
  have hlen := hg.len
  have hlim := hg.lim
  refine callW_of_lift l126_ok (by simp [l126]) ?_
  simp [l126]
  refine cndI (fun h1 => ?_) (fun h1 => ?_)
  · simp at h1
    simp [holdF, h1]
    exact s
  simp at h1
  have hmv : holdF its item c = putF its item false (-1) c := by unfold holdF; rw [if_neg (by omega)]
  rw [hmv]
  simp
  refine eff_call ((find_spec p lim its item w0 w A hg.toWF (by omega) s).mono ?_)
  rintro r w1 ⟨rfl, s1⟩
  simp
  by_cases h2 : 0 ≤ findF its item
  · obtain ⟨i, rfl, hi, hf⟩ := find_at h2
    obtain ⟨v, s2⟩ := ropen s1
    obtain ⟨g, cap, rfl, _, hc⟩ := s2.own_at (by omega)
    have hall : ∀ {B : Asn} {w : World}, St w0 (A * pt p (.cells #[.int .i64 lim, .slice (some ⟨g, 0, none⟩) its.length cap] 157 (0, 0)) * B) w → w.cell? ⟨p, 1, none⟩ = some (.slice (some ⟨g, 0, none⟩) its.length cap) := fun s => by rw [cell_of s.swap.look]; rfl
    have hi2 : ¬ (i : Int) < 0 := by omega
    rw [hf]
    simp [hi2]
    refine eff_ldc (hall s2) ?_
    simp [hi]
    refine eff_ldc (v := .int .i64 its[i].con) (hc _ _ (flat_at hi 3 _ rfl)) ?_
    simp
    have hpl := hg.place its[i] (List.getElem_mem hi)
    refine cndI (fun h3 => ?_) (fun h3 => ?_)
    · simp at h3
      have : decide (0 < its[i].con) ≠ false := by simp; omega
      rw [put_at hi, if_neg this]
      simp
      exact s1
    · simp at h3
      have : decide (0 < its[i].con) = false := by simp; omega
      rw [put_at hi, if_pos this]
      simp
      refine eff_ldc (hall s2) ?_
      simp [hi]
      have hfl := flat_len its
      refine eff_stC s2 (by omega) rfl ?_
      intro w3 s3
      simp
      refine eff_ldc (hall s3) ?_
      simp [hi]
      refine eff_stC s3 (by rw [List.length_set]; omega) rfl ?_
      intro w4 s4
      simp
      rw [flat_set2 hi] at s4
      refine rclose (v := .slice (some ⟨g, 0, none⟩) its.length cap) ?_
      simpa using s4
  · rw [put_off h2]
    have : findF its item < 0 := by omega
    simp [this]
    exact s1
theorem rFree_spec (p : Nat) (lim : Int) (its : List It) (item a : Int) (w0 w : World) (A : Asn) (hg : GI lim its) (s : St w0 (A * rgs p lim its) w) :
    CallW Tryz.prog 155 [.pointer (some ⟨p, 0, none⟩), .int .i64 item, .int .i64 a]
      (fun r w' => r = .int .i64 (freeF its item a).1 ∧ St w0 (A * rgs p lim (freeF its item a).2) w') w := by
  have hlen := hg.len
  have hlim := hg.lim
  refine callW_of_lift l155_ok (by simp [l155]) ?_
  simp [l155]
  refine cndI (fun h1 => ?_) (fun h1 => ?_)
  · simp at h1
    simp [freeF, h1]
    exact s
  simp at h1
  have hmv : freeF its item a = putF its item true a 0 := by unfold freeF; rw [if_pos h1]
  rw [hmv]
  simp
  refine eff_call ((find_spec p lim its item w0 w A hg.toWF (by omega) s).mono ?_)
  rintro r w1 ⟨rfl, s1⟩
  simp
  by_cases h2 : 0 ≤ findF its item
  · obtain ⟨i, rfl, hi, hf⟩ := find_at h2
    obtain ⟨v, s2⟩ := ropen s1
    obtain ⟨g, cap, rfl, _, hc⟩ := s2.own_at (by omega)
    have hall : ∀ {B : Asn} {w : World}, St w0 (A * pt p (.cells #[.int .i64 lim, .slice (some ⟨g, 0, none⟩) its.length cap] 157 (0, 0)) * B) w → w.cell? ⟨p, 1, none⟩ = some (.slice (some ⟨g, 0, none⟩) its.length cap) := fun s => by rw [cell_of s.swap.look]; rfl
    have hi2 : ¬ (i : Int) < 0 := by omega
    rw [hf]
    simp [hi2]
    refine eff_ldc (hall s2) ?_
    simp [hi]
    refine eff_ldc (v := .int .i64 its[i].con) (hc _ _ (flat_at hi 3 _ rfl)) ?_
    simp
    have hpl := hg.place its[i] (List.getElem_mem hi)
    refine cndI (fun h3 => ?_) (fun h3 => ?_)
    · simp at h3
      have : decide (0 < its[i].con) ≠ true := by simp; omega
      rw [put_at hi, if_neg this]
      simp
      exact s1
    · simp at h3
      have : decide (0 < its[i].con) = true := by simp; omega
      rw [put_at hi, if_pos this]
      simp
      refine eff_ldc (hall s2) ?_
      simp [hi]
      have hfl := flat_len its
      refine eff_stC s2 (by omega) rfl ?_
      intro w3 s3
      simp
      refine eff_ldc (hall s3) ?_
      simp [hi]
      refine eff_stC s3 (by rw [List.length_set]; omega) rfl ?_
      intro w4 s4
      simp
      rw [flat_set2 hi] at s4
      refine rclose (v := .slice (some ⟨g, 0, none⟩) its.length cap) ?_
      simpa using s4
  · rw [put_off h2]
    have : findF its item < 0 := by omega
    simp [this]
    exact s1
theorem rMake_spec (p : Nat) (lim : Int) (its : List It) (k a : Int) (w0 w : World) (A : Asn) (hg : GI lim its) (s : St w0 (A * rgs p lim its) w) :
    CallW Tryz.prog 60 [.pointer (some ⟨p, 0, none⟩), .int .i64 k, .int .i64 a]
      (fun r w' => r = .tuple #[.int .i64 (makeF lim its k a).1, .int .i64 (makeF lim its k a).2.1] ∧ St w0 (A * rgs p lim (makeF lim its k a).2.2) w') w := by
  have hlen := hg.len
  have hlim := hg.lim
  refine callW_of_lift l60_ok (by simp [l60]) ?_
  simp [l60]
  refine cndI (fun h1 => ?_) (fun h1 => ?_)
  · simp at h1
    simp [makeF, h1]
    exact s
  simp at h1
  simp
  refine cndI (fun h2 => ?_) (fun h2 => ?_)
  · have hk : kindF k = false := by
      simp only [kindF, Bool.and_eq_false_iff, decide_eq_false_iff_not]
      simp at h2
      omega
    simp [makeF, h1, hk]
    exact s
  have hk : kindF k = true := by
    simp only [kindF, Bool.and_eq_true, decide_eq_true_eq]
    simp at h2
    omega
  simp
  obtain ⟨v, s1⟩ := ropen s
  obtain ⟨b, cap, rfl, _⟩ := s1.own_val
  refine brqI s1 ?_
  simp
  refine effq_ldc (v := .slice b its.length cap) (fun w' s' => by rw [cell_of s'.swap.look]; rfl) ?_
  simp
  refine effq_ldc (v := .int .i64 lim) (fun w' s' => by rw [cell_of s'.swap.look]; rfl) ?_
  simp
  intro w2 s2
  refine cndI (fun h3 => ?_) (fun h3 => ?_)
  · simp at h3
    have hh : lim ≤ its.length := by omega
    simp [makeF, h1, hk, hh]
    exact rclose s2
  simp at h3
  have hh : ¬ lim ≤ its.length := by omega
  have hw : IntKind.i64.wrap (its.length + 1) = its.length + 1 := wrap64 (by omega) (by omega)
  have hmk : makeF lim its k a = ((its.length : Int) + 1, (0 : Int), its ++ [⟨its.length + 1, k, a, 0⟩]) := by unfold makeF; rw [if_neg (by simp [h1]), if_neg (by simp [hk]), if_neg hh]
  rw [hmk]
  simp
  generalize hN : its.length = N at *
  refine regmI (fun vs w => match vs with
    | [] => St w0 (A * pt p (.cells #[.int .i64 lim, .slice b N cap] 157 (0, 0)) * own 60 4 (.slice b N cap) N (flat its)) w
    | [sl] => ∃ c, sl = .slice (some ⟨c, 0, none⟩) 1 1 ∧ St w0 (A * pt p (.cells #[.int .i64 lim, .slice b N cap] 157 (0, 0)) * own 60 4 (.slice b N cap) N (flat its) * pt c (.cells (It.cs ⟨N + 1, k, a, 0⟩).toArray 60 (0, 0))) w
    | [sl, v'] => ∃ c, sl = .slice (some ⟨c, 0, none⟩) 1 1 ∧ St w0 (A * pt p (.cells #[.int .i64 lim, .slice b N cap] 157 (0, 0)) * pt c (.cells (It.cs ⟨N + 1, k, a, 0⟩).toArray 60 (0, 0)) * own 60 4 v' (N + 1) (flat its ++ It.cs ⟨N + 1, k, a, 0⟩)) w
    | _ :: v' :: _ => ∃ c, St w0 (A * pt c (.cells (It.cs ⟨N + 1, k, a, 0⟩).toArray 60 (0, 0)) * own 60 4 v' (N + 1) (flat its ++ It.cs ⟨N + 1, k, a, 0⟩) * pt p (.cells #[.int .i64 lim, v'] 157 (0, 0))) w) s2.drew ?_
  simp
  refine effm_ldc (v := .slice b N cap) (fun vs' w he hw => ?_) ?_
  · match vs', hw with
    | [], hw => rw [cell_of (St.swap hw).look]; rfl
    | [_], ⟨c, _, hw⟩ => rw [cell_of (St.swap hw.drop).look]; rfl
    | [_, _], ⟨c, _, hw⟩ => rw [cell_of hw.drop.drop.look]; rfl
    | _ :: _ :: _ :: _, hw => simp [era] at he
  simp
  refine effm_ldc (v := .slice b N cap) (fun vs' w he hw => ?_) ?_
  · match vs', hw with
    | [], hw => rw [cell_of (St.swap hw).look]; rfl
    | [_], ⟨c, _, hw⟩ => rw [cell_of (St.swap hw.drop).look]; rfl
    | [_, _], ⟨c, _, hw⟩ => rw [cell_of hw.drop.drop.look]; rfl
    | _ :: _ :: _ :: _, hw => simp [era] at he
  simp [hw, Instr.fill, Value.cells]
  refine effm_mv rfl (fun w hw => eff_bslV hw rfl fun c w' h => ⟨c, rfl, h⟩) (fun sl hsl => ?_)
  obtain ⟨w7, c, rfl, _⟩ := hsl
  simp
  refine effm_mv rfl (fun w hw => ?_) (fun v' hv' => ?_)
  · obtain ⟨c', e, hw⟩ := hw
    cases e
    have hw' := hw.to (B := A * pt p (.cells #[.int .i64 lim, .slice b N cap] 157 (0, 0)) * pt c (.cells (It.cs ⟨N + 1, k, a, 0⟩).toArray 60 (0, 0)) * own 60 4 (.slice b N cap) N (flat its)) (by ac_rfl)
    exact eff_app (m := 1) (news := It.cs ⟨N + 1, k, a, 0⟩) hw' rfl hw.cells_look (cs_one _) (by decide) rfl (by unfold maxLen; omega) (by omega) fun v'' w' h => ⟨c, rfl, h⟩
  obtain ⟨w8, c', _, hv'⟩ := hv'
  obtain ⟨na, nc, rfl, _⟩ := hv'.own_val
  simp
  refine effm_mv rfl (fun w hw => ?_) (fun u _ => ?_)
  · obtain ⟨c', e, hw⟩ := hw
    have hw' := hw.to (B := A * pt c' (.cells (It.cs ⟨N + 1, k, a, 0⟩).toArray 60 (0, 0)) * own 60 4 (.slice na (N + 1) nc) (N + 1) (flat its ++ It.cs ⟨N + 1, k, a, 0⟩) * pt p (.cells #[.int .i64 lim, .slice b N cap] 157 (0, 0))) (by ac_rfl)
    exact eff_st1 hw' rfl (by simp) fun w' h => ⟨c', by simpa using h⟩
  simp
  intro w9 c9 h9
  refine eff_ldc (v := .slice na (N + 1) nc) (by rw [cell_of h9.look]; rfl) ?_
  simp
  have e9 : flat its ++ It.cs ⟨N + 1, k, a, 0⟩ = flat (its ++ [⟨N + 1, k, a, 0⟩]) := by simp [flat]
  have l9 : N + 1 = (its ++ [(⟨N + 1, k, a, 0⟩ : It)]).length := by simp [hN]
  rw [e9] at h9
  refine rclose (v := .slice na (N + 1) nc) ?_
  rw [← l9]
  exact St.cut (pt c9 (.cells (It.cs ⟨N + 1, k, a, 0⟩).toArray 60 (0, 0))) h9 (by ac_rfl)
end Go.HL.Gd

namespace Go.HL.Gd
open Go.HL Go.Proofs
set_option maxRecDepth 4000
set_option linter.unusedSimpArgs false
set_option linter.unusedVariables false

def h124_0 : HC := (.seq (.reg (.chk none .chkp (.cons (.inp 0) .nil) (.chk none (.fld 1) (.cons (.op .chkp (.cons (.inp 0) .nil)) .nil) (.eff (.ld false 1) (.cons (.op (.fld 1) (.cons (.op .chkp (.cons (.inp 0) .nil)) .nil)) .nil) (.chk none (.idxL 4) (.cons (.bv 0) (.cons (.inp 4) .nil)) (.eff (.ld true 4) (.cons (.op (.idxL 4) (.cons (.bv 0) (.cons (.inp 4) .nil))) .nil) (.eff (.st 4) (.cons (.inp 2) (.cons (.bv 1) .nil)) (.done [(3, (.cst (.int .i64 0)))] none)))))))) .ret)
@[simp] theorem h124_0_wp : type_of% (@wpH h124_0 _ h124_0.eq_1) := wpH h124_0.eq_1
def h124_1 : HC := (.seq (.reg (.chk none (.build #[(.int .i64 0), (.int .i64 0), (.int .i64 0), (.int .i64 0)] [(0, 1), (1, 1), (2, 1), (3, 1)] []) .nil (.eff (.st 4) (.cons (.inp 2) (.cons (.op (.build #[(.int .i64 0), (.int .i64 0), (.int .i64 0), (.int .i64 0)] [(0, 1), (1, 1), (2, 1), (3, 1)] []) .nil) .nil)) (.done [(3, (.cst (.int .i64 151)))] none)))) .ret)
@[simp] theorem h124_1_wp : type_of% (@wpH h124_1 _ h124_1.eq_1) := wpH h124_1.eq_1
def h124_2 : HC := (.seq (.br (.chk none (.bin .lss) (.cons (.inp 4) (.cons (.cst (.int .i64 0)) .nil)) (.done [] (some (.op (.bin .lss) (.cons (.inp 4) (.cons (.cst (.int .i64 0)) .nil)))))) h124_1 .skip) h124_0)
@[simp] theorem h124_2_wp : type_of% (@wpH h124_2 _ h124_2.eq_1) := wpH h124_2.eq_1
def h124_3 : HC := (.seq (.reg (.eff (.call 157) (.cons (.inp 0) (.cons (.inp 1) .nil)) (.done [(4, (.bv 0))] none))) h124_2)
@[simp] theorem h124_3_wp : type_of% (@wpH h124_3 _ h124_3.eq_1) := wpH h124_3.eq_1
def h124_4 : HC := (.seq (.reg (.chk none (.build #[(.int .i64 0), (.int .i64 0), (.int .i64 0), (.int .i64 0)] [(0, 1), (1, 1), (2, 1), (3, 1)] []) .nil (.eff (.st 4) (.cons (.inp 2) (.cons (.op (.build #[(.int .i64 0), (.int .i64 0), (.int .i64 0), (.int .i64 0)] [(0, 1), (1, 1), (2, 1), (3, 1)] []) .nil) .nil)) (.done [(3, (.cst (.int .i64 1)))] none)))) .ret)
@[simp] theorem h124_4_wp : type_of% (@wpH h124_4 _ h124_4.eq_1) := wpH h124_4.eq_1
def h124_5 : HC := (.seq (.br (.chk none (.eqNil false (.pointer 157) (.pointer none)) (.cons (.inp 0) .nil) (.done [] (some (.op (.eqNil false (.pointer 157) (.pointer none)) (.cons (.inp 0) .nil))))) h124_4 .skip) h124_3)
@[simp] theorem h124_5_wp : type_of% (@wpH h124_5 _ h124_5.eq_1) := wpH h124_5.eq_1
def l124 : Lifted := ⟨[0, 1, 4, 5, 6], 23, [.cell 2 true 4, .slot 3], (.seq (.reg (.eff (.new 60 (.agg #[(.int .i64 0), (.int .i64 0), (.int .i64 0), (.int .i64 0)])) .nil (.done [(2, (.bv 0)), (3, (.cst (.int .i64 0)))] none))) h124_5)⟩
theorem l124_ok : liftFn G2 124 400 = some l124 := by kernel_rfl

def h96_0 : HC := (.seq (.reg (.done [(2, (.inp 3))] none)) .ret)
@[simp] theorem h96_0_wp : type_of% (@wpH h96_0 _ h96_0.eq_1) := wpH h96_0.eq_1
def h96_1 : HC := (.reg (.chk none (.bin .add) (.cons (.inp 4) (.cons (.cst (.int .i64 1)) .nil)) (.done [(4, (.op (.bin .add) (.cons (.inp 4) (.cons (.cst (.int .i64 1)) .nil))))] none)))
@[simp] theorem h96_1_wp : type_of% (@wpH h96_1 _ h96_1.eq_1) := wpH h96_1.eq_1
def h96_2 : HC := (.reg (.chk none .chkp (.cons (.inp 0) .nil) (.chk none (.fld 1) (.cons (.op .chkp (.cons (.inp 0) .nil)) .nil) (.eff (.ld false 1) (.cons (.op (.fld 1) (.cons (.op .chkp (.cons (.inp 0) .nil)) .nil)) .nil) (.chk none (.idxL 4) (.cons (.bv 0) (.cons (.inp 4) .nil)) (.chk none (.fld 0) (.cons (.op (.idxL 4) (.cons (.bv 0) (.cons (.inp 4) .nil))) .nil) (.eff (.ld false 1) (.cons (.op (.fld 0) (.cons (.op (.idxL 4) (.cons (.bv 0) (.cons (.inp 4) .nil))) .nil)) .nil) (.eff (.bsl 3 1 1 #[(.int .i64 0)] [0]) (.cons (.bv 1) .nil) (.eff (.app 44 44 3 1 8 (.int .i64 0)) (.cons (.inp 3) (.cons (.bv 2) .nil)) (.done [(3, (.bv 3))] none))))))))))
@[simp] theorem h96_2_wp : type_of% (@wpH h96_2 _ h96_2.eq_1) := wpH h96_2.eq_1
def h96_3 : HC := (.br (.chk none (.bin .gtr) (.cons (.inp 1) (.cons (.cst (.int .i64 0)) .nil)) (.bnd (.op (.bin .gtr) (.cons (.inp 1) (.cons (.cst (.int .i64 0)) .nil))) (.chk (some ((.bv 0), true)) .chkp (.cons (.inp 0) .nil) (.chk (some ((.bv 0), true)) (.fld 1) (.cons (.op .chkp (.cons (.inp 0) .nil)) .nil) (.ite (.bv 0) true (.eff (.ld false 1) (.cons (.ite (.bv 0) true (.op (.fld 1) (.cons (.op .chkp (.cons (.inp 0) .nil)) .nil)) (.cst (.tuple #[]))) .nil) (.chk none (.idxL 4) (.cons (.bv 1) (.cons (.inp 4) .nil)) (.chk none (.fld 3) (.cons (.op (.idxL 4) (.cons (.bv 1) (.cons (.inp 4) .nil))) .nil) (.eff (.ld false 1) (.cons (.op (.fld 3) (.cons (.op (.idxL 4) (.cons (.bv 1) (.cons (.inp 4) .nil))) .nil)) .nil) (.chk none (.bin .eql) (.cons (.bv 2) (.cons (.inp 1) .nil)) (.isb none (.bv 0) (.done [] (some (.op (.bin .eql) (.cons (.bv 2) (.cons (.inp 1) .nil))))))))))) (.isb none (.bv 0) (.done [] (some (.cst (.bool false)))))))))) h96_2 .skip)
@[simp] theorem h96_3_wp : type_of% (@wpH h96_3 _ h96_3.eq_1) := wpH h96_3.eq_1
def h96_4 : HC := (.seq (.block 1 h96_3) h96_1)
@[simp] theorem h96_4_wp : type_of% (@wpH h96_4 _ h96_4.eq_1) := wpH h96_4.eq_1
def h96_5 : HC := (.seq (.br (.chk none .chkp (.cons (.inp 0) .nil) (.chk none (.fld 1) (.cons (.op .chkp (.cons (.inp 0) .nil)) .nil) (.eff (.ld false 1) (.cons (.op (.fld 1) (.cons (.op .chkp (.cons (.inp 0) .nil)) .nil)) .nil) (.chk none .lenL (.cons (.bv 0) .nil) (.chk none (.bin .lss) (.cons (.inp 4) (.cons (.op .lenL (.cons (.bv 0) .nil)) .nil)) (.done [] (some (.op (.bin .lss) (.cons (.inp 4) (.cons (.op .lenL (.cons (.bv 0) .nil)) .nil)))))))))) .skip (.exit 0)) h96_4)
@[simp] theorem h96_5_wp : type_of% (@wpH h96_5 _ h96_5.eq_1) := wpH h96_5.eq_1
def h96_6 : HC := (.loop h96_5)
@[simp] theorem h96_6_wp : type_of% (@wpH h96_6 _ h96_6.eq_1) := wpH h96_6.eq_1
def h96_7 : HC := (.seq (.block 0 h96_6) h96_0)
@[simp] theorem h96_7_wp : type_of% (@wpH h96_7 _ h96_7.eq_1) := wpH h96_7.eq_1
def h96_8 : HC := (.seq (.reg (.done [(4, (.cst (.int .i64 0)))] none)) h96_7)
@[simp] theorem h96_8_wp : type_of% (@wpH h96_8 _ h96_8.eq_1) := wpH h96_8.eq_1
def h96_9 : HC := (.seq (.reg (.done [(2, (.inp 3))] none)) .ret)
@[simp] theorem h96_9_wp : type_of% (@wpH h96_9 _ h96_9.eq_1) := wpH h96_9.eq_1
def h96_10 : HC := (.seq (.br (.chk none (.eqNil false (.pointer 157) (.pointer none)) (.cons (.inp 0) .nil) (.done [] (some (.op (.eqNil false (.pointer 157) (.pointer none)) (.cons (.inp 0) .nil))))) h96_9 .skip) h96_8)
@[simp] theorem h96_10_wp : type_of% (@wpH h96_10 _ h96_10.eq_1) := wpH h96_10.eq_1
def h96_11 : HC := (.seq (.reg (.done [(3, (.cst (.slice none 0 0)))] none)) h96_10)
@[simp] theorem h96_11_wp : type_of% (@wpH h96_11 _ h96_11.eq_1) := wpH h96_11.eq_1
def l96 : Lifted := ⟨[0, 1, 4, 5, 6], 45, [.slot 2], (.seq (.reg (.done [(2, (.cst (.slice none 0 0)))] none)) h96_11)⟩
theorem l96_ok : liftFn G2 96 400 = some l96 := by kernel_rfl

def h71_0 : HC := (.seq (.reg (.chk none .chkp (.cons (.inp 0) .nil) (.chk none (.fld 1) (.cons (.op .chkp (.cons (.inp 0) .nil)) .nil) (.eff (.ld false 1) (.cons (.op (.fld 1) (.cons (.op .chkp (.cons (.inp 0) .nil)) .nil)) .nil) (.eff (.app 24 24 60 4 32 (.agg #[(.int .i64 0), (.int .i64 0), (.int .i64 0), (.int .i64 0)])) (.cons (.inp 2) (.cons (.bv 0) .nil)) (.done [(1, (.bv 1))] none)))))) .ret)
@[simp] theorem h71_0_wp : type_of% (@wpH h71_0 _ h71_0.eq_1) := wpH h71_0.eq_1
def h71_1 : HC := (.seq (.reg (.done [(1, (.inp 2))] none)) .ret)
@[simp] theorem h71_1_wp : type_of% (@wpH h71_1 _ h71_1.eq_1) := wpH h71_1.eq_1
def h71_2 : HC := (.seq (.br (.chk none (.eqNil false (.pointer 157) (.pointer none)) (.cons (.inp 0) .nil) (.done [] (some (.op (.eqNil false (.pointer 157) (.pointer none)) (.cons (.inp 0) .nil))))) h71_1 .skip) h71_0)
@[simp] theorem h71_2_wp : type_of% (@wpH h71_2 _ h71_2.eq_1) := wpH h71_2.eq_1
def h71_3 : HC := (.seq (.reg (.done [(2, (.cst (.slice none 0 0)))] none)) h71_2)
@[simp] theorem h71_3_wp : type_of% (@wpH h71_3 _ h71_3.eq_1) := wpH h71_3.eq_1
def l71 : Lifted := ⟨[0, 2, 3], 13, [.slot 1], (.seq (.reg (.done [(1, (.cst (.slice none 0 0)))] none)) h71_3)⟩
theorem l71_ok : liftFn G2 71 400 = some l71 := by kernel_rfl

def h154_0 : HC := (.seq (.regq (some 2) (.chk none .chkp (.cons (.inp 0) .nil) (.chk none (.fld 0) (.cons (.op .chkp (.cons (.inp 0) .nil)) .nil) (.eff (.ld false 1) (.cons (.op (.fld 0) (.cons (.op .chkp (.cons (.inp 0) .nil)) .nil)) .nil) (.eff (.call 71) (.cons (.inp 0) .nil) (.chk none (.build #[(.int .i64 0), (.slice none 0 0)] [(0, 1), (1, 1)] [0, 1]) (.cons (.bv 0) (.cons (.bv 1) .nil)) (.eff (.box 157) (.cons (.op (.build #[(.int .i64 0), (.slice none 0 0)] [(0, 1), (1, 1)] [0, 1]) (.cons (.bv 0) (.cons (.bv 1) .nil))) .nil) (.done [(1, (.bv 2))] none)))))))) .ret)
@[simp] theorem h154_0_wp : type_of% (@wpH h154_0 _ h154_0.eq_1) := wpH h154_0.eq_1
def h154_1 : HC := (.seq (.reg (.done [(1, (.cst (.pointer none)))] none)) .ret)
@[simp] theorem h154_1_wp : type_of% (@wpH h154_1 _ h154_1.eq_1) := wpH h154_1.eq_1
def h154_2 : HC := (.seq (.br (.chk none (.eqNil false (.pointer 157) (.pointer none)) (.cons (.inp 0) .nil) (.done [] (some (.op (.eqNil false (.pointer 157) (.pointer none)) (.cons (.inp 0) .nil))))) h154_1 .skip) h154_0)
@[simp] theorem h154_2_wp : type_of% (@wpH h154_2 _ h154_2.eq_1) := wpH h154_2.eq_1
def l154 : Lifted := ⟨[0, 2], 13, [.slot 1], (.seq (.reg (.done [(1, (.cst (.pointer none)))] none)) h154_2)⟩
theorem l154_ok : liftFn G2 154 400 = some l154 := by kernel_rfl

def h47_0 : HC := (.seq (.reg (.done [(2, (.inp 4)), (3, (.cst (.int .i64 0)))] none)) .ret)
@[simp] theorem h47_0_wp : type_of% (@wpH h47_0 _ h47_0.eq_1) := wpH h47_0.eq_1
def h47_1 : HC := (.reg (.chk none (.bin .add) (.cons (.inp 6) (.cons (.cst (.int .i64 1)) .nil)) (.done [(6, (.op (.bin .add) (.cons (.inp 6) (.cons (.cst (.int .i64 1)) .nil))))] none)))
@[simp] theorem h47_1_wp : type_of% (@wpH h47_1 _ h47_1.eq_1) := wpH h47_1.eq_1
def h47_2 : HC := (.regq (some 2) (.chk none .chkp (.cons (.inp 4) .nil) (.chk none (.fld 1) (.cons (.op .chkp (.cons (.inp 4) .nil)) .nil) (.eff (.ld false 1) (.cons (.op (.fld 1) (.cons (.op .chkp (.cons (.inp 4) .nil)) .nil)) .nil) (.eff (.ld true 4) (.cons (.inp 7) .nil) (.eff (.bsl 60 1 4 #[(.int .i64 0), (.int .i64 0), (.int .i64 0), (.int .i64 0)] [0]) (.cons (.bv 1) .nil) (.eff (.app 24 24 60 4 32 (.agg #[(.int .i64 0), (.int .i64 0), (.int .i64 0), (.int .i64 0)])) (.cons (.bv 0) (.cons (.bv 2) .nil)) (.chk none .chkp (.cons (.inp 4) .nil) (.chk none (.fld 1) (.cons (.op .chkp (.cons (.inp 4) .nil)) .nil) (.eff (.st 1) (.cons (.op (.fld 1) (.cons (.op .chkp (.cons (.inp 4) .nil)) .nil)) (.cons (.bv 3) .nil)) (.done [] none)))))))))))
@[simp] theorem h47_2_wp : type_of% (@wpH h47_2 _ h47_2.eq_1) := wpH h47_2.eq_1
def h47_3 : HC := (.seq (.reg (.done [(2, (.cst (.pointer none))), (3, (.cst (.int .i64 2)))] none)) .ret)
@[simp] theorem h47_3_wp : type_of% (@wpH h47_3 _ h47_3.eq_1) := wpH h47_3.eq_1
def h47_4 : HC := (.seq (.br (.chk none (.un .not) (.cons (.inp 8) .nil) (.bnd (.op (.un .not) (.cons (.inp 8) .nil)) (.chk (some ((.bv 0), true)) (.un .not) (.cons (.inp 9) .nil) (.isb none (.bv 0) (.done [] (some (.ite (.bv 0) true (.op (.un .not) (.cons (.inp 9) .nil)) (.cst (.bool false))))))))) h47_3 .skip) h47_2)
@[simp] theorem h47_4_wp : type_of% (@wpH h47_4 _ h47_4.eq_1) := wpH h47_4.eq_1
def h47_5 : HC := (.seq (.reg (.chk none (.fld 3) (.cons (.inp 7) .nil) (.eff (.ld false 1) (.cons (.op (.fld 3) (.cons (.inp 7) .nil)) .nil) (.chk none (.bin .gtr) (.cons (.bv 0) (.cons (.cst (.int .i64 0)) .nil)) (.bnd (.op (.bin .gtr) (.cons (.bv 0) (.cons (.cst (.int .i64 0)) .nil))) (.chk (some ((.bv 1), true)) (.fld 2) (.cons (.inp 7) .nil) (.ite (.bv 1) true (.eff (.ld false 1) (.cons (.ite (.bv 1) true (.op (.fld 2) (.cons (.inp 7) .nil)) (.cst (.tuple #[]))) .nil) (.chk none (.bin .eql) (.cons (.bv 2) (.cons (.cst (.int .i64 (-1))) .nil)) (.isb none (.bv 1) (.done [(9, (.op (.bin .eql) (.cons (.bv 2) (.cons (.cst (.int .i64 (-1))) .nil))))] none)))) (.isb none (.bv 1) (.done [(9, (.cst (.bool false)))] none))))))))) h47_4)
@[simp] theorem h47_5_wp : type_of% (@wpH h47_5 _ h47_5.eq_1) := wpH h47_5.eq_1
def h47_6 : HC := (.seq (.reg (.chk none (.fld 3) (.cons (.inp 7) .nil) (.eff (.ld false 1) (.cons (.op (.fld 3) (.cons (.inp 7) .nil)) .nil) (.chk none (.bin .eql) (.cons (.bv 0) (.cons (.cst (.int .i64 0)) .nil)) (.bnd (.op (.bin .eql) (.cons (.bv 0) (.cons (.cst (.int .i64 0)) .nil))) (.chk (some ((.bv 1), true)) (.fld 2) (.cons (.inp 7) .nil) (.ite (.bv 1) true (.eff (.ld false 1) (.cons (.ite (.bv 1) true (.op (.fld 2) (.cons (.inp 7) .nil)) (.cst (.tuple #[]))) .nil) (.chk none (.cal 91) (.cons (.bv 2) .nil) (.isb none (.bv 1) (.done [(8, (.op (.cal 91) (.cons (.bv 2) .nil)))] none)))) (.isb none (.bv 1) (.done [(8, (.cst (.bool false)))] none))))))))) h47_5)
@[simp] theorem h47_6_wp : type_of% (@wpH h47_6 _ h47_6.eq_1) := wpH h47_6.eq_1
def h47_7 : HC := (.seq (.reg (.done [(2, (.cst (.pointer none))), (3, (.cst (.int .i64 152)))] none)) .ret)
@[simp] theorem h47_7_wp : type_of% (@wpH h47_7 _ h47_7.eq_1) := wpH h47_7.eq_1
def h47_8 : HC := (.seq (.br (.chk none (.fld 1) (.cons (.inp 7) .nil) (.eff (.ld false 1) (.cons (.op (.fld 1) (.cons (.inp 7) .nil)) .nil) (.chk none (.bin .lss) (.cons (.bv 0) (.cons (.cst (.int .i64 0)) .nil)) (.bnd (.op (.bin .lss) (.cons (.bv 0) (.cons (.cst (.int .i64 0)) .nil))) (.chk (some ((.bv 1), false)) (.fld 1) (.cons (.inp 7) .nil) (.ite (.bv 1) false (.eff (.ld false 1) (.cons (.ite (.bv 1) false (.op (.fld 1) (.cons (.inp 7) .nil)) (.cst (.tuple #[]))) .nil) (.chk none (.bin .geq) (.cons (.bv 2) (.cons (.cst (.int .i64 16)) .nil)) (.isb none (.bv 1) (.done [] (some (.op (.bin .geq) (.cons (.bv 2) (.cons (.cst (.int .i64 16)) .nil)))))))) (.isb none (.bv 1) (.done [] (some (.cst (.bool true))))))))))) h47_7 .skip) h47_6)
@[simp] theorem h47_8_wp : type_of% (@wpH h47_8 _ h47_8.eq_1) := wpH h47_8.eq_1
def h47_9 : HC := (.seq (.reg (.done [(2, (.cst (.pointer none))), (3, (.cst (.int .i64 151)))] none)) .ret)
@[simp] theorem h47_9_wp : type_of% (@wpH h47_9 _ h47_9.eq_1) := wpH h47_9.eq_1
def h47_10 : HC := (.seq (.br (.chk none (.fld 0) (.cons (.inp 7) .nil) (.eff (.ld false 1) (.cons (.op (.fld 0) (.cons (.inp 7) .nil)) .nil) (.chk none (.bin .add) (.cons (.inp 6) (.cons (.cst (.int .i64 1)) .nil)) (.chk none (.bin .neq) (.cons (.bv 0) (.cons (.op (.bin .add) (.cons (.inp 6) (.cons (.cst (.int .i64 1)) .nil))) .nil)) (.done [] (some (.op (.bin .neq) (.cons (.bv 0) (.cons (.op (.bin .add) (.cons (.inp 6) (.cons (.cst (.int .i64 1)) .nil))) .nil))))))))) h47_9 .skip) h47_8)
@[simp] theorem h47_10_wp : type_of% (@wpH h47_10 _ h47_10.eq_1) := wpH h47_10.eq_1
def h47_11 : HC := (.seq (.reg (.chk none (.idxL 4) (.cons (.inp 1) (.cons (.inp 6) .nil)) (.eff (.ld true 4) (.cons (.op (.idxL 4) (.cons (.inp 1) (.cons (.inp 6) .nil))) .nil) (.eff (.new 60 (.agg #[(.int .i64 0), (.int .i64 0), (.int .i64 0), (.int .i64 0)])) .nil (.eff (.st 4) (.cons (.bv 1) (.cons (.bv 0) .nil)) (.done [(7, (.bv 1))] none)))))) h47_10)
@[simp] theorem h47_11_wp : type_of% (@wpH h47_11 _ h47_11.eq_1) := wpH h47_11.eq_1
def h47_12 : HC := (.seq (.block 1 h47_11) h47_1)
@[simp] theorem h47_12_wp : type_of% (@wpH h47_12 _ h47_12.eq_1) := wpH h47_12.eq_1
def h47_13 : HC := (.seq (.br (.chk none .lenL (.cons (.inp 1) .nil) (.chk none (.bin .lss) (.cons (.inp 6) (.cons (.op .lenL (.cons (.inp 1) .nil)) .nil)) (.done [] (some (.op (.bin .lss) (.cons (.inp 6) (.cons (.op .lenL (.cons (.inp 1) .nil)) .nil))))))) .skip (.exit 0)) h47_12)
@[simp] theorem h47_13_wp : type_of% (@wpH h47_13 _ h47_13.eq_1) := wpH h47_13.eq_1
def h47_14 : HC := (.loop h47_13)
@[simp] theorem h47_14_wp : type_of% (@wpH h47_14 _ h47_14.eq_1) := wpH h47_14.eq_1
def h47_15 : HC := (.seq (.block 0 h47_14) h47_0)
@[simp] theorem h47_15_wp : type_of% (@wpH h47_15 _ h47_15.eq_1) := wpH h47_15.eq_1
def h47_16 : HC := (.seq (.reg (.done [(6, (.cst (.int .i64 0)))] none)) h47_15)
@[simp] theorem h47_16_wp : type_of% (@wpH h47_16 _ h47_16.eq_1) := wpH h47_16.eq_1
def h47_17 : HC := (.seq (.reg (.done [(2, (.cst (.pointer none))), (3, (.cst (.int .i64 150)))] none)) .ret)
@[simp] theorem h47_17_wp : type_of% (@wpH h47_17 _ h47_17.eq_1) := wpH h47_17.eq_1
def h47_18 : HC := (.seq (.br (.chk none .lenL (.cons (.inp 1) .nil) (.chk none (.bin .gtr) (.cons (.op .lenL (.cons (.inp 1) .nil)) (.cons (.inp 0) .nil)) (.done [] (some (.op (.bin .gtr) (.cons (.op .lenL (.cons (.inp 1) .nil)) (.cons (.inp 0) .nil))))))) h47_17 .skip) h47_16)
@[simp] theorem h47_18_wp : type_of% (@wpH h47_18 _ h47_18.eq_1) := wpH h47_18.eq_1
def h47_19 : HC := (.seq (.reg (.done [(2, (.cst (.pointer none))), (3, (.inp 5))] none)) .ret)
@[simp] theorem h47_19_wp : type_of% (@wpH h47_19 _ h47_19.eq_1) := wpH h47_19.eq_1
def h47_20 : HC := (.seq (.br (.chk none (.bin .neq) (.cons (.inp 5) (.cons (.cst (.int .i64 0)) .nil)) (.done [] (some (.op (.bin .neq) (.cons (.inp 5) (.cons (.cst (.int .i64 0)) .nil)))))) h47_19 .skip) h47_18)
@[simp] theorem h47_20_wp : type_of% (@wpH h47_20 _ h47_20.eq_1) := wpH h47_20.eq_1
def h47_21 : HC := (.seq (.reg (.eff (.call 90) (.cons (.inp 0) .nil) (.chk none (.ext 0) (.cons (.bv 0) .nil) (.chk none (.ext 1) (.cons (.bv 0) .nil) (.done [(4, (.op (.ext 0) (.cons (.bv 0) .nil))), (5, (.op (.ext 1) (.cons (.bv 0) .nil)))] none))))) h47_20)
@[simp] theorem h47_21_wp : type_of% (@wpH h47_21 _ h47_21.eq_1) := wpH h47_21.eq_1
def l47 : Lifted := ⟨[0, 1, 4, 5, 6, 7, 8, 9, 10, 11], 80, [.slot 2, .slot 3], (.seq (.reg (.done [(2, (.cst (.pointer none))), (3, (.cst (.int .i64 0)))] none)) h47_21)⟩
theorem l47_ok : liftFn G2 47 400 = some l47 := by kernel_rfl
theorem rRows_spec (p : Nat) (lim : Int) (its : List It) (w0 w : World) (A : Asn) (hl : its.length ≤ 1048576) (s : St w0 (A * rgs p lim its) w) :
    CallW Tryz.prog 71 [.pointer (some ⟨p, 0, none⟩)]
      (fun r w' => St w0 (A * rgs p lim its * own 60 4 r its.length (flat its)) w') w := by
  refine callW_of_lift l71_ok (by simp [l71]) ?_
  simp [l71]
  obtain ⟨v, s1⟩ := ropen s
  obtain ⟨a, cap, rfl, _⟩ := s1.own_val
  refine eff_ldc (v := .slice a its.length cap) (by rw [cell_of s1.swap.look]; rfl) ?_
  simp
  have s2 := s1.own_nil 60 4
  refine eff_appR s2 ((row_own s1).mono fun w s => s.drop) (flat_one _) (by decide) rfl (by unfold maxLen; omega) (by omega) ?_
  intro v' w3 s3
  simp
  have s4 : St w0 (A * pt p (.cells #[.int .i64 lim, .slice a its.length cap] 157 (0, 0)) * own 60 4 (.slice a its.length cap) its.length (flat its) * own 60 4 v' its.length (flat its)) w3 := by simpa using s3
  exact (rclose (A := A * own 60 4 v' its.length (flat its)) (lim := lim) (p := p) (its := its) (v := .slice a its.length cap) (s4.to (by ac_rfl))).swap
theorem rCopy_spec (p : Nat) (lim : Int) (its : List It) (w0 w : World) (A : Asn) (hl : its.length ≤ 1048576) (s : St w0 (A * rgs p lim its) w) :
    CallW Tryz.prog 154 [.pointer (some ⟨p, 0, none⟩)] (fun r w' => ∃ q, r = .pointer (some ⟨q, 0, none⟩) ∧ St w0 (A * rgs p lim its * rgs q lim its) w') w := by
  refine callW_of_lift l154_ok (by simp [l154]) ?_
  simp [l154]
  have L : ∀ {B : Asn} {w : World}, St w0 (B * rgs p lim its) w → w.cell? ⟨p, 0, none⟩ = some (.int .i64 lim) := fun s => by
    obtain ⟨v, s⟩ := ropen s
    rw [cell_of s.swap.look]; rfl
  refine regmI (fun vs w => match vs with
    | [] => St w0 (A * rgs p lim its) w
    | [r] => St w0 (A * rgs p lim its * own 60 4 r its.length (flat its)) w
    | [r, q] => ∃ qb, q = .pointer (some ⟨qb, 0, none⟩) ∧ St w0 (A * rgs p lim its * own 60 4 r its.length (flat its) * pt qb (.cells #[.int .i64 lim, r] 157 (0, 0))) w
    | _ => False) s.drew ?_
  simp
  refine effm_ldc (v := .int .i64 lim) (fun vs' w he hw => ?_) ?_
  · match vs', hw with
    | [], hw => exact L hw
    | [_], hw => exact L (St.swap hw)
    | [_, _], hw => simp [era] at he
  simp
  refine effm_mv rfl (fun w hw => eff_call (rRows_spec p lim its w0 w _ hl hw)) (fun r hr => ?_)
  obtain ⟨w5, hr⟩ := hr
  obtain ⟨ra, rcap, rfl, _⟩ := St.own_val hr
  simp [Instr.fill, Value.cells]
  refine effm_mv rfl (fun w hw => eff_box hw fun qb w' h => ⟨qb, rfl, h⟩) (fun q hq => ?_)
  simp
  rintro w6 x rfl h7
  refine ⟨x, rfl, ?_⟩
  exact rclose (A := A * rgs p lim its) (lim := lim) (p := x) (its := its) (v := .slice ra its.length rcap) (h7.to (by ac_rfl))
theorem get_find {its : List It} {n : Int} : getF its n = if 0 ≤ findF its n then (its.getD (n.toNat - 1) ⟨0, 0, 0, 0⟩, 0) else (⟨0, 0, 0, 0⟩, 151) := by
  unfold getF findF
  by_cases h : 1 ≤ n ∧ n ≤ its.length
  · rw [if_pos h, if_pos h, if_pos (by omega)]
  · rw [if_neg h, if_neg h, if_neg (by omega)]
theorem rGet_spec (p : Nat) (lim : Int) (its : List It) (n : Int) (w0 w : World) (A : Asn) (hwf : WF its) (hl : its.length ≤ 1048576) (s : St w0 (A * rgs p lim its) w) :
    CallW Tryz.prog 124 [.pointer (some ⟨p, 0, none⟩), .int .i64 n]
      (fun r w' => r = .tuple #[.agg (getF its n).1.cs.toArray, .int .i64 (getF its n).2] ∧ St w0 (A * rgs p lim its) w') w := by
  refine callW_of_lift l124_ok (by simp [l124]) ?_
  simp [l124]
  refine eff_new s ?_
  intro b w1 s1
  simp
  refine eff_call ((find_spec p lim its n w0 w1 _ hwf hl s1.swap).mono ?_)
  rintro r w2 ⟨rfl, s2⟩
  simp
  refine cndI (fun h => ?_) (fun h => ?_)
  · simp at h
    have hg : getF its n = (⟨0, 0, 0, 0⟩, 151) := by rw [get_find, if_neg (by omega)]
    simp [Instr.fill, Value.cells]
    refine eff_stA (vs := It.cs ⟨0, 0, 0, 0⟩) s2.swap rfl rfl (cs_one _) (by simp) ?_
    intro w3 s3
    simp
    have s4 : St w0 (A * rgs p lim its * pt b (.cells (It.cs ⟨0, 0, 0, 0⟩).toArray 60 (0, 0))) w3 := by simpa using s3
    refine rv_cellA (vs := It.cs ⟨0, 0, 0, 0⟩) rfl s4.row_cells rfl ?_
    simp [hg]
    exact s4.drop
  · simp at h
    obtain ⟨i, rfl, hi, hf⟩ := find_at h
    have hg : getF its (i + 1) = (its[i], 0) := get_at hi
    rw [hf]
    simp
    obtain ⟨v, s3⟩ := ropen s2
    obtain ⟨g, cap, rfl, _, hc⟩ := s3.own_at (by omega)
    refine eff_ldc (v := .slice (some ⟨g, 0, none⟩) its.length cap) (by rw [cell_of s3.swap.look]; rfl) ?_
    simp [hi]
    refine eff_ldcs (vs := its[i].cs) (fun j u hu => hc _ _ (flat_at hi j u hu)) rfl ?_
    simp
    refine eff_stA (vs := its[i].cs) s2.swap rfl rfl (cs_one _) (by simp) ?_
    intro w3 s3
    simp
    have s4 : St w0 (A * rgs p lim its * pt b (.cells its[i].cs.toArray 60 (0, 0))) w3 := by simpa using s3
    refine rv_cellA (vs := its[i].cs) rfl s4.row_cells rfl ?_
    simp [hg]
    exact s4.drop
end Go.HL.Gd

namespace Go.HL.Gd
open Go.HL Go.Proofs
set_option maxRecDepth 4000
set_option linter.unusedSimpArgs false
set_option linter.unusedVariables false
theorem con_zero {lim : Int} {its : List It} (hg : GI lim its) {i : Nat} (h : i < its.length) : its[i].con = 0 ↔ ¬ 0 < its[i].con := by
  rcases hg.place its[i] (List.getElem_mem h) with h' | h' <;> omega
theorem rIn_spec (p : Nat) (lim : Int) (its : List It) (a : Int) (w0 w : World) (A : Asn) (hg : GI lim its) (s : St w0 (A * rgs p lim its) w) :
    CallW Tryz.prog 96 [.pointer (some ⟨p, 0, none⟩), .int .i64 a]
      (fun r w' => St w0 (A * rgs p lim its * own 3 1 r (inF its a).length (ints (inF its a))) w') w := by
  have hlen := hg.len
  have hlim := hg.lim
  refine callW_of_lift l96_ok (by simp [l96]) ?_
  simp [l96]
  obtain ⟨v, s1⟩ := ropen s
  obtain ⟨b, cap, rfl, _⟩ := s1.own_val
  have L : ∀ {B C : Asn} {w : World}, St w0 (A * pt p (.cells #[.int .i64 lim, .slice b its.length cap] 157 (0, 0)) * B * C) w → w.cell? ⟨p, 1, none⟩ = some (.slice b its.length cap) := fun s => by rw [cell_of s.drop.swap.look]; rfl
  refine loopI (fun env w' => ∃ (i : Nat) (v : Value), env = [.pointer (some ⟨p, 0, none⟩), .int .i64 a, .slice none 0 0, v, .int .i64 i] ∧ i ≤ its.length ∧
      St w0 (A * pt p (.cells #[.int .i64 lim, .slice b its.length cap] 157 (0, 0)) * own 60 4 (.slice b its.length cap) its.length (flat its) * own 3 1 v (((its.take i).filter (fun x => decide (0 < x.con) && decide (x.con = a))).map It.num).length (ints (((its.take i).filter (fun x => decide (0 < x.con) && decide (x.con = a))).map It.num))) w')
    (fun env _ => its.length - slotN env 4) ⟨0, _, rfl, by omega, s1.own_nil _ _⟩ ?_
  rintro LQ env w' ⟨i, v, rfl, hi, s'⟩ hN hE hR
  simp
  refine eff_ldc (L s') ?_
  simp
  refine cndI (fun h => ?_) (fun h => ?_)
  · simp at h
    obtain ⟨g, cap', hv, _, hc⟩ := s'.drop.own_at (by omega)
    cases hv
    have htake : its.take (i + 1) = its.take i ++ [its[i]] := List.take_succ_eq_append_getElem h
    have hz := con_zero hg h
    have skip : (fun x => decide (0 < x.con) && decide (x.con = a)) its[i] = false → ∀ w2, St w0 (A * pt p (.cells #[.int .i64 lim, .slice (some ⟨g, 0, none⟩) its.length cap] 157 (0, 0)) * own 60 4 (.slice (some ⟨g, 0, none⟩) its.length cap) its.length (flat its) * own 3 1 v (((its.take i).filter (fun x => decide (0 < x.con) && decide (x.con = a))).map It.num).length (ints (((its.take i).filter (fun x => decide (0 < x.con) && decide (x.con = a))).map It.num))) w2 →
        LQ .nrm [.pointer (some ⟨p, 0, none⟩), .int .i64 a, .slice none 0 0, v, .int .i64 (i + 1)] w2 := fun hp w2 s2 => by
      refine hN _ _ ⟨i + 1, v, by simp, by omega, ?_⟩ (by simp [slotN]; omega)
      rw [htake, List.filter_append, List.filter_cons_of_neg (by simp [hp]), List.filter_nil, List.append_nil]
      exact s2
    have take : (fun x => decide (0 < x.con) && decide (x.con = a)) its[i] = true → ∀ w2, St w0 (A * pt p (.cells #[.int .i64 lim, .slice (some ⟨g, 0, none⟩) its.length cap] 157 (0, 0)) * own 60 4 (.slice (some ⟨g, 0, none⟩) its.length cap) its.length (flat its) * own 3 1 v (((its.take i).filter (fun x => decide (0 < x.con) && decide (x.con = a))).map It.num).length (ints (((its.take i).filter (fun x => decide (0 < x.con) && decide (x.con = a))).map It.num))) w2 →
        HC.wp G2 h96_2 (blockQ 1 (seqQ G2 h96_1 LQ)) [.pointer (some ⟨p, 0, none⟩), .int .i64 a, .slice none 0 0, v, .int .i64 i] w2 := fun hp w2 s2 => by
      simp
      refine eff_ldc (L s2) ?_
      simp [h]
      refine eff_ldc (v := .int .i64 its[i].num) (by rcases s2.drop.own_at (by omega) with ⟨g', c', hv, _, hc'⟩; cases hv; exact hc' _ _ (flat_at h 0 _ rfl)) ?_
      simp
      refine eff_bsl1 s2 rfl ?_
      intro c1 w4 s5
      simp
      refine eff_app (m := 1) (news := [.int .i64 its[i].num]) s5.swap rfl s5.cells_look (by simp [Value.oneCell']) (by decide) rfl ?_ ?_ ?_
      · have := List.length_filter_le ((fun x => decide (0 < x.con) && decide (x.con = a))) (its.take i)
        simp only [List.length_map, List.length_take] at this ⊢
        unfold maxLen; omega
      · have := List.length_filter_le ((fun x => decide (0 < x.con) && decide (x.con = a))) (its.take i)
        simp only [List.length_map, List.length_take] at this ⊢
        omega
      intro v' w5 s6
      simp
      try simp (disch := omega) only [wrap64]
      refine hN _ _ ⟨i + 1, v', by simp, by omega, ?_⟩ (by simp [slotN]; omega)
      refine St.cut (pt c1 (.cells #[.int .i64 its[i].num] 3 (0, 0))) s6 ?_
      rw [htake]
      simp only [List.filter_append, List.map_append, hp, List.filter_cons_of_pos, List.filter_nil, List.map_cons, List.map_nil, ints, List.length_append, List.length_map, List.length_cons, List.length_nil]
      ac_rfl
    simp
    by_cases h0 : 0 < a
    · simp [h0]
      refine eff_ldc (L s') ?_
      simp [h]
      refine eff_ldc (v := .int .i64 its[i].con) (hc _ _ (flat_at h 3 _ rfl)) ?_
      simp
      refine cndI (fun h2 => ?_) (fun h2 => ?_)
      · simp at h2
        have := take (by simp [h2, h0]) w' s'
        simp at this
        simpa using this
      · simp at h2
        simp
        try simp (disch := omega) only [wrap64]
        exact skip (by simp [h2]) w' s'
    · simp [h0]
      try simp (disch := omega) only [wrap64]
      exact skip (by simp; intro h1 h2; omega) w' s'
  · simp at h
    simp
    refine hE _ _ _ ?_
    simp
    have e : i = its.length := by omega
    subst e
    rw [List.take_length] at s'
    exact (rclose (A := A * own 3 1 v ((its.filter (fun x => decide (0 < x.con) && decide (x.con = a))).map It.num).length (ints ((its.filter (fun x => decide (0 < x.con) && decide (x.con = a))).map It.num))) (lim := lim) (p := p) (its := its) (v := .slice b its.length cap) (s'.to (by ac_rfl))).swap
theorem rLoad_spec (lim : Int) (rows : List It) (v : Value) (w0 w : World) (A : Asn) (hl : rows.length ≤ 1048576) (hrow : Row w0 A v rows.length 4 (flat rows)) (s : St w0 A w) :
    CallW Tryz.prog 47 [.int .i64 lim, v] (fun r w' => if loadE lim rows = 0 then ∃ p, r = .tuple #[.pointer (some ⟨p, 0, none⟩), .int .i64 0] ∧ St w0 (A * rgs p lim rows) w' else r = .tuple #[.pointer none, .int .i64 (loadE lim rows)] ∧ St w0 A w') w := by
  obtain ⟨a, cap, rfl⟩ := hrow.val
  refine callW_of_lift l47_ok (by simp [l47]) ?_
  simp [l47]
  refine eff_call ((rNew_spec lim w0 w A s).mono ?_)
  intro r w1 h1
  by_cases h0 : 0 ≤ lim ∧ lim ≤ 512
  · rw [if_pos h0] at h1
    obtain ⟨p, rfl, s1⟩ := h1
    simp
    refine cndI (fun h2 => ?_) (fun h2 => ?_)
    · simp at h2
      have e : loadE lim rows = 150 := by unfold loadE; rw [if_pos h0, if_pos h2]
      simp [e]
      exact s1.drop
    simp at h2
    have e : loadE lim rows = scanE 0 rows := by unfold loadE; rw [if_pos h0, if_neg (by omega)]
    rw [e]
    simp
    have e0 : scanE 0 rows = scanE 0 (rows.drop 0) := rfl
    rw [e0]
    refine loopI (fun env w' => ∃ (i : Nat) (o7 o8 o9 : Value), env = [.int .i64 lim, .slice a rows.length cap, .pointer none, .int .i64 0, .pointer (some ⟨p, 0, none⟩), .int .i64 0, .int .i64 i, o7, o8, o9] ∧ i ≤ rows.length ∧ scanE 0 (rows.drop 0) = scanE i (rows.drop i) ∧
        St w0 (A * rgs p lim (rows.take i)) w')
      (fun env _ => rows.length - slotN env 6) ⟨0, _, _, _, rfl, by omega, rfl, s1⟩ ?_
    rintro LQ env w' ⟨i, o7, o8, o9, rfl, hi, hsc, s'⟩ hN hE hR
    simp
    refine cndI (fun h => ?_) (fun h => ?_)
    · simp at h
      have hcur : scanE i (rows.drop i) = if itemE i rows[i] = 0 then scanE (i + 1) (rows.drop (i + 1)) else itemE i rows[i] := by rw [List.drop_eq_getElem_cons h]; rfl
      obtain ⟨g, o, cap', hv, hc⟩ := hrow.at (by omega)
      cases hv
      simp [h]
      refine eff_ldcs (vs := rows[i].cs) (fun j u hu => by rw [Nat.add_assoc]; exact hc _ s'.drop _ _ (flat_at h j u hu)) rfl ?_
      simp
      refine eff_new s' ?_
      intro rb w2 s2
      simp
      refine eff_stA (vs := rows[i].cs) s2 rfl rfl (cs_one _) (by simp) ?_
      intro w3 s3
      simp
      have s7 : St w0 (A * rgs p lim (rows.take i) * pt rb (.cells rows[i].cs.toArray 60 (0, 0))) w3 := by simpa using s3
      have c0 : ∀ {B : Asn} {w : World}, St w0 (B * pt rb (.cells rows[i].cs.toArray 60 (0, 0))) w → w.cell? ⟨rb, 0, none⟩ = some (.int .i64 rows[i].num) ∧ w.cell? ⟨rb, 1, none⟩ = some (.int .i64 rows[i].kind) ∧ w.cell? ⟨rb, 2, none⟩ = some (.int .i64 rows[i].acc) ∧ w.cell? ⟨rb, 3, none⟩ = some (.int .i64 rows[i].con) :=
        fun s => ⟨by rw [cell_of s.look]; rfl, by rw [cell_of s.look]; rfl, by rw [cell_of s.look]; rfl, by rw [cell_of s.look]; rfl⟩
      have hw1 : IntKind.i64.wrap ((i : Int) + 1) = (i : Int) + 1 := wrap64 (by omega) (by omega)
      refine eff_ldc (c0 s7).1 ?_
      simp [hw1]
      refine cndI (fun e1 => ?_) (fun e1 => ?_)
      · simp at e1
        have hE1 : itemE i rows[i] = 151 := by unfold itemE; rw [if_pos e1]
        simp
        refine hR _ _ ?_
        rw [hsc, hcur, hE1]
        simp
        exact s7.drop.drop
      simp at e1
      simp
      refine eff_ldc (c0 s7).2.1 ?_
      have bad : kindF rows[i].kind = false → itemE i rows[i] = 152 := fun hk => by unfold itemE; rw [if_neg (by omega), if_pos hk]
      by_cases k0 : rows[i].kind < 0
      · have hE1 := bad (by simp [kindF]; omega)
        simp [k0]
        refine hR _ _ ?_
        rw [hsc, hcur, hE1]
        simp
        exact s7.drop.drop
      simp [k0]
      refine eff_ldc (c0 s7).2.1 ?_
      simp
      refine cndI (fun e2 => ?_) (fun e2 => ?_)
      · simp at e2
        have hE1 := bad (by simp [kindF]; omega)
        simp
        refine hR _ _ ?_
        rw [hsc, hcur, hE1]
        simp
        exact s7.drop.drop
      simp at e2
      have hk : kindF rows[i].kind = true := by simp [kindF]; omega
      simp
      have hmid : itemE i rows[i] = if rows[i].con < 0 ∨ (0 < rows[i].con ∧ rows[i].acc ≠ -1) ∨ (¬ 0 < rows[i].con ∧ accF rows[i].acc = false) then 2 else 0 := by unfold itemE; rw [if_neg (by omega), if_neg (by simp [hk])]
      have good : ∀ (o8 o9 : Value) w, St w0 (A * rgs p lim (rows.take i) * pt rb (.cells rows[i].cs.toArray 60 (0, 0))) w → itemE i rows[i] = 0 →
          HC.wp G2 h47_2 (blockQ 1 (seqQ G2 h47_1 LQ))
            [.int .i64 lim, .slice (some ⟨g, o, none⟩) rows.length cap, .pointer none, .int .i64 0, .pointer (some ⟨p, 0, none⟩), .int .i64 0, .int .i64 i, .pointer (some ⟨rb, 0, none⟩), o8, o9] w := by
        intro o8 o9 w s hE1
        simp
        obtain ⟨v0, t⟩ := ropen (s.to (B := A * pt rb (.cells rows[i].cs.toArray 60 (0, 0)) * rgs p lim (rows.take i)) (by ac_rfl))
        obtain ⟨va, vc, rfl, _⟩ := t.own_val
        have hti : (rows.take i).length = i := by rw [List.length_take]; omega
        generalize hT : rows.take i = T at t hti
        refine regmI (fun vs w => match vs with
          | [] => St w0 (A * pt rb (.cells rows[i].cs.toArray 60 (0, 0)) * pt p (.cells #[.int .i64 lim, .slice va T.length vc] 157 (0, 0)) * own 60 4 (.slice va T.length vc) T.length (flat T)) w
          | [sl] => ∃ c, sl = .slice (some ⟨c, 0, none⟩) 1 1 ∧ St w0 (A * pt rb (.cells rows[i].cs.toArray 60 (0, 0)) * pt p (.cells #[.int .i64 lim, .slice va T.length vc] 157 (0, 0)) * own 60 4 (.slice va T.length vc) T.length (flat T) * pt c (.cells rows[i].cs.toArray 60 (0, 0))) w
          | [sl, v'] => ∃ c, sl = .slice (some ⟨c, 0, none⟩) 1 1 ∧ St w0 (A * pt rb (.cells rows[i].cs.toArray 60 (0, 0)) * pt p (.cells #[.int .i64 lim, .slice va T.length vc] 157 (0, 0)) * pt c (.cells rows[i].cs.toArray 60 (0, 0)) * own 60 4 v' (T.length + 1) (flat T ++ rows[i].cs)) w
          | _ :: v' :: _ => ∃ c, St w0 (A * pt rb (.cells rows[i].cs.toArray 60 (0, 0)) * pt c (.cells rows[i].cs.toArray 60 (0, 0)) * own 60 4 v' (T.length + 1) (flat T ++ rows[i].cs) * pt p (.cells #[.int .i64 lim, v'] 157 (0, 0))) w) t.drew ?_
        simp
        refine effm_ldc (v := .slice va T.length vc) (fun vs' w he hw => ?_) ?_
        · match vs', hw with
          | [], hw => rw [cell_of (St.swap hw).look]; rfl
          | [_], ⟨c, _, hw⟩ => rw [cell_of (St.swap hw.drop).look]; rfl
          | [_, _], ⟨c, _, hw⟩ => rw [cell_of hw.drop.drop.look]; rfl
          | _ :: _ :: _ :: _, hw => simp [era] at he
        simp
        refine effm_ldcs (us := rows[i].cs) (off := 0) (fun vs' w he hw => ?_) rfl ?_
        · match vs', hw with
          | [], hw => exact (St.drop (St.drop hw)).row_cells
          | [_], ⟨c, _, hw⟩ => exact hw.drop.drop.drop.row_cells
          | [_, _], ⟨c, _, hw⟩ => exact hw.drop.drop.drop.row_cells
          | _ :: _ :: _ :: _, hw => simp [era] at he
        simp
        refine effm_mv rfl (fun w hw => eff_bslV hw rfl fun c w' h => ⟨c, rfl, h⟩) (fun sl hsl => ?_)
        obtain ⟨w7, c, rfl, _⟩ := hsl
        simp
        refine effm_mv rfl (fun w hw => ?_) (fun v' hv' => ?_)
        · obtain ⟨c', e, hw⟩ := hw
          cases e
          have hw' := hw.to (B := A * pt rb (.cells rows[i].cs.toArray 60 (0, 0)) * pt p (.cells #[.int .i64 lim, .slice va T.length vc] 157 (0, 0)) * pt c (.cells rows[i].cs.toArray 60 (0, 0)) * own 60 4 (.slice va T.length vc) T.length (flat T)) (by ac_rfl)
          exact eff_app (m := 1) (news := rows[i].cs) hw' rfl hw.cells_look (cs_one _) (by decide) rfl (by unfold maxLen; omega) (by omega) fun v'' w' h => ⟨c, rfl, h⟩
        obtain ⟨w8, c', _, hv'⟩ := hv'
        obtain ⟨na, nc, rfl, _⟩ := hv'.own_val
        simp
        refine effm_mv rfl (fun w hw => ?_) (fun u _ => ?_)
        · obtain ⟨c', e, hw⟩ := hw
          have hw' := hw.to (B := A * pt rb (.cells rows[i].cs.toArray 60 (0, 0)) * pt c' (.cells rows[i].cs.toArray 60 (0, 0)) * own 60 4 (.slice na (T.length + 1) nc) (T.length + 1) (flat T ++ rows[i].cs) * pt p (.cells #[.int .i64 lim, .slice va T.length vc] 157 (0, 0))) (by ac_rfl)
          exact eff_st1 hw' rfl (by simp) fun w' h => ⟨c', by simpa using h⟩
        simp
        intro w9 c9 h9
        try simp (disch := omega) only [wrap64]
        refine hN _ _ ⟨i + 1, _, _, _, by simp; exact ⟨rfl, rfl, rfl⟩, by omega, ?_, ?_⟩ (by simp [slotN]; omega)
        · rw [hsc, hcur, if_pos hE1]
        · have htake : rows.take (i + 1) = T ++ [rows[i]] := by rw [← hT]; exact List.take_succ_eq_append_getElem h
          have e9 : flat T ++ rows[i].cs = flat (rows.take (i + 1)) := by rw [htake]; simp only [flat, List.flatMap_append, List.flatMap_cons, List.flatMap_nil, List.append_nil]
          have hl9 : T.length + 1 = (rows.take (i + 1)).length := by rw [htake]; simp
          rw [e9, hl9] at h9
          refine rclose (v := .slice na (rows.take (i + 1)).length nc) ?_
          exact St.cut (pt rb (.cells rows[i].cs.toArray 60 (0, 0)) * pt c9 (.cells rows[i].cs.toArray 60 (0, 0))) h9 (by ac_rfl)
      have tail : ∀ (at_ in_ : Bool) w, St w0 (A * rgs p lim (rows.take i) * pt rb (.cells rows[i].cs.toArray 60 (0, 0))) w → (at_ || in_) = decide (itemE i rows[i] = 0) →
          HC.wp G2 h47_4 (blockQ 1 (seqQ G2 h47_1 LQ))
            [.int .i64 lim, .slice (some ⟨g, o, none⟩) rows.length cap, .pointer none, .int .i64 0, .pointer (some ⟨p, 0, none⟩), .int .i64 0, .int .i64 i, .pointer (some ⟨rb, 0, none⟩), .bool at_, .bool in_] w := by
        intro at_ in_ w s hb
        simp
        have hE2 : itemE i rows[i] = 0 ∨ itemE i rows[i] = 2 := by rw [hmid]; split <;> simp
        rcases hE2 with hE1 | hE1
        · have hb : (at_ || in_) = true := by rw [hb, hE1]; rfl
          have := good (.bool at_) (.bool in_) w s hE1
          simp at this
          cases at_ <;> cases in_ <;> simp at hb <;> simpa using this
        · have hb : (at_ || in_) = false := by rw [hb, hE1]; rfl
          cases at_ <;> cases in_ <;> simp at hb
          simp
          refine hR _ _ ?_
          rw [hsc, hcur, hE1]
          simp
          exact s.drop.drop
      refine eff_ldc (c0 s7).2.2.2 ?_
      rcases Int.lt_trichotomy rows[i].con 0 with h3 | h3 | h3
      · have hne : ¬ rows[i].con = 0 := by omega
        have hnp : ¬ 0 < rows[i].con := by omega
        simp [hne]
        refine eff_ldc (c0 s7).2.2.2 ?_
        simp [hnp]
        have := tail false false w3 s7 (by rw [hmid, if_pos (.inl h3)]; rfl)
        simp at this
        simpa using this
      · have hnp : ¬ 0 < rows[i].con := by omega
        have hnn : ¬ rows[i].con < 0 := by omega
        simp [h3]
        refine eff_ldc (c0 s7).2.2.1 ?_
        simp
        refine eff_ldc (v := .int .i64 0) (by rw [(c0 s7).2.2.2, h3]) ?_
        simp
        have := tail (accF rows[i].acc) false w3 s7 (by
          rw [hmid]
          cases hac : accF rows[i].acc with
          | true => rw [if_neg (by simp [h3])]; rfl
          | false => rw [if_pos (.inr (.inr ⟨hnp, rfl⟩))]; rfl)
        simp at this
        simpa using this
      · have hne : ¬ rows[i].con = 0 := by omega
        have hnn : ¬ rows[i].con < 0 := by omega
        simp [hne]
        refine eff_ldc (c0 s7).2.2.2 ?_
        simp [h3]
        refine eff_ldc (c0 s7).2.2.1 ?_
        simp
        have := tail false (decide (rows[i].acc = -1)) w3 s7 (by
          rw [hmid]
          by_cases hac : rows[i].acc = -1
          · rw [if_neg (by rintro (h' | ⟨_, h'⟩ | ⟨h', _⟩) <;> omega)]; simp [hac]
          · rw [if_pos (.inr (.inl ⟨h3, hac⟩))]; simp [hac])
        simp at this
        simpa using this
    · simp at h
      simp
      refine hE _ _ _ ?_
      have e : i = rows.length := by omega
      subst e
      rw [hsc]
      simp [scanE]
      rw [List.take_length] at s'
      exact s'
  · rw [if_neg h0] at h1
    obtain ⟨rfl, s1⟩ := h1
    have e : loadE lim rows = 2 := by unfold loadE; rw [if_neg h0]
    simp [e]
    exact s1
end Go.HL.Gd

namespace Go.HL.Es
open Go.HL Go.Proofs
set_option maxRecDepth 4000
set_option linter.unusedSimpArgs false
set_option linter.unusedVariables false

def h56_0 : HC := (.seq (.reg (.done [(2, (.cst (.int .u64 0)))] none)) .ret)
@[simp] theorem h56_0_wp : type_of% (@wpH h56_0 _ h56_0.eq_1) := wpH h56_0.eq_1
def h56_1 : HC := (.reg (.chk none (.bin .add) (.cons (.inp 3) (.cons (.cst (.int .i64 1)) .nil)) (.done [(3, (.op (.bin .add) (.cons (.inp 3) (.cons (.cst (.int .i64 1)) .nil))))] none)))
@[simp] theorem h56_1_wp : type_of% (@wpH h56_1 _ h56_1.eq_1) := wpH h56_1.eq_1
def h56_2 : HC := (.seq (.reg (.chk none .chkp (.cons (.inp 0) .nil) (.chk none (.fld 2) (.cons (.op .chkp (.cons (.inp 0) .nil)) .nil) (.eff (.ld false 1) (.cons (.op (.fld 2) (.cons (.op .chkp (.cons (.inp 0) .nil)) .nil)) .nil) (.chk none (.idxL 2) (.cons (.bv 0) (.cons (.inp 3) .nil)) (.chk none (.fld 1) (.cons (.op (.idxL 2) (.cons (.bv 0) (.cons (.inp 3) .nil))) .nil) (.eff (.ld false 1) (.cons (.op (.fld 1) (.cons (.op (.idxL 2) (.cons (.bv 0) (.cons (.inp 3) .nil))) .nil)) .nil) (.done [(2, (.bv 1))] none)))))))) .ret)
@[simp] theorem h56_2_wp : type_of% (@wpH h56_2 _ h56_2.eq_1) := wpH h56_2.eq_1
def h56_3 : HC := (.br (.chk none .chkp (.cons (.inp 0) .nil) (.chk none (.fld 2) (.cons (.op .chkp (.cons (.inp 0) .nil)) .nil) (.eff (.ld false 1) (.cons (.op (.fld 2) (.cons (.op .chkp (.cons (.inp 0) .nil)) .nil)) .nil) (.chk none (.idxL 2) (.cons (.bv 0) (.cons (.inp 3) .nil)) (.chk none (.fld 0) (.cons (.op (.idxL 2) (.cons (.bv 0) (.cons (.inp 3) .nil))) .nil) (.eff (.ld false 1) (.cons (.op (.fld 0) (.cons (.op (.idxL 2) (.cons (.bv 0) (.cons (.inp 3) .nil))) .nil)) .nil) (.chk none (.bin .eql) (.cons (.bv 1) (.cons (.inp 1) .nil)) (.done [] (some (.op (.bin .eql) (.cons (.bv 1) (.cons (.inp 1) .nil)))))))))))) h56_2 .skip)
@[simp] theorem h56_3_wp : type_of% (@wpH h56_3 _ h56_3.eq_1) := wpH h56_3.eq_1
def h56_4 : HC := (.seq (.block 1 h56_3) h56_1)
@[simp] theorem h56_4_wp : type_of% (@wpH h56_4 _ h56_4.eq_1) := wpH h56_4.eq_1
def h56_5 : HC := (.seq (.br (.chk none .chkp (.cons (.inp 0) .nil) (.chk none (.fld 2) (.cons (.op .chkp (.cons (.inp 0) .nil)) .nil) (.eff (.ld false 1) (.cons (.op (.fld 2) (.cons (.op .chkp (.cons (.inp 0) .nil)) .nil)) .nil) (.chk none .lenL (.cons (.bv 0) .nil) (.chk none (.bin .lss) (.cons (.inp 3) (.cons (.op .lenL (.cons (.bv 0) .nil)) .nil)) (.done [] (some (.op (.bin .lss) (.cons (.inp 3) (.cons (.op .lenL (.cons (.bv 0) .nil)) .nil)))))))))) .skip (.exit 0)) h56_4)
@[simp] theorem h56_5_wp : type_of% (@wpH h56_5 _ h56_5.eq_1) := wpH h56_5.eq_1
def h56_6 : HC := (.loop h56_5)
@[simp] theorem h56_6_wp : type_of% (@wpH h56_6 _ h56_6.eq_1) := wpH h56_6.eq_1
def h56_7 : HC := (.seq (.block 0 h56_6) h56_0)
@[simp] theorem h56_7_wp : type_of% (@wpH h56_7 _ h56_7.eq_1) := wpH h56_7.eq_1
def h56_8 : HC := (.seq (.reg (.done [(3, (.cst (.int .i64 0)))] none)) h56_7)
@[simp] theorem h56_8_wp : type_of% (@wpH h56_8 _ h56_8.eq_1) := wpH h56_8.eq_1
def h56_9 : HC := (.seq (.reg (.done [(2, (.cst (.int .u64 0)))] none)) .ret)
@[simp] theorem h56_9_wp : type_of% (@wpH h56_9 _ h56_9.eq_1) := wpH h56_9.eq_1
def h56_10 : HC := (.seq (.br (.chk none (.eqNil false (.pointer 130) (.pointer none)) (.cons (.inp 0) .nil) (.done [] (some (.op (.eqNil false (.pointer 130) (.pointer none)) (.cons (.inp 0) .nil))))) h56_9 .skip) h56_8)
@[simp] theorem h56_10_wp : type_of% (@wpH h56_10 _ h56_10.eq_1) := wpH h56_10.eq_1
def l56 : Lifted := ⟨[0, 1, 4, 5], 35, [.slot 2], (.seq (.reg (.done [(2, (.cst (.int .u64 0)))] none)) h56_10)⟩
theorem l56_ok : liftFn E0 56 400 = some l56 := by kernel_rfl

def h127_0 : HC := (.reg (.chk none .chkp (.cons (.inp 0) .nil) (.chk none (.fld 2) (.cons (.op .chkp (.cons (.inp 0) .nil)) .nil) (.eff (.st 1) (.cons (.op (.fld 2) (.cons (.op .chkp (.cons (.inp 0) .nil)) .nil)) (.cons (.inp 3) .nil)) (.done [] none)))))
@[simp] theorem h127_0_wp : type_of% (@wpH h127_0 _ h127_0.eq_1) := wpH h127_0.eq_1
def h127_1 : HC := (.reg (.chk none (.build #[(.int .i64 0), (.int .u64 0)] [(0, 1), (1, 1)] [0, 1]) (.cons (.inp 1) (.cons (.inp 2) .nil)) (.eff (.bsl 100 1 2 #[(.int .i64 0), (.int .u64 0)] [0]) (.cons (.op (.build #[(.int .i64 0), (.int .u64 0)] [(0, 1), (1, 1)] [0, 1]) (.cons (.inp 1) (.cons (.inp 2) .nil))) .nil) (.eff (.app 25 25 100 2 16 (.agg #[(.int .i64 0), (.int .u64 0)])) (.cons (.inp 3) (.cons (.bv 0) .nil)) (.done [(3, (.bv 1))] none)))))
@[simp] theorem h127_1_wp : type_of% (@wpH h127_1 _ h127_1.eq_1) := wpH h127_1.eq_1
def h127_2 : HC := (.seq (.br (.chk none (.un .not) (.cons (.inp 4) .nil) (.done [] (some (.op (.un .not) (.cons (.inp 4) .nil))))) h127_1 .skip) h127_0)
@[simp] theorem h127_2_wp : type_of% (@wpH h127_2 _ h127_2.eq_1) := wpH h127_2.eq_1
def h127_3 : HC := (.reg (.chk none (.bin .add) (.cons (.inp 5) (.cons (.cst (.int .i64 1)) .nil)) (.done [(5, (.op (.bin .add) (.cons (.inp 5) (.cons (.cst (.int .i64 1)) .nil))))] none)))
@[simp] theorem h127_3_wp : type_of% (@wpH h127_3 _ h127_3.eq_1) := wpH h127_3.eq_1
def h127_4 : HC := (.reg (.chk none .chkp (.cons (.inp 0) .nil) (.chk none (.fld 2) (.cons (.op .chkp (.cons (.inp 0) .nil)) .nil) (.eff (.ld false 1) (.cons (.op (.fld 2) (.cons (.op .chkp (.cons (.inp 0) .nil)) .nil)) .nil) (.chk none (.idxL 2) (.cons (.bv 0) (.cons (.inp 5) .nil)) (.eff (.ld true 2) (.cons (.op (.idxL 2) (.cons (.bv 0) (.cons (.inp 5) .nil))) .nil) (.eff (.bsl 100 1 2 #[(.int .i64 0), (.int .u64 0)] [0]) (.cons (.bv 1) .nil) (.eff (.app 25 25 100 2 16 (.agg #[(.int .i64 0), (.int .u64 0)])) (.cons (.inp 3) (.cons (.bv 2) .nil)) (.done [(3, (.bv 3))] none)))))))))
@[simp] theorem h127_4_wp : type_of% (@wpH h127_4 _ h127_4.eq_1) := wpH h127_4.eq_1
def h127_5 : HC := (.br (.chk none .chkp (.cons (.inp 0) .nil) (.chk none (.fld 2) (.cons (.op .chkp (.cons (.inp 0) .nil)) .nil) (.eff (.ld false 1) (.cons (.op (.fld 2) (.cons (.op .chkp (.cons (.inp 0) .nil)) .nil)) .nil) (.chk none (.idxL 2) (.cons (.bv 0) (.cons (.inp 5) .nil)) (.chk none (.fld 0) (.cons (.op (.idxL 2) (.cons (.bv 0) (.cons (.inp 5) .nil))) .nil) (.eff (.ld false 1) (.cons (.op (.fld 0) (.cons (.op (.idxL 2) (.cons (.bv 0) (.cons (.inp 5) .nil))) .nil)) .nil) (.chk none (.bin .neq) (.cons (.bv 1) (.cons (.inp 1) .nil)) (.done [] (some (.op (.bin .neq) (.cons (.bv 1) (.cons (.inp 1) .nil)))))))))))) h127_4 .skip)
@[simp] theorem h127_5_wp : type_of% (@wpH h127_5 _ h127_5.eq_1) := wpH h127_5.eq_1
def h127_6 : HC := (.reg (.done [(4, (.cst (.bool true)))] none))
@[simp] theorem h127_6_wp : type_of% (@wpH h127_6 _ h127_6.eq_1) := wpH h127_6.eq_1
def h127_7 : HC := (.seq (.reg (.chk none (.build #[(.int .i64 0), (.int .u64 0)] [(0, 1), (1, 1)] [0, 1]) (.cons (.inp 1) (.cons (.inp 2) .nil)) (.eff (.bsl 100 1 2 #[(.int .i64 0), (.int .u64 0)] [0]) (.cons (.op (.build #[(.int .i64 0), (.int .u64 0)] [(0, 1), (1, 1)] [0, 1]) (.cons (.inp 1) (.cons (.inp 2) .nil))) .nil) (.eff (.app 25 25 100 2 16 (.agg #[(.int .i64 0), (.int .u64 0)])) (.cons (.inp 3) (.cons (.bv 0) .nil)) (.done [(3, (.bv 1))] none))))) h127_6)
@[simp] theorem h127_7_wp : type_of% (@wpH h127_7 _ h127_7.eq_1) := wpH h127_7.eq_1
def h127_8 : HC := (.seq (.br (.chk none (.un .not) (.cons (.inp 4) .nil) (.bnd (.op (.un .not) (.cons (.inp 4) .nil)) (.chk (some ((.bv 0), true)) .chkp (.cons (.inp 0) .nil) (.chk (some ((.bv 0), true)) (.fld 2) (.cons (.op .chkp (.cons (.inp 0) .nil)) .nil) (.ite (.bv 0) true (.eff (.ld false 1) (.cons (.ite (.bv 0) true (.op (.fld 2) (.cons (.op .chkp (.cons (.inp 0) .nil)) .nil)) (.cst (.tuple #[]))) .nil) (.chk none (.idxL 2) (.cons (.bv 1) (.cons (.inp 5) .nil)) (.chk none (.fld 0) (.cons (.op (.idxL 2) (.cons (.bv 1) (.cons (.inp 5) .nil))) .nil) (.eff (.ld false 1) (.cons (.op (.fld 0) (.cons (.op (.idxL 2) (.cons (.bv 1) (.cons (.inp 5) .nil))) .nil)) .nil) (.chk none (.bin .geq) (.cons (.bv 2) (.cons (.inp 1) .nil)) (.isb none (.bv 0) (.done [] (some (.op (.bin .geq) (.cons (.bv 2) (.cons (.inp 1) .nil))))))))))) (.isb none (.bv 0) (.done [] (some (.cst (.bool false)))))))))) h127_7 .skip) h127_5)
@[simp] theorem h127_8_wp : type_of% (@wpH h127_8 _ h127_8.eq_1) := wpH h127_8.eq_1
def h127_9 : HC := (.seq (.block 1 h127_8) h127_3)
@[simp] theorem h127_9_wp : type_of% (@wpH h127_9 _ h127_9.eq_1) := wpH h127_9.eq_1
def h127_10 : HC := (.seq (.br (.chk none .chkp (.cons (.inp 0) .nil) (.chk none (.fld 2) (.cons (.op .chkp (.cons (.inp 0) .nil)) .nil) (.eff (.ld false 1) (.cons (.op (.fld 2) (.cons (.op .chkp (.cons (.inp 0) .nil)) .nil)) .nil) (.chk none .lenL (.cons (.bv 0) .nil) (.chk none (.bin .lss) (.cons (.inp 5) (.cons (.op .lenL (.cons (.bv 0) .nil)) .nil)) (.done [] (some (.op (.bin .lss) (.cons (.inp 5) (.cons (.op .lenL (.cons (.bv 0) .nil)) .nil)))))))))) .skip (.exit 0)) h127_9)
@[simp] theorem h127_10_wp : type_of% (@wpH h127_10 _ h127_10.eq_1) := wpH h127_10.eq_1
def h127_11 : HC := (.loop h127_10)
@[simp] theorem h127_11_wp : type_of% (@wpH h127_11 _ h127_11.eq_1) := wpH h127_11.eq_1
def h127_12 : HC := (.seq (.block 0 h127_11) h127_2)
@[simp] theorem h127_12_wp : type_of% (@wpH h127_12 _ h127_12.eq_1) := wpH h127_12.eq_1
def h127_13 : HC := (.seq (.reg (.done [(5, (.cst (.int .i64 0)))] none)) h127_12)
@[simp] theorem h127_13_wp : type_of% (@wpH h127_13 _ h127_13.eq_1) := wpH h127_13.eq_1
def h127_14 : HC := (.seq (.reg (.chk none (.bin .eql) (.cons (.inp 2) (.cons (.cst (.int .u64 0)) .nil)) (.done [(4, (.op (.bin .eql) (.cons (.inp 2) (.cons (.cst (.int .u64 0)) .nil))))] none))) h127_13)
@[simp] theorem h127_14_wp : type_of% (@wpH h127_14 _ h127_14.eq_1) := wpH h127_14.eq_1
def l127 : Lifted := ⟨[0, 1, 2, 6, 7, 8], 72, [], (.seq (.reg (.done [(3, (.cst (.slice none 0 0)))] none)) h127_14)⟩
theorem l127_ok : liftFn E0 127 400 = some l127 := by kernel_rfl

def h57_0 : HC := (.seq (.reg (.chk none .chkp (.cons (.inp 0) .nil) (.chk none (.fld 1) (.cons (.op .chkp (.cons (.inp 0) .nil)) .nil) (.eff (.ld false 1) (.cons (.op (.fld 1) (.cons (.op .chkp (.cons (.inp 0) .nil)) .nil)) .nil) (.eff (.call 96) (.cons (.bv 0) (.cons (.inp 1) .nil)) (.done [(2, (.bv 1))] none)))))) .ret)
@[simp] theorem h57_0_wp : type_of% (@wpH h57_0 _ h57_0.eq_1) := wpH h57_0.eq_1
def h57_1 : HC := (.seq (.reg (.done [(2, (.cst (.slice none 0 0)))] none)) .ret)
@[simp] theorem h57_1_wp : type_of% (@wpH h57_1 _ h57_1.eq_1) := wpH h57_1.eq_1
def h57_2 : HC := (.seq (.br (.chk none (.eqNil false (.pointer 130) (.pointer none)) (.cons (.inp 0) .nil) (.done [] (some (.op (.eqNil false (.pointer 130) (.pointer none)) (.cons (.inp 0) .nil))))) h57_1 .skip) h57_0)
@[simp] theorem h57_2_wp : type_of% (@wpH h57_2 _ h57_2.eq_1) := wpH h57_2.eq_1
def l57 : Lifted := ⟨[0, 1, 4], 13, [.slot 2], (.seq (.reg (.done [(2, (.cst (.slice none 0 0)))] none)) h57_2)⟩
theorem l57_ok : liftFn E0 57 400 = some l57 := by kernel_rfl

def h64_0 : HC := (.seq (.reg (.chk none .chkp (.cons (.inp 0) .nil) (.chk none (.fld 2) (.cons (.op .chkp (.cons (.inp 0) .nil)) .nil) (.eff (.ld false 1) (.cons (.op (.fld 2) (.cons (.op .chkp (.cons (.inp 0) .nil)) .nil)) .nil) (.eff (.app 25 25 100 2 16 (.agg #[(.int .i64 0), (.int .u64 0)])) (.cons (.inp 2) (.cons (.bv 0) .nil)) (.done [(1, (.bv 1))] none)))))) .ret)
@[simp] theorem h64_0_wp : type_of% (@wpH h64_0 _ h64_0.eq_1) := wpH h64_0.eq_1
def h64_1 : HC := (.seq (.reg (.done [(1, (.inp 2))] none)) .ret)
@[simp] theorem h64_1_wp : type_of% (@wpH h64_1 _ h64_1.eq_1) := wpH h64_1.eq_1
def h64_2 : HC := (.seq (.br (.chk none (.eqNil false (.pointer 130) (.pointer none)) (.cons (.inp 0) .nil) (.done [] (some (.op (.eqNil false (.pointer 130) (.pointer none)) (.cons (.inp 0) .nil))))) h64_1 .skip) h64_0)
@[simp] theorem h64_2_wp : type_of% (@wpH h64_2 _ h64_2.eq_1) := wpH h64_2.eq_1
def h64_3 : HC := (.seq (.reg (.done [(2, (.cst (.slice none 0 0)))] none)) h64_2)
@[simp] theorem h64_3_wp : type_of% (@wpH h64_3 _ h64_3.eq_1) := wpH h64_3.eq_1
def l64 : Lifted := ⟨[0, 2, 3], 13, [.slot 1], (.seq (.reg (.done [(1, (.cst (.slice none 0 0)))] none)) h64_3)⟩
theorem l64_ok : liftFn E0 64 400 = some l64 := by kernel_rfl

def h92_0 : HC := (.seq (.reg (.done [(2, (.cst (.int .i64 0)))] none)) .ret)
@[simp] theorem h92_0_wp : type_of% (@wpH h92_0 _ h92_0.eq_1) := wpH h92_0.eq_1
def h92_1 : HC := (.seq (.reg (.done [(2, (.cst (.int .i64 2)))] none)) .ret)
@[simp] theorem h92_1_wp : type_of% (@wpH h92_1 _ h92_1.eq_1) := wpH h92_1.eq_1
def h92_2 : HC := (.seq (.br (.chk none (.bin .lss) (.cons (.inp 1) (.cons (.cst (.int .i64 1)) .nil)) (.done [] (some (.op (.bin .lss) (.cons (.inp 1) (.cons (.cst (.int .i64 1)) .nil)))))) h92_1 .skip) h92_0)
@[simp] theorem h92_2_wp : type_of% (@wpH h92_2 _ h92_2.eq_1) := wpH h92_2.eq_1
def h92_3 : HC := (.seq (.reg (.done [(2, (.cst (.int .i64 1)))] none)) .ret)
@[simp] theorem h92_3_wp : type_of% (@wpH h92_3 _ h92_3.eq_1) := wpH h92_3.eq_1
def h92_4 : HC := (.seq (.br (.chk none (.eqNil false (.pointer 130) (.pointer none)) (.cons (.inp 0) .nil) (.done [] (some (.op (.eqNil false (.pointer 130) (.pointer none)) (.cons (.inp 0) .nil))))) h92_3 .skip) h92_2)
@[simp] theorem h92_4_wp : type_of% (@wpH h92_4 _ h92_4.eq_1) := wpH h92_4.eq_1
def l92 : Lifted := ⟨[0, 1, 4], 9, [.slot 2], (.seq (.reg (.done [(2, (.cst (.int .i64 0)))] none)) h92_4)⟩
theorem l92_ok : liftFn E0 92 400 = some l92 := by kernel_rfl

def h121_0 : HC := (.seq (.reg (.done [(1, (.inp 2))] none)) .ret)
@[simp] theorem h121_0_wp : type_of% (@wpH h121_0 _ h121_0.eq_1) := wpH h121_0.eq_1
def h121_1 : HC := (.seq (.regq (some 1) (.chk none .chkp (.cons (.inp 2) .nil) (.chk none (.fld 2) (.cons (.op .chkp (.cons (.inp 2) .nil)) .nil) (.eff (.ld false 1) (.cons (.op (.fld 2) (.cons (.op .chkp (.cons (.inp 2) .nil)) .nil)) .nil) (.chk none .chkp (.cons (.inp 0) .nil) (.chk none (.fld 2) (.cons (.op .chkp (.cons (.inp 0) .nil)) .nil) (.eff (.ld false 1) (.cons (.op (.fld 2) (.cons (.op .chkp (.cons (.inp 0) .nil)) .nil)) .nil) (.eff (.app 25 25 100 2 16 (.agg #[(.int .i64 0), (.int .u64 0)])) (.cons (.bv 0) (.cons (.bv 1) .nil)) (.chk none .chkp (.cons (.inp 2) .nil) (.chk none (.fld 2) (.cons (.op .chkp (.cons (.inp 2) .nil)) .nil) (.eff (.st 1) (.cons (.op (.fld 2) (.cons (.op .chkp (.cons (.inp 2) .nil)) .nil)) (.cons (.bv 2) .nil)) (.done [] none)))))))))))) h121_0)
@[simp] theorem h121_1_wp : type_of% (@wpH h121_1 _ h121_1.eq_1) := wpH h121_1.eq_1
def h121_2 : HC := (.seq (.regq (some 2) (.chk none .chkp (.cons (.inp 0) .nil) (.chk none (.fld 0) (.cons (.op .chkp (.cons (.inp 0) .nil)) .nil) (.eff (.ld false 1) (.cons (.op (.fld 0) (.cons (.op .chkp (.cons (.inp 0) .nil)) .nil)) .nil) (.eff (.call 153) (.cons (.bv 0) .nil) (.chk none .chkp (.cons (.inp 0) .nil) (.chk none (.fld 1) (.cons (.op .chkp (.cons (.inp 0) .nil)) .nil) (.eff (.ld false 1) (.cons (.op (.fld 1) (.cons (.op .chkp (.cons (.inp 0) .nil)) .nil)) .nil) (.eff (.call 154) (.cons (.bv 2) .nil) (.chk none (.build #[(.pointer none), (.pointer none), (.slice none 0 0)] [(0, 1), (1, 1), (2, 1)] [0, 1]) (.cons (.bv 1) (.cons (.bv 3) .nil)) (.eff (.box 130) (.cons (.op (.build #[(.pointer none), (.pointer none), (.slice none 0 0)] [(0, 1), (1, 1), (2, 1)] [0, 1]) (.cons (.bv 1) (.cons (.bv 3) .nil))) .nil) (.done [(2, (.bv 4))] none)))))))))))) h121_1)
@[simp] theorem h121_2_wp : type_of% (@wpH h121_2 _ h121_2.eq_1) := wpH h121_2.eq_1
def h121_3 : HC := (.seq (.reg (.done [(1, (.cst (.pointer none)))] none)) .ret)
@[simp] theorem h121_3_wp : type_of% (@wpH h121_3 _ h121_3.eq_1) := wpH h121_3.eq_1
def h121_4 : HC := (.seq (.br (.chk none (.eqNil false (.pointer 130) (.pointer none)) (.cons (.inp 0) .nil) (.done [] (some (.op (.eqNil false (.pointer 130) (.pointer none)) (.cons (.inp 0) .nil))))) h121_3 .skip) h121_2)
@[simp] theorem h121_4_wp : type_of% (@wpH h121_4 _ h121_4.eq_1) := wpH h121_4.eq_1
def l121 : Lifted := ⟨[0, 2, 3], 31, [.slot 1], (.seq (.reg (.done [(1, (.cst (.pointer none)))] none)) h121_4)⟩
theorem l121_ok : liftFn E0 121 400 = some l121 := by kernel_rfl

def h93_0 : HC := (.seq (.reg (.done [(3, (.inp 5)), (4, (.cst (.int .i64 0)))] none)) .ret)
@[simp] theorem h93_0_wp : type_of% (@wpH h93_0 _ h93_0.eq_1) := wpH h93_0.eq_1
def h93_1 : HC := (.reg (.chk none (.bin .add) (.cons (.inp 6) (.cons (.cst (.int .i64 1)) .nil)) (.done [(6, (.op (.bin .add) (.cons (.inp 6) (.cons (.cst (.int .i64 1)) .nil))))] none)))
@[simp] theorem h93_1_wp : type_of% (@wpH h93_1 _ h93_1.eq_1) := wpH h93_1.eq_1
def h93_2 : HC := (.seq (.reg (.done [(3, (.cst (.pointer none))), (4, (.inp 7))] none)) .ret)
@[simp] theorem h93_2_wp : type_of% (@wpH h93_2 _ h93_2.eq_1) := wpH h93_2.eq_1
def h93_3 : HC := (.br (.chk none (.bin .neq) (.cons (.inp 7) (.cons (.cst (.int .i64 0)) .nil)) (.done [] (some (.op (.bin .neq) (.cons (.inp 7) (.cons (.cst (.int .i64 0)) .nil)))))) h93_2 .skip)
@[simp] theorem h93_3_wp : type_of% (@wpH h93_3 _ h93_3.eq_1) := wpH h93_3.eq_1
def h93_4 : HC := (.seq (.reg (.chk none (.idxL 3) (.cons (.inp 2) (.cons (.inp 6) .nil)) (.eff (.ld true 3) (.cons (.op (.idxL 3) (.cons (.inp 2) (.cons (.inp 6) .nil))) .nil) (.eff (.call 122) (.cons (.inp 5) (.cons (.inp 1) (.cons (.bv 0) .nil))) (.done [(7, (.bv 1))] none))))) h93_3)
@[simp] theorem h93_4_wp : type_of% (@wpH h93_4 _ h93_4.eq_1) := wpH h93_4.eq_1
def h93_5 : HC := (.seq (.block 1 h93_4) h93_1)
@[simp] theorem h93_5_wp : type_of% (@wpH h93_5 _ h93_5.eq_1) := wpH h93_5.eq_1
def h93_6 : HC := (.seq (.br (.chk none .lenL (.cons (.inp 2) .nil) (.chk none (.bin .lss) (.cons (.inp 6) (.cons (.op .lenL (.cons (.inp 2) .nil)) .nil)) (.done [] (some (.op (.bin .lss) (.cons (.inp 6) (.cons (.op .lenL (.cons (.inp 2) .nil)) .nil))))))) .skip (.exit 0)) h93_5)
@[simp] theorem h93_6_wp : type_of% (@wpH h93_6 _ h93_6.eq_1) := wpH h93_6.eq_1
def h93_7 : HC := (.loop h93_6)
@[simp] theorem h93_7_wp : type_of% (@wpH h93_7 _ h93_7.eq_1) := wpH h93_7.eq_1
def h93_8 : HC := (.seq (.block 0 h93_7) h93_0)
@[simp] theorem h93_8_wp : type_of% (@wpH h93_8 _ h93_8.eq_1) := wpH h93_8.eq_1
def h93_9 : HC := (.seq (.reg (.done [(6, (.cst (.int .i64 0)))] none)) h93_8)
@[simp] theorem h93_9_wp : type_of% (@wpH h93_9 _ h93_9.eq_1) := wpH h93_9.eq_1
def h93_10 : HC := (.seq (.reg (.eff (.call 121) (.cons (.inp 0) .nil) (.done [(5, (.bv 0))] none))) h93_9)
@[simp] theorem h93_10_wp : type_of% (@wpH h93_10 _ h93_10.eq_1) := wpH h93_10.eq_1
def l93 : Lifted := ⟨[0, 1, 2, 6, 7, 8, 9, 10], 30, [.slot 3, .slot 4], (.seq (.reg (.done [(3, (.cst (.pointer none))), (4, (.cst (.int .i64 0)))] none)) h93_10)⟩
theorem l93_ok : liftFn E0 93 400 = some l93 := by kernel_rfl

def h95_0 : HC := (.reg (.chk none .chkp (.cons (.inp 1) .nil) (.chk none (.fld 2) (.cons (.op .chkp (.cons (.inp 1) .nil)) .nil) (.eff (.ld false 1) (.cons (.op (.fld 2) (.cons (.op .chkp (.cons (.inp 1) .nil)) .nil)) .nil) (.chk none .chkp (.cons (.inp 0) .nil) (.chk none (.fld 2) (.cons (.op .chkp (.cons (.inp 0) .nil)) .nil) (.eff (.st 1) (.cons (.op (.fld 2) (.cons (.op .chkp (.cons (.inp 0) .nil)) .nil)) (.cons (.bv 0) .nil)) (.done [] none))))))))
@[simp] theorem h95_0_wp : type_of% (@wpH h95_0 _ h95_0.eq_1) := wpH h95_0.eq_1
def h95_1 : HC := (.seq (.regq (some 1) (.chk none .chkp (.cons (.inp 0) .nil) (.chk none (.fld 1) (.cons (.op .chkp (.cons (.inp 0) .nil)) .nil) (.eff (.ld false 1) (.cons (.op (.fld 1) (.cons (.op .chkp (.cons (.inp 0) .nil)) .nil)) .nil) (.chk none .chkp (.cons (.inp 1) .nil) (.chk none (.fld 1) (.cons (.op .chkp (.cons (.inp 1) .nil)) .nil) (.eff (.ld false 1) (.cons (.op (.fld 1) (.cons (.op .chkp (.cons (.inp 1) .nil)) .nil)) .nil) (.chk none .chkp (.cons (.bv 1) .nil) (.chk none (.fld 1) (.cons (.op .chkp (.cons (.bv 1) .nil)) .nil) (.eff (.ld false 1) (.cons (.op (.fld 1) (.cons (.op .chkp (.cons (.bv 1) .nil)) .nil)) .nil) (.chk none .chkp (.cons (.bv 0) .nil) (.chk none (.fld 1) (.cons (.op .chkp (.cons (.bv 0) .nil)) .nil) (.eff (.st 1) (.cons (.op (.fld 1) (.cons (.op .chkp (.cons (.bv 0) .nil)) .nil)) (.cons (.bv 2) .nil)) (.done [] none)))))))))))))) h95_0)
@[simp] theorem h95_1_wp : type_of% (@wpH h95_1 _ h95_1.eq_1) := wpH h95_1.eq_1
def h95_2 : HC := (.seq (.regq (some 1) (.chk none .chkp (.cons (.inp 0) .nil) (.chk none (.fld 0) (.cons (.op .chkp (.cons (.inp 0) .nil)) .nil) (.eff (.ld false 1) (.cons (.op (.fld 0) (.cons (.op .chkp (.cons (.inp 0) .nil)) .nil)) .nil) (.chk none .chkp (.cons (.inp 1) .nil) (.chk none (.fld 0) (.cons (.op .chkp (.cons (.inp 1) .nil)) .nil) (.eff (.ld false 1) (.cons (.op (.fld 0) (.cons (.op .chkp (.cons (.inp 1) .nil)) .nil)) .nil) (.chk none .chkp (.cons (.bv 1) .nil) (.chk none (.fld 2) (.cons (.op .chkp (.cons (.bv 1) .nil)) .nil) (.eff (.ld false 1) (.cons (.op (.fld 2) (.cons (.op .chkp (.cons (.bv 1) .nil)) .nil)) .nil) (.chk none .chkp (.cons (.bv 0) .nil) (.chk none (.fld 2) (.cons (.op .chkp (.cons (.bv 0) .nil)) .nil) (.eff (.st 1) (.cons (.op (.fld 2) (.cons (.op .chkp (.cons (.bv 0) .nil)) .nil)) (.cons (.bv 2) .nil)) (.done [] none)))))))))))))) h95_1)
@[simp] theorem h95_2_wp : type_of% (@wpH h95_2 _ h95_2.eq_1) := wpH h95_2.eq_1
def l95 : Lifted := ⟨[0, 1], 50, [], (.seq (.regq (some 1) (.chk none .chkp (.cons (.inp 0) .nil) (.chk none (.fld 0) (.cons (.op .chkp (.cons (.inp 0) .nil)) .nil) (.eff (.ld false 1) (.cons (.op (.fld 0) (.cons (.op .chkp (.cons (.inp 0) .nil)) .nil)) .nil) (.chk none .chkp (.cons (.inp 1) .nil) (.chk none (.fld 0) (.cons (.op .chkp (.cons (.inp 1) .nil)) .nil) (.eff (.ld false 1) (.cons (.op (.fld 0) (.cons (.op .chkp (.cons (.inp 1) .nil)) .nil)) .nil) (.chk none .chkp (.cons (.bv 1) .nil) (.chk none (.fld 1) (.cons (.op .chkp (.cons (.bv 1) .nil)) .nil) (.eff (.ld false 1) (.cons (.op (.fld 1) (.cons (.op .chkp (.cons (.bv 1) .nil)) .nil)) .nil) (.chk none .chkp (.cons (.bv 0) .nil) (.chk none (.fld 1) (.cons (.op .chkp (.cons (.bv 0) .nil)) .nil) (.eff (.st 1) (.cons (.op (.fld 1) (.cons (.op .chkp (.cons (.bv 0) .nil)) .nil)) (.cons (.bv 2) .nil)) (.done [] none)))))))))))))) h95_2)⟩
theorem l95_ok : liftFn E0 95 400 = some l95 := by kernel_rfl

def h52_0 : HC := (.seq (.reg (.done [(5, (.inp 6))] none)) .ret)
@[simp] theorem h52_0_wp : type_of% (@wpH h52_0 _ h52_0.eq_1) := wpH h52_0.eq_1
def h52_1 : HC := (.reg (.eff (.call 95) (.cons (.inp 0) (.cons (.inp 7) .nil)) (.done [] none)))
@[simp] theorem h52_1_wp : type_of% (@wpH h52_1 _ h52_1.eq_1) := wpH h52_1.eq_1
def h52_2 : HC := (.seq (.br (.chk none (.bin .eql) (.cons (.inp 6) (.cons (.cst (.int .i64 0)) .nil)) (.done [] (some (.op (.bin .eql) (.cons (.inp 6) (.cons (.cst (.int .i64 0)) .nil)))))) h52_1 .skip) h52_0)
@[simp] theorem h52_2_wp : type_of% (@wpH h52_2 _ h52_2.eq_1) := wpH h52_2.eq_1
def h52_3 : HC := (.seq (.reg (.eff (.ld true 5) (.cons (.inp 4) .nil) (.eff (.call 94) (.cons (.inp 7) (.cons (.inp 1) (.cons (.bv 0) .nil))) (.done [(6, (.bv 1))] none)))) h52_2)
@[simp] theorem h52_3_wp : type_of% (@wpH h52_3 _ h52_3.eq_1) := wpH h52_3.eq_1
def h52_4 : HC := (.seq (.reg (.done [(5, (.inp 6))] none)) .ret)
@[simp] theorem h52_4_wp : type_of% (@wpH h52_4 _ h52_4.eq_1) := wpH h52_4.eq_1
def h52_5 : HC := (.seq (.br (.chk none (.bin .neq) (.cons (.inp 6) (.cons (.cst (.int .i64 0)) .nil)) (.done [] (some (.op (.bin .neq) (.cons (.inp 6) (.cons (.cst (.int .i64 0)) .nil)))))) h52_4 .skip) h52_3)
@[simp] theorem h52_5_wp : type_of% (@wpH h52_5 _ h52_5.eq_1) := wpH h52_5.eq_1
def h52_6 : HC := (.seq (.reg (.eff (.call 93) (.cons (.inp 0) (.cons (.inp 1) (.cons (.inp 2) .nil))) (.chk none (.ext 0) (.cons (.bv 0) .nil) (.chk none (.ext 1) (.cons (.bv 0) .nil) (.done [(6, (.op (.ext 1) (.cons (.bv 0) .nil))), (7, (.op (.ext 0) (.cons (.bv 0) .nil)))] none))))) h52_5)
@[simp] theorem h52_6_wp : type_of% (@wpH h52_6 _ h52_6.eq_1) := wpH h52_6.eq_1
def h52_7 : HC := (.seq (.reg (.done [(5, (.inp 6))] none)) .ret)
@[simp] theorem h52_7_wp : type_of% (@wpH h52_7 _ h52_7.eq_1) := wpH h52_7.eq_1
def h52_8 : HC := (.seq (.br (.chk none (.bin .neq) (.cons (.inp 6) (.cons (.cst (.int .i64 0)) .nil)) (.done [] (some (.op (.bin .neq) (.cons (.inp 6) (.cons (.cst (.int .i64 0)) .nil)))))) h52_7 .skip) h52_6)
@[simp] theorem h52_8_wp : type_of% (@wpH h52_8 _ h52_8.eq_1) := wpH h52_8.eq_1
def h52_9 : HC := (.seq (.reg (.eff (.call 92) (.cons (.inp 0) (.cons (.inp 1) .nil)) (.done [(6, (.bv 0))] none))) h52_8)
@[simp] theorem h52_9_wp : type_of% (@wpH h52_9 _ h52_9.eq_1) := wpH h52_9.eq_1
def l52 : Lifted := ⟨[0, 1, 2, 3, 7, 8, 9, 10], 37, [.slot 5], (.seq (.reg (.eff (.box 46) (.cons (.inp 3) .nil) (.done [(4, (.bv 0)), (5, (.cst (.int .i64 0)))] none))) h52_9)⟩
theorem l52_ok : liftFn E0 52 400 = some l52 := by kernel_rfl

def h50_0 : HC := (.seq (.reg (.eff (.ld true 5) (.cons (.inp 3) .nil) (.eff (.call 52) (.cons (.inp 0) (.cons (.inp 1) (.cons (.cst (.slice none 0 0)) (.cons (.bv 0) .nil)))) (.done [(4, (.bv 1))] none)))) .ret)
@[simp] theorem h50_0_wp : type_of% (@wpH h50_0 _ h50_0.eq_1) := wpH h50_0.eq_1
def l50 : Lifted := ⟨[0, 1, 2, 5, 6], 11, [.slot 4], (.seq (.reg (.eff (.box 46) (.cons (.inp 2) .nil) (.done [(3, (.bv 0)), (4, (.cst (.int .i64 0)))] none))) h50_0)⟩
theorem l50_ok : liftFn E0 50 400 = some l50 := by kernel_rfl

def h55_0 : HC := (.seq (.reg (.done [(3, (.cst (.int .i64 0)))] none)) .ret)
@[simp] theorem h55_0_wp : type_of% (@wpH h55_0 _ h55_0.eq_1) := wpH h55_0.eq_1
def h55_1 : HC := (.seq (.reg (.eff (.call 95) (.cons (.inp 0) (.cons (.inp 5) .nil)) (.done [] none))) h55_0)
@[simp] theorem h55_1_wp : type_of% (@wpH h55_1 _ h55_1.eq_1) := wpH h55_1.eq_1
def h55_2 : HC := (.seq (.reg (.done [(3, (.cst (.int .i64 170)))] none)) .ret)
@[simp] theorem h55_2_wp : type_of% (@wpH h55_2 _ h55_2.eq_1) := wpH h55_2.eq_1
def h55_3 : HC := (.seq (.br (.eff (.call 56) (.cons (.inp 5) (.cons (.inp 1) .nil)) (.chk none (.bin .neq) (.cons (.bv 0) (.cons (.cst (.int .u64 0)) .nil)) (.bnd (.op (.bin .neq) (.cons (.bv 0) (.cons (.cst (.int .u64 0)) .nil))) (.ite (.bv 1) false (.eff (.call 57) (.cons (.ite (.bv 1) false (.inp 5) (.cst (.tuple #[]))) (.cons (.ite (.bv 1) false (.inp 1) (.cst (.tuple #[]))) .nil)) (.chk none .lenL (.cons (.bv 2) .nil) (.chk none (.bin .gtr) (.cons (.op .lenL (.cons (.bv 2) .nil)) (.cons (.cst (.int .i64 0)) .nil)) (.isb none (.bv 1) (.done [] (some (.op (.bin .gtr) (.cons (.op .lenL (.cons (.bv 2) .nil)) (.cons (.cst (.int .i64 0)) .nil))))))))) (.isb none (.bv 1) (.done [] (some (.cst (.bool true))))))))) h55_2 .skip) h55_1)
@[simp] theorem h55_3_wp : type_of% (@wpH h55_3 _ h55_3.eq_1) := wpH h55_3.eq_1
def h55_4 : HC := (.seq (.reg (.done [(3, (.inp 4))] none)) .ret)
@[simp] theorem h55_4_wp : type_of% (@wpH h55_4 _ h55_4.eq_1) := wpH h55_4.eq_1
def h55_5 : HC := (.seq (.br (.chk none (.bin .neq) (.cons (.inp 4) (.cons (.cst (.int .i64 0)) .nil)) (.done [] (some (.op (.bin .neq) (.cons (.inp 4) (.cons (.cst (.int .i64 0)) .nil)))))) h55_4 .skip) h55_3)
@[simp] theorem h55_5_wp : type_of% (@wpH h55_5 _ h55_5.eq_1) := wpH h55_5.eq_1
def h55_6 : HC := (.seq (.reg (.eff (.call 93) (.cons (.inp 0) (.cons (.inp 1) (.cons (.inp 2) .nil))) (.chk none (.ext 0) (.cons (.bv 0) .nil) (.chk none (.ext 1) (.cons (.bv 0) .nil) (.done [(4, (.op (.ext 1) (.cons (.bv 0) .nil))), (5, (.op (.ext 0) (.cons (.bv 0) .nil)))] none))))) h55_5)
@[simp] theorem h55_6_wp : type_of% (@wpH h55_6 _ h55_6.eq_1) := wpH h55_6.eq_1
def h55_7 : HC := (.seq (.reg (.done [(3, (.inp 4))] none)) .ret)
@[simp] theorem h55_7_wp : type_of% (@wpH h55_7 _ h55_7.eq_1) := wpH h55_7.eq_1
def h55_8 : HC := (.seq (.br (.chk none (.bin .neq) (.cons (.inp 4) (.cons (.cst (.int .i64 0)) .nil)) (.done [] (some (.op (.bin .neq) (.cons (.inp 4) (.cons (.cst (.int .i64 0)) .nil)))))) h55_7 .skip) h55_6)
@[simp] theorem h55_8_wp : type_of% (@wpH h55_8 _ h55_8.eq_1) := wpH h55_8.eq_1
def h55_9 : HC := (.seq (.reg (.eff (.call 92) (.cons (.inp 0) (.cons (.inp 1) .nil)) (.done [(4, (.bv 0))] none))) h55_8)
@[simp] theorem h55_9_wp : type_of% (@wpH h55_9 _ h55_9.eq_1) := wpH h55_9.eq_1
def l55 : Lifted := ⟨[0, 1, 2, 6, 7, 8], 39, [.slot 3], (.seq (.reg (.done [(3, (.cst (.int .i64 0)))] none)) h55_9)⟩
theorem l55_ok : liftFn E0 55 400 = some l55 := by kernel_rfl

def h48_0 : HC := (.seq (.reg (.done [(3, (.inp 8)), (4, (.cst (.int .i64 0)))] none)) .ret)
@[simp] theorem h48_0_wp : type_of% (@wpH h48_0 _ h48_0.eq_1) := wpH h48_0.eq_1
def h48_1 : HC := (.seq (.reg (.chk none .chkp (.cons (.inp 8) .nil) (.chk none (.fld 2) (.cons (.op .chkp (.cons (.inp 8) .nil)) .nil) (.eff (.ld false 1) (.cons (.op (.fld 2) (.cons (.op .chkp (.cons (.inp 8) .nil)) .nil)) .nil) (.eff (.app 25 25 100 2 16 (.agg #[(.int .i64 0), (.int .u64 0)])) (.cons (.bv 0) (.cons (.inp 2) .nil)) (.chk none .chkp (.cons (.inp 8) .nil) (.chk none (.fld 2) (.cons (.op .chkp (.cons (.inp 8) .nil)) .nil) (.eff (.st 1) (.cons (.op (.fld 2) (.cons (.op .chkp (.cons (.inp 8) .nil)) .nil)) (.cons (.bv 1) .nil)) (.done [] none))))))))) h48_0)
@[simp] theorem h48_1_wp : type_of% (@wpH h48_1 _ h48_1.eq_1) := wpH h48_1.eq_1
def h48_2 : HC := (.seq (.reg (.chk none (.build #[(.pointer none), (.pointer none), (.slice none 0 0)] [(0, 1), (1, 1), (2, 1)] [0, 1]) (.cons (.inp 0) (.cons (.inp 1) .nil)) (.eff (.box 130) (.cons (.op (.build #[(.pointer none), (.pointer none), (.slice none 0 0)] [(0, 1), (1, 1), (2, 1)] [0, 1]) (.cons (.inp 0) (.cons (.inp 1) .nil))) .nil) (.done [(8, (.bv 0))] none)))) h48_1)
@[simp] theorem h48_2_wp : type_of% (@wpH h48_2 _ h48_2.eq_1) := wpH h48_2.eq_1
def h48_3 : HC := (.seq (.reg (.done [(3, (.cst (.pointer none))), (4, (.cst (.int .i64 170)))] none)) .ret)
@[simp] theorem h48_3_wp : type_of% (@wpH h48_3 _ h48_3.eq_1) := wpH h48_3.eq_1
def h48_4 : HC := (.seq (.br (.chk (some ((.inp 6), false)) (.bin .neq) (.cons (.inp 5) (.cons (.cst (.int .u64 0)) .nil)) (.isb none (.inp 6) (.done [] (some (.ite (.inp 6) true (.cst (.bool true)) (.op (.bin .neq) (.cons (.inp 5) (.cons (.cst (.int .u64 0)) .nil)))))))) h48_3 .skip) h48_2)
@[simp] theorem h48_4_wp : type_of% (@wpH h48_4 _ h48_4.eq_1) := wpH h48_4.eq_1
def h48_5 : HC := (.reg (.chk none (.bin .add) (.cons (.inp 7) (.cons (.cst (.int .i64 1)) .nil)) (.done [(7, (.op (.bin .add) (.cons (.inp 7) (.cons (.cst (.int .i64 1)) .nil))))] none)))
@[simp] theorem h48_5_wp : type_of% (@wpH h48_5 _ h48_5.eq_1) := wpH h48_5.eq_1
def h48_6 : HC := (.reg (.done [(6, (.cst (.bool true)))] none))
@[simp] theorem h48_6_wp : type_of% (@wpH h48_6 _ h48_6.eq_1) := wpH h48_6.eq_1
def h48_7 : HC := (.reg (.chk none (.idxL 2) (.cons (.inp 2) (.cons (.inp 7) .nil)) (.chk none (.fld 1) (.cons (.op (.idxL 2) (.cons (.inp 2) (.cons (.inp 7) .nil))) .nil) (.eff (.ld false 1) (.cons (.op (.fld 1) (.cons (.op (.idxL 2) (.cons (.inp 2) (.cons (.inp 7) .nil))) .nil)) .nil) (.chk none (.bin .sub) (.cons (.inp 5) (.cons (.bv 0) .nil)) (.done [(5, (.op (.bin .sub) (.cons (.inp 5) (.cons (.bv 0) .nil))))] none))))))
@[simp] theorem h48_7_wp : type_of% (@wpH h48_7 _ h48_7.eq_1) := wpH h48_7.eq_1
def h48_8 : HC := (.br (.chk (some ((.inp 6), false)) (.idxL 2) (.cons (.inp 2) (.cons (.inp 7) .nil)) (.chk (some ((.inp 6), false)) (.fld 1) (.cons (.op (.idxL 2) (.cons (.inp 2) (.cons (.inp 7) .nil))) .nil) (.ite (.inp 6) false (.eff (.ld false 1) (.cons (.ite (.inp 6) false (.op (.fld 1) (.cons (.op (.idxL 2) (.cons (.inp 2) (.cons (.inp 7) .nil))) .nil)) (.cst (.tuple #[]))) .nil) (.chk none (.bin .gtr) (.cons (.bv 0) (.cons (.inp 5) .nil)) (.isb none (.inp 6) (.done [] (some (.op (.bin .gtr) (.cons (.bv 0) (.cons (.inp 5) .nil)))))))) (.isb none (.inp 6) (.done [] (some (.cst (.bool true)))))))) h48_6 h48_7)
@[simp] theorem h48_8_wp : type_of% (@wpH h48_8 _ h48_8.eq_1) := wpH h48_8.eq_1
def h48_9 : HC := (.seq (.reg (.done [(3, (.cst (.pointer none))), (4, (.cst (.int .i64 2)))] none)) .ret)
@[simp] theorem h48_9_wp : type_of% (@wpH h48_9 _ h48_9.eq_1) := wpH h48_9.eq_1
def r48_0 : RT := (.chk none (.bin .sub) (.cons (.inp 7) (.cons (.cst (.int .i64 1)) .nil)) (.chk none (.idxL 2) (.cons (.inp 2) (.cons (.op (.bin .sub) (.cons (.inp 7) (.cons (.cst (.int .i64 1)) .nil))) .nil)) (.chk none (.fld 0) (.cons (.op (.idxL 2) (.cons (.inp 2) (.cons (.op (.bin .sub) (.cons (.inp 7) (.cons (.cst (.int .i64 1)) .nil))) .nil))) .nil) (.eff (.ld false 1) (.cons (.op (.fld 0) (.cons (.op (.idxL 2) (.cons (.inp 2) (.cons (.op (.bin .sub) (.cons (.inp 7) (.cons (.cst (.int .i64 1)) .nil))) .nil))) .nil)) .nil) (.chk none (.bin .leq) (.cons (.bv 3) (.cons (.bv 4) .nil)) (.isb (some ((.bv 1), false)) (.bv 2) (.isb none (.bv 1) (.bnd (.ite (.bv 1) true (.cst (.bool true)) (.op (.bin .leq) (.cons (.bv 3) (.cons (.bv 4) .nil)))) (.chk (some ((.bv 5), false)) (.idxL 2) (.cons (.inp 2) (.cons (.inp 7) .nil)) (.chk (some ((.bv 5), false)) (.fld 1) (.cons (.op (.idxL 2) (.cons (.inp 2) (.cons (.inp 7) .nil))) .nil) (.ite (.bv 5) false (.eff (.ld false 1) (.cons (.ite (.bv 5) false (.op (.fld 1) (.cons (.op (.idxL 2) (.cons (.inp 2) (.cons (.inp 7) .nil))) .nil)) (.cst (.tuple #[]))) .nil) (.chk none (.bin .eql) (.cons (.bv 6) (.cons (.cst (.int .u64 0)) .nil)) (.isb none (.bv 5) (.done [] (some (.op (.bin .eql) (.cons (.bv 6) (.cons (.cst (.int .u64 0)) .nil)))))))) (.isb none (.bv 5) (.done [] (some (.cst (.bool true))))))))))))))))
@[simp] theorem r48_0_wp : type_of% (@wpR r48_0 _ r48_0.eq_1) := wpR r48_0.eq_1
@[simp] theorem r48_0_wpq : type_of% (@wpRq r48_0 _ r48_0.eq_1) := wpRq r48_0.eq_1
@[simp] theorem r48_0_wpm : type_of% (@wpRm r48_0 _ r48_0.eq_1) := wpRm r48_0.eq_1
def r48_1 : RT := (.eff (.ld false 1) (.cons (.ite (.bv 2) true (.op (.fld 0) (.cons (.op (.idxL 2) (.cons (.inp 2) (.cons (.inp 7) .nil))) .nil)) (.cst (.tuple #[]))) .nil) r48_0)
@[simp] theorem r48_1_wp : type_of% (@wpR r48_1 _ r48_1.eq_1) := wpR r48_1.eq_1
@[simp] theorem r48_1_wpq : type_of% (@wpRq r48_1 _ r48_1.eq_1) := wpRq r48_1.eq_1
@[simp] theorem r48_1_wpm : type_of% (@wpRm r48_1 _ r48_1.eq_1) := wpRm r48_1.eq_1
def r48_2 : RT := (.isb (some ((.bv 1), false)) (.bv 2) (.isb none (.bv 1) (.bnd (.ite (.bv 1) true (.cst (.bool true)) (.cst (.bool false))) (.chk (some ((.bv 3), false)) (.idxL 2) (.cons (.inp 2) (.cons (.inp 7) .nil)) (.chk (some ((.bv 3), false)) (.fld 1) (.cons (.op (.idxL 2) (.cons (.inp 2) (.cons (.inp 7) .nil))) .nil) (.ite (.bv 3) false (.eff (.ld false 1) (.cons (.ite (.bv 3) false (.op (.fld 1) (.cons (.op (.idxL 2) (.cons (.inp 2) (.cons (.inp 7) .nil))) .nil)) (.cst (.tuple #[]))) .nil) (.chk none (.bin .eql) (.cons (.bv 4) (.cons (.cst (.int .u64 0)) .nil)) (.isb none (.bv 3) (.done [] (some (.op (.bin .eql) (.cons (.bv 4) (.cons (.cst (.int .u64 0)) .nil)))))))) (.isb none (.bv 3) (.done [] (some (.cst (.bool true)))))))))))
@[simp] theorem r48_2_wp : type_of% (@wpR r48_2 _ r48_2.eq_1) := wpR r48_2.eq_1
@[simp] theorem r48_2_wpq : type_of% (@wpRq r48_2 _ r48_2.eq_1) := wpRq r48_2.eq_1
@[simp] theorem r48_2_wpm : type_of% (@wpRm r48_2 _ r48_2.eq_1) := wpRm r48_2.eq_1
def r48_3 : RT := (.chk none (.bin .lss) (.cons (.bv 0) (.cons (.cst (.int .i64 1)) .nil)) (.bnd (.op (.bin .lss) (.cons (.bv 0) (.cons (.cst (.int .i64 1)) .nil))) (.chk (some ((.bv 1), false)) (.bin .gtr) (.cons (.inp 7) (.cons (.cst (.int .i64 0)) .nil)) (.bnd (.ite (.bv 1) false (.op (.bin .gtr) (.cons (.inp 7) (.cons (.cst (.int .i64 0)) .nil))) (.cst (.tuple #[]))) (.chk (some ((.bv 2), true)) (.idxL 2) (.cons (.inp 2) (.cons (.inp 7) .nil)) (.chk (some ((.bv 2), true)) (.fld 0) (.cons (.op (.idxL 2) (.cons (.inp 2) (.cons (.inp 7) .nil))) .nil) (.ite (.bv 2) true r48_1 r48_2)))))))
@[simp] theorem r48_3_wp : type_of% (@wpR r48_3 _ r48_3.eq_1) := wpR r48_3.eq_1
@[simp] theorem r48_3_wpq : type_of% (@wpRq r48_3 _ r48_3.eq_1) := wpRq r48_3.eq_1
@[simp] theorem r48_3_wpm : type_of% (@wpRm r48_3 _ r48_3.eq_1) := wpRm r48_3.eq_1
def h48_10 : HC := (.seq (.brq (some 0) (.chk none (.idxL 2) (.cons (.inp 2) (.cons (.inp 7) .nil)) (.chk none (.fld 0) (.cons (.op (.idxL 2) (.cons (.inp 2) (.cons (.inp 7) .nil))) .nil) (.eff (.ld false 1) (.cons (.op (.fld 0) (.cons (.op (.idxL 2) (.cons (.inp 2) (.cons (.inp 7) .nil))) .nil)) .nil) r48_3))) h48_9 .skip) h48_8)
@[simp] theorem h48_10_wp : type_of% (@wpH h48_10 _ h48_10.eq_1) := wpH h48_10.eq_1
def h48_11 : HC := (.seq (.block 1 h48_10) h48_5)
@[simp] theorem h48_11_wp : type_of% (@wpH h48_11 _ h48_11.eq_1) := wpH h48_11.eq_1
def h48_12 : HC := (.seq (.br (.chk none .lenL (.cons (.inp 2) .nil) (.chk none (.bin .lss) (.cons (.inp 7) (.cons (.op .lenL (.cons (.inp 2) .nil)) .nil)) (.done [] (some (.op (.bin .lss) (.cons (.inp 7) (.cons (.op .lenL (.cons (.inp 2) .nil)) .nil))))))) .skip (.exit 0)) h48_11)
@[simp] theorem h48_12_wp : type_of% (@wpH h48_12 _ h48_12.eq_1) := wpH h48_12.eq_1
def h48_13 : HC := (.loop h48_12)
@[simp] theorem h48_13_wp : type_of% (@wpH h48_13 _ h48_13.eq_1) := wpH h48_13.eq_1
def h48_14 : HC := (.seq (.block 0 h48_13) h48_4)
@[simp] theorem h48_14_wp : type_of% (@wpH h48_14 _ h48_14.eq_1) := wpH h48_14.eq_1
def h48_15 : HC := (.seq (.reg (.done [(7, (.cst (.int .i64 0)))] none)) h48_14)
@[simp] theorem h48_15_wp : type_of% (@wpH h48_15 _ h48_15.eq_1) := wpH h48_15.eq_1
def h48_16 : HC := (.seq (.reg (.done [(6, (.cst (.bool false)))] none)) h48_15)
@[simp] theorem h48_16_wp : type_of% (@wpH h48_16 _ h48_16.eq_1) := wpH h48_16.eq_1
def h48_17 : HC := (.seq (.reg (.eff (.call 68) (.cons (.inp 0) .nil) (.done [(5, (.bv 0))] none))) h48_16)
@[simp] theorem h48_17_wp : type_of% (@wpH h48_17 _ h48_17.eq_1) := wpH h48_17.eq_1
def h48_18 : HC := (.seq (.reg (.done [(3, (.cst (.pointer none))), (4, (.cst (.int .i64 1)))] none)) .ret)
@[simp] theorem h48_18_wp : type_of% (@wpH h48_18 _ h48_18.eq_1) := wpH h48_18.eq_1
def h48_19 : HC := (.seq (.br (.chk none (.eqNil false (.pointer 154) (.pointer none)) (.cons (.inp 0) .nil) (.bnd (.op (.eqNil false (.pointer 154) (.pointer none)) (.cons (.inp 0) .nil)) (.chk (some ((.bv 0), false)) (.eqNil false (.pointer 157) (.pointer none)) (.cons (.inp 1) .nil) (.isb none (.bv 0) (.done [] (some (.ite (.bv 0) true (.cst (.bool true)) (.op (.eqNil false (.pointer 157) (.pointer none)) (.cons (.inp 1) .nil))))))))) h48_18 .skip) h48_17)
@[simp] theorem h48_19_wp : type_of% (@wpH h48_19 _ h48_19.eq_1) := wpH h48_19.eq_1
def l48 : Lifted := ⟨[0, 1, 2, 6, 7, 8, 9, 10, 11], 94, [.slot 3, .slot 4], (.seq (.reg (.done [(3, (.cst (.pointer none))), (4, (.cst (.int .i64 0)))] none)) h48_19)⟩
theorem l48_ok : liftFn E0 48 400 = some l48 := by kernel_rfl
abbrev rept (s q g : Nat) (v : Value) : Asn := pt s (.cells #[.pointer (some ⟨q, 0, none⟩), .pointer (some ⟨g, 0, none⟩), v] 130 (0, 0))
def resc (s q g : Nat) (l : List Rw) : Asn := fun h => ∃ v, (rept s q g v * own 100 2 v l.length (rflat l)) h
theorem resopen {w0 w : World} {A : Asn} {s q g : Nat} {l : List Rw} (h : St w0 (A * resc s q g l) w) : ∃ v, St w0 (A * rept s q g v * own 100 2 v l.length (rflat l)) w := by
  obtain ⟨g', h1, h2, h3, d, e, a, v, b⟩ := h.holds
  refine ⟨v, ?_⟩
  rw [sep_assoc]
  exact h.of ⟨g', h1, h2, h3, d, e, a, b⟩
theorem resclose {w0 w : World} {A : Asn} {s q g : Nat} {l : List Rw} {v : Value} (h : St w0 (A * rept s q g v * own 100 2 v l.length (rflat l)) w) : St w0 (A * resc s q g l) w := by
  rw [sep_assoc] at h
  obtain ⟨g', h1, h2, h3, d, e, a, b⟩ := h.holds
  exact h.of ⟨g', h1, h2, h3, d, e, a, v, b⟩
theorem rasked_spec (s : Nat) (c : Int) (w0 w : World) (A : Asn) (h : St w0 A w) :
    CallW Tryz.prog 92 [.pointer (some ⟨s, 0, none⟩), .int .i64 c] (fun r w' => r = .int .i64 (if c < 1 then 2 else 0) ∧ St w0 A w') w := by
  refine callW_of_lift l92_ok (by simp [l92]) ?_
  simp [l92]
  refine cndI (fun h1 => ?_) (fun h1 => ?_)
  · simp at h1
    simp [h1]
    exact h
  · simp at h1
    simp [show ¬ c < 1 by omega]
    exact h
theorem rCoins_spec (s q g : Nat) (l : List Rw) (k : Int) (w0 w : World) (A : Asn) (hl : l.length ≤ 4194304) (h : St w0 (A * resc s q g l) w) :
    CallW Tryz.prog 56 [.pointer (some ⟨s, 0, none⟩), .int .i64 k] (fun r w' => r = .int .u64 (cns l k) ∧ St w0 (A * resc s q g l) w') w := by
  refine callW_of_lift l56_ok (by simp [l56]) ?_
  simp [l56]
  obtain ⟨v, s1⟩ := resopen h
  clear h
  obtain ⟨a, cap, rfl, _⟩ := s1.own_val
  refine loopI (fun env w' => ∃ (i : Nat), env = [.pointer (some ⟨s, 0, none⟩), .int .i64 k, .int .u64 0, .int .i64 i] ∧ i ≤ l.length ∧ cns (l.drop i) k = cns l k ∧
      St w0 (A * rept s q g (.slice a l.length cap) * own 100 2 (.slice a l.length cap) l.length (rflat l)) w')
    (fun env _ => l.length - slotN env 3) ⟨0, rfl, by omega, rfl, s1⟩ ?_
  clear s1
  rintro LQ env w' ⟨i, rfl, hi, hcn, s1⟩ hN hX hR
  simp
  refine eff_ldc (v := .slice a l.length cap) (by rw [cell_of s1.drop.look]; rfl) ?_
  simp
  refine cndI (fun hc => ?_) (fun hc => ?_)
  · simp at hc
    have hc : i < l.length := by omega
    obtain ⟨g1, _, hv, _, hcell⟩ := s1.own_at (by omega)
    cases hv
    have hd : l.drop i = l[i] :: l.drop (i + 1) := List.drop_eq_getElem_cons hc
    simp
    refine eff_ldc (v := .slice (some ⟨g1, 0, none⟩) l.length cap) (by rw [cell_of s1.drop.look]; rfl) ?_
    simp [hc]
    refine eff_ldc (v := .int .i64 l[i].1) (by have := hcell (i * 2 + 0) _ (rflat_at hc 0 _ rfl); simpa using this) ?_
    simp
    refine cndI (fun h4 => ?_) (fun h4 => ?_)
    · simp at h4
      simp
      refine eff_ldc (v := .slice (some ⟨g1, 0, none⟩) l.length cap) (by rw [cell_of s1.drop.look]; rfl) ?_
      simp [hc]
      refine eff_ldc (v := .int .u64 l[i].2) (by have := hcell (i * 2 + 1) _ (rflat_at hc 1 _ rfl); simpa using this) ?_
      simp
      refine hR _ _ ?_
      simp
      refine ⟨?_, resclose s1⟩
      rw [← hcn, hd]
      simp [cns, h4]
    · simp at h4
      simp
      try simp (disch := omega) only [wrap64]
      refine hN _ _ ⟨i + 1, by simp, by omega, ?_, s1⟩ (by simp [slotN]; omega)
      rw [← hcn, hd, cns, if_neg (fun e => h4 e.symm)]
  · simp at hc
    simp
    refine hX _ _ _ ?_
    have : i = l.length := by omega
    subst this
    rw [List.drop_length] at hcn
    simp [← hcn, cns]
    exact resclose s1
theorem rItems_spec (s q g : Nat) (lim k : Int) (l : List Rw) (its : List Gd.It) (w0 w : World) (A : Asn) (hg : Gd.GI lim its) (h : St w0 (A * resc s q g l * Gd.rgs g lim its) w) :
    CallW Tryz.prog 57 [.pointer (some ⟨s, 0, none⟩), .int .i64 k] (fun r w' => St w0 (A * resc s q g l * Gd.rgs g lim its * own 3 1 r (Gd.inF its k).length (Gd.ints (Gd.inF its k))) w') w := by
  refine callW_of_lift l57_ok (by simp [l57]) ?_
  simp [l57]
  obtain ⟨v, s1⟩ := resopen h.swap
  refine eff_ldc (v := .pointer (some ⟨g, 0, none⟩)) (by rw [cell_of s1.drop.look]; rfl) ?_
  simp
  refine eff_call ((Gd.rIn_spec g lim its k w0 w _ hg h).mono ?_)
  intro r w1 h1
  simp
  exact h1
theorem rRows_spec (s q g : Nat) (l : List Rw) (w0 w : World) (A : Asn) (hl : l.length ≤ 4194304) (h : St w0 (A * resc s q g l) w) :
    CallW Tryz.prog 64 [.pointer (some ⟨s, 0, none⟩)] (fun r w' => St w0 (A * resc s q g l * own 100 2 r l.length (rflat l)) w') w := by
  refine callW_of_lift l64_ok (by simp [l64]) ?_
  simp [l64]
  obtain ⟨v, s1⟩ := resopen h
  clear h
  obtain ⟨a, cap, rfl, _⟩ := s1.own_val
  refine eff_ldc (v := .slice a l.length cap) (by rw [cell_of s1.drop.look]; rfl) ?_
  simp
  refine eff_appR (s1.own_nil 100 2) (row_in (e := 100) (B := A * rept s q g (.slice a l.length cap) * own 100 2 (.slice none 0 0) 0 []) (s1.own_nil 100 2) (by ac_rfl)) (rflat_one _) (by decide) rfl (by unfold maxLen; omega) (by omega) ?_
  intro v2 w2 s2
  simp
  have s3 : St w0 (A * rept s q g (.slice a l.length cap) * own 100 2 (.slice a l.length cap) l.length (rflat l) * own 100 2 v2 l.length (rflat l)) w2 := by simpa using s2
  exact (resclose (v := .slice a l.length cap) (s3.to (B := A * own 100 2 v2 l.length (rflat l) * rept s q g (.slice a l.length cap) * own 100 2 (.slice a l.length cap) l.length (rflat l)) (by ac_rfl))).to (by ac_rfl)
def rsetF (k v : Int) : Bool → List Rw → List Rw
  | laid, [] => if laid then [] else [(k, v)]
  | laid, r :: t => (if laid = false ∧ k ≤ r.1 then [(k, v)] else []) ++ (if r.1 ≠ k then [r] else []) ++ rsetF k v (laid || decide (k ≤ r.1)) t
theorem rset_true (k v : Int) : ∀ l : List Rw, rsetF k v true l = del k l
  | [] => rfl
  | r :: t => by
    simp only [rsetF, Bool.true_or, rset_true k v t]
    by_cases e : r.1 = k
    · simp [del, e]
    · simp [del, e]
theorem ins_low (k v : Int) : ∀ {m : List Rw}, (∀ x ∈ m, k < x.1) → ins k v m = (k, v) :: m
  | [], _ => rfl
  | r :: t, h => by simp only [ins, if_pos (h r (.head _))]
theorem rset_false (k v : Int) : ∀ {l : List Rw}, l.Pairwise (fun a b => a.1 < b.1) → rsetF k v false l = ins k v (del k l)
  | [], _ => rfl
  | r :: t, h => by
    obtain ⟨h1, h2⟩ := List.pairwise_cons.1 h
    by_cases hk : k ≤ r.1
    · rw [ins_low k v (m := del k (r :: t)) (fun x hx => by
        obtain ⟨a, b⟩ := del_mem.1 hx
        rcases List.mem_cons.1 a with rfl | a
        · omega
        · have := h1 x a; omega)]
      simp only [rsetF, hk, decide_true, Bool.or_true, rset_true]
      by_cases e : r.1 = k
      · simp [del, e]
      · simp [del, e]
    · have e : r.1 ≠ k := by omega
      have hd : del k (r :: t) = r :: del k t := by simp [del, e]
      rw [hd]
      simp only [rsetF, hk, decide_false, Bool.or_false, ins, if_neg (show ¬ k < r.1 by omega), rset_false k v h2]
      simp [e]
theorem rset_is {k v : Int} {l : List Rw} (h : RwOK l) : rsetF k v (decide (v = 0)) l = setR k v l := by
  unfold setR
  by_cases e : v = 0
  · rw [if_pos e, decide_eq_true e, rset_true]
  · rw [if_neg e, decide_eq_false e, rset_false k v h.1]
theorem rset_spec (s q g : Nat) (l : List Rw) (k v : Int) (w0 w : World) (A : Asn) (ok : RwOK l) (hl : l.length ≤ 2097152) (h : St w0 (A * resc s q g l) w) :
    CallW Tryz.prog 127 [.pointer (some ⟨s, 0, none⟩), .int .i64 k, .int .u64 v] (fun _ w' => St w0 (A * resc s q g (setR k v l)) w') w := by
  refine callW_of_lift l127_ok (by simp [l127]) ?_
  simp [l127]
  obtain ⟨lv, s1⟩ := resopen h
  clear h
  obtain ⟨a, cap, rfl, _⟩ := s1.own_val
  refine loopI (fun env w' => ∃ (i : Nat) (xv : Value) (laid : Bool) (acc : List Rw), env = [.pointer (some ⟨s, 0, none⟩), .int .i64 k, .int .u64 v, xv, .bool laid, .int .i64 i] ∧ i ≤ l.length ∧ acc.length ≤ 2 * i ∧ acc ++ rsetF k v laid (l.drop i) = setR k v l ∧
      St w0 (A * rept s q g (.slice a l.length cap) * own 100 2 (.slice a l.length cap) l.length (rflat l) * own 100 2 xv acc.length (rflat acc)) w')
    (fun env _ => l.length - slotN env 5) ⟨0, .slice none 0 0, decide (v = 0), [], by simp, by omega, by simp, by rw [List.drop_zero, ← rset_is ok]; rfl, s1.own_nil 100 2⟩ ?_
  clear s1
  rintro LQ env w' ⟨i, xv, laid, acc, rfl, hi, hacc, hset, s1⟩ hN hX hR
  have rd : ∀ {B : Asn} {w : World}, St w0 (A * rept s q g (.slice a l.length cap) * own 100 2 (.slice a l.length cap) l.length (rflat l) * B) w → w.cell? ⟨s, 2, none⟩ = some (.slice a l.length cap) := fun h => by
    rw [cell_of h.drop.drop.look]; rfl
  simp
  refine eff_ldc (rd s1) ?_
  simp
  refine cndI (fun hc => ?_) (fun hc => ?_)
  · simp at hc
    have hc : i < l.length := by omega
    have hd : l.drop i = l[i] :: l.drop (i + 1) := List.drop_eq_getElem_cons hc
    obtain ⟨g1, _, hv, _, _⟩ := s1.drop.own_at (by omega)
    cases hv
    have rc : ∀ {B : Asn} {w : World}, St w0 (A * rept s q g (.slice (some ⟨g1, 0, none⟩) l.length cap) * own 100 2 (.slice (some ⟨g1, 0, none⟩) l.length cap) l.length (rflat l) * B) w → ∀ j u, (l[i].cs)[j]? = some u → w.cell? ⟨g1, i * 2 + j, none⟩ = some u := fun h j u hu => by
      obtain ⟨g2, _, hv, _, hcell⟩ := h.drop.own_at (by omega)
      cases hv
      exact hcell _ _ (rflat_at hc j u hu)
    rw [hd] at hset
    have tail : ∀ (xv : Value) (laid' : Bool) (acc' : List Rw) (w1 : World), acc'.length ≤ 2 * i + 1 → acc' ++ (if l[i].1 ≠ k then [l[i]] else []) ++ rsetF k v laid' (l.drop (i + 1)) = setR k v l →
        St w0 (A * rept s q g (.slice (some ⟨g1, 0, none⟩) l.length cap) * own 100 2 (.slice (some ⟨g1, 0, none⟩) l.length cap) l.length (rflat l) * own 100 2 xv acc'.length (rflat acc')) w1 →
        HC.wp E0 h127_5 (blockQ 1 (seqQ E0 h127_3 LQ)) [.pointer (some ⟨s, 0, none⟩), .int .i64 k, .int .u64 v, xv, .bool laid', .int .i64 i] w1 := by
      intro xv laid' acc' w1 ha hs s2
      simp
      refine eff_ldc (rd s2) ?_
      simp [hc]
      refine eff_ldc (v := .int .i64 l[i].1) (by have := rc s2 0 _ rfl; simpa using this) ?_
      simp
      refine cndI (fun h4 => ?_) (fun h4 => ?_)
      · simp at h4
        simp
        refine eff_ldc (rd s2) ?_
        simp [hc]
        refine eff_ldcs (vs := l[i].cs) (fun j u hu => by have := rc s2 j u hu; simpa using this) rfl ?_
        simp [Instr.fill, Value.cells]
        refine eff_bslV (v := .agg l[i].cs.toArray) s2 rfl fun c w2 s3 => ?_
        simp
        refine eff_app (m := 1) (news := l[i].cs) s3.swap rfl s3.cells_look (rw_one _) (by decide) rfl (by unfold maxLen; omega) (by omega) fun v3 w3 s4 => ?_
        have e1 : rflat acc' ++ l[i].cs = rflat (acc' ++ [l[i]]) := by rw [rflat_app]; simp [rflat]
        have e2 : acc'.length + 1 = (acc' ++ [l[i]]).length := by simp
        rw [e1, e2] at s4
        simp
        try simp (disch := omega) only [wrap64]
        refine hN _ _ ⟨i + 1, v3, laid', acc' ++ [l[i]], by simp, by omega, by simp; omega, ?_, s4.swap.drop⟩ (by simp [slotN]; omega)
        rw [if_pos h4] at hs
        exact hs
      · simp at h4
        simp
        try simp (disch := omega) only [wrap64]
        refine hN _ _ ⟨i + 1, xv, laid', acc', by simp, by omega, by omega, ?_, s2⟩ (by simp [slotN]; omega)
        rw [if_neg (by simp [h4]), List.append_nil] at hs
        exact hs
    simp
    by_cases hla : laid = true
    · subst hla
      simp
      have := tail xv true acc w' (by omega) (by simpa [rsetF] using hset) s1
      simpa using this
    · have hla : laid = false := by simpa using hla
      subst hla
      simp
      refine eff_ldc (rd s1) ?_
      simp [hc]
      refine eff_ldc (v := .int .i64 l[i].1) (by have := rc s1 0 _ rfl; simpa using this) ?_
      simp
      refine cndI (fun h4 => ?_) (fun h4 => ?_)
      · simp at h4
        simp [Instr.fill, Value.cells]
        refine eff_bslV (v := .agg (Rw.cs (k, v)).toArray) s1 rfl fun c w2 s3 => ?_
        simp
        refine eff_app (m := 1) (news := Rw.cs (k, v)) s3.swap rfl s3.cells_look (rw_one _) (by decide) rfl (by unfold maxLen; omega) (by omega) fun v3 w3 s4 => ?_
        have e1 : rflat acc ++ Rw.cs (k, v) = rflat (acc ++ [(k, v)]) := by rw [rflat_app]; simp [rflat]
        have e2 : acc.length + 1 = (acc ++ [((k, v) : Rw)]).length := by simp
        rw [e1, e2] at s4
        simp
        have := tail v3 true (acc ++ [(k, v)]) w3 (by simp; omega) (by simpa [rsetF, h4] using hset) s4.swap.drop
        simpa using this
      · simp at h4
        simp
        have := tail xv false acc w' (by omega) (by simpa [rsetF, show ¬ k ≤ l[i].1 by omega] using hset) s1
        simpa using this
  · simp at hc
    simp
    refine hX _ _ _ ?_
    have : i = l.length := by omega
    subst this
    rw [List.drop_length] at hset
    have fin : ∀ (xv : Value) (laid : Bool) (acc' : List Rw) (w1 : World), acc' = setR k v l → St w0 (A * rept s q g (.slice a l.length cap) * own 100 2 (.slice a l.length cap) l.length (rflat l) * own 100 2 xv acc'.length (rflat acc')) w1 →
        HC.wp E0 h127_0 (endQ Tryz.prog [] (fun _ w' => St w0 (A * resc s q g (setR k v l)) w')) [.pointer (some ⟨s, 0, none⟩), .int .i64 k, .int .u64 v, xv, .bool laid, .int .i64 l.length] w1 := by
      intro xv laid acc' w1 e s2
      subst e
      have hv : xv.oneCell' = true := by obtain ⟨a, cap, rfl, _⟩ := s2.own_val; rfl
      simp
      refine eff_st1 (s2.to (B := A * own 100 2 (.slice a l.length cap) l.length (rflat l) * own 100 2 xv (setR k v l).length (rflat (setR k v l)) * rept s q g (.slice a l.length cap)) (by ac_rfl)) hv (by simp) fun w3 s4 => ?_
      simp at s4 ⊢
      exact resclose (v := xv) (s4.cut (own 100 2 (.slice a l.length cap) l.length (rflat l)) (by simp only [rept]; ac_rfl))
    simp
    by_cases hla : laid = true
    · subst hla
      simp
      have := fin xv true acc w' (by simpa [rsetF] using hset) s1
      simpa using this
    · have hla : laid = false := by simpa using hla
      subst hla
      simp [Instr.fill, Value.cells]
      refine eff_bslV (v := .agg (Rw.cs (k, v)).toArray) s1 rfl fun c w2 s3 => ?_
      simp
      refine eff_app (m := 1) (news := Rw.cs (k, v)) s3.swap rfl s3.cells_look (rw_one _) (by decide) rfl (by unfold maxLen; omega) (by omega) fun v3 w3 s4 => ?_
      have e1 : rflat acc ++ Rw.cs (k, v) = rflat (acc ++ [(k, v)]) := by rw [rflat_app]; simp [rflat]
      have e2 : acc.length + 1 = (acc ++ [((k, v) : Rw)]).length := by simp
      rw [e1, e2] at s4
      simp
      have := fin v3 false (acc ++ [(k, v)]) w3 (by simpa [rsetF] using hset) s4.swap.drop
      simpa using this
end Go.HL.Es

namespace Go.HL.Es
open Go.HL Go.Proofs
set_option maxRecDepth 4000
set_option linter.unusedSimpArgs false
set_option linter.unusedVariables false
abbrev recoA (q g s : Nat) (lg : Int) (E : Eco) : Asn := Pu.rpur q E.P * Gd.rgs g lg E.its * resc s q g E.l
theorem resc_cells {w0 w : World} {A : Asn} {s q g : Nat} {l : List Rw} (h : St w0 (A * resc s q g l) w) : w.cell? ⟨s, 0, none⟩ = some (.pointer (some ⟨q, 0, none⟩)) ∧ w.cell? ⟨s, 1, none⟩ = some (.pointer (some ⟨g, 0, none⟩)) := by
  obtain ⟨v, s1⟩ := resopen h
  exact ⟨by rw [cell_of s1.drop.look]; rfl, by rw [cell_of s1.drop.look]; rfl⟩
def copyC (B : Asn) (w0 : World) (lg : Int) (E : Eco) : List Value → World → Prop
  | [], w => St w0 B w
  | [r], w => ∃ q', r = .pointer (some ⟨q', 0, none⟩) ∧ St w0 (B * Pu.rpur q' E.P) w
  | [q, r], w => ∃ q' g', q = .pointer (some ⟨q', 0, none⟩) ∧ r = .pointer (some ⟨g', 0, none⟩) ∧ St w0 (B * Pu.rpur q' E.P * Gd.rgs g' lg E.its) w
  | q :: r :: b :: _, w => ∃ q' g' s', q = .pointer (some ⟨q', 0, none⟩) ∧ r = .pointer (some ⟨g', 0, none⟩) ∧ b = .pointer (some ⟨s', 0, none⟩) ∧ St w0 (B * Pu.rpur q' E.P * Gd.rgs g' lg E.its * rept s' q' g' (.slice none 0 0)) w
theorem rCopy_spec (q g s : Nat) (lp lg : Int) (E : Eco) (w0 w : World) (A : Asn) (hE : EI lp lg E) (hl : E.l.length ≤ 2097152) (h : St w0 (A * recoA q g s lg E) w) :
    CallW Tryz.prog 121 [.pointer (some ⟨s, 0, none⟩)] (fun r w' => ∃ q' g' s', r = .pointer (some ⟨s', 0, none⟩) ∧ St w0 (A * recoA q g s lg E * recoA q' g' s' lg E) w') w := by
  have hpl := hE.P.bd.len
  have hil : E.its.length ≤ 1048576 := by have := hE.G.len; have := hE.G.lim; omega
  refine callW_of_lift l121_ok (by simp [l121]) ?_
  simp [l121]
  have cells : ∀ {Z : Asn} {w : World}, St w0 (A * recoA q g s lg E * Z) w → w.cell? ⟨s, 0, none⟩ = some (.pointer (some ⟨q, 0, none⟩)) ∧ w.cell? ⟨s, 1, none⟩ = some (.pointer (some ⟨g, 0, none⟩)) := fun {Z w} h =>
    resc_cells (h.to (B := A * Pu.rpur q E.P * Gd.rgs g lg E.its * Z * resc s q g E.l) (by simp only [recoA]; ac_rfl))
  have h0 : St w0 (A * recoA q g s lg E * emp) w := by rw [sep_emp]; exact h
  refine regmI (copyC (A * recoA q g s lg E) w0 lg E) h.drew ?_
  simp
  refine effm_ldc (v := .pointer (some ⟨q, 0, none⟩)) (fun vs' w he hw => ?_) ?_
  · match vs', hw with
    | [], hw => exact (cells (Z := emp) (by rw [sep_emp]; exact hw)).1
    | [_], hw => obtain ⟨_, _, hw⟩ := hw; exact (cells hw).1
    | _ :: _ :: _, hw => simp [era] at he
  simp
  refine effm_mv rfl (fun w hw => eff_call ((Pu.rCopy_spec q E.P w0 w (A * Gd.rgs g lg E.its * resc s q g E.l) (by omega) (St.to hw (by simp only [recoA]; ac_rfl))).mono ?_)) (fun r hr => ?_)
  · rintro r w' ⟨q', rfl, h⟩
    exact ⟨q', rfl, h.to (by simp only [recoA]; ac_rfl)⟩
  obtain ⟨_, q', rfl, _⟩ := hr
  simp
  refine effm_ldc (v := .pointer (some ⟨g, 0, none⟩)) (fun vs' w he hw => ?_) ?_
  · match vs', hw with
    | [], hw => exact (cells (Z := emp) (by rw [sep_emp]; exact hw)).2
    | [_], hw => obtain ⟨_, _, hw⟩ := hw; exact (cells hw).2
    | _ :: _ :: _, hw => simp [era] at he
  simp
  refine effm_mv rfl (fun w hw => ?_) (fun r hr => ?_)
  · obtain ⟨q'', e, hw⟩ := hw
    cases e
    refine eff_call ((Gd.rCopy_spec g lg E.its w0 w (A * Pu.rpur q E.P * resc s q g E.l * Pu.rpur q' E.P) hil (St.to hw (by simp only [recoA]; ac_rfl))).mono ?_)
    rintro r w' ⟨g', rfl, h⟩
    exact ⟨q', g', rfl, rfl, h.to (by simp only [recoA]; ac_rfl)⟩
  obtain ⟨_, _, g', _, rfl, _⟩ := hr
  simp [Instr.fill, Value.cells]
  refine effm_mv rfl (fun w hw => ?_) (fun r hr => ?_)
  · obtain ⟨q'', g'', e, e2, hw⟩ := hw
    cases e; cases e2
    exact eff_box hw fun s' w' h => ⟨q', g', s', rfl, rfl, rfl, h⟩
  obtain ⟨_, _, _, s', _, _, rfl, _⟩ := hr
  simp
  rintro w2 ⟨q'', g'', s'', e, e2, e3, h2⟩
  cases e; cases e2; cases e3
  obtain ⟨v, h3⟩ := resopen (h2.to (B := A * Pu.rpur q E.P * Gd.rgs g lg E.its * Pu.rpur q' E.P * Gd.rgs g' lg E.its * rept s' q' g' (.slice none 0 0) * resc s q g E.l) (by simp only [recoA]; ac_rfl))
  obtain ⟨a, cap, rfl, _⟩ := h3.own_val
  have h4 : St w0 (A * Pu.rpur q E.P * Gd.rgs g lg E.its * Pu.rpur q' E.P * Gd.rgs g' lg E.its * rept s q g (.slice a E.l.length cap) * own 100 2 (.slice a E.l.length cap) E.l.length (rflat E.l) * rept s' q' g' (.slice none 0 0)) w2 := h3.to (by ac_rfl)
  clear h2 h3
  generalize hB : A * Pu.rpur q E.P * Gd.rgs g lg E.its * Pu.rpur q' E.P * Gd.rgs g' lg E.its = B at h4
  refine regmI (fun vs w => match vs with
    | [] => St w0 (B * rept s q g (.slice a E.l.length cap) * own 100 2 (.slice a E.l.length cap) E.l.length (rflat E.l) * rept s' q' g' (.slice none 0 0)) w
    | [r] => St w0 (B * rept s q g (.slice a E.l.length cap) * own 100 2 (.slice a E.l.length cap) E.l.length (rflat E.l) * own 100 2 r E.l.length (rflat E.l) * rept s' q' g' (.slice none 0 0)) w
    | r :: _ :: _ => St w0 (B * rept s q g (.slice a E.l.length cap) * own 100 2 (.slice a E.l.length cap) E.l.length (rflat E.l) * own 100 2 r E.l.length (rflat E.l) * rept s' q' g' r) w) h4.drew ?_
  simp
  refine effm_ldc (v := .slice none 0 0) (fun vs' w he hw => ?_) ?_
  · match vs', hw with
    | [], hw => rw [cell_of (St.look hw)]; rfl
    | _ :: _, hw => simp [era] at he
  simp
  refine effm_ldc (v := .slice a E.l.length cap) (fun vs' w he hw => ?_) ?_
  · match vs', hw with
    | [], hw => rw [cell_of (hw.drop.drop.look)]; rfl
    | _ :: _, hw => simp [era] at he
  simp
  refine effm_mv rfl (fun w hw => ?_) (fun r hr => ?_)
  · refine eff_appR (St.own_nil hw 100 2) (row_in (e := 100) (B := B * rept s q g (.slice a E.l.length cap) * rept s' q' g' (.slice none 0 0) * own 100 2 (.slice none 0 0) 0 []) (St.own_nil hw 100 2) (by ac_rfl)) (rflat_one _) (by decide) rfl (by unfold maxLen; omega) (by omega) ?_
    intro v2 w2 s2
    have s3 : St w0 (B * rept s q g (.slice a E.l.length cap) * own 100 2 (.slice a E.l.length cap) E.l.length (rflat E.l) * rept s' q' g' (.slice none 0 0) * own 100 2 v2 E.l.length (rflat E.l)) w2 := by simpa using s2
    exact s3.swap
  obtain ⟨wr, hr⟩ := hr
  obtain ⟨ra, rc, rfl, _⟩ := St.own_val (St.drop hr)
  simp
  refine effm_mv rfl (fun w hw => eff_st1 hw rfl (by simp) fun w' h => ?_) (fun r hr => ?_)
  · simpa using h
  simp
  intro w3 h5
  refine ⟨q', g', ?_⟩
  subst hB
  have h6 := resclose (s := s) (q := q) (g := g) (l := E.l) (v := .slice a E.l.length cap) (St.to h5 (B := A * Pu.rpur q E.P * Gd.rgs g lg E.its * Pu.rpur q' E.P * Gd.rgs g' lg E.its * own 100 2 (.slice ra E.l.length rc) E.l.length (rflat E.l) * rept s' q' g' (.slice ra E.l.length rc) * rept s q g (.slice a E.l.length cap) * own 100 2 (.slice a E.l.length cap) E.l.length (rflat E.l)) (by ac_rfl))
  have h7 := resclose (s := s') (q := q') (g := g') (l := E.l) (v := .slice ra E.l.length rc) (h6.to (B := A * Pu.rpur q E.P * Gd.rgs g lg E.its * Pu.rpur q' E.P * Gd.rgs g' lg E.its * resc s q g E.l * rept s' q' g' (.slice ra E.l.length rc) * own 100 2 (.slice ra E.l.length rc) E.l.length (rflat E.l)) (by ac_rfl))
  exact h7.to (by simp only [recoA]; ac_rfl)
theorem ris_spec (q g s q' g' s' : Nat) (lg : Int) (E E' : Eco) (w0 w : World) (A : Asn) (hlim : E'.P.lim = E.P.lim) (h : St w0 (A * recoA q g s lg E * recoA q' g' s' lg E') w) :
    CallW Tryz.prog 95 [.pointer (some ⟨s, 0, none⟩), .pointer (some ⟨s', 0, none⟩)] (fun _ w' => St w0 (A * recoA q g s lg E') w') w := by
  refine callW_of_lift l95_ok (by simp [l95]) ?_
  simp [l95]
  obtain ⟨v1, s1⟩ := Pu.ropen (h.to (B := A * Gd.rgs g lg E.its * resc s q g E.l * recoA q' g' s' lg E' * Pu.rpur q E.P) (by simp only [recoA]; ac_rfl))
  obtain ⟨v2, s2⟩ := Gd.ropen (s1.to (B := A * resc s q g E.l * recoA q' g' s' lg E' * Pu.rpt q E.P v1 * own 58 2 v1 E.P.rows.length (Pu.flat E.P.rows) * Gd.rgs g lg E.its) (by ac_rfl))
  obtain ⟨v3, s3⟩ := resopen (s2.to (B := A * recoA q' g' s' lg E' * Pu.rpt q E.P v1 * own 58 2 v1 E.P.rows.length (Pu.flat E.P.rows) * pt g (.cells #[.int .i64 lg, v2] 157 (0, 0)) * own 60 4 v2 E.its.length (Gd.flat E.its) * resc s q g E.l) (by ac_rfl))
  have s4 : St w0 (A * Pu.rpt q E.P v1 * pt g (.cells #[.int .i64 lg, v2] 157 (0, 0)) * rept s q g v3 * recoA q' g' s' lg E') w := s3.cut (own 58 2 v1 E.P.rows.length (Pu.flat E.P.rows) * own 60 4 v2 E.its.length (Gd.flat E.its) * own 100 2 v3 E.l.length (rflat E.l)) (by ac_rfl)
  clear h s1 s2 s3
  obtain ⟨u1, t1⟩ := Pu.ropen (s4.to (B := A * Pu.rpt q E.P v1 * pt g (.cells #[.int .i64 lg, v2] 157 (0, 0)) * rept s q g v3 * Gd.rgs g' lg E'.its * resc s' q' g' E'.l * Pu.rpur q' E'.P) (by simp only [recoA]; ac_rfl))
  obtain ⟨u2, t2⟩ := Gd.ropen (t1.to (B := A * Pu.rpt q E.P v1 * pt g (.cells #[.int .i64 lg, v2] 157 (0, 0)) * rept s q g v3 * resc s' q' g' E'.l * Pu.rpt q' E'.P u1 * own 58 2 u1 E'.P.rows.length (Pu.flat E'.P.rows) * Gd.rgs g' lg E'.its) (by ac_rfl))
  obtain ⟨u3, t3⟩ := resopen (t2.to (B := A * Pu.rpt q E.P v1 * pt g (.cells #[.int .i64 lg, v2] 157 (0, 0)) * rept s q g v3 * Pu.rpt q' E'.P u1 * own 58 2 u1 E'.P.rows.length (Pu.flat E'.P.rows) * pt g' (.cells #[.int .i64 lg, u2] 157 (0, 0)) * own 60 4 u2 E'.its.length (Gd.flat E'.its) * resc s' q' g' E'.l) (by ac_rfl))
  have one1 : u1.oneCell' = true := by obtain ⟨a, cap, rfl, _⟩ := t1.own_val; rfl
  have one2 : u2.oneCell' = true := by obtain ⟨a, cap, rfl, _⟩ := t2.own_val; rfl
  have one3 : u3.oneCell' = true := by obtain ⟨a, cap, rfl, _⟩ := t3.own_val; rfl
  obtain ⟨B, hB⟩ : ∃ B, B = A * own 58 2 u1 E'.P.rows.length (Pu.flat E'.P.rows) * own 60 4 u2 E'.its.length (Gd.flat E'.its) * own 100 2 u3 E'.l.length (rflat E'.l) * Pu.rpt q' E'.P u1 * pt g' (.cells #[.int .i64 lg, u2] 157 (0, 0)) * rept s' q' g' u3 := ⟨_, rfl⟩
  have h0 : St w0 (B * rept s q g v3 * pt g (.cells #[.int .i64 lg, v2] 157 (0, 0)) * pt q (.cells #[.int .i64 E.P.lim, v1, .int .u64 E.P.sup] 154 (0, 0))) w := t3.to (B := B * rept s q g v3 * pt g (.cells #[.int .i64 lg, v2] 157 (0, 0)) * Pu.rpt q E.P v1) (by rw [hB]; ac_rfl)
  clear s4 t1 t2 t3
  have lk : ∀ {X Y : Asn} {z : Value} {w : World}, St w0 (B * rept s q g z * X * Y) w → w.cell? ⟨s, 0, none⟩ = some (.pointer (some ⟨q, 0, none⟩)) ∧ w.cell? ⟨s, 1, none⟩ = some (.pointer (some ⟨g, 0, none⟩)) ∧
      w.cell? ⟨s', 0, none⟩ = some (.pointer (some ⟨q', 0, none⟩)) ∧ w.cell? ⟨s', 1, none⟩ = some (.pointer (some ⟨g', 0, none⟩)) ∧ w.cell? ⟨s', 2, none⟩ = some u3 ∧ w.cell? ⟨q', 1, none⟩ = some u1 ∧ w.cell? ⟨q', 2, none⟩ = some (.int .u64 E'.P.sup) ∧ w.cell? ⟨g', 1, none⟩ = some u2 := fun {X Y z w} h => by
    have a := h.drop.drop
    have b := a.drop
    rw [hB] at b
    exact ⟨by rw [cell_of a.look]; rfl, by rw [cell_of a.look]; rfl, by rw [cell_of b.look]; rfl, by rw [cell_of b.look]; rfl, by rw [cell_of b.look]; rfl, by rw [cell_of b.drop.drop.look]; rfl, by rw [cell_of b.drop.drop.look]; rfl, by rw [cell_of b.drop.look]; rfl⟩
  refine regmI (fun vs w => match vs with
    | [] => St w0 (B * rept s q g v3 * pt g (.cells #[.int .i64 lg, v2] 157 (0, 0)) * pt q (.cells #[.int .i64 E.P.lim, v1, .int .u64 E.P.sup] 154 (0, 0))) w
    | _ :: _ => St w0 (B * rept s q g v3 * pt g (.cells #[.int .i64 lg, v2] 157 (0, 0)) * pt q (.cells #[.int .i64 E.P.lim, u1, .int .u64 E.P.sup] 154 (0, 0))) w) h0.drew ?_
  simp
  refine effm_ldc (v := .pointer (some ⟨q, 0, none⟩)) (fun vs' w he hw => ?_) ?_
  · match vs', hw with
    | [], hw => exact (lk hw).1
    | _ :: _, hw => simp [era] at he
  simp
  refine effm_ldc (v := .pointer (some ⟨q', 0, none⟩)) (fun vs' w he hw => ?_) ?_
  · match vs', hw with
    | [], hw => exact (lk hw).2.2.1
    | _ :: _, hw => simp [era] at he
  simp
  refine effm_ldc (v := u1) (fun vs' w he hw => ?_) ?_
  · match vs', hw with
    | [], hw => exact (lk hw).2.2.2.2.2.1
    | _ :: _, hw => simp [era] at he
  simp
  refine effm_mv rfl (fun w hw => eff_st1 hw one1 (by simp) fun w' h => by simpa using h) (fun r hr => ?_)
  simp
  intro w2 h2
  refine regmI (fun vs w => match vs with
    | [] => St w0 (B * rept s q g v3 * pt g (.cells #[.int .i64 lg, v2] 157 (0, 0)) * pt q (.cells #[.int .i64 E.P.lim, u1, .int .u64 E.P.sup] 154 (0, 0))) w
    | _ :: _ => St w0 (B * rept s q g v3 * pt g (.cells #[.int .i64 lg, v2] 157 (0, 0)) * pt q (.cells #[.int .i64 E.P.lim, u1, .int .u64 E'.P.sup] 154 (0, 0))) w) h2.drew ?_
  simp
  refine effm_ldc (v := .pointer (some ⟨q, 0, none⟩)) (fun vs' w he hw => ?_) ?_
  · match vs', hw with
    | [], hw => exact (lk hw).1
    | _ :: _, hw => simp [era] at he
  simp
  refine effm_ldc (v := .pointer (some ⟨q', 0, none⟩)) (fun vs' w he hw => ?_) ?_
  · match vs', hw with
    | [], hw => exact (lk hw).2.2.1
    | _ :: _, hw => simp [era] at he
  simp
  refine effm_ldc (v := .int .u64 E'.P.sup) (fun vs' w he hw => ?_) ?_
  · match vs', hw with
    | [], hw => exact (lk hw).2.2.2.2.2.2.1
    | _ :: _, hw => simp [era] at he
  simp
  refine effm_mv rfl (fun w hw => eff_st1 hw rfl (by simp) fun w' h => by simpa using h) (fun r hr => ?_)
  simp
  intro w3 h3
  have h3 := h3.swap
  refine regmI (fun vs w => match vs with
    | [] => St w0 (B * rept s q g v3 * pt q (.cells #[.int .i64 E.P.lim, u1, .int .u64 E'.P.sup] 154 (0, 0)) * pt g (.cells #[.int .i64 lg, v2] 157 (0, 0))) w
    | _ :: _ => St w0 (B * rept s q g v3 * pt q (.cells #[.int .i64 E.P.lim, u1, .int .u64 E'.P.sup] 154 (0, 0)) * pt g (.cells #[.int .i64 lg, u2] 157 (0, 0))) w) h3.drew ?_
  simp
  refine effm_ldc (v := .pointer (some ⟨g, 0, none⟩)) (fun vs' w he hw => ?_) ?_
  · match vs', hw with
    | [], hw => exact (lk hw).2.1
    | _ :: _, hw => simp [era] at he
  simp
  refine effm_ldc (v := .pointer (some ⟨g', 0, none⟩)) (fun vs' w he hw => ?_) ?_
  · match vs', hw with
    | [], hw => exact (lk hw).2.2.2.1
    | _ :: _, hw => simp [era] at he
  simp
  refine effm_ldc (v := u2) (fun vs' w he hw => ?_) ?_
  · match vs', hw with
    | [], hw => exact (lk hw).2.2.2.2.2.2.2
    | _ :: _, hw => simp [era] at he
  simp
  refine effm_mv rfl (fun w hw => eff_st1 hw one2 (by simp) fun w' h => by simpa using h) (fun r hr => ?_)
  simp
  intro w4 h4
  refine eff_ldc (v := u3) (lk h4).2.2.2.2.1 ?_
  simp
  refine eff_st1 (h4.to (B := B * pt q (.cells #[.int .i64 E.P.lim, u1, .int .u64 E'.P.sup] 154 (0, 0)) * pt g (.cells #[.int .i64 lg, u2] 157 (0, 0)) * rept s q g v3) (by ac_rfl)) one3 (by simp) fun w5 h5 => ?_
  simp at h5 ⊢
  have h6 : St w0 (B * Pu.rpt q E'.P u1 * pt g (.cells #[.int .i64 lg, u2] 157 (0, 0)) * rept s q g u3) w5 := by simpa [Pu.rpt, hlim] using h5
  have h7 : St w0 (A * own 58 2 u1 E'.P.rows.length (Pu.flat E'.P.rows) * own 60 4 u2 E'.its.length (Gd.flat E'.its) * own 100 2 u3 E'.l.length (rflat E'.l) * Pu.rpt q E'.P u1 * pt g (.cells #[.int .i64 lg, u2] 157 (0, 0)) * rept s q g u3) w5 := h6.cut (Pu.rpt q' E'.P u1 * pt g' (.cells #[.int .i64 lg, u2] 157 (0, 0)) * rept s' q' g' u3) (by rw [hB]; ac_rfl)
  have k1 := resclose (h7.to (B := A * own 58 2 u1 E'.P.rows.length (Pu.flat E'.P.rows) * own 60 4 u2 E'.its.length (Gd.flat E'.its) * Pu.rpt q E'.P u1 * pt g (.cells #[.int .i64 lg, u2] 157 (0, 0)) * rept s q g u3 * own 100 2 u3 E'.l.length (rflat E'.l)) (by ac_rfl))
  have k2 := Gd.rclose (k1.to (B := A * own 58 2 u1 E'.P.rows.length (Pu.flat E'.P.rows) * Pu.rpt q E'.P u1 * resc s q g E'.l * pt g (.cells #[.int .i64 lg, u2] 157 (0, 0)) * own 60 4 u2 E'.its.length (Gd.flat E'.its)) (by ac_rfl))
  have k3 := Pu.rclose (k2.to (B := A * resc s q g E'.l * Gd.rgs g lg E'.its * Pu.rpt q E'.P u1 * own 58 2 u1 E'.P.rows.length (Pu.flat E'.P.rows)) (by ac_rfl))
  exact k3.to (by simp only [recoA]; ac_rfl)
end Go.HL.Es
