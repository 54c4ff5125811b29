/-
  What the claim leans on, part 16 of 16. Conditions: as each theorem says.
-/
import Derived.Test.YtiokklaedanjbaaGreatEAMo
import Derived.Shelf.SlIterI.Nil
import Derived.Shelf.SortM.Plain
import Derived.Shelf.SortM.SortNone
namespace Go.HL.Es
open Go.HL Go.Proofs Go.Sort
set_option maxRecDepth 4000
noncomputable def keysL_ren : Go.Shelf.Ren := ⟨fun | 7 => 41 | 10 => 81 | n => n, fun | 23 => 93 | 26 => 3 | 3 => 23 | 28 => 104 | 0 => 0 | 27 => 103 | 33 => 89 | 4 => 4 | n => n, fun | n => n⟩
theorem keysL : Go.Proofs.SlLaysZI.n7 Tryz.prog keysL_ren := {
    mixed := by kernel_rfl,
    f7 := ⟨Tryz.f41.name, by decide, Tryz.func41.trans (congrArg some (by kernel_rfl))⟩,
    f10 := ⟨Tryz.f81.name, by decide, Tryz.func81.trans (congrArg some (by kernel_rfl))⟩,
    t0 := Tryz.underlying0,
    a0 := Tryz.isAgg0,
    z0 := Tryz.sizeOf0,
    v0 := Tryz.zeroValue0,
    t4 := Tryz.underlying4,
    a4 := Tryz.isAgg4,
    z4 := Tryz.sizeOf4,
    v4 := Tryz.zeroValue4,
    t23 := Tryz.underlying93,
    a23 := Tryz.isAgg93,
    z23 := Tryz.sizeOf93,
    v23 := Tryz.zeroValue93,
    t26 := Tryz.underlying3,
    a26 := Tryz.isAgg3,
    z26 := Tryz.sizeOf3,
    v26 := Tryz.zeroValue3,
    t27 := Tryz.underlying103,
    a27 := Tryz.isAgg103,
    z27 := Tryz.sizeOf103,
    v27 := Tryz.zeroValue103,
    t28 := Tryz.underlying104,
    a28 := Tryz.isAgg104,
    z28 := Tryz.sizeOf104,
    v28 := Tryz.zeroValue104,
    t33 := Tryz.underlying89,
    a33 := Tryz.isAgg89,
    z33 := Tryz.sizeOf89,
    v33 := Tryz.zeroValue89 }

noncomputable def sortedL_ren : Go.Shelf.Ren := ⟨fun | 6 => 40 | 8 => 79 | 9 => 80 | 11 => 106 | 13 => 108 | 12 => 107 | 23 => 141 | 24 => 142 | 14 => 132 | 15 => 133 | 16 => 134 | 17 => 135 | 18 => 136 | 19 => 137 | 20 => 138 | 21 => 139 | 22 => 140 | 25 => 161 | 26 => 162 | 27 => 163 | 28 => 164 | 29 => 165 | 30 => 166 | 31 => 171 | n => n, fun | 26 => 3 | 28 => 104 | 24 => 44 | 0 => 0 | 3 => 3 | 37 => 173 | 48 => 204 | 50 => 23 | 4 => 4 | 40 => 197 | 39 => 196 | 45 => 53 | 5 => 5 | 9 => 9 | 51 => 217 | 55 => 220 | 57 => 225 | 58 => 133 | 33 => 89 | n => n, fun | n => n⟩
theorem sortedL : Go.Proofs.SlLaysZI.n6 Tryz.prog sortedL_ren := {
    mixed := by kernel_rfl,
    f6 := ⟨Tryz.f40.name, by decide, Tryz.func40.trans (congrArg some (by kernel_rfl))⟩,
    f8 := ⟨Tryz.f79.name, by decide, Tryz.func79.trans (congrArg some (by kernel_rfl))⟩,
    f11 := ⟨Tryz.f106.name, by decide, Tryz.func106.trans (congrArg some (by kernel_rfl))⟩,
    t0 := Tryz.underlying0,
    a0 := Tryz.isAgg0,
    z0 := Tryz.sizeOf0,
    v0 := Tryz.zeroValue0,
    t24 := Tryz.underlying44,
    a24 := Tryz.isAgg44,
    z24 := Tryz.sizeOf44,
    v24 := Tryz.zeroValue44,
    t26 := Tryz.underlying3,
    a26 := Tryz.isAgg3,
    z26 := Tryz.sizeOf3,
    v26 := Tryz.zeroValue3,
    t28 := Tryz.underlying104,
    a28 := Tryz.isAgg104,
    z28 := Tryz.sizeOf104,
    v28 := Tryz.zeroValue104,
    i26 := by kernel_rfl }

noncomputable def sortL_ren : Go.Shelf.Ren := ⟨fun | 5 => 80 | 8 => 108 | 7 => 107 | 19 => 141 | 20 => 142 | 10 => 132 | 11 => 133 | 12 => 134 | 13 => 135 | 14 => 136 | 15 => 137 | 16 => 138 | 17 => 139 | 18 => 140 | 30 => 161 | 31 => 162 | 32 => 163 | 33 => 164 | 34 => 165 | 35 => 166 | 40 => 171 | n => n, fun | 23 => 44 | 25 => 3 | 3 => 3 | 32 => 173 | 22 => 44 | 0 => 0 | 44 => 204 | 46 => 23 | 4 => 4 | 36 => 197 | 35 => 196 | 41 => 53 | 5 => 5 | 9 => 9 | 53 => 217 | 57 => 220 | 63 => 225 | 64 => 133 | n => n, fun | n => n⟩
theorem sortL : Go.Proofs.SlLaysM.n5 Tryz.prog sortL_ren := {
    mixed := by kernel_rfl,
    f5 := ⟨Tryz.f80.name, by decide, Tryz.func80.trans (congrArg some (by kernel_rfl))⟩,
    f7 := ⟨Tryz.f107.name, by decide, Tryz.func107.trans (congrArg some (by kernel_rfl))⟩,
    f8 := Tryz.func108.trans (congrArg some (by kernel_rfl)),
    f10 := ⟨Tryz.f132.name, by decide, Tryz.func132.trans (congrArg some (by kernel_rfl))⟩,
    f11 := ⟨Tryz.f133.name, by decide, Tryz.func133.trans (congrArg some (by kernel_rfl))⟩,
    f12 := ⟨Tryz.f134.name, by decide, Tryz.func134.trans (congrArg some (by kernel_rfl))⟩,
    f13 := ⟨Tryz.f135.name, by decide, Tryz.func135.trans (congrArg some (by kernel_rfl))⟩,
    f14 := ⟨Tryz.f136.name, by decide, Tryz.func136.trans (congrArg some (by kernel_rfl))⟩,
    f15 := ⟨Tryz.f137.name, by decide, Tryz.func137.trans (congrArg some (by kernel_rfl))⟩,
    f16 := ⟨Tryz.f138.name, by decide, Tryz.func138.trans (congrArg some (by kernel_rfl))⟩,
    f17 := ⟨Tryz.f139.name, by decide, Tryz.func139.trans (congrArg some (by kernel_rfl))⟩,
    f18 := ⟨Tryz.f140.name, by decide, Tryz.func140.trans (congrArg some (by kernel_rfl))⟩,
    f19 := Tryz.func141.trans (congrArg some (by kernel_rfl)),
    f20 := Tryz.func142.trans (congrArg some (by kernel_rfl)),
    f30 := ⟨Tryz.f161.name, by decide, Tryz.func161.trans (congrArg some (by kernel_rfl))⟩,
    f31 := Tryz.func162.trans (congrArg some (by kernel_rfl)),
    f32 := Tryz.func163.trans (congrArg some (by kernel_rfl)),
    f33 := ⟨Tryz.f164.name, by decide, Tryz.func164.trans (congrArg some (by kernel_rfl))⟩,
    f34 := ⟨Tryz.f165.name, by decide, Tryz.func165.trans (congrArg some (by kernel_rfl))⟩,
    f35 := ⟨Tryz.f166.name, by decide, Tryz.func166.trans (congrArg some (by kernel_rfl))⟩,
    f40 := ⟨Tryz.f171.name, by decide, Tryz.func171.trans (congrArg some (by kernel_rfl))⟩,
    t0 := Tryz.underlying0,
    a0 := Tryz.isAgg0,
    z0 := Tryz.sizeOf0,
    v0 := Tryz.zeroValue0,
    t3 := Tryz.underlying3,
    a3 := Tryz.isAgg3,
    z3 := Tryz.sizeOf3,
    v3 := Tryz.zeroValue3,
    t4 := Tryz.underlying4,
    a4 := Tryz.isAgg4,
    z4 := Tryz.sizeOf4,
    v4 := Tryz.zeroValue4,
    t5 := Tryz.underlying5,
    a5 := Tryz.isAgg5,
    z5 := Tryz.sizeOf5,
    v5 := Tryz.zeroValue5,
    t9 := Tryz.underlying9,
    a9 := Tryz.isAgg9,
    z9 := Tryz.sizeOf9,
    v9 := Tryz.zeroValue9,
    t22 := Tryz.underlying44,
    a22 := Tryz.isAgg44,
    z22 := Tryz.sizeOf44,
    v22 := Tryz.zeroValue44,
    t23 := Tryz.underlying44,
    a23 := Tryz.isAgg44,
    z23 := Tryz.sizeOf44,
    v23 := Tryz.zeroValue44,
    t25 := Tryz.underlying3,
    a25 := Tryz.isAgg3,
    z25 := Tryz.sizeOf3,
    v25 := Tryz.zeroValue3,
    t32 := Tryz.underlying173,
    a32 := Tryz.isAgg173,
    z32 := Tryz.sizeOf173,
    v32 := Tryz.zeroValue173,
    t35 := Tryz.underlying196,
    a35 := Tryz.isAgg196,
    z35 := Tryz.sizeOf196,
    v35 := Tryz.zeroValue196,
    t36 := Tryz.underlying197,
    a36 := Tryz.isAgg197,
    z36 := Tryz.sizeOf197,
    v36 := Tryz.zeroValue197,
    t41 := Tryz.underlying53,
    a41 := Tryz.isAgg53,
    z41 := Tryz.sizeOf53,
    v41 := Tryz.zeroValue53,
    t44 := Tryz.underlying204,
    a44 := Tryz.isAgg204,
    z44 := Tryz.sizeOf204,
    v44 := Tryz.zeroValue204,
    t46 := Tryz.underlying23,
    a46 := Tryz.isAgg23,
    z46 := Tryz.sizeOf23,
    v46 := Tryz.zeroValue23,
    t53 := Tryz.underlying217,
    a53 := Tryz.isAgg217,
    z53 := Tryz.sizeOf217,
    v53 := Tryz.zeroValue217,
    t57 := Tryz.underlying220,
    a57 := Tryz.isAgg220,
    z57 := Tryz.sizeOf220,
    v57 := Tryz.zeroValue220,
    t63 := Tryz.underlying225,
    a63 := Tryz.isAgg225,
    z63 := Tryz.sizeOf225,
    v63 := Tryz.zeroValue225,
    t64 := Tryz.underlying133,
    a64 := Tryz.isAgg133,
    z64 := Tryz.sizeOf133,
    v64 := Tryz.zeroValue133 }

end Go.HL.Es

namespace Go.HL.Es
open Go.HL Go.Proofs Go.Sort Go.Shelf Go.Maps Go.WideElems Go.RowKit
set_option maxRecDepth 4000
set_option linter.unusedSimpArgs false
set_option linter.unusedVariables false
/-- what a call that lays new memory leaves, and a row that it owns -/
theorem St.below {w0 w w' : World} {F : Asn} (h0 : w0.drawn = 0) (s : St w0 F w) (hb : Below w.heap.size w w') {e n : Nat} {xs : List Value} {v : Value} (hr : w'.ownsRow w.heap.size e 1 v n xs) : St w0 (F * own e 1 v n xs) w' := by
  have base : St w0 F w' := by
    refine ⟨hb.os.trans s.os, hb.output.trans s.out, Nat.le_trans s.size hb.size, ⟨hb.tape.trans s.ran.1, by rw [h0]; exact Nat.zero_le _⟩, ?_⟩
    obtain ⟨g, hg, hF⟩ := s.holds
    refine ⟨g, fun b o hbo => ?_, hF⟩
    have h1 : w.heap[b]? = some o := hg b o hbo
    have hlt := (Array.getElem?_eq_some_iff.1 h1).1
    exact (hb.block b hlt).trans h1
  obtain ⟨hl, ⟨rfl, rfl⟩ | ⟨g, cap, cur, rfl, hge, hcur, h1, h2, h3, h4⟩⟩ := hr
  · have := List.eq_nil_of_length_eq_zero (by simpa using hl)
    subst this
    exact base.own_nil e 1
  · refine St.own_mk (cur := cur) (base.of ?_) h1 h2 h3 h4
    obtain ⟨k, hk, hF⟩ := s.holds
    have hn : k g = none := by
      cases hh : k g with
      | none => rfl
      | some o =>
        have h1 : w.heap[g]? = some o := hk g o hh
        have := (Array.getElem?_eq_some_iff.1 h1).1
        omega
    refine ⟨Hp.un k (fun b => if b = g then some (.cells cur e (0, 0)) else none), fun b o hbo => ?_, k, _, fun b => ?_, rfl, hF, by simp, fun c hc => by simp [hc]⟩
    · show w'.heap[b]? = some o
      simp only [Hp.un] at hbo
      by_cases eb : b = g
      · subst eb; simp only [hn, if_true] at hbo; rw [hcur]; exact hbo
      · simp only [eb, if_false] at hbo
        cases hh : k b with
        | none => rw [hh] at hbo; cases hbo
        | some o' =>
          rw [hh] at hbo; cases hbo
          have h1 : w.heap[b]? = some o := hk b o hh
          exact (hb.block b (Array.getElem?_eq_some_iff.1 h1).1).trans h1
    · by_cases eb : b = g
      · subst eb; exact .inl hn
      · right; simp [eb]
theorem sortsL (m : Nat) : AnyZI.SortsIn Tryz.prog sortedL_ren Fence.wide m :=
  ⟨fun blk off cap ss W hH hblk hsz => callsIn_wide.2 (AnyM.slices_Sort_int sortL blk off cap ss W hH hblk hsz),
   fun p cap W => callsIn_wide.2 (AnyM.slices_Sort_int_none sortL p cap W)⟩
/-- the numbers of a list, rising -/
theorem sorted_rows {l : List Rw} (h : l.Pairwise (fun a b => a.1 < b.1)) {ss : List Int} (hp : ss.Perm (l.map (·.1))) : ss.mergeSort (fun x y => decide (x ≤ y)) = l.map (·.1) := by
  have e := mergeSort_of_perm_i hp
  refine e.trans ?_
  refine List.mergeSort_of_pairwise ?_
  rw [List.pairwise_map]
  exact h.imp fun h => by simp only [decide_eq_true_eq]; omega
/-- a map's datum: its keys -/
def nilR (_ : Value) : Option (DataW Unit × List MemPlace) := some (.nil, [])
theorem owns_of {w : World} {m c : Nat} {es : List En} {l : List Rw} (hb : w.heap[m]? = some (.map (entA es) c)) (hE : EH es c l) (ok : RwOK l) (hl : l.length ≤ 4194304) :
    ∃ D0 : DataW Unit, w.ownsMap Tryz.prog 3 nilR m l.length D0 ∧ Maps.size D0 = l.length ∧ (intKeys D0).Perm (l.map (·.1)) := by
  have hlen : es.length = l.length := by have := hE.perm.length_eq; simpa using this
  have hk : ∀ e ∈ es, 1 ≤ e.k ∧ e.k < 9223372036854775808 := fun e he => by
    have : prE e ∈ l.map prR := hE.perm.mem_iff.1 (List.mem_map.2 ⟨e, he, rfl⟩)
    obtain ⟨r, hr, hr2⟩ := List.mem_map.1 this
    simp only [prE, prR, Prod.mk.injEq] at hr2
    have := ok.2 r hr
    omega
  have hrd : ∀ e ∈ es, rd Tryz.prog 3 nilR (⟨.int .i64 e.k, e.v, e.b⟩ : MapEntry) = some (.int .i64 e.k, .nil) := fun e he => by
    have h1 := hk e he
    refine rd_mk (yv := (.nil, [])) ?_ rfl
    have hw : (Lit.int .i64 e.k).wf = true := by
      have h2 : -9223372036854775808 ≤ e.k := by omega
      have h3 : e.k ≤ 9223372036854775807 := by omega
      simp [Lit.wf, IntKind.min, IntKind.max, IntKind.signed, IntKind.bits, h2, h3]
    simp [keyOf, Tryz.underlying3, mapKey, hw]
  have hrg : (entA es).toList.map (rg Tryz.prog 3 nilR) = es.map fun e => ((.int .i64 e.k, .nil) : Lit × DataW Unit) := by
    simp only [entA, List.toList_toArray, List.map_map]
    refine List.map_congr_left fun e he => ?_
    exact rg_of (hrd e he)
  refine ⟨_, ⟨entA es, c, hb, ⟨by simp [entA]; unfold maxLen; omega, ⟨?_, ?_, ?_⟩, ?_⟩, by simp [entA, hlen], rfl⟩, ?_, ?_⟩
  · intro x hx
    simp only [entA, List.toList_toArray] at hx
    obtain ⟨e, he, rfl⟩ := List.mem_map.1 hx
    exact hE.clock e he
  · have e1 : (entA es).toList.map (·.born) = es.map (·.b) := by simp [entA]
    rw [e1]; exact hE.borns
  · have e1 : (entA es).toList.map (·.key) = (es.map (·.k)).map (Value.int .i64) := by simp [entA]
    rw [e1]
    refine List.pairwise_map.2 (hE.keys.imp fun h => ?_)
    simpa using h
  · intro x hx
    simp only [entA, List.toList_toArray] at hx
    obtain ⟨e, he, rfl⟩ := List.mem_map.1 hx
    exact ⟨_, hrd e he⟩
  · rw [hrg]
    show (List.foldr DataW.insert [] _).length = _
    rw [(Go.WideShapes.sorted_perm _).length_eq]; simp [hlen]
  · rw [hrg]
    show ((List.foldr DataW.insert [] _).map fun p => intOf p.1).Perm _
    refine ((Go.WideShapes.sorted_perm _).map _).trans ?_
    rw [List.map_map]
    have h2 := hE.perm.map Prod.fst
    simp only [List.map_map] at h2
    exact h2
-- maps.Keys[map[int]uint64,int,uint64]
def h41_0 : HC := (.seq (.reg (.chk none (.mkf (.func 81) 0) (.cons (.inp 1) .nil) (.done [(2, (.op (.mkf (.func 81) 0) (.cons (.inp 1) .nil)))] none))) .ret)
@[simp] theorem h41_0_wp {P : Program} {F : PF P} {Q : EX → List Value → World → Prop} {env : List Value} {w : World} : h41_0.wp F Q env w = HC.wp F (.seq (.reg (.chk none (.mkf (.func 81) 0) (.cons (.inp 1) .nil) (.done [(2, (.op (.mkf (.func 81) 0) (.cons (.inp 1) .nil)))] none))) .ret) Q env w := rfl
def l41 : Lifted := ⟨[0, 1, 2], 4, [.slot 2], (.seq (.reg (.eff (.box 93) (.cons (.inp 0) .nil) (.done [(1, (.bv 0)), (2, (.cst .nilFunc))] none))) h41_0)⟩
theorem l41_ok : liftFn E0 41 400 = some l41 := by kernel_rfl

-- slices.Clip[[]bazaar/escrow.Row,bazaar/escrow.Row]
def h42_0 : HC := (.seq (.reg (.chk none .lenL (.cons (.inp 0) .nil) (.chk none .lenL (.cons (.inp 0) .nil) (.chk none (.slL 2 false true true) (.cons (.inp 0) (.cons (.op .lenL (.cons (.inp 0) .nil)) (.cons (.op .lenL (.cons (.inp 0) .nil)) .nil))) (.done [(1, (.op (.slL 2 false true true) (.cons (.inp 0) (.cons (.op .lenL (.cons (.inp 0) .nil)) (.cons (.op .lenL (.cons (.inp 0) .nil)) .nil)))))] none))))) .ret)
@[simp] theorem h42_0_wp {P : Program} {F : PF P} {Q : EX → List Value → World → Prop} {env : List Value} {w : World} : h42_0.wp F Q env w = HC.wp F (.seq (.reg (.chk none .lenL (.cons (.inp 0) .nil) (.chk none .lenL (.cons (.inp 0) .nil) (.chk none (.slL 2 false true true) (.cons (.inp 0) (.cons (.op .lenL (.cons (.inp 0) .nil)) (.cons (.op .lenL (.cons (.inp 0) .nil)) .nil))) (.done [(1, (.op (.slL 2 false true true) (.cons (.inp 0) (.cons (.op .lenL (.cons (.inp 0) .nil)) (.cons (.op .lenL (.cons (.inp 0) .nil)) .nil)))))] none))))) .ret) Q env w := rfl
def l42 : Lifted := ⟨[0, 2], 9, [.slot 1], (.seq (.reg (.done [(1, (.cst (.slice none 0 0)))] none)) h42_0)⟩
theorem l42_ok : liftFn E0 42 400 = some l42 := by kernel_rfl

-- (*bazaar/escrow.Escrow).Rows
def h13_0 : HC := (.seq (.reg (.eff (.call 42) (.cons (.inp 2) .nil) (.done [(1, (.bv 0))] none))) .ret)
@[simp] theorem h13_0_wp {P : Program} {F : PF P} {Q : EX → List Value → World → Prop} {env : List Value} {w : World} : h13_0.wp F Q env w = HC.wp F (.seq (.reg (.eff (.call 42) (.cons (.inp 2) .nil) (.done [(1, (.bv 0))] none))) .ret) Q env w := rfl
def h13_1 : HC := (.reg (.chk none (.bin .add) (.cons (.inp 6) (.cons (.cst (.int .i64 1)) .nil)) (.done [(6, (.op (.bin .add) (.cons (.inp 6) (.cons (.cst (.int .i64 1)) .nil))))] none)))
@[simp] theorem h13_1_wp {P : Program} {F : PF P} {Q : EX → List Value → World → Prop} {env : List Value} {w : World} : h13_1.wp F Q env w = HC.wp F (.reg (.chk none (.bin .add) (.cons (.inp 6) (.cons (.cst (.int .i64 1)) .nil)) (.done [(6, (.op (.bin .add) (.cons (.inp 6) (.cons (.cst (.int .i64 1)) .nil))))] none))) Q env w := rfl
def h13_2 : HC := (.reg (.chk none .chkp (.cons (.inp 0) .nil) (.chk none (.fld 2) (.cons (.op .chkp (.cons (.inp 0) .nil)) .nil) (.eff (.ld false 1) (.cons (.op (.fld 2) (.cons (.op .chkp (.cons (.inp 0) .nil)) .nil)) .nil) (.eff (.look 93 false) (.cons (.bv 0) (.cons (.inp 3) .nil)) (.chk none (.build #[(.int .i64 0), (.int .u64 0)] [(0, 1), (1, 1)] [0, 1]) (.cons (.inp 3) (.cons (.bv 1) .nil)) (.eff (.bsl 98 1 2 #[(.int .i64 0), (.int .u64 0)] [0]) (.cons (.op (.build #[(.int .i64 0), (.int .u64 0)] [(0, 1), (1, 1)] [0, 1]) (.cons (.inp 3) (.cons (.bv 1) .nil))) .nil) (.eff (.app 41 41 98 2 16 (.agg #[(.int .i64 0), (.int .u64 0)])) (.cons (.inp 2) (.cons (.bv 2) .nil)) (.done [(2, (.bv 3))] none)))))))))
@[simp] theorem h13_2_wp {P : Program} {F : PF P} {Q : EX → List Value → World → Prop} {env : List Value} {w : World} : h13_2.wp F Q env w = HC.wp F (.reg (.chk none .chkp (.cons (.inp 0) .nil) (.chk none (.fld 2) (.cons (.op .chkp (.cons (.inp 0) .nil)) .nil) (.eff (.ld false 1) (.cons (.op (.fld 2) (.cons (.op .chkp (.cons (.inp 0) .nil)) .nil)) .nil) (.eff (.look 93 false) (.cons (.bv 0) (.cons (.inp 3) .nil)) (.chk none (.build #[(.int .i64 0), (.int .u64 0)] [(0, 1), (1, 1)] [0, 1]) (.cons (.inp 3) (.cons (.bv 1) .nil)) (.eff (.bsl 98 1 2 #[(.int .i64 0), (.int .u64 0)] [0]) (.cons (.op (.build #[(.int .i64 0), (.int .u64 0)] [(0, 1), (1, 1)] [0, 1]) (.cons (.inp 3) (.cons (.bv 1) .nil))) .nil) (.eff (.app 41 41 98 2 16 (.agg #[(.int .i64 0), (.int .u64 0)])) (.cons (.inp 2) (.cons (.bv 2) .nil)) (.done [(2, (.bv 3))] none))))))))) Q env w := rfl
def h13_3 : HC := (.seq (.reg (.chk none (.idxL 1) (.cons (.inp 4) (.cons (.inp 6) .nil)) (.eff (.ld false 1) (.cons (.op (.idxL 1) (.cons (.inp 4) (.cons (.inp 6) .nil))) .nil) (.done [(3, (.bv 0))] none)))) h13_2)
@[simp] theorem h13_3_wp {P : Program} {F : PF P} {Q : EX → List Value → World → Prop} {env : List Value} {w : World} : h13_3.wp F Q env w = HC.wp F (.seq (.reg (.chk none (.idxL 1) (.cons (.inp 4) (.cons (.inp 6) .nil)) (.eff (.ld false 1) (.cons (.op (.idxL 1) (.cons (.inp 4) (.cons (.inp 6) .nil))) .nil) (.done [(3, (.bv 0))] none)))) h13_2) Q env w := rfl
def h13_4 : HC := (.seq (.block 1 h13_3) h13_1)
@[simp] theorem h13_4_wp {P : Program} {F : PF P} {Q : EX → List Value → World → Prop} {env : List Value} {w : World} : h13_4.wp F Q env w = HC.wp F (.seq (.block 1 h13_3) h13_1) Q env w := rfl
def h13_5 : HC := (.seq (.br (.chk none (.bin .lss) (.cons (.inp 6) (.cons (.inp 5) .nil)) (.done [] (some (.op (.bin .lss) (.cons (.inp 6) (.cons (.inp 5) .nil)))))) .skip (.exit 0)) h13_4)
@[simp] theorem h13_5_wp {P : Program} {F : PF P} {Q : EX → List Value → World → Prop} {env : List Value} {w : World} : h13_5.wp F Q env w = HC.wp F (.seq (.br (.chk none (.bin .lss) (.cons (.inp 6) (.cons (.inp 5) .nil)) (.done [] (some (.op (.bin .lss) (.cons (.inp 6) (.cons (.inp 5) .nil)))))) .skip (.exit 0)) h13_4) Q env w := rfl
def h13_6 : HC := (.loop h13_5)
@[simp] theorem h13_6_wp {P : Program} {F : PF P} {Q : EX → List Value → World → Prop} {env : List Value} {w : World} : h13_6.wp F Q env w = HC.wp F (.loop h13_5) Q env w := rfl
def h13_7 : HC := (.seq (.block 0 h13_6) h13_0)
@[simp] theorem h13_7_wp {P : Program} {F : PF P} {Q : EX → List Value → World → Prop} {env : List Value} {w : World} : h13_7.wp F Q env w = HC.wp F (.seq (.block 0 h13_6) h13_0) Q env w := rfl
def h13_8 : HC := (.seq (.reg (.chk none .chkp (.cons (.inp 0) .nil) (.chk none (.fld 2) (.cons (.op .chkp (.cons (.inp 0) .nil)) .nil) (.eff (.ld false 1) (.cons (.op (.fld 2) (.cons (.op .chkp (.cons (.inp 0) .nil)) .nil)) .nil) (.eff (.call 41) (.cons (.bv 0) .nil) (.eff (.call 40) (.cons (.bv 1) .nil) (.chk none .lenL (.cons (.bv 2) .nil) (.done [(4, (.bv 2)), (5, (.op .lenL (.cons (.bv 2) .nil))), (6, (.cst (.int .i64 0)))] none)))))))) h13_7)
@[simp] theorem h13_8_wp {P : Program} {F : PF P} {Q : EX → List Value → World → Prop} {env : List Value} {w : World} : h13_8.wp F Q env w = HC.wp F (.seq (.reg (.chk none .chkp (.cons (.inp 0) .nil) (.chk none (.fld 2) (.cons (.op .chkp (.cons (.inp 0) .nil)) .nil) (.eff (.ld false 1) (.cons (.op (.fld 2) (.cons (.op .chkp (.cons (.inp 0) .nil)) .nil)) .nil) (.eff (.call 41) (.cons (.bv 0) .nil) (.eff (.call 40) (.cons (.bv 1) .nil) (.chk none .lenL (.cons (.bv 2) .nil) (.done [(4, (.bv 2)), (5, (.op .lenL (.cons (.bv 2) .nil))), (6, (.cst (.int .i64 0)))] none)))))))) h13_7) Q env w := rfl
def h13_9 : HC := (.seq (.reg (.done [(2, (.cst (.slice none 0 0)))] none)) h13_8)
@[simp] theorem h13_9_wp {P : Program} {F : PF P} {Q : EX → List Value → World → Prop} {env : List Value} {w : World} : h13_9.wp F Q env w = HC.wp F (.seq (.reg (.done [(2, (.cst (.slice none 0 0)))] none)) h13_8) Q env w := rfl
def h13_10 : HC := (.seq (.reg (.done [(1, (.cst (.slice none 0 0)))] none)) .ret)
@[simp] theorem h13_10_wp {P : Program} {F : PF P} {Q : EX → List Value → World → Prop} {env : List Value} {w : World} : h13_10.wp F Q env w = HC.wp F (.seq (.reg (.done [(1, (.cst (.slice none 0 0)))] none)) .ret) Q env w := rfl
def h13_11 : HC := (.seq (.br (.chk none (.eqNil false (.pointer 95) (.pointer none)) (.cons (.inp 0) .nil) (.done [] (some (.op (.eqNil false (.pointer 95) (.pointer none)) (.cons (.inp 0) .nil))))) h13_10 .skip) h13_9)
@[simp] theorem h13_11_wp {P : Program} {F : PF P} {Q : EX → List Value → World → Prop} {env : List Value} {w : World} : h13_11.wp F Q env w = HC.wp F (.seq (.br (.chk none (.eqNil false (.pointer 95) (.pointer none)) (.cons (.inp 0) .nil) (.done [] (some (.op (.eqNil false (.pointer 95) (.pointer none)) (.cons (.inp 0) .nil))))) h13_10 .skip) h13_9) Q env w := rfl
def l13 : Lifted := ⟨[0, 2, 3, 5, 13, 14, 15], 33, [.slot 1], (.seq (.reg (.done [(1, (.cst (.slice none 0 0)))] none)) h13_11)⟩
theorem l13_ok : liftFn E0 13 400 = some l13 := by kernel_rfl


theorem keys_spec (mb : Option Nat) (w0 w : World) (A : Asn) (s : St w0 A w) :
    CallW Tryz.prog 41 [.map mb] (fun r w' => ∃ b, r = .func (.func 81) #[] #[.pointer (some ⟨b, 0, none⟩)] ∧ St w0 (A * pt b (.cells #[.map mb] 93 (0, 0))) w') w := by
  refine callW_of_lift l41_ok (by simp [l41]) ?_
  simp [l41]
  refine eff_box s fun b w1 s1 => ?_
  simp
  exact s1
set_option maxHeartbeats 1000000 in
theorem sorted_spec (m c b : Nat) (es : List En) (l : List Rw) (w0 w : World) (A : Asn) (h0 : w0.drawn = 0) (hE : EH es c l) (ok : RwOK l) (hl : l.length ≤ 4194304) (s : St w0 (A * imap m es c * pt b (.cells #[.map (some m)] 93 (0, 0))) w) :
    CallW Tryz.prog 40 [.func (.func 81) #[] #[.pointer (some ⟨b, 0, none⟩)]]
      (fun r w' => St w0 (A * imap m es c * own 3 1 r l.length (Gd.ints (l.map (·.1)))) w') w := by
  obtain ⟨D0, hown, hsz, hperm⟩ := owns_of s.drop.look hE ok hl
  have hcb : w.cell? ⟨b, 0, none⟩ = some (.map (some m)) := (cell_of s.look).trans rfl
  have hlt : b < w.heap.size := (Array.getElem?_eq_some_iff.1 s.look).1
  have hseq : SeqGives Fence.wide 2 Tryz.prog 81 #[.pointer (some ⟨b, 0, none⟩)] encZ (fun ss => ss.Perm (intKeys D0)) (Maps.size D0) w :=
    AnyZI.keys_gives (ρ := keysL_ren) { keysL with } Fence.wide _ trivial rfl (by omega) b m l.length D0 w hlt hcb hown
  have cS := AnyZI.sorted_in sortedL Fence.wide 5 trivial trivial trivial trivial rfl (by omega) (sortsL _) (enters_of Tryz.func80 (by kernel_rfl) rfl) 81 #[.pointer (some ⟨b, 0, none⟩)] trivial (enters_of Tryz.func81 (by kernel_rfl) rfl) _ (Maps.size D0) (by rw [hsz]; unfold maxLen; omega) (by rw [hsz]; omega) w hseq
  have cS2 : CallsIn Fence.wide 5 Tryz.prog 40 #[.func (.func 81) #[] #[.pointer (some ⟨b, 0, none⟩)]] w fun e w' => ∃ (v : Value) (ss : List Int), e = .returned v ∧ ss.Perm (intKeys D0) ∧
      w'.ownsRow w.heap.size 3 1 v ss.length ((ss.mergeSort (fun x y => decide (x ≤ y))).map encZ) ∧ (v = .slice none 0 0 ↔ ss = []) ∧ Below w.heap.size w w' := cS
  refine Calls.mono (callsIn_wide.1 cS2) ?_
  rintro e w' ⟨v, ss, rfl, hS, hrow, _, hb⟩
  refine ⟨v, rfl, ?_⟩
  have hp := hS.trans hperm
  have hn : ss.length = l.length := by have := hp.length_eq; simpa using this
  rw [sorted_rows ok.1 hp, hn] at hrow
  exact (St.below h0 s hb hrow).swap.drop
theorem clip_spec (v : Value) (n : Nat) (xs : List Value) (e : Nat) (w0 w : World) (A : Asn) (hn : n ≤ 4194304) (s : St w0 (A * own e 2 v n xs) w) :
    CallW Tryz.prog 42 [v] (fun r w' => St w0 (A * own e 2 r n xs) w') w := by
  obtain ⟨a, cap, rfl, hc, _⟩ := s.own_val
  refine callW_of_lift l42_ok (by simp [l42]) ?_
  simp [l42, Pu.add_zero]
  exact ⟨hc, Pu.clip_own s⟩
theorem Rows_spec (s p g : Nat) (l : List Rw) (w0 w : World) (A : Asn) (h0 : w0.drawn = 0) (ok : RwOK l) (hl : l.length ≤ 4194304) (h : St w0 (A * esc s p g l) w) :
    CallW Tryz.prog 13 [.pointer (some ⟨s, 0, none⟩)] (fun r w' => St w0 (A * esc s p g l * own 98 2 r l.length (rflat l)) w') w := by
  obtain ⟨m, es, cl, hE, h1⟩ := eopen h
  have hm : ∀ {Z : Asn} {w : World}, St w0 (A * pte s p g m * imap m es cl * Z) w → w.cell? ⟨s, 2, none⟩ = some (.map (some m)) := fun h => (cell_of h.drop.swap.look).trans rfl
  refine callW_of_lift l13_ok (by simp [l13]) ?_
  simp [l13]
  refine eff_ldc (v := .map (some m)) ((cell_of h1.swap.look).trans rfl) ?_
  simp
  refine eff_call ((keys_spec (some m) w0 w _ h1).mono ?_)
  rintro r w1 ⟨b, rfl, s1⟩
  simp
  refine eff_call ((sorted_spec m cl b es l w0 w1 _ h0 hE ok hl s1).mono ?_)
  intro kv w2 s2
  obtain ⟨ka, kcap, rfl, _⟩ := s2.own_val
  simp
  refine loopI (fun env w' => ∃ (i : Nat) (lv o3 : Value), env = [.pointer (some ⟨s, 0, none⟩), .slice none 0 0, lv, o3, .slice ka l.length kcap, .int .i64 l.length, .int .i64 i] ∧ i ≤ l.length ∧
      St w0 (A * pte s p g m * imap m es cl * own 3 1 (.slice ka l.length kcap) l.length (Gd.ints (l.map (·.1))) * own 98 2 lv i (rflat (l.take i))) w')
    (fun env _ => l.length - slotN env 6) ⟨0, _, _, rfl, by omega, s2.own_nil 98 2⟩ ?_
  clear s1 s2 h h1
  rintro LQ env w' ⟨i, lv, o3, rfl, hi, s1⟩ hN hX hR
  simp
  refine cndI (fun hc => ?_) (fun hc => ?_)
  · simp at hc
    obtain ⟨kg, kc', hv, _, hcell⟩ := s1.drop.own_at (by omega)
    cases hv
    simp [hc]
    refine eff_ldc (hcell i (.int .i64 l[i].1) (by simp [Gd.ints, hc])) ?_
    simp
    refine eff_ldc (hm (s1.to (sep_assoc _ _ _))) ?_
    simp
    refine eff_lookI escT (m := m) (es := es) (c := cl) s1.drop.drop.look ?_
    rw [(hE.get ok l[i].1).1]
    have hcn : cns l l[i].1 = l[i].2 := cns_mem ok.ne (List.getElem_mem hc)
    rw [hcn]
    simp [Instr.fill, Value.cells]
    refine eff_bslV (v := .agg l[i].cs.toArray) s1 rfl fun c w3 s3 => ?_
    simp
    refine eff_app (m := 1) (news := l[i].cs) s3.swap rfl s3.cells_look (rw_one _) (by decide) rfl (by unfold maxLen; omega) (by omega) fun v2 w4 s4 => ?_
    have e1 : rflat (l.take i) ++ l[i].cs = rflat (l.take (i + 1)) := by
      unfold rflat
      rw [List.take_succ_eq_append_getElem hc, List.flatMap_append]
      simp only [List.flatMap_cons, List.flatMap_nil, List.append_nil]
    rw [e1] at s4
    simp
    try simp (disch := omega) only [wrap64]
    exact hN _ _ ⟨i + 1, v2, _, by simp; rfl, by omega, s4.swap.drop⟩ (by simp [slotN]; omega)
  · simp at hc
    simp
    refine hX _ _ _ ?_
    have : i = l.length := by omega
    subst this
    rw [List.take_length] at s1
    simp
    refine eff_call ((clip_spec lv _ _ _ w0 w' _ hl s1).mono ?_)
    intro r w3 s3
    simp
    have := eclose (A := A * own 98 2 r l.length (rflat l)) hE (s3.cut (own 3 1 (.slice ka l.length kcap) l.length (Gd.ints (l.map (·.1)))) (by ac_rfl))
    exact this.swap
end Go.HL.Es

namespace Go.HL.Es
open Go.HL Go.Proofs
set_option maxRecDepth 4000
set_option linter.unusedSimpArgs false
set_option linter.unusedVariables false
-- bazaar/bazaarlaw17.EscrowAll
def h3_0 : HC := (.seq (.reg (.done [(3, (.cst (.bool true)))] none)) .ret)
@[simp] theorem h3_0_wp {P : Program} {F : PF P} {Q : EX → List Value → World → Prop} {env : List Value} {w : World} : h3_0.wp F Q env w = HC.wp F (.seq (.reg (.done [(3, (.cst (.bool true)))] none)) .ret) Q env w := rfl
def h3_1 : HC := (.reg (.chk none (.bin .add) (.cons (.inp 10) (.cons (.cst (.int .i64 1)) .nil)) (.done [(10, (.op (.bin .add) (.cons (.inp 10) (.cons (.cst (.int .i64 1)) .nil))))] none)))
@[simp] theorem h3_1_wp {P : Program} {F : PF P} {Q : EX → List Value → World → Prop} {env : List Value} {w : World} : h3_1.wp F Q env w = HC.wp F (.reg (.chk none (.bin .add) (.cons (.inp 10) (.cons (.cst (.int .i64 1)) .nil)) (.done [(10, (.op (.bin .add) (.cons (.inp 10) (.cons (.cst (.int .i64 1)) .nil))))] none))) Q env w := rfl
def h3_2 : HC := (.seq (.reg (.done [(3, (.cst (.bool false)))] none)) .ret)
@[simp] theorem h3_2_wp {P : Program} {F : PF P} {Q : EX → List Value → World → Prop} {env : List Value} {w : World} : h3_2.wp F Q env w = HC.wp F (.seq (.reg (.done [(3, (.cst (.bool false)))] none)) .ret) Q env w := rfl
def h3_3 : HC := (.br (.chk none (.bin .eql) (.cons (.inp 16) (.cons (.cst (.int .i64 0)) .nil)) (.bnd (.op (.bin .eql) (.cons (.inp 16) (.cons (.cst (.int .i64 0)) .nil))) (.chk (some ((.bv 0), true)) (.fld 0) (.cons (.inp 11) .nil) (.ite (.bv 0) true (.eff (.ld false 1) (.cons (.ite (.bv 0) true (.op (.fld 0) (.cons (.inp 11) .nil)) (.cst (.tuple #[]))) .nil) (.chk none (.bin .eql) (.cons (.bv 1) (.cons (.cst (.int .i64 3)) .nil)) (.isb none (.bv 0) (.bnd (.op (.bin .eql) (.cons (.bv 1) (.cons (.cst (.int .i64 3)) .nil))) (.chk (some ((.bv 2), true)) (.fld 1) (.cons (.inp 11) .nil) (.ite (.bv 2) true (.eff (.ld false 1) (.cons (.ite (.bv 2) true (.op (.fld 1) (.cons (.inp 11) .nil)) (.cst (.tuple #[]))) .nil) (.eff (.call 14) (.cons (.ite (.bv 2) true (.inp 8) (.cst (.tuple #[]))) (.cons (.bv 3) .nil)) (.chk none (.bin .neq) (.cons (.bv 4) (.cons (.cst (.int .u64 0)) .nil)) (.bnd (.op (.bin .neq) (.cons (.bv 4) (.cons (.cst (.int .u64 0)) .nil))) (.chk (some ((.bv 5), false)) (.fld 1) (.cons (.inp 11) .nil) (.ite (.bv 5) false (.eff (.ld false 1) (.cons (.ite (.bv 5) false (.op (.fld 1) (.cons (.inp 11) .nil)) (.cst (.tuple #[]))) .nil) (.eff (.call 22) (.cons (.ite (.bv 5) false (.inp 8) (.cst (.tuple #[]))) (.cons (.bv 6) .nil)) (.chk none .lenL (.cons (.bv 7) .nil) (.chk none (.bin .neq) (.cons (.op .lenL (.cons (.bv 7) .nil)) (.cons (.cst (.int .i64 0)) .nil)) (.isb none (.bv 5) (.isb none (.bv 2) (.done [] (some (.op (.bin .neq) (.cons (.op .lenL (.cons (.bv 7) .nil)) (.cons (.cst (.int .i64 0)) .nil))))))))))) (.isb none (.bv 5) (.isb none (.bv 2) (.done [] (some (.cst (.bool true)))))))))))) (.isb none (.bv 2) (.done [] (some (.cst (.bool false))))))))))) (.isb none (.bv 0) (.isb none (.cst (.bool false)) (.done [] (some (.cst (.bool false)))))))))) h3_2 .skip)
@[simp] theorem h3_3_wp {P : Program} {F : PF P} {Q : EX → List Value → World → Prop} {env : List Value} {w : World} : h3_3.wp F Q env w = HC.wp F (.br (.chk none (.bin .eql) (.cons (.inp 16) (.cons (.cst (.int .i64 0)) .nil)) (.bnd (.op (.bin .eql) (.cons (.inp 16) (.cons (.cst (.int .i64 0)) .nil))) (.chk (some ((.bv 0), true)) (.fld 0) (.cons (.inp 11) .nil) (.ite (.bv 0) true (.eff (.ld false 1) (.cons (.ite (.bv 0) true (.op (.fld 0) (.cons (.inp 11) .nil)) (.cst (.tuple #[]))) .nil) (.chk none (.bin .eql) (.cons (.bv 1) (.cons (.cst (.int .i64 3)) .nil)) (.isb none (.bv 0) (.bnd (.op (.bin .eql) (.cons (.bv 1) (.cons (.cst (.int .i64 3)) .nil))) (.chk (some ((.bv 2), true)) (.fld 1) (.cons (.inp 11) .nil) (.ite (.bv 2) true (.eff (.ld false 1) (.cons (.ite (.bv 2) true (.op (.fld 1) (.cons (.inp 11) .nil)) (.cst (.tuple #[]))) .nil) (.eff (.call 14) (.cons (.ite (.bv 2) true (.inp 8) (.cst (.tuple #[]))) (.cons (.bv 3) .nil)) (.chk none (.bin .neq) (.cons (.bv 4) (.cons (.cst (.int .u64 0)) .nil)) (.bnd (.op (.bin .neq) (.cons (.bv 4) (.cons (.cst (.int .u64 0)) .nil))) (.chk (some ((.bv 5), false)) (.fld 1) (.cons (.inp 11) .nil) (.ite (.bv 5) false (.eff (.ld false 1) (.cons (.ite (.bv 5) false (.op (.fld 1) (.cons (.inp 11) .nil)) (.cst (.tuple #[]))) .nil) (.eff (.call 22) (.cons (.ite (.bv 5) false (.inp 8) (.cst (.tuple #[]))) (.cons (.bv 6) .nil)) (.chk none .lenL (.cons (.bv 7) .nil) (.chk none (.bin .neq) (.cons (.op .lenL (.cons (.bv 7) .nil)) (.cons (.cst (.int .i64 0)) .nil)) (.isb none (.bv 5) (.isb none (.bv 2) (.done [] (some (.op (.bin .neq) (.cons (.op .lenL (.cons (.bv 7) .nil)) (.cons (.cst (.int .i64 0)) .nil))))))))))) (.isb none (.bv 5) (.isb none (.bv 2) (.done [] (some (.cst (.bool true)))))))))))) (.isb none (.bv 2) (.done [] (some (.cst (.bool false))))))))))) (.isb none (.bv 0) (.isb none (.cst (.bool false)) (.done [] (some (.cst (.bool false)))))))))) h3_2 .skip) Q env w := rfl
def h3_4 : HC := (.seq (.reg (.done [(3, (.cst (.bool false)))] none)) .ret)
@[simp] theorem h3_4_wp {P : Program} {F : PF P} {Q : EX → List Value → World → Prop} {env : List Value} {w : World} : h3_4.wp F Q env w = HC.wp F (.seq (.reg (.done [(3, (.cst (.bool false)))] none)) .ret) Q env w := rfl
def h3_5 : HC := (.seq (.brq (some 6) (.chk none (.fld 1) (.cons (.inp 11) .nil) (.eff (.ld false 1) (.cons (.op (.fld 1) (.cons (.inp 11) .nil)) .nil) (.eff (.call 14) (.cons (.inp 8) (.cons (.bv 0) .nil)) (.chk none (.bin .add) (.cons (.inp 15) (.cons (.inp 20) .nil)) (.chk none (.bin .neq) (.cons (.bv 1) (.cons (.op (.bin .add) (.cons (.inp 15) (.cons (.inp 20) .nil))) .nil)) (.bnd (.op (.bin .neq) (.cons (.bv 1) (.cons (.op (.bin .add) (.cons (.inp 15) (.cons (.inp 20) .nil))) .nil))) (.ite (.bv 2) false (.eff (.call 13) (.cons (.ite (.bv 2) false (.inp 8) (.cst (.tuple #[]))) .nil) (.chk none (.fld 1) (.cons (.inp 11) .nil) (.eff (.ld false 1) (.cons (.op (.fld 1) (.cons (.inp 11) .nil)) .nil) (.eff (.call 19) (.cons (.ite (.bv 2) false (.inp 14) (.cst (.tuple #[]))) (.cons (.bv 3) (.cons (.bv 4) .nil))) (.chk none (.un .not) (.cons (.bv 5) .nil) (.isb none (.bv 2) (.bnd (.op (.un .not) (.cons (.bv 5) .nil)) (.ite (.bv 6) false (.eff (.call 13) (.cons (.ite (.bv 6) false (.inp 8) (.cst (.tuple #[]))) .nil) (.eff (.call 20) (.cons (.bv 7) .nil) (.eff (.call 21) (.cons (.inp 4) .nil) (.chk none (.bin .neq) (.cons (.bv 8) (.cons (.bv 9) .nil)) (.isb none (.bv 6) (.done [] (some (.op (.bin .neq) (.cons (.bv 8) (.cons (.bv 9) .nil)))))))))) (.isb none (.bv 6) (.done [] (some (.cst (.bool true))))))))))))) (.isb none (.bv 2) (.isb none (.cst (.bool true)) (.done [] (some (.cst (.bool true))))))))))))) h3_4 .skip) h3_3)
@[simp] theorem h3_5_wp {P : Program} {F : PF P} {Q : EX → List Value → World → Prop} {env : List Value} {w : World} : h3_5.wp F Q env w = HC.wp F (.seq (.brq (some 6) (.chk none (.fld 1) (.cons (.inp 11) .nil) (.eff (.ld false 1) (.cons (.op (.fld 1) (.cons (.inp 11) .nil)) .nil) (.eff (.call 14) (.cons (.inp 8) (.cons (.bv 0) .nil)) (.chk none (.bin .add) (.cons (.inp 15) (.cons (.inp 20) .nil)) (.chk none (.bin .neq) (.cons (.bv 1) (.cons (.op (.bin .add) (.cons (.inp 15) (.cons (.inp 20) .nil))) .nil)) (.bnd (.op (.bin .neq) (.cons (.bv 1) (.cons (.op (.bin .add) (.cons (.inp 15) (.cons (.inp 20) .nil))) .nil))) (.ite (.bv 2) false (.eff (.call 13) (.cons (.ite (.bv 2) false (.inp 8) (.cst (.tuple #[]))) .nil) (.chk none (.fld 1) (.cons (.inp 11) .nil) (.eff (.ld false 1) (.cons (.op (.fld 1) (.cons (.inp 11) .nil)) .nil) (.eff (.call 19) (.cons (.ite (.bv 2) false (.inp 14) (.cst (.tuple #[]))) (.cons (.bv 3) (.cons (.bv 4) .nil))) (.chk none (.un .not) (.cons (.bv 5) .nil) (.isb none (.bv 2) (.bnd (.op (.un .not) (.cons (.bv 5) .nil)) (.ite (.bv 6) false (.eff (.call 13) (.cons (.ite (.bv 6) false (.inp 8) (.cst (.tuple #[]))) .nil) (.eff (.call 20) (.cons (.bv 7) .nil) (.eff (.call 21) (.cons (.inp 4) .nil) (.chk none (.bin .neq) (.cons (.bv 8) (.cons (.bv 9) .nil)) (.isb none (.bv 6) (.done [] (some (.op (.bin .neq) (.cons (.bv 8) (.cons (.bv 9) .nil)))))))))) (.isb none (.bv 6) (.done [] (some (.cst (.bool true))))))))))))) (.isb none (.bv 2) (.isb none (.cst (.bool true)) (.done [] (some (.cst (.bool true))))))))))))) h3_4 .skip) h3_3) Q env w := rfl
def h3_6 : HC := (.reg (.chk none (.bin .add) (.cons (.inp 22) (.cons (.cst (.int .i64 1)) .nil)) (.done [(22, (.op (.bin .add) (.cons (.inp 22) (.cons (.cst (.int .i64 1)) .nil))))] none)))
@[simp] theorem h3_6_wp {P : Program} {F : PF P} {Q : EX → List Value → World → Prop} {env : List Value} {w : World} : h3_6.wp F Q env w = HC.wp F (.reg (.chk none (.bin .add) (.cons (.inp 22) (.cons (.cst (.int .i64 1)) .nil)) (.done [(22, (.op (.bin .add) (.cons (.inp 22) (.cons (.cst (.int .i64 1)) .nil))))] none))) Q env w := rfl
def h3_7 : HC := (.seq (.reg (.done [(3, (.cst (.bool false)))] none)) .ret)
@[simp] theorem h3_7_wp {P : Program} {F : PF P} {Q : EX → List Value → World → Prop} {env : List Value} {w : World} : h3_7.wp F Q env w = HC.wp F (.seq (.reg (.done [(3, (.cst (.bool false)))] none)) .ret) Q env w := rfl
def h3_8 : HC := (.brq (some 2) (.chk none (.idxL 4) (.cons (.inp 19) (.cons (.inp 22) .nil)) (.eff (.ld true 4) (.cons (.op (.idxL 4) (.cons (.inp 19) (.cons (.inp 22) .nil))) .nil) (.eff (.ld true 8) (.cons (.inp 11) .nil) (.chk none (.idxL 4) (.cons (.inp 13) (.cons (.inp 22) .nil)) (.eff (.ld true 4) (.cons (.op (.idxL 4) (.cons (.inp 13) (.cons (.inp 22) .nil))) .nil) (.eff (.call 18) (.cons (.bv 1) (.cons (.bv 2) .nil)) (.eff (.bin .neq 60 (.tmp 170) (.tmp 176)) (.cons (.bv 0) (.cons (.bv 3) .nil)) (.done [] (some (.bv 4)))))))))) h3_7 .skip)
@[simp] theorem h3_8_wp {P : Program} {F : PF P} {Q : EX → List Value → World → Prop} {env : List Value} {w : World} : h3_8.wp F Q env w = HC.wp F (.brq (some 2) (.chk none (.idxL 4) (.cons (.inp 19) (.cons (.inp 22) .nil)) (.eff (.ld true 4) (.cons (.op (.idxL 4) (.cons (.inp 19) (.cons (.inp 22) .nil))) .nil) (.eff (.ld true 8) (.cons (.inp 11) .nil) (.chk none (.idxL 4) (.cons (.inp 13) (.cons (.inp 22) .nil)) (.eff (.ld true 4) (.cons (.op (.idxL 4) (.cons (.inp 13) (.cons (.inp 22) .nil))) .nil) (.eff (.call 18) (.cons (.bv 1) (.cons (.bv 2) .nil)) (.eff (.bin .neq 60 (.tmp 170) (.tmp 176)) (.cons (.bv 0) (.cons (.bv 3) .nil)) (.done [] (some (.bv 4)))))))))) h3_7 .skip) Q env w := rfl
def h3_9 : HC := (.seq (.block 5 h3_8) h3_6)
@[simp] theorem h3_9_wp {P : Program} {F : PF P} {Q : EX → List Value → World → Prop} {env : List Value} {w : World} : h3_9.wp F Q env w = HC.wp F (.seq (.block 5 h3_8) h3_6) Q env w := rfl
def h3_10 : HC := (.seq (.br (.chk none .lenL (.cons (.inp 13) .nil) (.chk none (.bin .lss) (.cons (.inp 22) (.cons (.op .lenL (.cons (.inp 13) .nil)) .nil)) (.done [] (some (.op (.bin .lss) (.cons (.inp 22) (.cons (.op .lenL (.cons (.inp 13) .nil)) .nil))))))) .skip (.exit 4)) h3_9)
@[simp] theorem h3_10_wp {P : Program} {F : PF P} {Q : EX → List Value → World → Prop} {env : List Value} {w : World} : h3_10.wp F Q env w = HC.wp F (.seq (.br (.chk none .lenL (.cons (.inp 13) .nil) (.chk none (.bin .lss) (.cons (.inp 22) (.cons (.op .lenL (.cons (.inp 13) .nil)) .nil)) (.done [] (some (.op (.bin .lss) (.cons (.inp 22) (.cons (.op .lenL (.cons (.inp 13) .nil)) .nil))))))) .skip (.exit 4)) h3_9) Q env w := rfl
def h3_11 : HC := (.loop h3_10)
@[simp] theorem h3_11_wp {P : Program} {F : PF P} {Q : EX → List Value → World → Prop} {env : List Value} {w : World} : h3_11.wp F Q env w = HC.wp F (.loop h3_10) Q env w := rfl
def h3_12 : HC := (.seq (.block 4 h3_11) h3_5)
@[simp] theorem h3_12_wp {P : Program} {F : PF P} {Q : EX → List Value → World → Prop} {env : List Value} {w : World} : h3_12.wp F Q env w = HC.wp F (.seq (.block 4 h3_11) h3_5) Q env w := rfl
def h3_13 : HC := (.seq (.reg (.done [(22, (.cst (.int .i64 0)))] none)) h3_12)
@[simp] theorem h3_13_wp {P : Program} {F : PF P} {Q : EX → List Value → World → Prop} {env : List Value} {w : World} : h3_13.wp F Q env w = HC.wp F (.seq (.reg (.done [(22, (.cst (.int .i64 0)))] none)) h3_12) Q env w := rfl
def h3_14 : HC := (.reg (.chk none (.bin .add) (.cons (.inp 21) (.cons (.cst (.int .i64 1)) .nil)) (.done [(21, (.op (.bin .add) (.cons (.inp 21) (.cons (.cst (.int .i64 1)) .nil))))] none)))
@[simp] theorem h3_14_wp {P : Program} {F : PF P} {Q : EX → List Value → World → Prop} {env : List Value} {w : World} : h3_14.wp F Q env w = HC.wp F (.reg (.chk none (.bin .add) (.cons (.inp 21) (.cons (.cst (.int .i64 1)) .nil)) (.done [(21, (.op (.bin .add) (.cons (.inp 21) (.cons (.cst (.int .i64 1)) .nil))))] none))) Q env w := rfl
def h3_15 : HC := (.seq (.reg (.done [(3, (.cst (.bool false)))] none)) .ret)
@[simp] theorem h3_15_wp {P : Program} {F : PF P} {Q : EX → List Value → World → Prop} {env : List Value} {w : World} : h3_15.wp F Q env w = HC.wp F (.seq (.reg (.done [(3, (.cst (.bool false)))] none)) .ret) Q env w := rfl
def h3_16 : HC := (.brq (some 2) (.chk none (.idxL 2) (.cons (.inp 18) (.cons (.inp 21) .nil)) (.chk none (.fld 1) (.cons (.op (.idxL 2) (.cons (.inp 18) (.cons (.inp 21) .nil))) .nil) (.eff (.ld false 1) (.cons (.op (.fld 1) (.cons (.op (.idxL 2) (.cons (.inp 18) (.cons (.inp 21) .nil))) .nil)) .nil) (.chk none (.idxL 2) (.cons (.inp 12) (.cons (.inp 21) .nil)) (.chk none (.fld 1) (.cons (.op (.idxL 2) (.cons (.inp 12) (.cons (.inp 21) .nil))) .nil) (.eff (.ld false 1) (.cons (.op (.fld 1) (.cons (.op (.idxL 2) (.cons (.inp 12) (.cons (.inp 21) .nil))) .nil)) .nil) (.eff (.ld true 8) (.cons (.inp 11) .nil) (.eff (.call 17) (.cons (.bv 2) (.cons (.inp 21) .nil)) (.chk none (.bin .add) (.cons (.bv 1) (.cons (.bv 3) .nil)) (.chk none (.bin .neq) (.cons (.bv 0) (.cons (.op (.bin .add) (.cons (.bv 1) (.cons (.bv 3) .nil))) .nil)) (.bnd (.op (.bin .neq) (.cons (.bv 0) (.cons (.op (.bin .add) (.cons (.bv 1) (.cons (.bv 3) .nil))) .nil))) (.chk (some ((.bv 4), false)) (.idxL 2) (.cons (.inp 18) (.cons (.inp 21) .nil)) (.chk (some ((.bv 4), false)) (.fld 0) (.cons (.op (.idxL 2) (.cons (.inp 18) (.cons (.inp 21) .nil))) .nil) (.ite (.bv 4) false (.eff (.ld false 1) (.cons (.ite (.bv 4) false (.op (.fld 0) (.cons (.op (.idxL 2) (.cons (.inp 18) (.cons (.inp 21) .nil))) .nil)) (.cst (.tuple #[]))) .nil) (.chk none (.idxL 2) (.cons (.inp 12) (.cons (.inp 21) .nil)) (.chk none (.fld 0) (.cons (.op (.idxL 2) (.cons (.inp 12) (.cons (.inp 21) .nil))) .nil) (.eff (.ld false 1) (.cons (.op (.fld 0) (.cons (.op (.idxL 2) (.cons (.inp 12) (.cons (.inp 21) .nil))) .nil)) .nil) (.chk none (.bin .neq) (.cons (.bv 5) (.cons (.bv 6) .nil)) (.isb none (.bv 4) (.done [] (some (.op (.bin .neq) (.cons (.bv 5) (.cons (.bv 6) .nil))))))))))) (.isb none (.bv 4) (.done [] (some (.cst (.bool true))))))))))))))))))) h3_15 .skip)
@[simp] theorem h3_16_wp {P : Program} {F : PF P} {Q : EX → List Value → World → Prop} {env : List Value} {w : World} : h3_16.wp F Q env w = HC.wp F (.brq (some 2) (.chk none (.idxL 2) (.cons (.inp 18) (.cons (.inp 21) .nil)) (.chk none (.fld 1) (.cons (.op (.idxL 2) (.cons (.inp 18) (.cons (.inp 21) .nil))) .nil) (.eff (.ld false 1) (.cons (.op (.fld 1) (.cons (.op (.idxL 2) (.cons (.inp 18) (.cons (.inp 21) .nil))) .nil)) .nil) (.chk none (.idxL 2) (.cons (.inp 12) (.cons (.inp 21) .nil)) (.chk none (.fld 1) (.cons (.op (.idxL 2) (.cons (.inp 12) (.cons (.inp 21) .nil))) .nil) (.eff (.ld false 1) (.cons (.op (.fld 1) (.cons (.op (.idxL 2) (.cons (.inp 12) (.cons (.inp 21) .nil))) .nil)) .nil) (.eff (.ld true 8) (.cons (.inp 11) .nil) (.eff (.call 17) (.cons (.bv 2) (.cons (.inp 21) .nil)) (.chk none (.bin .add) (.cons (.bv 1) (.cons (.bv 3) .nil)) (.chk none (.bin .neq) (.cons (.bv 0) (.cons (.op (.bin .add) (.cons (.bv 1) (.cons (.bv 3) .nil))) .nil)) (.bnd (.op (.bin .neq) (.cons (.bv 0) (.cons (.op (.bin .add) (.cons (.bv 1) (.cons (.bv 3) .nil))) .nil))) (.chk (some ((.bv 4), false)) (.idxL 2) (.cons (.inp 18) (.cons (.inp 21) .nil)) (.chk (some ((.bv 4), false)) (.fld 0) (.cons (.op (.idxL 2) (.cons (.inp 18) (.cons (.inp 21) .nil))) .nil) (.ite (.bv 4) false (.eff (.ld false 1) (.cons (.ite (.bv 4) false (.op (.fld 0) (.cons (.op (.idxL 2) (.cons (.inp 18) (.cons (.inp 21) .nil))) .nil)) (.cst (.tuple #[]))) .nil) (.chk none (.idxL 2) (.cons (.inp 12) (.cons (.inp 21) .nil)) (.chk none (.fld 0) (.cons (.op (.idxL 2) (.cons (.inp 12) (.cons (.inp 21) .nil))) .nil) (.eff (.ld false 1) (.cons (.op (.fld 0) (.cons (.op (.idxL 2) (.cons (.inp 12) (.cons (.inp 21) .nil))) .nil)) .nil) (.chk none (.bin .neq) (.cons (.bv 5) (.cons (.bv 6) .nil)) (.isb none (.bv 4) (.done [] (some (.op (.bin .neq) (.cons (.bv 5) (.cons (.bv 6) .nil))))))))))) (.isb none (.bv 4) (.done [] (some (.cst (.bool true))))))))))))))))))) h3_15 .skip) Q env w := rfl
def h3_17 : HC := (.seq (.reg (.eff (.ld true 8) (.cons (.inp 11) .nil) (.eff (.call 17) (.cons (.bv 0) (.cons (.inp 21) .nil)) (.chk none (.bin .sub) (.cons (.inp 20) (.cons (.bv 1) .nil)) (.done [(20, (.op (.bin .sub) (.cons (.inp 20) (.cons (.bv 1) .nil))))] none))))) h3_16)
@[simp] theorem h3_17_wp {P : Program} {F : PF P} {Q : EX → List Value → World → Prop} {env : List Value} {w : World} : h3_17.wp F Q env w = HC.wp F (.seq (.reg (.eff (.ld true 8) (.cons (.inp 11) .nil) (.eff (.call 17) (.cons (.bv 0) (.cons (.inp 21) .nil)) (.chk none (.bin .sub) (.cons (.inp 20) (.cons (.bv 1) .nil)) (.done [(20, (.op (.bin .sub) (.cons (.inp 20) (.cons (.bv 1) .nil))))] none))))) h3_16) Q env w := rfl
def h3_18 : HC := (.seq (.block 3 h3_17) h3_14)
@[simp] theorem h3_18_wp {P : Program} {F : PF P} {Q : EX → List Value → World → Prop} {env : List Value} {w : World} : h3_18.wp F Q env w = HC.wp F (.seq (.block 3 h3_17) h3_14) Q env w := rfl
def h3_19 : HC := (.seq (.br (.chk none .lenL (.cons (.inp 12) .nil) (.chk none (.bin .lss) (.cons (.inp 21) (.cons (.op .lenL (.cons (.inp 12) .nil)) .nil)) (.done [] (some (.op (.bin .lss) (.cons (.inp 21) (.cons (.op .lenL (.cons (.inp 12) .nil)) .nil))))))) .skip (.exit 2)) h3_18)
@[simp] theorem h3_19_wp {P : Program} {F : PF P} {Q : EX → List Value → World → Prop} {env : List Value} {w : World} : h3_19.wp F Q env w = HC.wp F (.seq (.br (.chk none .lenL (.cons (.inp 12) .nil) (.chk none (.bin .lss) (.cons (.inp 21) (.cons (.op .lenL (.cons (.inp 12) .nil)) .nil)) (.done [] (some (.op (.bin .lss) (.cons (.inp 21) (.cons (.op .lenL (.cons (.inp 12) .nil)) .nil))))))) .skip (.exit 2)) h3_18) Q env w := rfl
def h3_20 : HC := (.loop h3_19)
@[simp] theorem h3_20_wp {P : Program} {F : PF P} {Q : EX → List Value → World → Prop} {env : List Value} {w : World} : h3_20.wp F Q env w = HC.wp F (.loop h3_19) Q env w := rfl
def h3_21 : HC := (.seq (.block 2 h3_20) h3_13)
@[simp] theorem h3_21_wp {P : Program} {F : PF P} {Q : EX → List Value → World → Prop} {env : List Value} {w : World} : h3_21.wp F Q env w = HC.wp F (.seq (.block 2 h3_20) h3_13) Q env w := rfl
def h3_22 : HC := (.seq (.reg (.done [(21, (.cst (.int .i64 0)))] none)) h3_21)
@[simp] theorem h3_22_wp {P : Program} {F : PF P} {Q : EX → List Value → World → Prop} {env : List Value} {w : World} : h3_22.wp F Q env w = HC.wp F (.seq (.reg (.done [(21, (.cst (.int .i64 0)))] none)) h3_21) Q env w := rfl
def h3_23 : HC := (.seq (.reg (.done [(20, (.cst (.int .u64 0)))] none)) h3_22)
@[simp] theorem h3_23_wp {P : Program} {F : PF P} {Q : EX → List Value → World → Prop} {env : List Value} {w : World} : h3_23.wp F Q env w = HC.wp F (.seq (.reg (.done [(20, (.cst (.int .u64 0)))] none)) h3_22) Q env w := rfl
def h3_24 : HC := (.seq (.reg (.done [(3, (.cst (.bool false)))] none)) .ret)
@[simp] theorem h3_24_wp {P : Program} {F : PF P} {Q : EX → List Value → World → Prop} {env : List Value} {w : World} : h3_24.wp F Q env w = HC.wp F (.seq (.reg (.done [(3, (.cst (.bool false)))] none)) .ret) Q env w := rfl
def h3_25 : HC := (.seq (.brq (some 2) (.chk none .lenL (.cons (.inp 18) .nil) (.chk none .lenL (.cons (.inp 12) .nil) (.chk none (.bin .neq) (.cons (.op .lenL (.cons (.inp 18) .nil)) (.cons (.op .lenL (.cons (.inp 12) .nil)) .nil)) (.bnd (.op (.bin .neq) (.cons (.op .lenL (.cons (.inp 18) .nil)) (.cons (.op .lenL (.cons (.inp 12) .nil)) .nil))) (.chk (some ((.bv 0), false)) .lenL (.cons (.inp 19) .nil) (.chk (some ((.bv 0), false)) .lenL (.cons (.inp 13) .nil) (.chk (some ((.bv 0), false)) (.bin .neq) (.cons (.op .lenL (.cons (.inp 19) .nil)) (.cons (.op .lenL (.cons (.inp 13) .nil)) .nil)) (.isb none (.bv 0) (.bnd (.ite (.bv 0) true (.cst (.bool true)) (.op (.bin .neq) (.cons (.op .lenL (.cons (.inp 19) .nil)) (.cons (.op .lenL (.cons (.inp 13) .nil)) .nil)))) (.ite (.bv 1) false (.eff (.call 16) (.cons (.ite (.bv 1) false (.inp 4) (.cst (.tuple #[]))) .nil) (.chk none (.fld 2) (.cons (.inp 2) .nil) (.eff (.ld false 1) (.cons (.op (.fld 2) (.cons (.inp 2) .nil)) .nil) (.chk none (.bin .neq) (.cons (.bv 2) (.cons (.bv 3) .nil)) (.isb none (.bv 1) (.done [] (some (.op (.bin .neq) (.cons (.bv 2) (.cons (.bv 3) .nil)))))))))) (.isb none (.bv 1) (.done [] (some (.cst (.bool true))))))))))))))) h3_24 .skip) h3_23)
@[simp] theorem h3_25_wp {P : Program} {F : PF P} {Q : EX → List Value → World → Prop} {env : List Value} {w : World} : h3_25.wp F Q env w = HC.wp F (.seq (.brq (some 2) (.chk none .lenL (.cons (.inp 18) .nil) (.chk none .lenL (.cons (.inp 12) .nil) (.chk none (.bin .neq) (.cons (.op .lenL (.cons (.inp 18) .nil)) (.cons (.op .lenL (.cons (.inp 12) .nil)) .nil)) (.bnd (.op (.bin .neq) (.cons (.op .lenL (.cons (.inp 18) .nil)) (.cons (.op .lenL (.cons (.inp 12) .nil)) .nil))) (.chk (some ((.bv 0), false)) .lenL (.cons (.inp 19) .nil) (.chk (some ((.bv 0), false)) .lenL (.cons (.inp 13) .nil) (.chk (some ((.bv 0), false)) (.bin .neq) (.cons (.op .lenL (.cons (.inp 19) .nil)) (.cons (.op .lenL (.cons (.inp 13) .nil)) .nil)) (.isb none (.bv 0) (.bnd (.ite (.bv 0) true (.cst (.bool true)) (.op (.bin .neq) (.cons (.op .lenL (.cons (.inp 19) .nil)) (.cons (.op .lenL (.cons (.inp 13) .nil)) .nil)))) (.ite (.bv 1) false (.eff (.call 16) (.cons (.ite (.bv 1) false (.inp 4) (.cst (.tuple #[]))) .nil) (.chk none (.fld 2) (.cons (.inp 2) .nil) (.eff (.ld false 1) (.cons (.op (.fld 2) (.cons (.inp 2) .nil)) .nil) (.chk none (.bin .neq) (.cons (.bv 2) (.cons (.bv 3) .nil)) (.isb none (.bv 1) (.done [] (some (.op (.bin .neq) (.cons (.bv 2) (.cons (.bv 3) .nil)))))))))) (.isb none (.bv 1) (.done [] (some (.cst (.bool true))))))))))))))) h3_24 .skip) h3_23) Q env w := rfl
def h3_26 : HC := (.seq (.reg (.eff (.call 12) (.cons (.inp 6) .nil) (.done [(19, (.bv 0))] none))) h3_25)
@[simp] theorem h3_26_wp {P : Program} {F : PF P} {Q : EX → List Value → World → Prop} {env : List Value} {w : World} : h3_26.wp F Q env w = HC.wp F (.seq (.reg (.eff (.call 12) (.cons (.inp 6) .nil) (.done [(19, (.bv 0))] none))) h3_25) Q env w := rfl
def h3_27 : HC := (.seq (.reg (.eff (.call 11) (.cons (.inp 4) .nil) (.done [(18, (.bv 0))] none))) h3_26)
@[simp] theorem h3_27_wp {P : Program} {F : PF P} {Q : EX → List Value → World → Prop} {env : List Value} {w : World} : h3_27.wp F Q env w = HC.wp F (.seq (.reg (.eff (.call 11) (.cons (.inp 4) .nil) (.done [(18, (.bv 0))] none))) h3_26) Q env w := rfl
def h3_28 : HC := (.reg (.chk none (.fld 1) (.cons (.inp 11) .nil) (.eff (.ld false 1) (.cons (.op (.fld 1) (.cons (.inp 11) .nil)) .nil) (.chk none (.build #[(.int .i64 0), (.int .i64 0), (.slice none 0 0), (.int .i64 0), (.int .i64 0), (.int .u64 0), (.int .u64 0), (.slice none 0 0)] [(0, 1), (1, 1), (2, 1), (3, 5)] [0, 1]) (.cons (.cst (.int .i64 3)) (.cons (.bv 0) .nil)) (.eff (.st 8) (.cons (.inp 11) (.cons (.op (.build #[(.int .i64 0), (.int .i64 0), (.slice none 0 0), (.int .i64 0), (.int .i64 0), (.int .u64 0), (.int .u64 0), (.slice none 0 0)] [(0, 1), (1, 1), (2, 1), (3, 5)] [0, 1]) (.cons (.cst (.int .i64 3)) (.cons (.bv 0) .nil))) .nil)) (.done [] none))))))
@[simp] theorem h3_28_wp {P : Program} {F : PF P} {Q : EX → List Value → World → Prop} {env : List Value} {w : World} : h3_28.wp F Q env w = HC.wp F (.reg (.chk none (.fld 1) (.cons (.inp 11) .nil) (.eff (.ld false 1) (.cons (.op (.fld 1) (.cons (.inp 11) .nil)) .nil) (.chk none (.build #[(.int .i64 0), (.int .i64 0), (.slice none 0 0), (.int .i64 0), (.int .i64 0), (.int .u64 0), (.int .u64 0), (.slice none 0 0)] [(0, 1), (1, 1), (2, 1), (3, 5)] [0, 1]) (.cons (.cst (.int .i64 3)) (.cons (.bv 0) .nil)) (.eff (.st 8) (.cons (.inp 11) (.cons (.op (.build #[(.int .i64 0), (.int .i64 0), (.slice none 0 0), (.int .i64 0), (.int .i64 0), (.int .u64 0), (.int .u64 0), (.slice none 0 0)] [(0, 1), (1, 1), (2, 1), (3, 5)] [0, 1]) (.cons (.cst (.int .i64 3)) (.cons (.bv 0) .nil))) .nil)) (.done [] none)))))) Q env w := rfl
def h3_29 : HC := (.seq (.br (.chk none (.bin .neq) (.cons (.inp 16) (.cons (.cst (.int .i64 0)) .nil)) (.done [] (some (.op (.bin .neq) (.cons (.inp 16) (.cons (.cst (.int .i64 0)) .nil)))))) h3_28 .skip) h3_27)
@[simp] theorem h3_29_wp {P : Program} {F : PF P} {Q : EX → List Value → World → Prop} {env : List Value} {w : World} : h3_29.wp F Q env w = HC.wp F (.seq (.br (.chk none (.bin .neq) (.cons (.inp 16) (.cons (.cst (.int .i64 0)) .nil)) (.done [] (some (.op (.bin .neq) (.cons (.inp 16) (.cons (.cst (.int .i64 0)) .nil)))))) h3_28 .skip) h3_27) Q env w := rfl
def h3_30 : HC := (.seq (.br (.chk none (.un .not) (.cons (.inp 17) .nil) (.done [] (some (.op (.un .not) (.cons (.inp 17) .nil))))) (.exit 1) .skip) h3_29)
@[simp] theorem h3_30_wp {P : Program} {F : PF P} {Q : EX → List Value → World → Prop} {env : List Value} {w : World} : h3_30.wp F Q env w = HC.wp F (.seq (.br (.chk none (.un .not) (.cons (.inp 17) .nil) (.done [] (some (.op (.un .not) (.cons (.inp 17) .nil))))) (.exit 1) .skip) h3_29) Q env w := rfl
def h3_31 : HC := (.seq (.reg (.eff (.ld true 8) (.cons (.inp 11) .nil) (.eff (.call 15) (.cons (.inp 8) (.cons (.bv 0) .nil)) (.chk none (.ext 0) (.cons (.bv 1) .nil) (.chk none (.ext 1) (.cons (.bv 1) .nil) (.done [(16, (.op (.ext 0) (.cons (.bv 1) .nil))), (17, (.op (.ext 1) (.cons (.bv 1) .nil)))] none)))))) h3_30)
@[simp] theorem h3_31_wp {P : Program} {F : PF P} {Q : EX → List Value → World → Prop} {env : List Value} {w : World} : h3_31.wp F Q env w = HC.wp F (.seq (.reg (.eff (.ld true 8) (.cons (.inp 11) .nil) (.eff (.call 15) (.cons (.inp 8) (.cons (.bv 0) .nil)) (.chk none (.ext 0) (.cons (.bv 1) .nil) (.chk none (.ext 1) (.cons (.bv 1) .nil) (.done [(16, (.op (.ext 0) (.cons (.bv 1) .nil))), (17, (.op (.ext 1) (.cons (.bv 1) .nil)))] none)))))) h3_30) Q env w := rfl
def h3_32 : HC := (.seq (.reg (.chk none (.fld 1) (.cons (.inp 11) .nil) (.eff (.ld false 1) (.cons (.op (.fld 1) (.cons (.inp 11) .nil)) .nil) (.eff (.call 14) (.cons (.inp 8) (.cons (.bv 0) .nil)) (.done [(15, (.bv 1))] none))))) h3_31)
@[simp] theorem h3_32_wp {P : Program} {F : PF P} {Q : EX → List Value → World → Prop} {env : List Value} {w : World} : h3_32.wp F Q env w = HC.wp F (.seq (.reg (.chk none (.fld 1) (.cons (.inp 11) .nil) (.eff (.ld false 1) (.cons (.op (.fld 1) (.cons (.inp 11) .nil)) .nil) (.eff (.call 14) (.cons (.inp 8) (.cons (.bv 0) .nil)) (.done [(15, (.bv 1))] none))))) h3_31) Q env w := rfl
def h3_33 : HC := (.seq (.reg (.eff (.call 13) (.cons (.inp 8) .nil) (.done [(14, (.bv 0))] none))) h3_32)
@[simp] theorem h3_33_wp {P : Program} {F : PF P} {Q : EX → List Value → World → Prop} {env : List Value} {w : World} : h3_33.wp F Q env w = HC.wp F (.seq (.reg (.eff (.call 13) (.cons (.inp 8) .nil) (.done [(14, (.bv 0))] none))) h3_32) Q env w := rfl
def h3_34 : HC := (.seq (.reg (.eff (.call 12) (.cons (.inp 6) .nil) (.done [(13, (.bv 0))] none))) h3_33)
@[simp] theorem h3_34_wp {P : Program} {F : PF P} {Q : EX → List Value → World → Prop} {env : List Value} {w : World} : h3_34.wp F Q env w = HC.wp F (.seq (.reg (.eff (.call 12) (.cons (.inp 6) .nil) (.done [(13, (.bv 0))] none))) h3_33) Q env w := rfl
def h3_35 : HC := (.seq (.reg (.eff (.call 11) (.cons (.inp 4) .nil) (.done [(12, (.bv 0))] none))) h3_34)
@[simp] theorem h3_35_wp {P : Program} {F : PF P} {Q : EX → List Value → World → Prop} {env : List Value} {w : World} : h3_35.wp F Q env w = HC.wp F (.seq (.reg (.eff (.call 11) (.cons (.inp 4) .nil) (.done [(12, (.bv 0))] none))) h3_34) Q env w := rfl
def h3_36 : HC := (.seq (.reg (.chk none (.idxL 8) (.cons (.inp 1) (.cons (.inp 10) .nil)) (.eff (.ld true 8) (.cons (.op (.idxL 8) (.cons (.inp 1) (.cons (.inp 10) .nil))) .nil) (.eff (.new 48 (.agg #[(.int .i64 0), (.int .i64 0), (.slice none 0 0), (.int .i64 0), (.int .i64 0), (.int .u64 0), (.int .u64 0), (.slice none 0 0)])) .nil (.eff (.st 8) (.cons (.bv 1) (.cons (.bv 0) .nil)) (.done [(11, (.bv 1))] none)))))) h3_35)
@[simp] theorem h3_36_wp {P : Program} {F : PF P} {Q : EX → List Value → World → Prop} {env : List Value} {w : World} : h3_36.wp F Q env w = HC.wp F (.seq (.reg (.chk none (.idxL 8) (.cons (.inp 1) (.cons (.inp 10) .nil)) (.eff (.ld true 8) (.cons (.op (.idxL 8) (.cons (.inp 1) (.cons (.inp 10) .nil))) .nil) (.eff (.new 48 (.agg #[(.int .i64 0), (.int .i64 0), (.slice none 0 0), (.int .i64 0), (.int .i64 0), (.int .u64 0), (.int .u64 0), (.slice none 0 0)])) .nil (.eff (.st 8) (.cons (.bv 1) (.cons (.bv 0) .nil)) (.done [(11, (.bv 1))] none)))))) h3_35) Q env w := rfl
def h3_37 : HC := (.seq (.block 1 h3_36) h3_1)
@[simp] theorem h3_37_wp {P : Program} {F : PF P} {Q : EX → List Value → World → Prop} {env : List Value} {w : World} : h3_37.wp F Q env w = HC.wp F (.seq (.block 1 h3_36) h3_1) Q env w := rfl
def h3_38 : HC := (.seq (.br (.chk none .lenL (.cons (.inp 1) .nil) (.chk none (.bin .lss) (.cons (.inp 10) (.cons (.op .lenL (.cons (.inp 1) .nil)) .nil)) (.done [] (some (.op (.bin .lss) (.cons (.inp 10) (.cons (.op .lenL (.cons (.inp 1) .nil)) .nil))))))) .skip (.exit 0)) h3_37)
@[simp] theorem h3_38_wp {P : Program} {F : PF P} {Q : EX → List Value → World → Prop} {env : List Value} {w : World} : h3_38.wp F Q env w = HC.wp F (.seq (.br (.chk none .lenL (.cons (.inp 1) .nil) (.chk none (.bin .lss) (.cons (.inp 10) (.cons (.op .lenL (.cons (.inp 1) .nil)) .nil)) (.done [] (some (.op (.bin .lss) (.cons (.inp 10) (.cons (.op .lenL (.cons (.inp 1) .nil)) .nil))))))) .skip (.exit 0)) h3_37) Q env w := rfl
def h3_39 : HC := (.loop h3_38)
@[simp] theorem h3_39_wp {P : Program} {F : PF P} {Q : EX → List Value → World → Prop} {env : List Value} {w : World} : h3_39.wp F Q env w = HC.wp F (.loop h3_38) Q env w := rfl
def h3_40 : HC := (.seq (.block 0 h3_39) h3_0)
@[simp] theorem h3_40_wp {P : Program} {F : PF P} {Q : EX → List Value → World → Prop} {env : List Value} {w : World} : h3_40.wp F Q env w = HC.wp F (.seq (.block 0 h3_39) h3_0) Q env w := rfl
def h3_41 : HC := (.seq (.reg (.done [(10, (.cst (.int .i64 0)))] none)) h3_40)
@[simp] theorem h3_41_wp {P : Program} {F : PF P} {Q : EX → List Value → World → Prop} {env : List Value} {w : World} : h3_41.wp F Q env w = HC.wp F (.seq (.reg (.done [(10, (.cst (.int .i64 0)))] none)) h3_40) Q env w := rfl
def h3_42 : HC := (.seq (.reg (.chk none (.eqNil false (.pointer 95) (.pointer none)) (.cons (.inp 8) .nil) (.done [(3, (.op (.eqNil false (.pointer 95) (.pointer none)) (.cons (.inp 8) .nil)))] none))) .ret)
@[simp] theorem h3_42_wp {P : Program} {F : PF P} {Q : EX → List Value → World → Prop} {env : List Value} {w : World} : h3_42.wp F Q env w = HC.wp F (.seq (.reg (.chk none (.eqNil false (.pointer 95) (.pointer none)) (.cons (.inp 8) .nil) (.done [(3, (.op (.eqNil false (.pointer 95) (.pointer none)) (.cons (.inp 8) .nil)))] none))) .ret) Q env w := rfl
def h3_43 : HC := (.seq (.br (.chk none (.cal 8) (.cons (.inp 9) .nil) (.chk none (.bin .neq) (.cons (.op (.cal 8) (.cons (.inp 9) .nil)) (.cons (.cst (.int .i64 0)) .nil)) (.done [] (some (.op (.bin .neq) (.cons (.op (.cal 8) (.cons (.inp 9) .nil)) (.cons (.cst (.int .i64 0)) .nil))))))) h3_42 .skip) h3_41)
@[simp] theorem h3_43_wp {P : Program} {F : PF P} {Q : EX → List Value → World → Prop} {env : List Value} {w : World} : h3_43.wp F Q env w = HC.wp F (.seq (.br (.chk none (.cal 8) (.cons (.inp 9) .nil) (.chk none (.bin .neq) (.cons (.op (.cal 8) (.cons (.inp 9) .nil)) (.cons (.cst (.int .i64 0)) .nil)) (.done [] (some (.op (.bin .neq) (.cons (.op (.cal 8) (.cons (.inp 9) .nil)) (.cons (.cst (.int .i64 0)) .nil))))))) h3_42 .skip) h3_41) Q env w := rfl
def h3_44 : HC := (.seq (.reg (.chk none (.fld 5) (.cons (.inp 2) .nil) (.eff (.ld false 1) (.cons (.op (.fld 5) (.cons (.inp 2) .nil)) .nil) (.eff (.call 10) (.cons (.bv 0) .nil) (.eff (.call 9) (.cons (.inp 4) (.cons (.inp 6) (.cons (.bv 1) .nil))) (.chk none (.ext 0) (.cons (.bv 2) .nil) (.chk none (.ext 1) (.cons (.bv 2) .nil) (.done [(8, (.op (.ext 0) (.cons (.bv 2) .nil))), (9, (.op (.ext 1) (.cons (.bv 2) .nil)))] none)))))))) h3_43)
@[simp] theorem h3_44_wp {P : Program} {F : PF P} {Q : EX → List Value → World → Prop} {env : List Value} {w : World} : h3_44.wp F Q env w = HC.wp F (.seq (.reg (.chk none (.fld 5) (.cons (.inp 2) .nil) (.eff (.ld false 1) (.cons (.op (.fld 5) (.cons (.inp 2) .nil)) .nil) (.eff (.call 10) (.cons (.bv 0) .nil) (.eff (.call 9) (.cons (.inp 4) (.cons (.inp 6) (.cons (.bv 1) .nil))) (.chk none (.ext 0) (.cons (.bv 2) .nil) (.chk none (.ext 1) (.cons (.bv 2) .nil) (.done [(8, (.op (.ext 0) (.cons (.bv 2) .nil))), (9, (.op (.ext 1) (.cons (.bv 2) .nil)))] none)))))))) h3_43) Q env w := rfl
def h3_45 : HC := (.seq (.reg (.done [(3, (.cst (.bool true)))] none)) .ret)
@[simp] theorem h3_45_wp {P : Program} {F : PF P} {Q : EX → List Value → World → Prop} {env : List Value} {w : World} : h3_45.wp F Q env w = HC.wp F (.seq (.reg (.done [(3, (.cst (.bool true)))] none)) .ret) Q env w := rfl
def h3_46 : HC := (.seq (.br (.chk none (.cal 8) (.cons (.inp 5) .nil) (.chk none (.bin .neq) (.cons (.op (.cal 8) (.cons (.inp 5) .nil)) (.cons (.cst (.int .i64 0)) .nil)) (.bnd (.op (.bin .neq) (.cons (.op (.cal 8) (.cons (.inp 5) .nil)) (.cons (.cst (.int .i64 0)) .nil))) (.chk (some ((.bv 0), false)) (.cal 8) (.cons (.inp 7) .nil) (.chk (some ((.bv 0), false)) (.bin .neq) (.cons (.op (.cal 8) (.cons (.inp 7) .nil)) (.cons (.cst (.int .i64 0)) .nil)) (.isb none (.bv 0) (.done [] (some (.ite (.bv 0) true (.cst (.bool true)) (.op (.bin .neq) (.cons (.op (.cal 8) (.cons (.inp 7) .nil)) (.cons (.cst (.int .i64 0)) .nil)))))))))))) h3_45 .skip) h3_44)
@[simp] theorem h3_46_wp {P : Program} {F : PF P} {Q : EX → List Value → World → Prop} {env : List Value} {w : World} : h3_46.wp F Q env w = HC.wp F (.seq (.br (.chk none (.cal 8) (.cons (.inp 5) .nil) (.chk none (.bin .neq) (.cons (.op (.cal 8) (.cons (.inp 5) .nil)) (.cons (.cst (.int .i64 0)) .nil)) (.bnd (.op (.bin .neq) (.cons (.op (.cal 8) (.cons (.inp 5) .nil)) (.cons (.cst (.int .i64 0)) .nil))) (.chk (some ((.bv 0), false)) (.cal 8) (.cons (.inp 7) .nil) (.chk (some ((.bv 0), false)) (.bin .neq) (.cons (.op (.cal 8) (.cons (.inp 7) .nil)) (.cons (.cst (.int .i64 0)) .nil)) (.isb none (.bv 0) (.done [] (some (.ite (.bv 0) true (.cst (.bool true)) (.op (.bin .neq) (.cons (.op (.cal 8) (.cons (.inp 7) .nil)) (.cons (.cst (.int .i64 0)) .nil)))))))))))) h3_45 .skip) h3_44) Q env w := rfl
def h3_47 : HC := (.seq (.reg (.chk none (.fld 3) (.cons (.inp 2) .nil) (.eff (.ld false 1) (.cons (.op (.fld 3) (.cons (.inp 2) .nil)) .nil) (.chk none (.fld 4) (.cons (.inp 2) .nil) (.eff (.ld false 1) (.cons (.op (.fld 4) (.cons (.inp 2) .nil)) .nil) (.eff (.call 7) (.cons (.bv 0) (.cons (.bv 1) .nil)) (.chk none (.ext 0) (.cons (.bv 2) .nil) (.chk none (.ext 1) (.cons (.bv 2) .nil) (.done [(6, (.op (.ext 0) (.cons (.bv 2) .nil))), (7, (.op (.ext 1) (.cons (.bv 2) .nil)))] none))))))))) h3_46)
@[simp] theorem h3_47_wp {P : Program} {F : PF P} {Q : EX → List Value → World → Prop} {env : List Value} {w : World} : h3_47.wp F Q env w = HC.wp F (.seq (.reg (.chk none (.fld 3) (.cons (.inp 2) .nil) (.eff (.ld false 1) (.cons (.op (.fld 3) (.cons (.inp 2) .nil)) .nil) (.chk none (.fld 4) (.cons (.inp 2) .nil) (.eff (.ld false 1) (.cons (.op (.fld 4) (.cons (.inp 2) .nil)) .nil) (.eff (.call 7) (.cons (.bv 0) (.cons (.bv 1) .nil)) (.chk none (.ext 0) (.cons (.bv 2) .nil) (.chk none (.ext 1) (.cons (.bv 2) .nil) (.done [(6, (.op (.ext 0) (.cons (.bv 2) .nil))), (7, (.op (.ext 1) (.cons (.bv 2) .nil)))] none))))))))) h3_46) Q env w := rfl
def h3_48 : HC := (.seq (.reg (.chk none (.fld 0) (.cons (.inp 2) .nil) (.eff (.ld false 1) (.cons (.op (.fld 0) (.cons (.inp 2) .nil)) .nil) (.chk none (.fld 1) (.cons (.inp 2) .nil) (.eff (.ld false 1) (.cons (.op (.fld 1) (.cons (.inp 2) .nil)) .nil) (.chk none (.fld 2) (.cons (.inp 2) .nil) (.eff (.ld false 1) (.cons (.op (.fld 2) (.cons (.inp 2) .nil)) .nil) (.eff (.call 6) (.cons (.bv 0) (.cons (.bv 1) (.cons (.bv 2) .nil))) (.chk none (.ext 0) (.cons (.bv 3) .nil) (.chk none (.ext 1) (.cons (.bv 3) .nil) (.done [(4, (.op (.ext 0) (.cons (.bv 3) .nil))), (5, (.op (.ext 1) (.cons (.bv 3) .nil)))] none))))))))))) h3_47)
@[simp] theorem h3_48_wp {P : Program} {F : PF P} {Q : EX → List Value → World → Prop} {env : List Value} {w : World} : h3_48.wp F Q env w = HC.wp F (.seq (.reg (.chk none (.fld 0) (.cons (.inp 2) .nil) (.eff (.ld false 1) (.cons (.op (.fld 0) (.cons (.inp 2) .nil)) .nil) (.chk none (.fld 1) (.cons (.inp 2) .nil) (.eff (.ld false 1) (.cons (.op (.fld 1) (.cons (.inp 2) .nil)) .nil) (.chk none (.fld 2) (.cons (.inp 2) .nil) (.eff (.ld false 1) (.cons (.op (.fld 2) (.cons (.inp 2) .nil)) .nil) (.eff (.call 6) (.cons (.bv 0) (.cons (.bv 1) (.cons (.bv 2) .nil))) (.chk none (.ext 0) (.cons (.bv 3) .nil) (.chk none (.ext 1) (.cons (.bv 3) .nil) (.done [(4, (.op (.ext 0) (.cons (.bv 3) .nil))), (5, (.op (.ext 1) (.cons (.bv 3) .nil)))] none))))))))))) h3_47) Q env w := rfl
def h3_49 : HC := (.seq (.reg (.done [(3, (.cst (.bool false)))] none)) .ret)
@[simp] theorem h3_49_wp {P : Program} {F : PF P} {Q : EX → List Value → World → Prop} {env : List Value} {w : World} : h3_49.wp F Q env w = HC.wp F (.seq (.reg (.done [(3, (.cst (.bool false)))] none)) .ret) Q env w := rfl
def h3_50 : HC := (.seq (.br (.eff (.call 5) .nil (.chk none (.un .not) (.cons (.bv 0) .nil) (.done [] (some (.op (.un .not) (.cons (.bv 0) .nil)))))) h3_49 .skip) h3_48)
@[simp] theorem h3_50_wp {P : Program} {F : PF P} {Q : EX → List Value → World → Prop} {env : List Value} {w : World} : h3_50.wp F Q env w = HC.wp F (.seq (.br (.eff (.call 5) .nil (.chk none (.un .not) (.cons (.bv 0) .nil) (.done [] (some (.op (.un .not) (.cons (.bv 0) .nil)))))) h3_49 .skip) h3_48) Q env w := rfl
def l3 : Lifted := ⟨[0, 1, 2, 4, 5, 6, 7, 8, 9, 10, 11, 12, 13, 14, 15, 16, 17, 18, 19, 20, 21, 22, 23], 225, [.slot 3], (.seq (.reg (.eff (.box 27) (.cons (.inp 0) .nil) (.done [(2, (.bv 0)), (3, (.cst (.bool false)))] none))) h3_50)⟩
theorem l3_ok : liftFn E2 3 400 = some l3 := by kernel_rfl


def tailC (B : Asn) (w0 : World) (E : Eco) (cv : Int) : List Value → World → Prop
  | [], w => St w0 B w
  | [r], w => r = .int .u64 cv ∧ St w0 B w
  | [_, r], w => St w0 (B * own 98 2 r E.l.length (rflat E.l)) w
  | [_, _, r], w => r = .bool true ∧ St w0 B w
  | [_, _, _, r], w => St w0 (B * own 98 2 r E.l.length (rflat E.l)) w
  | [_, _, _, _, r], w => r = .int .u64 E.P.held ∧ St w0 B w
  | [_, _, _, _, _, r], w => r = .int .u64 E.P.held ∧ St w0 B w
  | _, _ => False
theorem tail_base {B : Asn} {w0 : World} {E : Eco} {cv : Int} {vs : List Value} {R : World → Prop} (hv : vs.length < 6) (h : ∀ w, St w0 B w → R w) : ∀ vs' w, era 6 vs' = era 6 vs → tailC B w0 E cv vs' w → R w := by
  intro vs' w he hw
  match vs', hw with
  | [], hw => exact h w hw
  | [_], hw => exact h w hw.2
  | [_, _], hw => exact h w (St.drop hw)
  | [_, _, _], hw => exact h w hw.2
  | [_, _, _, _], hw => exact h w (St.drop hw)
  | [_, _, _, _, _], hw => exact h w hw.2
  | [_, _, _, _, _, _], hw => exact h w hw.2
  | _ :: _ :: _ :: _ :: _ :: _ :: _ :: _, hw => exact hw.elim
section
variable (Q : EX → List Value → World → Prop) (p g s c : Nat) (lp lg own inn no : Int) (o : So) (E0 E : Eco) (vh : Value) (w0 w : World) (B : Asn) (o0 o1 o2 o3 o5 o7 o9 o10 o12 o13 o17 o18 o19 o21 o22 : Value)
/-- what is asked at last: the contract, the others, what is held -/
theorem all_tail (hE : EI lp lg E) (h0 : w0.drawn = 0) (hn0 : E0.l.length ≤ 4194304) (hn : E.l.length ≤ 4194304) (hc : ∀ w, St w0 B w → ∀ j u, o.cs[j]? = some u → w.cell? ⟨c, j, none⟩ = some u)
    (hh : Row w0 B vh E0.l.length 2 (rflat E0.l)) (e1 : cns E.l o.con = IntKind.u64.wrap (own + inn)) (e2 : del o.con E0.l = del o.con E.l) (e3 : no = 0 → o.kind = 3 → cns E.l o.con = 0 ∧ Gd.inF E.its o.con = [])
    (h : St w0 (B * ecoA p g s lg E) w)
    (hQ : ∀ w', St w0 (B * ecoA p g s lg E) w' → Q .nrm [o0, o1, o2, o3, .pointer (some ⟨p, 0, none⟩), o5, .pointer (some ⟨g, 0, none⟩), o7, .pointer (some ⟨s, 0, none⟩), o9, o10, .pointer (some ⟨c, 0, none⟩), o12, o13, vh, .int .u64 own, .int .i64 no, o17, o18, o19, .int .u64 inn, o21, o22] w') :
    HC.wp E2 h3_5 Q [o0, o1, o2, o3, .pointer (some ⟨p, 0, none⟩), o5, .pointer (some ⟨g, 0, none⟩), o7, .pointer (some ⟨s, 0, none⟩), o9, o10, .pointer (some ⟨c, 0, none⟩), o12, o13, vh, .int .u64 own, .int .i64 no, o17, o18, o19, .int .u64 inn, o21, o22] w := by
  have coins : ∀ {w : World}, St w0 (B * ecoA p g s lg E) w → CallW Tryz.prog 14 [.pointer (some ⟨s, 0, none⟩), .int .i64 o.con] (fun r w' => r = .int .u64 (IntKind.u64.wrap (own + inn)) ∧ St w0 (B * ecoA p g s lg E) w') w := fun {w} s1 => by
    refine (Coins_spec s p g E.l o.con w0 w (B * Pu.pur p E.P * Gd.gds g lg E.its) hE.R (s1.to (by simp only [ecoA]; ac_rfl))).mono ?_
    rintro r w' ⟨rfl, rfl⟩
    exact ⟨by rw [e1], s1⟩
  have rows : ∀ {w : World}, St w0 (B * ecoA p g s lg E) w → CallW Tryz.prog 13 [.pointer (some ⟨s, 0, none⟩)] (fun r w' => St w0 (B * ecoA p g s lg E * HL.own 98 2 r E.l.length (rflat E.l)) w') w := fun {w} s1 => by
    refine (Rows_spec s p g E.l w0 w (B * Pu.pur p E.P * Gd.gds g lg E.its) h0 hE.R hn (s1.to (by simp only [ecoA]; ac_rfl))).mono ?_
    intro r w' s2
    exact s2.to (by simp only [ecoA]; ac_rfl)
  have held : ∀ {w : World}, St w0 (B * ecoA p g s lg E) w → CallW Tryz.prog 21 [.pointer (some ⟨p, 0, none⟩)] (fun r w' => r = .int .u64 E.P.held ∧ St w0 (B * ecoA p g s lg E) w') w := fun {w} s1 => by
    refine (Pu.Held_spec p E.P w0 w (B * Gd.gds g lg E.its * esc s p g E.l) (s1.to (by simp only [ecoA]; ac_rfl))).mono ?_
    rintro r w' ⟨rfl, s2⟩
    exact ⟨rfl, s2.to (by simp only [ecoA]; ac_rfl)⟩
  have hb := hE.P.bd.held
  have hsum := hE.sum
  simp
  refine brmI (tailC (B * ecoA p g s lg E) w0 E (IntKind.u64.wrap (own + inn))) h.drew ?_
  simp
  refine effm_ldc (v := .int .i64 o.con) (tail_base (by simp) fun w s => hc w s.drop 1 _ rfl) ?_
  simp
  refine effm_mv rfl (fun w hw => eff_call (coins hw)) (fun r1 h1 => ?_)
  obtain ⟨_, rfl, _⟩ := h1
  simp
  refine effm_mv rfl (fun w hw => eff_call (rows hw.2)) (fun r2 _ => ?_)
  simp
  refine effm_ldc (v := .int .i64 o.con) (tail_base (by simp) fun w s => hc w s.drop 1 _ rfl) ?_
  simp
  refine effm_mv rfl (fun w hw => eff_call ((others_spec E0.l E.l vh r2 o.con w0 w _ hn0 hn (hh.mono fun w s => s.drop.drop) (row_own hw) hw).mono ?_)) (fun r3 h3 => ?_)
  · rintro r w' ⟨rfl, h⟩; exact ⟨by rw [e2]; simp, h.drop⟩
  obtain ⟨_, rfl, _⟩ := h3
  simp
  refine effm_mv rfl (fun w hw => eff_call (rows hw.2)) (fun r4 _ => ?_)
  simp
  refine effm_mv rfl (fun w hw => eff_call ((sum_spec E.l r4 w0 w _ hn (row_own hw) hw).mono ?_)) (fun r5 h5 => ?_)
  · rintro r w' ⟨rfl, h⟩; exact ⟨by rw [hsum, Int.emod_eq_of_lt (by omega) (by omega)], St.drop h⟩
  obtain ⟨_, rfl, _⟩ := h5
  simp
  refine effm_mv rfl (fun w hw => eff_call (held hw.2)) (fun r6 h6 => ?_)
  obtain ⟨_, rfl, _⟩ := h6
  simp
  rintro w2 ⟨_, s2⟩
  by_cases hno : no = 0
  · simp [hno]
    refine eff_ldc (v := .int .i64 o.kind) (hc _ s2.drop 0 _ rfl) ?_
    simp
    by_cases hk : o.kind = 3
    · simp [hk]
      obtain ⟨z1, z2⟩ := e3 hno hk
      refine eff_ldc (v := .int .i64 o.con) (hc _ s2.drop 1 _ rfl) ?_
      simp
      refine eff_call ((coins s2).mono ?_)
      rintro r w3 ⟨rfl, s3⟩
      rw [← e1, z1]
      simp
      refine eff_ldc (v := .int .i64 o.con) (hc _ s3.drop 1 _ rfl) ?_
      simp
      refine eff_call ((Items_spec p g s lp lg o.con E w0 w3 B hE s3).mono ?_)
      intro r1 w4 s4
      obtain ⟨ia, ic, rfl, _⟩ := s4.own_val
      simp [z2]
      have := hQ w4 s4.drop
      simpa [hno] using this
    · simp [hk]
      have := hQ w2 s2
      simpa [hno] using this
  · simp [hno]
    exact hQ w2 s2
end
end Go.HL.Es

namespace Go.HL.Es
open Go.HL Go.Proofs
set_option maxRecDepth 4000
set_option linter.unusedSimpArgs false
set_option linter.unusedVariables false
section
variable (Q : EX → List Value → World → Prop) (p g s c : Nat) (lp lg own inn no : Int) (o : So) (E0 E : Eco) (vh : Value) (w0 w : World) (B : Asn) (a12 a13 a18 a19 : Option Addr) (c12 c13 c18 c19 : Nat) (o0 o1 o2 o3 o5 o7 o9 o10 o17 o20 o21 o22 z0 : Value)
/-- each item where the step puts it -/
theorem all_items (hE : EI lp lg E) (h0 : w0.drawn = 0) (hn0 : E0.l.length ≤ 4194304) (hn : E.l.length ≤ 4194304) (hc : ∀ w, St w0 B w → ∀ j u, o.cs[j]? = some u → w.cell? ⟨c, j, none⟩ = some u)
    (hh : Row w0 B vh E0.l.length 2 (rflat E0.l)) (e1 : cns E.l o.con = IntKind.u64.wrap (own + inn)) (e2 : del o.con E0.l = del o.con E.l) (e3 : no = 0 → o.kind = 3 → cns E.l o.con = 0 ∧ Gd.inF E.its o.con = [])
    (ho : o.ok w0 B) (hi0 : E0.its.length ≤ 1048576) (h13 : Row w0 B (.slice a13 E0.its.length c13) E0.its.length 4 (Gd.flat E0.its)) (h19 : Row w0 B (.slice a19 E.its.length c19) E.its.length 4 (Gd.flat E.its)) (e4 : E.its = E0.its.map (whereF o))
    (h : St w0 (B * ecoA p g s lg E) w)
    (hQ : ∀ (z : Value) (w' : World), St w0 (B * ecoA p g s lg E) w' → Q .nrm [o0, o1, o2, o3, .pointer (some ⟨p, 0, none⟩), o5, .pointer (some ⟨g, 0, none⟩), o7, .pointer (some ⟨s, 0, none⟩), o9, o10, .pointer (some ⟨c, 0, none⟩), o20, .slice a13 E0.its.length c13, vh, .int .u64 own, .int .i64 no, o17, o22, .slice a19 E.its.length c19, .int .u64 inn, o21, z] w') :
    HC.wp E2 h3_13 Q [o0, o1, o2, o3, .pointer (some ⟨p, 0, none⟩), o5, .pointer (some ⟨g, 0, none⟩), o7, .pointer (some ⟨s, 0, none⟩), o9, o10, .pointer (some ⟨c, 0, none⟩), o20, .slice a13 E0.its.length c13, vh, .int .u64 own, .int .i64 no, o17, o22, .slice a19 E.its.length c19, .int .u64 inn, o21, z0] w := by
  have hlen : E.its.length = E0.its.length := by rw [e4, List.length_map]
  simp
  refine loopI (fun env w' => ∃ (k : Nat), env = [o0, o1, o2, o3, .pointer (some ⟨p, 0, none⟩), o5, .pointer (some ⟨g, 0, none⟩), o7, .pointer (some ⟨s, 0, none⟩), o9, o10, .pointer (some ⟨c, 0, none⟩), o20, .slice a13 E0.its.length c13, vh, .int .u64 own, .int .i64 no, o17, o22, .slice a19 E.its.length c19, .int .u64 inn, o21, .int .i64 k] ∧ k ≤ E0.its.length ∧ St w0 (B * ecoA p g s lg E) w')
    (fun env _ => E0.its.length - slotN env 22) ⟨0, rfl, by omega, h⟩ ?_
  clear h
  rintro LQ env w' ⟨k, rfl, hk, s1⟩ hN hX hR
  simp
  refine cndI (fun hlt => ?_) (fun hlt => ?_)
  · simp at hlt
    have hlt2 : k < E.its.length := by omega
    obtain ⟨g1, q1, cc1, v1, k1⟩ := h13.at (by omega)
    cases v1
    obtain ⟨g2, q2, cc2, v2, k2⟩ := h19.at (by omega)
    cases v2
    have hitk : E.its[k] = whereF o E0.its[k] := by rw [List.getElem_of_eq e4 hlt2, List.getElem_map]
    simp
    refine brqI s1 ?_
    simp [hlt2]
    refine effq_ldcs (vs := E.its[k].cs) (fun w s j u hu => by rw [Nat.add_assoc]; exact k2 w s.drop _ _ (Gd.flat_at hlt2 j u hu)) rfl ?_
    simp
    refine effq_ldcs (vs := o.cs) (fun w s j u hu => by rw [Nat.zero_add]; exact hc w s.drop j u hu) rfl ?_
    simp [hlt]
    refine effq_ldcs (vs := E0.its[k].cs) (fun w s j u hu => by rw [Nat.add_assoc]; exact k1 w s.drop _ _ (Gd.flat_at hlt j u hu)) rfl ?_
    simp
    refine effq_call (fun w s => where_spec o E0.its[k] w0 w _ (ho.mono fun w s => s.drop) s) ?_
    simp
    refine effq_neqS Gd.itemT _ _ rfl rfl E.its[k].cs_holds (whereF o E0.its[k]).cs_holds ?_
    rw [Gd.It.list_eq, hitk]
    simp
    intro w2 s2
    try simp (disch := omega) only [wrap64]
    exact hN _ _ ⟨k + 1, by simp, by omega, s2⟩ (by simp [slotN]; omega)
  · simp at hlt
    simp
    refine hX _ _ _ ?_
    have := all_tail Q p g s c lp lg own inn no o E0 E vh w0 w' B o0 o1 o2 o3 o5 o7 o9 o10 o20 (.slice a13 E0.its.length c13) o17 o22 (.slice a19 E.its.length c19) o21 (.int .i64 k) hE h0 hn0 hn hc hh e1 e2 e3 s1 (fun w' s => hQ _ w' s)
    simpa using this
/-- each account turned as_ the step says -/
theorem all_accs (hE : EI lp lg E) (h0 : w0.drawn = 0) (hn0 : E0.l.length ≤ 4194304) (hn : E.l.length ≤ 4194304) (hc : ∀ w, St w0 B w → ∀ j u, o.cs[j]? = some u → w.cell? ⟨c, j, none⟩ = some u)
    (hh : Row w0 B vh E0.l.length 2 (rflat E0.l)) (e1 : cns E.l o.con = IntKind.u64.wrap (own + IntKind.u64.wrap (-(sumN (fun j => turnedF o j) E0.P.rows.length)))) (e2 : del o.con E0.l = del o.con E.l) (e3 : no = 0 → o.kind = 3 → cns E.l o.con = 0 ∧ Gd.inF E.its o.con = [])
    (ho : o.ok w0 B) (hi0 : E0.its.length ≤ 1048576) (h13 : Row w0 B (.slice a13 E0.its.length c13) E0.its.length 4 (Gd.flat E0.its)) (h19 : Row w0 B (.slice a19 E.its.length c19) E.its.length 4 (Gd.flat E.its)) (e4 : E.its = E0.its.map (whereF o))
    (hp0 : E0.P.rows.length ≤ 1048576) (h12 : Row w0 B (.slice a12 E0.P.rows.length c12) E0.P.rows.length 2 (Pu.flat E0.P.rows)) (h18 : Row w0 B (.slice a18 E.P.rows.length c18) E.P.rows.length 2 (Pu.flat E.P.rows)) (e5 : E.P.rows.length = E0.P.rows.length)
    (e6 : ∀ k (h0 : k < E0.P.rows.length) (h : k < E.P.rows.length), E.P.rows[k].coins = IntKind.u64.wrap (E0.P.rows[k].coins + turnedF o k) ∧ E.P.rows[k].name = E0.P.rows[k].name)
    (h : St w0 (B * ecoA p g s lg E) w)
    (hQ : ∀ (x y z : Value) (w' : World), St w0 (B * ecoA p g s lg E) w' → Q .nrm [o0, o1, o2, o3, .pointer (some ⟨p, 0, none⟩), o5, .pointer (some ⟨g, 0, none⟩), o7, .pointer (some ⟨s, 0, none⟩), o9, o10, .pointer (some ⟨c, 0, none⟩), .slice a12 E0.P.rows.length c12, .slice a13 E0.its.length c13, vh, .int .u64 own, .int .i64 no, o17, .slice a18 E.P.rows.length c18, .slice a19 E.its.length c19, x, y, z] w') :
    HC.wp E2 h3_23 Q [o0, o1, o2, o3, .pointer (some ⟨p, 0, none⟩), o5, .pointer (some ⟨g, 0, none⟩), o7, .pointer (some ⟨s, 0, none⟩), o9, o10, .pointer (some ⟨c, 0, none⟩), .slice a12 E0.P.rows.length c12, .slice a13 E0.its.length c13, vh, .int .u64 own, .int .i64 no, o17, .slice a18 E.P.rows.length c18, .slice a19 E.its.length c19, o20, o21, z0] w := by
  simp
  refine loopI (fun env w' => ∃ (k : Nat), env = [o0, o1, o2, o3, .pointer (some ⟨p, 0, none⟩), o5, .pointer (some ⟨g, 0, none⟩), o7, .pointer (some ⟨s, 0, none⟩), o9, o10, .pointer (some ⟨c, 0, none⟩), .slice a12 E0.P.rows.length c12, .slice a13 E0.its.length c13, vh, .int .u64 own, .int .i64 no, o17, .slice a18 E.P.rows.length c18, .slice a19 E.its.length c19, .int .u64 (IntKind.u64.wrap (-(sumN (fun j => turnedF o j) k))), .int .i64 k, z0] ∧ k ≤ E0.P.rows.length ∧ St w0 (B * ecoA p g s lg E) w')
    (fun env _ => E0.P.rows.length - slotN env 21) ⟨0, by simp [sumN, wrapU], by omega, h⟩ ?_
  clear h
  rintro LQ env w' ⟨k, rfl, hk, s1⟩ hN hX hR
  simp
  refine cndI (fun hlt => ?_) (fun hlt => ?_)
  · simp at hlt
    have hlt2 : k < E.P.rows.length := by omega
    obtain ⟨g1, q1, cc1, v1, k1⟩ := h12.at (by omega)
    cases v1
    obtain ⟨g2, q2, cc2, v2, k2⟩ := h18.at (by omega)
    cases v2
    obtain ⟨f1, f2⟩ := e6 k hlt hlt2
    simp
    refine eff_ldcs (vs := o.cs) (fun j u hu => by rw [Nat.zero_add]; exact hc _ s1.drop j u hu) rfl ?_
    simp
    refine eff_call ((turned_spec o k w0 w' _ (ho.mono fun w s => s.drop) s1).mono ?_)
    rintro r w1 ⟨rfl, s2⟩
    simp
    have es : IntKind.u64.wrap (IntKind.u64.wrap (-(sumN (fun j => turnedF o j) k)) - turnedF o k) = IntKind.u64.wrap (-(sumN (fun j => turnedF o j) (k + 1))) := by
      rw [wrapU, wrapU, wrapU, Int.emod_sub_emod]
      congr 1
      simp only [sumN]; omega
    rw [es]
    refine brqI s2 ?_
    simp [hlt2]
    refine effq_ldc (v := .int .u64 E.P.rows[k].coins) (fun w s => by have := k2 w s.drop (k * 2 + 1) _ (Pu.flat_at hlt2 1 _ rfl); rw [← Nat.add_assoc] at this; exact this) ?_
    simp [hlt]
    refine effq_ldc (v := .int .u64 E0.P.rows[k].coins) (fun w s => by have := k1 w s.drop (k * 2 + 1) _ (Pu.flat_at hlt 1 _ rfl); rw [← Nat.add_assoc] at this; exact this) ?_
    simp
    refine effq_ldcs (vs := o.cs) (fun w s j u hu => by rw [Nat.zero_add]; exact hc w s.drop j u hu) rfl ?_
    simp
    refine effq_call (fun w s => turned_spec o k w0 w _ (ho.mono fun w s => s.drop) s) ?_
    simp [f1, hlt2]
    refine effq_ldc (v := .string (mk E.P.rows[k].name)) (fun w s => by have := k2 w s.drop (k * 2 + 0) _ (Pu.flat_at hlt2 0 _ rfl); simpa using this) ?_
    simp [hlt]
    refine effq_ldc (v := .string (mk E0.P.rows[k].name)) (fun w s => by have := k1 w s.drop (k * 2 + 0) _ (Pu.flat_at hlt 0 _ rfl); simpa using this) ?_
    simp [f2]
    intro w2 s3
    try simp (disch := omega) only [wrap64]
    exact hN _ _ ⟨k + 1, by simp, by omega, s3⟩ (by simp [slotN]; omega)
  · simp at hlt
    simp
    refine hX _ _ _ ?_
    obtain rfl : k = E0.P.rows.length := by omega
    have := all_items Q p g s c lp lg own (IntKind.u64.wrap (-(sumN (fun j => turnedF o j) E0.P.rows.length))) no o E0 E vh w0 w' B a13 a19 c13 c19 o0 o1 o2 o3 o5 o7 o9 o10 o17 (.slice a12 E0.P.rows.length c12) (.int .i64 E0.P.rows.length) (.slice a18 E.P.rows.length c18) z0 hE h0 hn0 hn hc hh e1 e2 e3 ho hi0 h13 h19 e4 s1 (fun z w' s => hQ _ _ z w' s)
    simpa using this
end
end Go.HL.Es

namespace Go.HL.Es
open Go.HL Go.Proofs
set_option maxRecDepth 4000
set_option linter.unusedSimpArgs false
set_option linter.unusedVariables false
theorem Moves.congr {c d d' : Int} {E E' : Eco} {T T' : Int → Int} {f f' : Gd.It → Gd.It} (h : Moves c E E' T f d) (h1 : ∀ k, T k = T' k) (h2 : ∀ it, f it = f' it) (h3 : d = d') : Moves c E E' T' f' d' := by
  have e1 : T = T' := funext h1
  have e2 : f = f' := funext h2
  subst e1; subst e2; subst h3
  exact h
def soT (o : So) (k : Int) : Int := (if o.kind = 1 then 0 else toK k o.gs) - (if o.kind ≠ 3 ∧ o.e.x.acc = k then o.e.x.coins else 0)
theorem whereF_put {o : So} (h : o.kind = 1) (it : Gd.It) : whereF o it = eW o.con o.e.x it := by
  unfold whereF whereG
  rw [if_pos (by omega), if_pos h]
theorem whereF_turn {o : So} (h : o.kind = 2) (it : Gd.It) : whereF o it = eW o.con o.e.x (gsW o.gs it) := by
  unfold whereF whereG
  rw [if_pos (by omega), if_neg (by omega), List.take_length]
theorem whereF_end {o : So} (h : o.kind = 3) (it : Gd.It) : whereF o it = gsW o.gs it := by
  unfold whereF whereG
  rw [if_neg (by omega), if_neg (by omega), List.take_length]
theorem end_moves {c : Int} {E : Eco} : Moves c E (endE c E).2 (fun _ => 0) id 0 := Moves.refl c E
/-- the step as_ it is told behind it -/
def toldF (o : So) (no : Int) : So := if no = 0 then o else ⟨3, o.con, .slice none 0 0, [], ⟨⟨0, 0, 0⟩, 0, .slice none 0 0⟩⟩
theorem toldF_con (o : So) (no : Int) : (toldF o no).con = o.con := by unfold toldF; split <;> rfl
theorem does_moves {lp lg : Int} {o : So} {E : Eco} {w0 : World} {A : Asn} (hE : EI lp lg E) (ho : o.ok w0 A) (hk : (doesF o E).2.1 = true) :
    EI lp lg (doesF o E).2.2 ∧ (∃ d, Moves o.con E (doesF o E).2.2 (soT (toldF o (doesF o E).1)) (whereF (toldF o (doesF o E).1)) d) ∧
      ((doesF o E).1 = 0 → (toldF o (doesF o E).1).kind = 3 → cns (doesF o E).2.2.l o.con = 0 ∧ Gd.inF (doesF o E).2.2.its o.con = []) := by
  have hcon := ho.con.2
  have hgs : ∀ x ∈ o.gs, 0 ≤ x.coins := fun x hx => (ho.gs x hx).1
  have bad : ∀ {no : Int}, no ≠ 0 → ∃ d, Moves o.con E E (soT (toldF o no)) (whereF (toldF o no)) d := fun {no} hno => by
    refine ⟨0, (Moves.refl o.con E).congr (fun k => ?_) (fun it => ?_) rfl⟩
    · unfold toldF; rw [if_neg hno]; simp [soT, toK]
    · unfold toldF; rw [if_neg hno, whereF_end rfl]; rfl
  unfold doesF at hk ⊢
  split
  · rename_i h1
    simp only
    refine ⟨turn_ei hE hcon (by simp) fun E q h => put_ei h ⟨q, hcon⟩ ho.coins, ?_, ?_⟩
    · by_cases h0 : (turnF o.con [] (putE o.con o.e.x) E).1 = 0
      · have ht : toldF o (turnF o.con [] (putE o.con o.e.x) E).1 = o := by unfold toldF; rw [if_pos h0]
        rw [ht]
        exact ⟨_, (turn_moves hE hcon (by simp) (fun E q h hz => put_moves h ⟨q, hcon⟩ ho.coins.1 hz) h0).2.congr (fun k => by unfold soT; rw [if_pos h1]; simp only [toK]; by_cases ha : o.e.x.acc = k <;> simp [ha, h1]) (fun it => by rw [whereF_put h1]; rfl) rfl⟩
      · rw [turn_no h0]; exact bad h0
    · intro h0 h3
      rw [toldF, if_pos h0] at h3
      omega
  split
  · rename_i h1 h2
    simp only
    refine ⟨turn_ei hE hcon hgs fun E q h => put_ei h ⟨q, hcon⟩ ho.coins, ?_, ?_⟩
    · by_cases h0 : (turnF o.con o.gs (putE o.con o.e.x) E).1 = 0
      · have ht : toldF o (turnF o.con o.gs (putE o.con o.e.x) E).1 = o := by unfold toldF; rw [if_pos h0]
        rw [ht]
        exact ⟨_, (turn_moves hE hcon hgs (fun E q h hz => put_moves h ⟨q, hcon⟩ ho.coins.1 hz) h0).2.congr (fun k => by unfold soT; rw [if_neg h1]; by_cases ha : o.e.x.acc = k <;> simp [ha, h2] <;> omega) (fun it => by rw [whereF_turn h2]) rfl⟩
      · rw [turn_no h0]; exact bad h0
    · intro h0 h3
      rw [toldF, if_pos h0] at h3
      omega
  split
  · rename_i h1 h2 h3
    simp only
    refine ⟨turn_ei hE hcon hgs fun E q h => h, ?_, ?_⟩
    · by_cases h0 : (turnF o.con o.gs (endE o.con) E).1 = 0
      · have ht : toldF o (turnF o.con o.gs (endE o.con) E).1 = o := by unfold toldF; rw [if_pos h0]
        rw [ht]
        exact ⟨_, (turn_moves hE hcon hgs (fun E q h hz => end_moves) h0).2.congr (fun k => by unfold soT; rw [if_neg h1]; simp [h3]) (fun it => by rw [whereF_end h3]; rfl) rfl⟩
      · rw [turn_no h0]; exact bad h0
    · intro h0 _
      unfold turnF at h0 ⊢
      split at h0
      · cases h0
      rename_i q1
      split at h0
      · rename_i q2; exact absurd h0 q2
      rename_i q2
      split at h0
      · rename_i q3; exact absurd h0 q3
      rename_i q3
      rw [if_neg q1, if_neg q2, if_neg q3]
      unfold endE at q3 ⊢
      simp only at q3 ⊢
      split at q3
      · simp at q3
      · rename_i q4
        simp only [not_or, Decidable.not_not] at q4
        exact ⟨q4.1, List.length_eq_zero_iff.1 q4.2⟩
  · rename_i h1 h2 h3
    rw [if_neg h1, if_neg h2, if_neg h3] at hk
    cases hk
theorem sumN_mod (T : Int → Int) : ∀ n, sumN (fun k => T k % 18446744073709551616) n % 18446744073709551616 = sumN T n % 18446744073709551616
  | 0 => rfl
  | n + 1 => by
    simp only [sumN]
    have := sumN_mod T n
    omega
/-- the contract's coins turn by what the accounts do not -/
theorem cns_moves {lp lg c d : Int} {E E' : Eco} {T : Int → Int} {f : Gd.It → Gd.It} (h : Moves c E E' T f d) (hE : EI lp lg E') :
    cns E'.l c = IntKind.u64.wrap (cns E.l c + IntKind.u64.wrap (-(sumN (fun k => T k % 18446744073709551616) E.P.rows.length))) := by
  have hb := hE.cns_bd c
  have h1 := sumN_mod T E.P.rows.length
  have h2 := h.all
  have h3 := h.cns
  rw [wrapU, wrapU]
  omega
theorem coin_moves {lp lg c d : Int} {E E' : Eco} {T : Int → Int} {f : Gd.It → Gd.It} (h : Moves c E E' T f d) (hE : EI lp lg E') (k : Nat) (h0 : k < E.P.rows.length) (h1 : k < E'.P.rows.length) :
    E'.P.rows[k].coins = IntKind.u64.wrap (E.P.rows[k].coins + T k % 18446744073709551616) ∧ E'.P.rows[k].name = E.P.rows[k].name := by
  have hc := h.coin k h0
  have hn := h.name k h0
  unfold Pu.coin at hc
  simp only [List.getD_eq_getElem?_getD, List.getElem?_eq_getElem h0, List.getElem?_eq_getElem h1, Option.getD_some] at hc hn
  refine ⟨?_, hn⟩
  have hb := hE.P.bd.coins k h1
  simp only [List.getD_eq_getElem?_getD, List.getElem?_eq_getElem h1, Option.getD_some] at hb
  rw [wrapU]
  omega
theorem rows_len {l : List Rw} {c : Int} (h : RwOK l) : l.length ≤ (del c l).length + 1 := by
  have key : ∀ l : List Rw, l.Pairwise (fun a b => a.1 ≠ b.1) → l.length ≤ (del c l).length + 1 := by
    intro l
    induction l with
    | nil => intro _; simp
    | cons r t ih =>
      intro hp
      obtain ⟨h1, h2⟩ := List.pairwise_cons.1 hp
      by_cases e : r.1 = c
      · have : del c (r :: t) = del c t := by simp [del, e]
        rw [this, del_none fun x hx => by have := h1 x hx; omega]
        simp
      · have : del c (r :: t) = r :: del c t := by simp [del, e]
        rw [this]
        have := ih h2
        simp; omega
  exact key l h.ne
theorem len_moves {lp lg c d : Int} {E E' : Eco} {T : Int → Int} {f : Gd.It → Gd.It} (h : Moves c E E' T f d) (hE : EI lp lg E') : E'.l.length ≤ E.l.length + 1 := by
  have h1 := rows_len (c := c) hE.R
  rw [h.rest] at h1
  have h2 : (del c E.l).length ≤ E.l.length := List.length_filter_le _ _
  omega
end Go.HL.Es

namespace Go.HL.Es
open Go.HL Go.Proofs
set_option maxRecDepth 4000
set_option linter.unusedSimpArgs false
set_option linter.unusedVariables false
theorem told_ok {o : So} {w0 : World} {A : Asn} (h : o.ok w0 A) (no : Int) : (toldF o no).ok w0 A := by
  unfold toldF
  split
  · exact h
  · exact ⟨h.con, rfl, row_nil w0 _ 3, by simp, by simp, rfl, by simp⟩
section
variable (Q : EX → List Value → World → Prop) (p g s b c : Nat) (lp lg own no sup d : Int) (o : So) (E0 E : Eco) (w0 w : World) (A : Asn) (a12 a13 a14 : Option Addr) (c12 c13 c14 : Nat) (o0 o1 o3 o5 o7 o9 o10 o17 o18 o19 o20 o21 o22 : Value)
/-- a step is done: what is told of it -/
theorem all_mid (hE0 : EI lp lg E0) (hE : EI lp lg E) (h0 : w0.drawn = 0) (hl : E0.l.length ≤ 2097152) (hb2 : ∀ w, St w0 A w → w.cell? ⟨b, 2, none⟩ = some (.int .u64 sup)) (hsup : E0.P.sup = sup)
    (ho : o.ok w0 A) (hM : Moves o.con E0 E (soT o) (whereF o) d) (hown : own = cns E0.l o.con) (e3 : no = 0 → o.kind = 3 → cns E.l o.con = 0 ∧ Gd.inF E.its o.con = [])
    (h : St w0 (A * HL.own 58 2 (.slice a12 E0.P.rows.length c12) E0.P.rows.length (Pu.flat E0.P.rows) * HL.own 60 4 (.slice a13 E0.its.length c13) E0.its.length (Gd.flat E0.its) * HL.own 98 2 (.slice a14 E0.l.length c14) E0.l.length (rflat E0.l) * pt c (.cells o.cs.toArray 48 (0, 0)) * ecoA p g s lg E) w)
    (hQ : ∀ (x18 x19 x y z : Value) (w' : World), St w0 (A * ecoA p g s lg E) w' → Q .nrm [o0, o1, .pointer (some ⟨b, 0, none⟩), o3, .pointer (some ⟨p, 0, none⟩), o5, .pointer (some ⟨g, 0, none⟩), o7, .pointer (some ⟨s, 0, none⟩), o9, o10, .pointer (some ⟨c, 0, none⟩), .slice a12 E0.P.rows.length c12, .slice a13 E0.its.length c13, .slice a14 E0.l.length c14, .int .u64 own, .int .i64 no, o17, x18, x19, x, y, z] w') :
    HC.wp E2 h3_27 Q [o0, o1, .pointer (some ⟨b, 0, none⟩), o3, .pointer (some ⟨p, 0, none⟩), o5, .pointer (some ⟨g, 0, none⟩), o7, .pointer (some ⟨s, 0, none⟩), o9, o10, .pointer (some ⟨c, 0, none⟩), .slice a12 E0.P.rows.length c12, .slice a13 E0.its.length c13, .slice a14 E0.l.length c14, .int .u64 own, .int .i64 no, o17, o18, o19, o20, o21, o22] w := by
  have hpl := hE.P.bd.len
  have hpl0 := hE0.P.bd.len
  have hil : E.its.length ≤ 1048576 := by have := hE.G.len; have := hE.G.lim; omega
  have hil0 : E0.its.length ≤ 1048576 := by have := hE0.G.len; have := hE0.G.lim; omega
  have hll := len_moves hM hE
  generalize hB0 : A * HL.own 58 2 (.slice a12 E0.P.rows.length c12) E0.P.rows.length (Pu.flat E0.P.rows) * HL.own 60 4 (.slice a13 E0.its.length c13) E0.its.length (Gd.flat E0.its) * HL.own 98 2 (.slice a14 E0.l.length c14) E0.l.length (rflat E0.l) * pt c (.cells o.cs.toArray 48 (0, 0)) = B0 at h
  have low : ∀ {w : World}, St w0 B0 w → St w0 A w := fun s => by subst hB0; exact s.drop.drop.drop.drop
  have hc : ∀ w, St w0 B0 w → ∀ j u, o.cs[j]? = some u → w.cell? ⟨c, j, none⟩ = some u := fun w s j u hu => by
    subst hB0
    have := s.row_cells j u hu; simpa using this
  have r12 : ∀ {w : World}, St w0 B0 w → Row w0 B0 (.slice a12 E0.P.rows.length c12) E0.P.rows.length 2 (Pu.flat E0.P.rows) := fun s => by
    subst hB0; exact (row_own s.drop.drop.drop).mono fun w s => s.drop.drop.drop
  have r13 : ∀ {w : World}, St w0 B0 w → Row w0 B0 (.slice a13 E0.its.length c13) E0.its.length 4 (Gd.flat E0.its) := fun s => by
    subst hB0; exact (row_own s.drop.drop).mono fun w s => s.drop.drop
  have r14 : ∀ {w : World}, St w0 B0 w → Row w0 B0 (.slice a14 E0.l.length c14) E0.l.length 2 (rflat E0.l) := fun s => by
    subst hB0; exact (row_own s.drop).mono fun w s => s.drop
  have lowX : ∀ {X : Asn} {w : World}, St w0 (B0 * X) w → St w0 (A * X) w := fun {X w} s => by
    subst hB0
    exact s.cut (HL.own 58 2 (.slice a12 E0.P.rows.length c12) E0.P.rows.length (Pu.flat E0.P.rows) * HL.own 60 4 (.slice a13 E0.its.length c13) E0.its.length (Gd.flat E0.its) * HL.own 98 2 (.slice a14 E0.l.length c14) E0.l.length (rflat E0.l) * pt c (.cells o.cs.toArray 48 (0, 0))) (by ac_rfl)
  clear hB0
  simp
  refine eff_call ((Pu.Rows_spec p E.P w0 w (B0 * Gd.gds g lg E.its * esc s p g E.l) (by omega) (h.to (by simp only [ecoA]; ac_rfl))).mono ?_)
  intro v18 w1 s1
  simp
  refine eff_call ((Gd.Rows_spec g lg E.its w0 w1 (B0 * Pu.pur p E.P * esc s p g E.l * HL.own 58 2 v18 E.P.rows.length (Pu.flat E.P.rows)) hil (s1.to (by ac_rfl))).mono ?_)
  intro v19 w2 s2
  obtain ⟨a18, c18, rfl, _⟩ := s2.drop.drop.own_val
  obtain ⟨a19, c19, rfl, _⟩ := s2.own_val
  have s3 : St w0 (B0 * HL.own 58 2 (.slice a18 E.P.rows.length c18) E.P.rows.length (Pu.flat E.P.rows) * HL.own 60 4 (.slice a19 E.its.length c19) E.its.length (Gd.flat E.its) * ecoA p g s lg E) w2 := s2.to (by simp only [ecoA]; ac_rfl)
  clear h s1 s2
  generalize hB : B0 * HL.own 58 2 (.slice a18 E.P.rows.length c18) E.P.rows.length (Pu.flat E.P.rows) * HL.own 60 4 (.slice a19 E.its.length c19) E.its.length (Gd.flat E.its) = B at s3
  have lowB : ∀ {w : World}, St w0 B w → St w0 B0 w := fun s => by subst hB; exact s.drop.drop
  have r18 : Row w0 B (.slice a18 E.P.rows.length c18) E.P.rows.length 2 (Pu.flat E.P.rows) := by
    subst hB; exact (row_own s3.drop.drop).mono fun w s => s.drop
  have r19 : Row w0 B (.slice a19 E.its.length c19) E.its.length 4 (Gd.flat E.its) := by
    subst hB; exact row_own s3.drop
  have r12 := (r12 (lowB s3.drop)).mono fun w s => lowB s
  have r13 := (r13 (lowB s3.drop)).mono fun w s => lowB s
  have r14 := (r14 (lowB s3.drop)).mono fun w s => lowB s
  have lowY : ∀ {X : Asn} {w : World}, St w0 (B * X) w → St w0 (B0 * X) w := fun {X w} s => by
    subst hB
    exact s.cut (HL.own 58 2 (.slice a18 E.P.rows.length c18) E.P.rows.length (Pu.flat E.P.rows) * HL.own 60 4 (.slice a19 E.its.length c19) E.its.length (Gd.flat E.its)) (by ac_rfl)
  clear hB
  have eits : E.its.length = E0.its.length := by rw [hM.its, List.length_map]
  simp
  refine brqI s3 ?_
  simp [hM.len, eits]
  refine effq_call (v := .int .u64 E.P.sup) (fun w s1 => (Pu.Supply_spec p E.P w0 w (B * Gd.gds g lg E.its * esc s p g E.l) (s1.to (by simp only [ecoA]; ac_rfl))).mono fun r w' hr => ⟨hr.1, hr.2.to (by simp only [ecoA]; ac_rfl)⟩) ?_
  simp
  refine effq_ldc (v := .int .u64 sup) (fun w s => hb2 w (low (lowB s.drop))) ?_
  simp [hM.sup, hsup]
  intro w3 s4
  have := all_accs Q p g s c lp lg own no o E0 E (.slice a14 E0.l.length c14) w0 w3 B a12 a13 a18 a19 c12 c13 c18 c19 o0 o1 (.pointer (some ⟨b, 0, none⟩)) o3 o5 o7 o9 o10 o17 o20 o21 o22 hE h0 (by omega) (by omega) (fun w s => hc w (lowB s)) r14 (by rw [hown]; exact cns_moves hM hE) hM.rest.symm e3 (ho.mono fun w s => low (lowB s)) hil0 r13 r19 hM.its (by omega) r12 r18 hM.len (fun k h0 h1 => coin_moves hM hE k h0 h1) s4 (fun x y z w' s5 => hQ _ _ x y z w' ?_)
  · simpa [hM.len, eits] using this
  · exact lowX (lowY s5)
end
def oflat (l : List So) : List Value := l.flatMap So.cs
theorem oflat_at {l : List So} {i : Nat} (h : i < l.length) : ∀ j u, (l[i].cs)[j]? = some u → (oflat l)[i * 8 + j]? = some u := by
  intro j u hu
  have hj : j < 8 := (List.getElem?_eq_some_iff.1 hu).1
  unfold oflat
  rw [flat_get So.cs 8 (fun _ => rfl) l i j h hj]
  exact hu
theorem does_kept {o : So} {E : Eco} (h : (doesF o E).2.1 = false) : (doesF o E).2.2 = E := by
  unfold doesF at h ⊢
  split
  · rename_i h1; rw [if_pos h1] at h; cases h
  rename_i h1
  split
  · rename_i h2; rw [if_neg h1, if_pos h2] at h; cases h
  rename_i h2
  split
  · rename_i h3; rw [if_neg h1, if_neg h2, if_pos h3] at h; cases h
  · rfl
theorem all_loop (p g s b : Nat) (lp lg sup : Int) (E0 : Eco) (ops : List So) (vo : Value) (w0 w : World) (A A0 : Asn) (o0 o5 o7 o9 o10 o11 o12 o13 o14 o15 o16 o17 o18 o19 o20 o21 o22 : Value) (hE0 : EI lp lg E0) (h0 : w0.drawn = 0) (hsup : E0.P.sup = sup) (hl0 : E0.l.length ≤ 1048576)
    (hn : ops.length ≤ 1048576) (hr : Row w0 A vo ops.length 8 (oflat ops)) (hx : ∀ o ∈ ops, o.ok w0 A) (hb2 : ∀ w, St w0 A w → w.cell? ⟨b, 2, none⟩ = some (.int .u64 sup)) (hA : ∀ w, St w0 A w → St w0 A0 w) (h : St w0 (A * ecoA p g s lg E0) w) :
    HC.wp E2 h3_41 (endQ Tryz.prog [.slot 3] (fun r w' => r = .bool true ∧ St w0 A0 w'))
      [o0, vo, .pointer (some ⟨b, 0, none⟩), .bool false, .pointer (some ⟨p, 0, none⟩), o5, .pointer (some ⟨g, 0, none⟩), o7, .pointer (some ⟨s, 0, none⟩), o9, o10, o11, o12, o13, o14, o15, o16, o17, o18, o19, o20, o21, o22] w := by
  obtain ⟨oa, ocap, rfl⟩ := hr.val
  simp
  refine loopI (fun env w' => ∃ (i : Nat) (E : Eco) (o11 o12 o13 o14 o15 o16 o17 o18 o19 o20 o21 o22 : Value), env = [o0, .slice oa ops.length ocap, .pointer (some ⟨b, 0, none⟩), .bool false, .pointer (some ⟨p, 0, none⟩), o5, .pointer (some ⟨g, 0, none⟩), o7, .pointer (some ⟨s, 0, none⟩), o9, .int .i64 i, o11, o12, o13, o14, o15, o16, o17, o18, o19, o20, o21, o22] ∧
      i ≤ ops.length ∧ EI lp lg E ∧ E.P.sup = sup ∧ E.l.length ≤ 1048576 + i ∧ St w0 (A * ecoA p g s lg E) w')
    (fun env _ => ops.length - slotN env 10) ⟨0, E0, _, _, _, _, _, _, _, _, _, _, _, _, rfl, by omega, hE0, hsup, by omega, h⟩ ?_
  clear h o11 o12 o13 o14 o15 o16 o17 o18 o19 o20 o21 o22
  rintro LQ env w' ⟨i, E, o11, o12, o13, o14, o15, o16, o17, o18, o19, o20, o21, o22, rfl, hi, hE, hS, hl, s1⟩ hN hX hR
  simp
  refine cndI (fun hlt => ?_) (fun hlt => ?_)
  · simp at hlt
    obtain ⟨og, oo, ocap', hv, hcell⟩ := hr.at (by omega)
    cases hv
    have ho := hx ops[i] (List.getElem_mem hlt)
    generalize hoi : ops[i] = o at *
    have hpl := hE.P.bd.len
    have hil : E.its.length ≤ 1048576 := by have := hE.G.len; have := hE.G.lim; omega
    simp [hlt]
    refine eff_ldcs (vs := o.cs) (fun j u hu => by rw [Nat.add_assoc]; exact hcell w' s1.drop _ _ (oflat_at hlt j u (by rw [hoi]; exact hu))) rfl ?_
    simp
    refine eff_new s1 fun c w2 s2 => ?_
    simp
    refine eff_stA (vs := o.cs) s2 rfl rfl (so_one ho) (by simp) fun w3 s3 => ?_
    have s3 : St w0 (A * ecoA p g s lg E * pt c (.cells o.cs.toArray 48 (0, 0))) w3 := by simpa [So.cs, Ew.cs, Et.cs] using s3
    try simp
    have rd : ∀ {B : Asn} {w : World}, St w0 (B * pt c (.cells o.cs.toArray 48 (0, 0))) w → ∀ j u, o.cs[j]? = some u → w.cell? ⟨c, j, none⟩ = some u := fun s j u hu => by
      have := s.row_cells j u hu; simpa using this
    refine eff_call ((Pu.Rows_spec p E.P w0 w3 (A * Gd.gds g lg E.its * esc s p g E.l * pt c (.cells o.cs.toArray 48 (0, 0))) (by omega) (s3.to (by simp only [ecoA]; ac_rfl))).mono ?_)
    intro v12 w4 s4
    simp
    refine eff_call ((Gd.Rows_spec g lg E.its w0 w4 (A * Pu.pur p E.P * esc s p g E.l * pt c (.cells o.cs.toArray 48 (0, 0)) * own 58 2 v12 E.P.rows.length (Pu.flat E.P.rows)) hil (s4.to (by ac_rfl))).mono ?_)
    intro v13 w5 s5
    simp
    refine eff_call ((Rows_spec s p g E.l w0 w5 (A * Pu.pur p E.P * Gd.gds g lg E.its * pt c (.cells o.cs.toArray 48 (0, 0)) * own 58 2 v12 E.P.rows.length (Pu.flat E.P.rows) * own 60 4 v13 E.its.length (Gd.flat E.its)) h0 hE.R (by omega) (s5.to (by ac_rfl))).mono ?_)
    intro v14 w6 s6
    simp
    have s7 : St w0 (A * own 58 2 v12 E.P.rows.length (Pu.flat E.P.rows) * own 60 4 v13 E.its.length (Gd.flat E.its) * own 98 2 v14 E.l.length (rflat E.l) * ecoA p g s lg E * pt c (.cells o.cs.toArray 48 (0, 0))) w6 := s6.to (by simp only [ecoA]; ac_rfl)
    obtain ⟨a12, c12, rfl, _⟩ := s7.drop.drop.drop.drop.own_val
    obtain ⟨a13, c13, rfl, _⟩ := s7.drop.drop.drop.own_val
    obtain ⟨a14, c14, rfl, _⟩ := s7.drop.drop.own_val
    clear s1 s2 s3 s4 s5 s6
    refine eff_ldc (v := .int .i64 o.con) (rd s7 1 _ rfl) ?_
    simp
    refine eff_call ((Coins_spec s p g E.l o.con w0 w6 (A * own 58 2 (.slice a12 E.P.rows.length c12) E.P.rows.length (Pu.flat E.P.rows) * own 60 4 (.slice a13 E.its.length c13) E.its.length (Gd.flat E.its) * own 98 2 (.slice a14 E.l.length c14) E.l.length (rflat E.l) * pt c (.cells o.cs.toArray 48 (0, 0)) * Pu.pur p E.P * Gd.gds g lg E.its) hE.R (s7.to (by simp only [ecoA]; ac_rfl))).mono ?_)
    rintro r w7 ⟨rfl, rfl⟩
    simp
    refine eff_ldcs (vs := o.cs) (fun j u hu => by rw [Nat.zero_add]; exact rd s7 j u hu) rfl ?_
    simp
    refine eff_call ((does_spec p g s lp lg o E w0 _ (A * own 58 2 (.slice a12 E.P.rows.length c12) E.P.rows.length (Pu.flat E.P.rows) * own 60 4 (.slice a13 E.its.length c13) E.its.length (Gd.flat E.its) * own 98 2 (.slice a14 E.l.length c14) E.l.length (rflat E.l) * pt c (.cells o.cs.toArray 48 (0, 0))) (ho.mono fun w s => s.drop.drop.drop.drop) hE (s7.to (by ac_rfl))).mono ?_)
    rintro r w8 ⟨rfl, s8⟩
    simp
    by_cases hk : (doesF o E).2.1 = true
    · obtain ⟨hE', ⟨d, hM⟩, h3⟩ := does_moves hE ho hk
      have hll := len_moves hM hE'
      have hss := hM.sup
      simp [hk]
      generalize (doesF o E).1 = no at *
      generalize (doesF o E).2.2 = E2 at *
      have fin : ∀ w9, St w0 (A * own 58 2 (.slice a12 E.P.rows.length c12) E.P.rows.length (Pu.flat E.P.rows) * own 60 4 (.slice a13 E.its.length c13) E.its.length (Gd.flat E.its) * own 98 2 (.slice a14 E.l.length c14) E.l.length (rflat E.l) * pt c (.cells (toldF o no).cs.toArray 48 (0, 0)) * ecoA p g s lg E2) w9 →
          HC.wp (P := Tryz.prog) Go.HL.Es.E2 h3_27 (blockQ 1 (seqQ Go.HL.Es.E2 h3_1 LQ))
            [o0, .slice (some ⟨og, oo, none⟩) ops.length ocap, .pointer (some ⟨b, 0, none⟩), .bool false, .pointer (some ⟨p, 0, none⟩), o5, .pointer (some ⟨g, 0, none⟩), o7, .pointer (some ⟨s, 0, none⟩), o9, .int .i64 i, .pointer (some ⟨c, 0, none⟩), .slice a12 E.P.rows.length c12, .slice a13 E.its.length c13, .slice a14 E.l.length c14, .int .u64 (cns E.l o.con), .int .i64 no, .bool true, o18, o19, o20, o21, o22] w9 := by
        intro w9 s9
        have htc := toldF_con o no
        refine all_mid _ p g s b c lp lg (cns E.l o.con) no sup d (toldF o no) E E2 w0 w9 A a12 a13 a14 c12 c13 c14 _ _ _ _ _ _ _ _ _ _ _ _ _ hE hE' h0 (by omega) hb2 hS (told_ok ho no) (by rw [htc]; exact hM) (by rw [htc]) (by rw [htc]; exact h3) s9 ?_
        intro x18 x19 x y z w10 s10
        simp
        try simp (disch := omega) only [wrap64]
        exact hN _ _ ⟨i + 1, E2, _, _, _, _, _, _, _, _, _, _, _, _, by simp; exact ⟨rfl, rfl, rfl, rfl, rfl, rfl, rfl, rfl, rfl, rfl, rfl, rfl⟩, by omega, hE', by omega, by omega, s10⟩ (by simp [slotN]; omega)
      by_cases hno : no = 0
      · have ht : toldF o no = o := by unfold toldF; rw [if_pos hno]
        rw [ht] at fin
        have := fin w8 s8
        simpa [hno] using this
      · simp [hno]
        have rd8 : ∀ j u, o.cs[j]? = some u → w8.cell? ⟨c, j, none⟩ = some u := fun j u hu => by
          have := s8.drop.row_cells j u hu; simpa using this
        refine eff_ldc (v := .int .i64 o.con) (rd8 1 _ rfl) ?_
        simp [Instr.fill, Value.cells]
        have ht : (toldF o no).cs = [.int .i64 3, .int .i64 o.con, .slice none 0 0, .int .i64 0, .int .i64 0, .int .u64 0, .int .u64 0, .slice none 0 0] := by unfold toldF; rw [if_neg hno]; rfl
        refine eff_stA (vs := (toldF o no).cs) s8.swap (by rw [ht]; rfl) rfl (so_one (told_ok ho no)) (by simp [So.cs, Ew.cs, Et.cs]) fun w9 s9 => ?_
        simp
        exact fin w9 (s9.swap.to (by rw [ht]; simp [So.cs, Ew.cs, Et.cs]))
    · have hk : (doesF o E).2.1 = false := by simpa using hk
      rw [does_kept hk] at s8
      simp [hk]
      try simp (disch := omega) only [wrap64]
      refine hN _ _ ⟨i + 1, E, _, _, _, _, _, _, _, _, _, _, _, _, by simp; exact ⟨rfl, rfl, rfl, rfl, rfl, rfl, rfl, rfl, rfl, rfl, rfl, rfl⟩, by omega, hE, hS, by omega, s8.cut (own 58 2 (.slice a12 E.P.rows.length c12) E.P.rows.length (Pu.flat E.P.rows) * own 60 4 (.slice a13 E.its.length c13) E.its.length (Gd.flat E.its) * own 98 2 (.slice a14 E.l.length c14) E.l.length (rflat E.l) * pt c (.cells o.cs.toArray 48 (0, 0))) (by ac_rfl)⟩ (by simp [slotN]; omega)
  · simp at hlt
    simp
    refine hX _ _ _ ?_
    simp
    exact hA _ s1.drop
end Go.HL.Es

namespace Go.HL.Es
open Go.HL Go.Proofs
set_option maxRecDepth 4000
set_option linter.unusedSimpArgs false
set_option linter.unusedVariables false
/-- a list that is told: its slice, its numbers -/
abbrev Tl := Value × List Int
def tlA (_ : Nat) (t : Tl) : Asn := own 3 1 t.1 t.2.length (Gd.ints t.2)
def heads (T : Nat → Tl) (n : Nat) : List Value := (List.range n).map fun j => (T j).1
/-- the copies, each twice -/
def twice (U : Nat → Tl) (n : Nat) : List Value := (List.range n).map fun j => (U (j / 2)).1
theorem load_ei {lp lg : Int} {P : Pu.Ps} {its : List Gd.It} {rows : List Rw} (hP : Pu.PI lp P) (hG : Gd.GI lg its) (h : escE rows P.held = 0) : EI lp lg ⟨P, its, rows⟩ := by
  unfold escE at h
  split at h
  · rename_i h1
    split at h
    · rename_i h2; exact ⟨hP, hG, h1, h2⟩
    · cases h
  · cases h
theorem getF_accs {lim : Int} {accs : List Pu.Ac} {sup : Int} (h : (Pu.loadF lim accs sup).1 = 0) (hs : 0 ≤ sup) (hx : ∀ x ∈ accs, x.name.length ≤ 1048576 ∧ 0 ≤ x.coins ∧ x.coins < 18446744073709551616) : Pu.PI lim (Pu.loadF lim accs sup).2 :=
  (Pu.load_PI h hs (fun x hx' => (hx x hx').2.1) (fun i h => (hx _ (List.getElem_mem h)).1)).2
/-- the frame of the walk's loop -/
abbrev ownA (A : Asn) (p g s : Nat) (lg : Int) (E : Eco) (T U : Nat → Tl) (i : Nat) (all was : Value) : Asn :=
  A * ecoA p g s lg E * bigA tlA T (2 * i) * bigA tlA U i * own 44 1 all (2 * i) (heads T (2 * i)) * own 44 1 was (2 * i) (twice U (2 * i))
end Go.HL.Es

namespace Go.HL.Es
open Go.HL Go.Proofs
set_option maxRecDepth 4000
set_option linter.unusedSimpArgs false
set_option linter.unusedVariables false
set_option maxHeartbeats 1000000 in
theorem all_walk (bg : Begin) (ops : List So) (vo : Value) (w0 w : World) (A : Asn) (h0 : w0.drawn = 0) (hb : bg.ok w0 A) (hn : ops.length ≤ 1048576) (hr : Row w0 A vo ops.length 8 (oflat ops))
    (hx : ∀ o ∈ ops, o.ok w0 A) (s : St w0 A w) :
    CallW Tryz.prog 3 [.agg bg.cs.toArray, vo] (fun r w' => r = .bool true ∧ St w0 A w') w := by
  refine callW_of_lift l3_ok (by simp [l3]) ?_
  simp [l3]
  refine eff_box s fun b w1 s1 => ?_
  simp
  have s1 : St w0 (A * pt b (.cells bg.cs.toArray 27 (0, 0))) w1 := s1
  have f : ∀ {w : World}, St w0 (A * pt b (.cells bg.cs.toArray 27 (0, 0))) w → ∀ j u, bg.cs[j]? = some u → w.cell? ⟨b, j, none⟩ = some u := fun h j u hu => by
    have := h.row_cells j u hu; simpa using this
  refine eff_call ((awake_spec w0 w1 _ s1).mono ?_)
  rintro r w2 ⟨rfl, s2⟩
  simp
  refine eff_ldc (v := .int .i64 bg.lim) (f s2 0 _ rfl) ?_
  simp
  refine eff_ldc (v := bg.va) (f s2 1 _ rfl) ?_
  simp
  refine eff_ldc (v := .int .u64 bg.sup) (f s2 2 _ rfl) ?_
  simp
  refine eff_call ((Pu.Load_spec bg.lim bg.accs bg.sup bg.va w0 w2 _ hb.laccs hb.sup (fun x hx => (hb.each x hx).1) (fun x hx => (hb.each x hx).2) (hb.accs.mono fun w s => s.drop) s2).mono ?_)
  intro r w3 h3
  -- whether the purse is there or not, the goods are loaded
  have goods : ∀ (pv : Value) (e : Int) (X : Asn) (w3 : World), St w0 (A * pt b (.cells bg.cs.toArray 27 (0, 0)) * X) w3 → w3.cell? ⟨b, 3, none⟩ = some (.int .i64 bg.most) ∧ w3.cell? ⟨b, 4, none⟩ = some bg.vi := fun pv e X w3 h => ⟨f h.drop 3 _ rfl, f h.drop 4 _ rfl⟩
  by_cases hld : (Pu.loadF bg.lim bg.accs bg.sup).1 = 0
  · rw [if_pos hld] at h3
    obtain ⟨p, rfl, s3⟩ := h3
    have hP := getF_accs hld hb.sup.1 hb.each
    have hsup : (Pu.loadF bg.lim bg.accs bg.sup).2.sup = bg.sup := by rw [(Pu.load_PI hld hb.sup.1 (fun x hx => (hb.each x hx).2.1) (fun i h => (hb.each _ (List.getElem_mem h)).1)).1]
    generalize (Pu.loadF bg.lim bg.accs bg.sup).2 = P at *
    simp
    refine eff_ldc (goods undef 0 _ _ s3).1 ?_
    simp
    refine eff_ldc (goods undef 0 _ _ s3).2 ?_
    simp
    refine eff_call ((Gd.Load_spec bg.most bg.its bg.vi w0 w3 _ hb.lits (hb.its.mono fun w s => s.drop.drop) s3).mono ?_)
    intro r w4 h4
    by_cases hlg : Gd.loadE bg.most bg.its = 0
    · rw [if_pos hlg] at h4
      obtain ⟨g, rfl, s4⟩ := h4
      have hG := load_gi hlg
      simp
      refine eff_ldc (v := bg.vr) (f s4.drop.drop 5 _ rfl) ?_
      simp
      refine eff_call ((lent_spec bg.rows bg.vr w0 w4 _ hb.lrows (hb.rows.mono fun w s => s.drop.drop.drop) s4).mono ?_)
      intro lv w5 s5
      simp
      have s6 : St w0 (A * pt b (.cells bg.cs.toArray 27 (0, 0)) * lentA lv bg.rows * Pu.pur p P * Gd.gds g bg.most bg.its) w5 := s5.to (by ac_rfl)
      refine eff_call ((Load_spec p g bg.lim bg.most bg.rows lv P bg.its w0 w5 _ hP hb.lrows hb.eachR (lent_row s6.drop.drop) s6).mono ?_)
      rintro r w6 (⟨hz, s, rfl, s7⟩ | ⟨hz, rfl, s7⟩)
      · have hE := load_ei hP hG hz
        simp
        have := all_loop p g s b bg.lim bg.most bg.sup _ ops vo w0 w6 (A * pt b (.cells bg.cs.toArray 27 (0, 0)) * lentA lv bg.rows) A (.agg bg.cs.toArray) (.int .i64 0) (.int .i64 0) (.int .i64 0) undef undef undef undef undef undef undef undef undef undef undef undef undef hE h0 hsup hb.lrows hn (hr.mono fun w s => s.drop.drop) (fun o ho => (hx o ho).mono fun w s => s.drop.drop) (fun w s => f s.drop 2 _ rfl) (fun w s => s.drop.drop) (s7.cut emp (by simp only [ecoA, sep_emp]))
        simpa using this
      · simp [hz]
        exact s7.drop.drop.drop.drop
    · rw [if_neg hlg] at h4
      obtain ⟨rfl, s4⟩ := h4
      simp [hlg]
      exact s4.drop.drop
  · rw [if_neg hld] at h3
    obtain ⟨rfl, s3⟩ := h3
    have s3' : St w0 (A * pt b (.cells bg.cs.toArray 27 (0, 0)) * emp) w3 := by rw [sep_emp]; exact s3
    simp
    refine eff_ldc (goods undef 0 _ _ s3').1 ?_
    simp
    refine eff_ldc (goods undef 0 _ _ s3').2 ?_
    simp
    refine eff_call ((Gd.Load_spec bg.most bg.its bg.vi w0 w3 _ hb.lits (hb.its.mono fun w s => s.drop) s3).mono ?_)
    intro r w4 h4
    have out : ∀ {w : World}, (if Gd.loadE bg.most bg.its = 0 then ∃ p, r = .tuple #[.pointer (some ⟨p, 0, none⟩), .int .i64 0] ∧ St w0 (A * pt b (.cells bg.cs.toArray 27 (0, 0)) * Gd.gds p bg.most bg.its) w else r = .tuple #[.pointer none, .int .i64 (Gd.loadE bg.most bg.its)] ∧ St w0 (A * pt b (.cells bg.cs.toArray 27 (0, 0))) w) → St w0 A w ∧ ∃ q e, r = .tuple #[.pointer q, .int .i64 e] := fun h => by
      split at h
      · obtain ⟨q, rfl, h⟩ := h; exact ⟨h.drop.drop, _, _, rfl⟩
      · obtain ⟨rfl, h⟩ := h; exact ⟨h.drop, _, _, rfl⟩
    obtain ⟨s4, q, e, rfl⟩ := out h4
    simp [hld]
    exact s4
end Go.HL.Es

namespace Go.HL
open Go.HL
/-- a world that has drawn nothing -/
def World.fresh (W : World) : World := { W with drawn := 0 }
theorem St.start0 (W : World) : St (World.fresh W) (old W) W := ⟨rfl, rfl, Nat.le_refl _, ⟨rfl, Nat.zero_le _⟩, _, fun b o h => h, rfl⟩
theorem St.kept0 {w0 w : World} (s : St (World.fresh w0) (old w0) w) (may : MemPlace → Prop) : w0.keptBut w may := by
  suffices hk : w0.keptBut w (fun _ => False) from World.keptBut_mono (fun _ f => f.elim) hk
  refine ⟨s.os, s.out, fun i hi => ?_⟩
  have h0 : w0.heap[i]? = some w0.heap[i] := by simp [hi]
  rw [s.lookOld0 h0, h0]
  generalize w0.heap[i] = o
  cases o <;> simp
theorem St.frz0 {w0 w : World} (s : St (World.fresh w0) (old w0) w) {a : Addr} (h : a.block < w0.heap.size) : w.frozen? a = w0.frozen? a := by
  unfold World.frozen?
  have h0 : w0.heap[a.block]? = some w0.heap[a.block] := by simp [h]
  rw [s.lookOld0 h0, h0]
theorem St.same0 {w0 w : World} (s : St (World.fresh w0) (old w0) w) {p : MemPlace} (hb : p.block < w0.heap.size) : w0.sameAt w p := by
  have h0 : w0.heap[p.block]? = some w0.heap[p.block] := by simp [hb]
  have h1 : w.heap[p.block]? = w0.heap[p.block]? := by rw [s.lookOld0 h0, h0]
  cases p with
  | cell b o =>
    simp only [MemPlace.block] at h1
    show w.cell? ⟨b, o, none⟩ = w0.cell? ⟨b, o, none⟩
    unfold World.cell?
    simp only [h1]
  | map b => exact h1
open Go.WideShapes Go.ChangeShapes in
theorem post_of_old0 {H : Type} {enc : TypeId × Value → H} {P : Program} {f : Func} {s : ChangeSpec} {apart fresh handsOn again : Bool} {W W' : World} (hst : St (World.fresh W) (old W) W') {args : Array Value} {v : Value} {ds gs : List (DataW H)} {before pa pv : List MemPlace}
    (hW : DataW.Whole enc P f.params.toList s.vars apart W args.toList ds gs before)
    (hres : ∀ (b : Nat) (sp : Nat → Bool) (hd : Bool), DataW.TrodAll enc P W' b sp hd f.resultTypes.toList (v.resultList f.resultTypes.size) (s.fn H (ds ++ gs)).results [])
    (hargs : ∀ sp : Nat → Bool, (∀ p ∈ before, sp p.block = true) → DataW.TrodAll enc P W' 0 sp true f.params.toList args.toList (s.fn H (ds ++ gs)).args pa)
    (hvars : ∀ sp : Nat → Bool, (∀ p ∈ before, sp p.block = true) → DataW.TrodVars enc P W' sp s.vars (s.fn H (ds ++ gs)).vars pv)
    (hps : before = pa ++ pv)
    (hok : ∀ (j : Nat) (t : TypeId) (r : Value), f.resultTypes[j]? = some t → (v.resultList f.resultTypes.size)[j]? = some r → Value.okWide P W' .any 0 t r) :
    s.post enc P f apart fresh handsOn again W args v W' := by
  have hlt := hW.lt
  have hold : ∀ p ∈ before, (fun b => decide (b < W.heap.size)) p.block = true := fun p hp => by simpa using hlt p hp
  refine ⟨ds, gs, before, [], pa, pv, hW, hres _ _ _, hargs _ hold, hvars _ hold, hst.kept0 _, fun _ => ?_⟩
  obtain ⟨_, _, _, _, _, hz, hn⟩ := hW
  refine ⟨hok, _, _, ([] ++ pa) ++ pv, ⟨[] ++ pa, pv, trodAll_append (hargs _ (fun _ _ => rfl)) (hres _ _ _), hvars _ (fun _ _ => rfl), rfl, ?_, ?_⟩, ?_⟩
  · intro b off hp
    have hp' : MemPlace.cell b off ∈ before := by rw [hps]; simpa using hp
    rw [hst.frz0 (hlt _ hp')]
    exact hz b off hp'
  · intro ha
    have := hn ha
    rw [hps] at this
    simpa using this
  · intro p hp _
    rw [hps]
    simpa using hp
end Go.HL

namespace Go.HL.Es
open Go.HL Go.Proofs Go.Deep
set_option maxRecDepth 4000
set_option linter.unusedSimpArgs false
set_option linter.unusedVariables false
/-- a row read in the world itself stands for the world that has drawn nothing -/
theorem row_fresh {W : World} {v : Value} {n size : Nat} {xs : List Value} (h : Row W (old W) v n size xs) : Row (World.fresh W) (old W) v n size xs := by
  obtain ⟨hl, a, cap, rfl, hn, h⟩ := h
  refine ⟨hl, a, cap, rfl, hn, ?_⟩
  rcases h with h | ⟨g, o, rfl, hc⟩
  · exact .inl h
  · refine .inr ⟨g, o, rfl, fun w s j u hu => ?_⟩
    have h0 := hc W (St.start W) j u hu
    have hb : g < W.heap.size := by
      by_cases hb : g < W.heap.size
      · exact hb
      · unfold World.cell? at h0
        have : W.heap[g]? = none := by simp; omega
        simp [this] at h0
    have h1 : w.cell? ⟨g, o + j, none⟩ = W.cell? ⟨g, o + j, none⟩ := s.same0 (p := .cell g (o + j)) hb
    rw [h1]; exact h0
theorem Begin.ok.fresh {b : Begin} {W : World} (h : b.ok W (old W)) : b.ok (World.fresh W) (old W) :=
  ⟨h.lim, h.most, h.sup, row_fresh h.accs, row_fresh h.its, row_fresh h.rows, h.laccs, h.lits, h.lrows, h.each, h.eachR⟩
section
variable {H : Type} {enc : TypeId × Value → H} {W : World} {base : Nat} {spare : Nat → Bool} {held : Bool} {fuel : Nat} {cs : List Value} {x : DataW H × List MemPlace}
theorem open_ent1 (hx : DataW.trod enc Tryz.prog W base spare held fuel 46 cs = some x) : ∃ e : Ew, cs = e.cs ∧ e.wv.oneCell' = true ∧ 0 ≤ e.x.coins ∧ e.x.coins < 18446744073709551616 := by
  obtain ⟨hl, n', hf⟩ := open_field Tryz.underlying46 hx
  have hl2 : cs.length = 5 := hl.trans (by kernel_rfl)
  match cs, hl2 with
  | [c0, c1, c2, c3, c4], _ =>
    obtain ⟨y0, k0, _⟩ := hf 0 _ rfl
    obtain ⟨y1, k1, _⟩ := hf 1 _ rfl
    obtain ⟨y2, k2, _⟩ := hf 2 _ rfl
    obtain ⟨y3, k3, _⟩ := hf 3 _ rfl
    obtain ⟨y4, k4, _⟩ := hf 4 _ rfl
    obtain ⟨m0, e0, x0, w0⟩ := DataW.trod_int Tryz.underlying3 k0
    obtain ⟨m1, e1, x1, w1⟩ := DataW.trod_int Tryz.underlying3 k1
    obtain ⟨m2, e2, x2, w2⟩ := DataW.trod_int Tryz.underlying23 k2
    obtain ⟨m3, e3, x3, w3⟩ := DataW.trod_int Tryz.underlying23 k3
    obtain ⟨wv, l, e4, o4, _⟩ := open_ints k4
    have f0 : [c0] = [Value.int .i64 m0] := e0
    have f1 : [c1] = [Value.int .i64 m1] := e1
    have f2 : [c2] = [Value.int .u64 m2] := e2
    have f3 : [c3] = [Value.int .u64 m3] := e3
    have f4 : [c4] = [wv] := e4
    cases f0; cases f1; cases f2; cases f3; cases f4
    have h2 := open_u64 w2
    exact ⟨⟨⟨m0, m1, m2⟩, m3, c4⟩, rfl, o4, h2.1, by simp only; omega⟩
theorem open_giftF (h : DataW.trod enc Tryz.prog W base spare held fuel 43 cs = some x) :
    ∃ (v : Value) (l : List Gf), cs = [v] ∧ v.oneCell' = true ∧ Row W (old W) v l.length 3 (gflat l) ∧ l.length ≤ Go.Proofs.YtiokklaedanjbaaGreat.Rows.uptoBulk x.1 ∧ ∀ x ∈ l, 0 ≤ x.coins ∧ x.coins < 18446744073709551616 := by
  obtain ⟨v, rows, h1, h2, h3, h4, h5, _⟩ := open_erows (α := Gf) Gf.cs 3 (fun x => 0 ≤ x.coins ∧ x.coins < 18446744073709551616) (fun _ => 0) Tryz.underlying43 (by kernel_rfl) (by decide) (fun _ => rfl) (fun n cs x hx => by
    obtain ⟨hl, n', hf⟩ := open_field Tryz.underlying110 hx
    have hl2 : cs.length = 3 := hl.trans (by kernel_rfl)
    match cs, hl2 with
    | [c0, c1, c2], _ =>
      obtain ⟨y0, k0, _⟩ := hf 0 _ rfl
      obtain ⟨y1, k1, _⟩ := hf 1 _ rfl
      obtain ⟨y2, k2, _⟩ := hf 2 _ rfl
      obtain ⟨m0, e0, x0, w0⟩ := DataW.trod_int Tryz.underlying3 k0
      obtain ⟨m1, e1, x1, w1⟩ := DataW.trod_int Tryz.underlying3 k1
      obtain ⟨m2, e2, x2, w2⟩ := DataW.trod_int Tryz.underlying23 k2
      have f0 : [c0] = [Value.int .i64 m0] := e0
      have f1 : [c1] = [Value.int .i64 m1] := e1
      have f2 : [c2] = [Value.int .u64 m2] := e2
      cases f0; cases f1; cases f2
      have h2 := open_u64 w2
      exact ⟨⟨m0, m1, m2⟩, rfl, ⟨h2.1, by simp only; omega⟩, Nat.zero_le _⟩) h
  exact ⟨v, rows, h1, h2, h4, h5, h3⟩
/-- a step within bounds, but for how many gifts -/
structure So.ok0 (o : So) (W : World) : Prop where
  con : -9223372036854775808 ≤ o.con ∧ o.con < 9223372036854775808
  gv : o.gv.oneCell' = true
  row : Row W (old W) o.gv o.gs.length 3 (gflat o.gs)
  gs : ∀ x ∈ o.gs, 0 ≤ x.coins ∧ x.coins < 18446744073709551616
  wv : o.e.wv.oneCell' = true
  coins : 0 ≤ o.e.x.coins ∧ o.e.x.coins < 18446744073709551616
theorem open_opF (h : DataW.trod enc Tryz.prog W base spare held fuel 28 cs = some x) :
    ∃ (v : Value) (l : List So), cs = [v] ∧ Row W (old W) v l.length 8 (oflat l) ∧ l.length ≤ Go.Proofs.YtiokklaedanjbaaGreat.Rows.uptoBulk x.1 ∧ ∀ o ∈ l, o.ok0 W ∧ o.gs.length ≤ Go.Proofs.YtiokklaedanjbaaGreat.Rows.uptoBulk x.1 := by
  obtain ⟨v, rows, h1, h2, h3, h4, h5, h6⟩ := open_erows (α := So) So.cs 8 (fun o => o.ok0 W) (fun o => o.gs.length) Tryz.underlying28 (by kernel_rfl) (by decide) (fun _ => rfl) (fun n cs x hx => by
    obtain ⟨hl, n', hf⟩ := open_field Tryz.underlying48 hx
    have hl2 : cs.length = 8 := hl.trans (by kernel_rfl)
    match cs, hl2 with
    | [c0, c1, c2, c3, c4, c5, c6, c7], _ =>
      obtain ⟨y0, k0, _⟩ := hf 0 _ rfl
      obtain ⟨y1, k1, _⟩ := hf 1 _ rfl
      obtain ⟨y2, k2, b2⟩ := hf 2 _ rfl
      obtain ⟨y3, k3, _⟩ := hf 3 _ rfl
      obtain ⟨m0, e0, x0, w0⟩ := DataW.trod_int Tryz.underlying3 k0
      obtain ⟨m1, e1, x1, w1⟩ := DataW.trod_int Tryz.underlying3 k1
      obtain ⟨gv, gs, e2, o2, r2, n2, q2⟩ := open_giftF k2
      obtain ⟨e, e3, o3, q3⟩ := open_ent1 k3
      have f0 : [c0] = [Value.int .i64 m0] := e0
      have f1 : [c1] = [Value.int .i64 m1] := e1
      have f2 : [c2] = [gv] := e2
      have f3 : [c3, c4, c5, c6, c7] = e.cs := e3
      cases f0; cases f1; cases f2
      have h1 := open_i64 w1
      refine ⟨⟨m0, m1, c2, gs, e⟩, by simp only [So.cs, ← f3]; rfl, ⟨⟨h1.1, by simp only; omega⟩, o2, r2, q2, o3, q3⟩, Nat.le_trans n2 b2⟩) h
  exact ⟨v, rows, h1, h4, h5, fun o ho => ⟨h3 o ho, h6 o ho⟩⟩
end
theorem open_ops {H : Type} {enc : TypeId × Value → H} {W : World} {spare : Nat → Bool} {v : Value} {d : DataW H} {ps : List MemPlace} (h : DataW.Trod enc Tryz.prog W 0 spare true 28 v d ps) {base : Nat} (hval : Value.okWide Tryz.prog W .any base 28 v)
    (hb : Go.Proofs.YtiokklaedanjbaaGreat.Rows.uptoBulk d ≤ 1048576) :
    ∃ l : List So, Row (World.fresh W) (old W) v l.length 8 (oflat l) ∧ l.length ≤ Go.Proofs.YtiokklaedanjbaaGreat.Rows.uptoBulk d ∧ ∀ o ∈ l, o.ok (World.fresh W) (old W) := by
  obtain ⟨va, vl, vc, rfl⟩ := Go.WideShapes.okWide_slice Tryz.underlying28 hval
  obtain ⟨n, h⟩ := h
  obtain ⟨v, l, h1, h2, h3, h4⟩ := open_opF h
  have h1 : [Value.slice va vl vc] = [v] := by simpa [Value.cells] using h1
  cases h1
  refine ⟨l, row_fresh h2, h3, fun o ho => ?_⟩
  obtain ⟨k, kl⟩ := h4 o ho
  exact ⟨k.con, k.gv, row_fresh k.row, by simp only at kl; omega, k.gs, k.wv, k.coins⟩
end Go.HL.Es

namespace Go.Proofs.YtiokklaedanjbaaGreat.escrowAll
open Go.ChangeShapes Go.WideShapes Go.ChangeAt Go.RowKit Go.WideMaps Go.WideElems
open Go.ChangeMaps (open_string shut_string)
set_option linter.unusedVariables false

theorem own : ownKnob Tryz.prog.godebug = none := by kernel_rfl

theorem keeps : Go.HL.keepB Tryz.prog [27, 3, 23, 22, 58, 9, 24, 60, 25, 100, 46, 44, 28, 48, 43, 110] = true := by kernel_rfl

set_option maxRecDepth 10000 in
theorem contract (H : Type) (enc : TypeId × Value → H) (W : World) (base : Nat) (args : Array Value) (ds gs : List (DataW H)) (before : List MemPlace)
    (hval : ∀ (j : Nat) t v, Tryz.f3.params[j]? = some t → args[j]? = some v → Value.okWide Tryz.prog W .any base t v)
    (hW : DataW.Whole enc Tryz.prog Tryz.f3.params.toList Rows.escrowAllSpec.vars false W args.toList ds gs before) (hk : Rows.uptoSmall H (ds ++ gs) = true) :
    Calls Tryz.prog 3 args W fun e W' => ∃ v, e = .returned v ∧ Rows.escrowAllSpec.post enc Tryz.prog Tryz.f3 false true false false W args v W' := by
  have hW' := hW
  have hlt := hW.lt
  obtain ⟨p, q, hA0, hV, rfl, hfz, hnd⟩ := hW
  have hA : DataW.TrodAll enc Tryz.prog W 0 (fun _ => true) true Tryz.f3.params.toList args.toList ds p := hA0
  have hA1 := hA
  rw [Tryz.params3] at hA hval
  obtain ⟨v0, vs0, d0, ds0, p0, q0, hargs, rfl, rfl, h0, r0⟩ := trodAll_cons hA
  obtain ⟨v1, vs1, d1, ds1, p1, q1, rfl, rfl, rfl, h1, r1⟩ := trodAll_cons r0
  obtain ⟨rfl, rfl, rfl⟩ := trodAll_nil r1
  obtain rfl : args = #[v0, v1] := by cases args; simp_all
  obtain ⟨rfl, rfl⟩ := trodVars_none hV
  simp only [List.append_nil, List.nil_append] at hW' hlt hA1
  have hb := Go.HL.bulk_bound hk
  simp only [List.append_nil, Rows.uptoBulkAll, Go.HL.bulk_string, Go.HL.bulk_int] at hb
  obtain ⟨a0, rfl, ok0⟩ := Go.HL.Es.open_start h0 (hval 0 27 v0 rfl rfl) (by omega)
  obtain ⟨a1, row1, bl1, ex1⟩ := Go.HL.Es.open_ops h1 (hval 1 28 v1 rfl rfl) (by omega)
  have hwalk := Go.HL.Es.all_walk a0 a1 v1 (Go.HL.World.fresh W) W (Go.HL.old W) rfl ok0.fresh (by omega) row1 ex1 (Go.HL.St.start0 W)
  refine Calls.mono hwalk fun e W' ⟨v, he, hv, hst⟩ => ?_
  subst hv
  refine ⟨_, he, Go.HL.post_of_old0 hst (pv := []) hW' (fun _ _ _ => (trodAll_cons_mk (shut_bool Tryz.underlying4 _) trodAll_mk0))
    (fun sp hsp => Go.HL.trodAll_keep keeps (by decide) hA1 (fun x hx => hst.same0 (hlt x hx)) hsp) (fun _ _ => rfl) (by simp)
    (ok_one (by kernel_rfl) rfl (okWide_bool_mk Tryz.underlying4 _))⟩

set_option maxRecDepth 100000 in
theorem lifted (os : Os) (started : os.Started) (H : Type) (enc : TypeId × Value → H) (F : Stop.Interp) :
    ReturnsInHanded {} Tryz.checked os 3 .any ((Rows.OpenSpec.upto Rows.escrowAllSpec).pre6 enc Tryz.prog Tryz.f3 Rows.escrowAllUptoRow.domain false) (((Rows.OpenSpec.upto Rows.escrowAllSpec).at F).post enc Tryz.prog Tryz.f3 false true false false) := by
  refine returnsInHanded_of_cond (C := Tryz.checked) (s := Rows.OpenSpec.upto Rows.escrowAllSpec) (k := Rows.uptoSmall) rfl own started (by kernel_rfl) Tryz.func3
    (OpenSpec.witness (enc := enc) (C := Tryz.checked) (s := Rows.OpenSpec.upto Rows.escrowAllSpec) (k := Rows.uptoSmall) rfl false ⟨#[], #[.agg #[.int .i64 0, .slice none 0 0, .int .u64 0, .int .i64 0, .slice none 0 0, .slice none 0 0], .slice none 0 0], []⟩ 8 (by kernel_rfl) (by kernel_rfl) (by kernel_rfl)
      (x := ([.agg [.lit (.int .i64 0), .nil, .lit (.int .u64 0), .lit (.int .i64 0), .nil, .nil], .nil], [], [])) (by kernel_rfl) rfl (by kernel_rfl)) ?_
  intro W base args ds gs before hval hW _ hk _
  exact contract H enc W base args ds gs before hval hW hk

theorem over : Rows.escrowAllUptoRow.holds Tryz.pinned (Rows.OpenSpec.upto Rows.escrowAllSpec) :=
  OpenClaim.holds_of_cond 3 Tryz.f3 rfl rfl rfl rfl rfl rfl rfl ⟨rfl, rfl, rfl, rfl, rfl⟩ rfl rfl rfl rfl rfl (by kernel_rfl) Tryz.func3 (by kernel_rfl)
    (of_decide_eq_true (by kernel_rfl)) (by unfold Func.isWrapper; first | (rw [if_pos (by decide +kernel)]; kernel_rfl) | (rw [if_neg (by decide +kernel)]; exact ⟨rfl, rfl⟩))
    (fun os started H enc _ F => lifted os started H enc F)

theorem proved : Rows.EscrowAllUptoSaid :=
  over
end Go.Proofs.YtiokklaedanjbaaGreat.escrowAll
