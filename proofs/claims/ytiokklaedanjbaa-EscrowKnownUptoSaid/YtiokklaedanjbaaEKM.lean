/-
  What the claim leans on, part 15 of 15. Conditions: as each theorem says.
-/
import Derived.Test.YtiokklaedanjbaaEKMn
import Derived.Shelf.SlIterI.Nil
import Derived.Shelf.SortM.Plain
import Derived.Shelf.SortM.SortNone
namespace Go.HL.Es
open Go.HL Go.Proofs Go.Sort
set_option maxRecDepth 4000
noncomputable def keysL_ren : Go.Shelf.Ren := ⟨fun | 7 => 52 | 10 => 69 | n => n, fun | 23 => 93 | 26 => 3 | 3 => 23 | 28 => 113 | 0 => 0 | 27 => 112 | 33 => 89 | 4 => 4 | n => n, fun | n => n⟩
theorem keysL : Go.Proofs.SlLaysZI.n7 Try.prog keysL_ren := {
    mixed := by kernel_rfl,
    f7 := ⟨Try.f52.name, by decide, Try.func52.trans (congrArg some (by kernel_rfl))⟩,
    f10 := ⟨Try.f69.name, by decide, Try.func69.trans (congrArg some (by kernel_rfl))⟩,
    t0 := Try.underlying0,
    a0 := Try.isAgg0,
    z0 := Try.sizeOf0,
    v0 := Try.zeroValue0,
    t4 := Try.underlying4,
    a4 := Try.isAgg4,
    z4 := Try.sizeOf4,
    v4 := Try.zeroValue4,
    t23 := Try.underlying93,
    a23 := Try.isAgg93,
    z23 := Try.sizeOf93,
    v23 := Try.zeroValue93,
    t26 := Try.underlying3,
    a26 := Try.isAgg3,
    z26 := Try.sizeOf3,
    v26 := Try.zeroValue3,
    t27 := Try.underlying112,
    a27 := Try.isAgg112,
    z27 := Try.sizeOf112,
    v27 := Try.zeroValue112,
    t28 := Try.underlying113,
    a28 := Try.isAgg113,
    z28 := Try.sizeOf113,
    v28 := Try.zeroValue113,
    t33 := Try.underlying89,
    a33 := Try.isAgg89,
    z33 := Try.sizeOf89,
    v33 := Try.zeroValue89 }

noncomputable def sortedL_ren : Go.Shelf.Ren := ⟨fun | 6 => 51 | 8 => 67 | 9 => 68 | 11 => 81 | 13 => 83 | 12 => 82 | 23 => 96 | 24 => 97 | 14 => 87 | 15 => 88 | 16 => 89 | 17 => 90 | 18 => 91 | 19 => 92 | 20 => 93 | 21 => 94 | 22 => 95 | 25 => 101 | 26 => 102 | 27 => 103 | 28 => 104 | 29 => 105 | 30 => 106 | 31 => 108 | n => n, fun | 26 => 3 | 28 => 113 | 24 => 44 | 0 => 0 | 3 => 3 | 37 => 140 | 48 => 155 | 50 => 23 | 4 => 4 | 40 => 148 | 39 => 147 | 45 => 116 | 5 => 5 | 9 => 9 | 51 => 160 | 55 => 163 | 57 => 165 | 58 => 166 | 33 => 89 | n => n, fun | n => n⟩
theorem sortedL : Go.Proofs.SlLaysZI.n6 Try.prog sortedL_ren := {
    mixed := by kernel_rfl,
    f6 := ⟨Try.f51.name, by decide, Try.func51.trans (congrArg some (by kernel_rfl))⟩,
    f8 := ⟨Try.f67.name, by decide, Try.func67.trans (congrArg some (by kernel_rfl))⟩,
    f11 := ⟨Try.f81.name, by decide, Try.func81.trans (congrArg some (by kernel_rfl))⟩,
    t0 := Try.underlying0,
    a0 := Try.isAgg0,
    z0 := Try.sizeOf0,
    v0 := Try.zeroValue0,
    t24 := Try.underlying44,
    a24 := Try.isAgg44,
    z24 := Try.sizeOf44,
    v24 := Try.zeroValue44,
    t26 := Try.underlying3,
    a26 := Try.isAgg3,
    z26 := Try.sizeOf3,
    v26 := Try.zeroValue3,
    t28 := Try.underlying113,
    a28 := Try.isAgg113,
    z28 := Try.sizeOf113,
    v28 := Try.zeroValue113,
    i26 := by kernel_rfl }

noncomputable def sortL_ren : Go.Shelf.Ren := ⟨fun | 5 => 68 | 8 => 83 | 7 => 82 | 19 => 96 | 20 => 97 | 10 => 87 | 11 => 88 | 12 => 89 | 13 => 90 | 14 => 91 | 15 => 92 | 16 => 93 | 17 => 94 | 18 => 95 | 30 => 101 | 31 => 102 | 32 => 103 | 33 => 104 | 34 => 105 | 35 => 106 | 40 => 108 | n => n, fun | 23 => 44 | 25 => 3 | 3 => 3 | 32 => 140 | 22 => 44 | 0 => 0 | 44 => 155 | 46 => 23 | 4 => 4 | 36 => 148 | 35 => 147 | 41 => 116 | 5 => 5 | 9 => 9 | 53 => 160 | 57 => 163 | 63 => 165 | 64 => 166 | n => n, fun | n => n⟩
theorem sortL : Go.Proofs.SlLaysM.n5 Try.prog sortL_ren := {
    mixed := by kernel_rfl,
    f5 := ⟨Try.f68.name, by decide, Try.func68.trans (congrArg some (by kernel_rfl))⟩,
    f7 := ⟨Try.f82.name, by decide, Try.func82.trans (congrArg some (by kernel_rfl))⟩,
    f8 := Try.func83.trans (congrArg some (by kernel_rfl)),
    f10 := ⟨Try.f87.name, by decide, Try.func87.trans (congrArg some (by kernel_rfl))⟩,
    f11 := ⟨Try.f88.name, by decide, Try.func88.trans (congrArg some (by kernel_rfl))⟩,
    f12 := ⟨Try.f89.name, by decide, Try.func89.trans (congrArg some (by kernel_rfl))⟩,
    f13 := ⟨Try.f90.name, by decide, Try.func90.trans (congrArg some (by kernel_rfl))⟩,
    f14 := ⟨Try.f91.name, by decide, Try.func91.trans (congrArg some (by kernel_rfl))⟩,
    f15 := ⟨Try.f92.name, by decide, Try.func92.trans (congrArg some (by kernel_rfl))⟩,
    f16 := ⟨Try.f93.name, by decide, Try.func93.trans (congrArg some (by kernel_rfl))⟩,
    f17 := ⟨Try.f94.name, by decide, Try.func94.trans (congrArg some (by kernel_rfl))⟩,
    f18 := ⟨Try.f95.name, by decide, Try.func95.trans (congrArg some (by kernel_rfl))⟩,
    f19 := Try.func96.trans (congrArg some (by kernel_rfl)),
    f20 := Try.func97.trans (congrArg some (by kernel_rfl)),
    f30 := ⟨Try.f101.name, by decide, Try.func101.trans (congrArg some (by kernel_rfl))⟩,
    f31 := Try.func102.trans (congrArg some (by kernel_rfl)),
    f32 := Try.func103.trans (congrArg some (by kernel_rfl)),
    f33 := ⟨Try.f104.name, by decide, Try.func104.trans (congrArg some (by kernel_rfl))⟩,
    f34 := ⟨Try.f105.name, by decide, Try.func105.trans (congrArg some (by kernel_rfl))⟩,
    f35 := ⟨Try.f106.name, by decide, Try.func106.trans (congrArg some (by kernel_rfl))⟩,
    f40 := ⟨Try.f108.name, by decide, Try.func108.trans (congrArg some (by kernel_rfl))⟩,
    t0 := Try.underlying0,
    a0 := Try.isAgg0,
    z0 := Try.sizeOf0,
    v0 := Try.zeroValue0,
    t3 := Try.underlying3,
    a3 := Try.isAgg3,
    z3 := Try.sizeOf3,
    v3 := Try.zeroValue3,
    t4 := Try.underlying4,
    a4 := Try.isAgg4,
    z4 := Try.sizeOf4,
    v4 := Try.zeroValue4,
    t5 := Try.underlying5,
    a5 := Try.isAgg5,
    z5 := Try.sizeOf5,
    v5 := Try.zeroValue5,
    t9 := Try.underlying9,
    a9 := Try.isAgg9,
    z9 := Try.sizeOf9,
    v9 := Try.zeroValue9,
    t22 := Try.underlying44,
    a22 := Try.isAgg44,
    z22 := Try.sizeOf44,
    v22 := Try.zeroValue44,
    t23 := Try.underlying44,
    a23 := Try.isAgg44,
    z23 := Try.sizeOf44,
    v23 := Try.zeroValue44,
    t25 := Try.underlying3,
    a25 := Try.isAgg3,
    z25 := Try.sizeOf3,
    v25 := Try.zeroValue3,
    t32 := Try.underlying140,
    a32 := Try.isAgg140,
    z32 := Try.sizeOf140,
    v32 := Try.zeroValue140,
    t35 := Try.underlying147,
    a35 := Try.isAgg147,
    z35 := Try.sizeOf147,
    v35 := Try.zeroValue147,
    t36 := Try.underlying148,
    a36 := Try.isAgg148,
    z36 := Try.sizeOf148,
    v36 := Try.zeroValue148,
    t41 := Try.underlying116,
    a41 := Try.isAgg116,
    z41 := Try.sizeOf116,
    v41 := Try.zeroValue116,
    t44 := Try.underlying155,
    a44 := Try.isAgg155,
    z44 := Try.sizeOf155,
    v44 := Try.zeroValue155,
    t46 := Try.underlying23,
    a46 := Try.isAgg23,
    z46 := Try.sizeOf23,
    v46 := Try.zeroValue23,
    t53 := Try.underlying160,
    a53 := Try.isAgg160,
    z53 := Try.sizeOf160,
    v53 := Try.zeroValue160,
    t57 := Try.underlying163,
    a57 := Try.isAgg163,
    z57 := Try.sizeOf163,
    v57 := Try.zeroValue163,
    t63 := Try.underlying165,
    a63 := Try.isAgg165,
    z63 := Try.sizeOf165,
    v63 := Try.zeroValue165,
    t64 := Try.underlying166,
    a64 := Try.isAgg166,
    z64 := Try.sizeOf166,
    v64 := Try.zeroValue166 }

end Go.HL.Es

namespace Go.HL.Es
open Go.HL Go.Proofs Go.Sort Go.Shelf Go.Maps Go.WideElems Go.RowKit
set_option maxRecDepth 4000
set_option linter.unusedSimpArgs false
set_option linter.unusedVariables false
/-- what a call that lays new memory leaves, and a row that it owns -/
theorem St.below {w0 w w' : World} {F : Asn} (h0 : w0.drawn = 0) (s : St w0 F w) (hb : Below w.heap.size w w') {e n : Nat} {xs : List Value} {v : Value} (hr : w'.ownsRow w.heap.size e 1 v n xs) : St w0 (F * own e 1 v n xs) w' := by
  have base : St w0 F w' := by
    refine ⟨hb.os.trans s.os, hb.output.trans s.out, Nat.le_trans s.size hb.size, ⟨hb.tape.trans s.ran.1, by rw [h0]; exact Nat.zero_le _⟩, ?_⟩
    obtain ⟨g, hg, hF⟩ := s.holds
    refine ⟨g, fun b o hbo => ?_, hF⟩
    have h1 : w.heap[b]? = some o := hg b o hbo
    have hlt := (Array.getElem?_eq_some_iff.1 h1).1
    exact (hb.block b hlt).trans h1
  obtain ⟨hl, ⟨rfl, rfl⟩ | ⟨g, cap, cur, rfl, hge, hcur, h1, h2, h3, h4⟩⟩ := hr
  · have := List.eq_nil_of_length_eq_zero (by simpa using hl)
    subst this
    exact base.own_nil e 1
  · refine St.own_mk (cur := cur) (base.of ?_) h1 h2 h3 h4
    obtain ⟨k, hk, hF⟩ := s.holds
    have hn : k g = none := by
      cases hh : k g with
      | none => rfl
      | some o =>
        have h1 : w.heap[g]? = some o := hk g o hh
        have := (Array.getElem?_eq_some_iff.1 h1).1
        omega
    refine ⟨Hp.un k (fun b => if b = g then some (.cells cur e (0, 0)) else none), fun b o hbo => ?_, k, _, fun b => ?_, rfl, hF, by simp, fun c hc => by simp [hc]⟩
    · show w'.heap[b]? = some o
      simp only [Hp.un] at hbo
      by_cases eb : b = g
      · subst eb; simp only [hn, if_true] at hbo; rw [hcur]; exact hbo
      · simp only [eb, if_false] at hbo
        cases hh : k b with
        | none => rw [hh] at hbo; cases hbo
        | some o' =>
          rw [hh] at hbo; cases hbo
          have h1 : w.heap[b]? = some o := hk b o hh
          exact (hb.block b (Array.getElem?_eq_some_iff.1 h1).1).trans h1
    · by_cases eb : b = g
      · subst eb; exact .inl hn
      · right; simp [eb]
theorem sortsL (m : Nat) : AnyZI.SortsIn Try.prog sortedL_ren Fence.wide m :=
  ⟨fun blk off cap ss W hH hblk hsz => callsIn_wide.2 (AnyM.slices_Sort_int sortL blk off cap ss W hH hblk hsz),
   fun p cap W => callsIn_wide.2 (AnyM.slices_Sort_int_none sortL p cap W)⟩
/-- the numbers of a list, rising -/
theorem sorted_rows {l : List Rw} (h : l.Pairwise (fun a b => a.1 < b.1)) {ss : List Int} (hp : ss.Perm (l.map (·.1))) : ss.mergeSort (fun x y => decide (x ≤ y)) = l.map (·.1) := by
  have e := mergeSort_of_perm_i hp
  refine e.trans ?_
  refine List.mergeSort_of_pairwise ?_
  rw [List.pairwise_map]
  exact h.imp fun h => by simp only [decide_eq_true_eq]; omega
/-- a map's datum: its keys -/
def nilR (_ : Value) : Option (DataW Unit × List MemPlace) := some (.nil, [])
theorem owns_of {w : World} {m c : Nat} {es : List En} {l : List Rw} (hb : w.heap[m]? = some (.map (entA es) c)) (hE : EH es c l) (ok : RwOK l) (hl : l.length ≤ 4194304) :
    ∃ D0 : DataW Unit, w.ownsMap Try.prog 3 nilR m l.length D0 ∧ Maps.size D0 = l.length ∧ (intKeys D0).Perm (l.map (·.1)) := by
  have hlen : es.length = l.length := by have := hE.perm.length_eq; simpa using this
  have hk : ∀ e ∈ es, 1 ≤ e.k ∧ e.k < 9223372036854775808 := fun e he => by
    have : prE e ∈ l.map prR := hE.perm.mem_iff.1 (List.mem_map.2 ⟨e, he, rfl⟩)
    obtain ⟨r, hr, hr2⟩ := List.mem_map.1 this
    simp only [prE, prR, Prod.mk.injEq] at hr2
    have := ok.2 r hr
    omega
  have hrd : ∀ e ∈ es, rd Try.prog 3 nilR (⟨.int .i64 e.k, e.v, e.b⟩ : MapEntry) = some (.int .i64 e.k, .nil) := fun e he => by
    have h1 := hk e he
    refine rd_mk (yv := (.nil, [])) ?_ rfl
    have hw : (Lit.int .i64 e.k).wf = true := by
      have h2 : -9223372036854775808 ≤ e.k := by omega
      have h3 : e.k ≤ 9223372036854775807 := by omega
      simp [Lit.wf, IntKind.min, IntKind.max, IntKind.signed, IntKind.bits, h2, h3]
    simp [keyOf, Try.underlying3, mapKey, hw]
  have hrg : (entA es).toList.map (rg Try.prog 3 nilR) = es.map fun e => ((.int .i64 e.k, .nil) : Lit × DataW Unit) := by
    simp only [entA, List.toList_toArray, List.map_map]
    refine List.map_congr_left fun e he => ?_
    exact rg_of (hrd e he)
  refine ⟨_, ⟨entA es, c, hb, ⟨by simp [entA]; unfold maxLen; omega, ⟨?_, ?_, ?_⟩, ?_⟩, by simp [entA, hlen], rfl⟩, ?_, ?_⟩
  · intro x hx
    simp only [entA, List.toList_toArray] at hx
    obtain ⟨e, he, rfl⟩ := List.mem_map.1 hx
    exact hE.clock e he
  · have e1 : (entA es).toList.map (·.born) = es.map (·.b) := by simp [entA]
    rw [e1]; exact hE.borns
  · have e1 : (entA es).toList.map (·.key) = (es.map (·.k)).map (Value.int .i64) := by simp [entA]
    rw [e1]
    refine List.pairwise_map.2 (hE.keys.imp fun h => ?_)
    simpa using h
  · intro x hx
    simp only [entA, List.toList_toArray] at hx
    obtain ⟨e, he, rfl⟩ := List.mem_map.1 hx
    exact ⟨_, hrd e he⟩
  · rw [hrg]
    show (List.foldr DataW.insert [] _).length = _
    rw [(Go.WideShapes.sorted_perm _).length_eq]; simp [hlen]
  · rw [hrg]
    show ((List.foldr DataW.insert [] _).map fun p => intOf p.1).Perm _
    refine ((Go.WideShapes.sorted_perm _).map _).trans ?_
    rw [List.map_map]
    have h2 := hE.perm.map Prod.fst
    simp only [List.map_map] at h2
    exact h2
-- maps.Keys[map[int]uint64,int,uint64]
def h52_0 : HC := (.seq (.reg (.chk none (.mkf (.func 69) 0) (.cons (.inp 1) .nil) (.done [(2, (.op (.mkf (.func 69) 0) (.cons (.inp 1) .nil)))] none))) .ret)
@[simp] theorem h52_0_wp {P : Program} {F : PF P} {Q : EX → List Value → World → Prop} {env : List Value} {w : World} : h52_0.wp F Q env w = HC.wp F (.seq (.reg (.chk none (.mkf (.func 69) 0) (.cons (.inp 1) .nil) (.done [(2, (.op (.mkf (.func 69) 0) (.cons (.inp 1) .nil)))] none))) .ret) Q env w := rfl
def l52 : Lifted := ⟨[0, 1, 2], 4, [.slot 2], (.seq (.reg (.eff (.box 93) (.cons (.inp 0) .nil) (.done [(1, (.bv 0)), (2, (.cst .nilFunc))] none))) h52_0)⟩
theorem l52_ok : liftFn E0 52 400 = some l52 := by kernel_rfl

-- slices.Clip[[]bazaar/escrow.Row,bazaar/escrow.Row]
def h53_0 : HC := (.seq (.reg (.chk none .lenL (.cons (.inp 0) .nil) (.chk none .lenL (.cons (.inp 0) .nil) (.chk none (.slL 2 false true true) (.cons (.inp 0) (.cons (.op .lenL (.cons (.inp 0) .nil)) (.cons (.op .lenL (.cons (.inp 0) .nil)) .nil))) (.done [(1, (.op (.slL 2 false true true) (.cons (.inp 0) (.cons (.op .lenL (.cons (.inp 0) .nil)) (.cons (.op .lenL (.cons (.inp 0) .nil)) .nil)))))] none))))) .ret)
@[simp] theorem h53_0_wp {P : Program} {F : PF P} {Q : EX → List Value → World → Prop} {env : List Value} {w : World} : h53_0.wp F Q env w = HC.wp F (.seq (.reg (.chk none .lenL (.cons (.inp 0) .nil) (.chk none .lenL (.cons (.inp 0) .nil) (.chk none (.slL 2 false true true) (.cons (.inp 0) (.cons (.op .lenL (.cons (.inp 0) .nil)) (.cons (.op .lenL (.cons (.inp 0) .nil)) .nil))) (.done [(1, (.op (.slL 2 false true true) (.cons (.inp 0) (.cons (.op .lenL (.cons (.inp 0) .nil)) (.cons (.op .lenL (.cons (.inp 0) .nil)) .nil)))))] none))))) .ret) Q env w := rfl
def l53 : Lifted := ⟨[0, 2], 9, [.slot 1], (.seq (.reg (.done [(1, (.cst (.slice none 0 0)))] none)) h53_0)⟩
theorem l53_ok : liftFn E0 53 400 = some l53 := by kernel_rfl

-- (*bazaar/escrow.Escrow).Rows
def h28_0 : HC := (.seq (.reg (.eff (.call 53) (.cons (.inp 2) .nil) (.done [(1, (.bv 0))] none))) .ret)
@[simp] theorem h28_0_wp {P : Program} {F : PF P} {Q : EX → List Value → World → Prop} {env : List Value} {w : World} : h28_0.wp F Q env w = HC.wp F (.seq (.reg (.eff (.call 53) (.cons (.inp 2) .nil) (.done [(1, (.bv 0))] none))) .ret) Q env w := rfl
def h28_1 : HC := (.reg (.chk none (.bin .add) (.cons (.inp 6) (.cons (.cst (.int .i64 1)) .nil)) (.done [(6, (.op (.bin .add) (.cons (.inp 6) (.cons (.cst (.int .i64 1)) .nil))))] none)))
@[simp] theorem h28_1_wp {P : Program} {F : PF P} {Q : EX → List Value → World → Prop} {env : List Value} {w : World} : h28_1.wp F Q env w = HC.wp F (.reg (.chk none (.bin .add) (.cons (.inp 6) (.cons (.cst (.int .i64 1)) .nil)) (.done [(6, (.op (.bin .add) (.cons (.inp 6) (.cons (.cst (.int .i64 1)) .nil))))] none))) Q env w := rfl
def h28_2 : HC := (.reg (.chk none .chkp (.cons (.inp 0) .nil) (.chk none (.fld 2) (.cons (.op .chkp (.cons (.inp 0) .nil)) .nil) (.eff (.ld false 1) (.cons (.op (.fld 2) (.cons (.op .chkp (.cons (.inp 0) .nil)) .nil)) .nil) (.eff (.look 93 false) (.cons (.bv 0) (.cons (.inp 3) .nil)) (.chk none (.build #[(.int .i64 0), (.int .u64 0)] [(0, 1), (1, 1)] [0, 1]) (.cons (.inp 3) (.cons (.bv 1) .nil)) (.eff (.bsl 98 1 2 #[(.int .i64 0), (.int .u64 0)] [0]) (.cons (.op (.build #[(.int .i64 0), (.int .u64 0)] [(0, 1), (1, 1)] [0, 1]) (.cons (.inp 3) (.cons (.bv 1) .nil))) .nil) (.eff (.app 41 41 98 2 16 (.agg #[(.int .i64 0), (.int .u64 0)])) (.cons (.inp 2) (.cons (.bv 2) .nil)) (.done [(2, (.bv 3))] none)))))))))
@[simp] theorem h28_2_wp {P : Program} {F : PF P} {Q : EX → List Value → World → Prop} {env : List Value} {w : World} : h28_2.wp F Q env w = HC.wp F (.reg (.chk none .chkp (.cons (.inp 0) .nil) (.chk none (.fld 2) (.cons (.op .chkp (.cons (.inp 0) .nil)) .nil) (.eff (.ld false 1) (.cons (.op (.fld 2) (.cons (.op .chkp (.cons (.inp 0) .nil)) .nil)) .nil) (.eff (.look 93 false) (.cons (.bv 0) (.cons (.inp 3) .nil)) (.chk none (.build #[(.int .i64 0), (.int .u64 0)] [(0, 1), (1, 1)] [0, 1]) (.cons (.inp 3) (.cons (.bv 1) .nil)) (.eff (.bsl 98 1 2 #[(.int .i64 0), (.int .u64 0)] [0]) (.cons (.op (.build #[(.int .i64 0), (.int .u64 0)] [(0, 1), (1, 1)] [0, 1]) (.cons (.inp 3) (.cons (.bv 1) .nil))) .nil) (.eff (.app 41 41 98 2 16 (.agg #[(.int .i64 0), (.int .u64 0)])) (.cons (.inp 2) (.cons (.bv 2) .nil)) (.done [(2, (.bv 3))] none))))))))) Q env w := rfl
def h28_3 : HC := (.seq (.reg (.chk none (.idxL 1) (.cons (.inp 4) (.cons (.inp 6) .nil)) (.eff (.ld false 1) (.cons (.op (.idxL 1) (.cons (.inp 4) (.cons (.inp 6) .nil))) .nil) (.done [(3, (.bv 0))] none)))) h28_2)
@[simp] theorem h28_3_wp {P : Program} {F : PF P} {Q : EX → List Value → World → Prop} {env : List Value} {w : World} : h28_3.wp F Q env w = HC.wp F (.seq (.reg (.chk none (.idxL 1) (.cons (.inp 4) (.cons (.inp 6) .nil)) (.eff (.ld false 1) (.cons (.op (.idxL 1) (.cons (.inp 4) (.cons (.inp 6) .nil))) .nil) (.done [(3, (.bv 0))] none)))) h28_2) Q env w := rfl
def h28_4 : HC := (.seq (.block 1 h28_3) h28_1)
@[simp] theorem h28_4_wp {P : Program} {F : PF P} {Q : EX → List Value → World → Prop} {env : List Value} {w : World} : h28_4.wp F Q env w = HC.wp F (.seq (.block 1 h28_3) h28_1) Q env w := rfl
def h28_5 : HC := (.seq (.br (.chk none (.bin .lss) (.cons (.inp 6) (.cons (.inp 5) .nil)) (.done [] (some (.op (.bin .lss) (.cons (.inp 6) (.cons (.inp 5) .nil)))))) .skip (.exit 0)) h28_4)
@[simp] theorem h28_5_wp {P : Program} {F : PF P} {Q : EX → List Value → World → Prop} {env : List Value} {w : World} : h28_5.wp F Q env w = HC.wp F (.seq (.br (.chk none (.bin .lss) (.cons (.inp 6) (.cons (.inp 5) .nil)) (.done [] (some (.op (.bin .lss) (.cons (.inp 6) (.cons (.inp 5) .nil)))))) .skip (.exit 0)) h28_4) Q env w := rfl
def h28_6 : HC := (.loop h28_5)
@[simp] theorem h28_6_wp {P : Program} {F : PF P} {Q : EX → List Value → World → Prop} {env : List Value} {w : World} : h28_6.wp F Q env w = HC.wp F (.loop h28_5) Q env w := rfl
def h28_7 : HC := (.seq (.block 0 h28_6) h28_0)
@[simp] theorem h28_7_wp {P : Program} {F : PF P} {Q : EX → List Value → World → Prop} {env : List Value} {w : World} : h28_7.wp F Q env w = HC.wp F (.seq (.block 0 h28_6) h28_0) Q env w := rfl
def h28_8 : HC := (.seq (.reg (.chk none .chkp (.cons (.inp 0) .nil) (.chk none (.fld 2) (.cons (.op .chkp (.cons (.inp 0) .nil)) .nil) (.eff (.ld false 1) (.cons (.op (.fld 2) (.cons (.op .chkp (.cons (.inp 0) .nil)) .nil)) .nil) (.eff (.call 52) (.cons (.bv 0) .nil) (.eff (.call 51) (.cons (.bv 1) .nil) (.chk none .lenL (.cons (.bv 2) .nil) (.done [(4, (.bv 2)), (5, (.op .lenL (.cons (.bv 2) .nil))), (6, (.cst (.int .i64 0)))] none)))))))) h28_7)
@[simp] theorem h28_8_wp {P : Program} {F : PF P} {Q : EX → List Value → World → Prop} {env : List Value} {w : World} : h28_8.wp F Q env w = HC.wp F (.seq (.reg (.chk none .chkp (.cons (.inp 0) .nil) (.chk none (.fld 2) (.cons (.op .chkp (.cons (.inp 0) .nil)) .nil) (.eff (.ld false 1) (.cons (.op (.fld 2) (.cons (.op .chkp (.cons (.inp 0) .nil)) .nil)) .nil) (.eff (.call 52) (.cons (.bv 0) .nil) (.eff (.call 51) (.cons (.bv 1) .nil) (.chk none .lenL (.cons (.bv 2) .nil) (.done [(4, (.bv 2)), (5, (.op .lenL (.cons (.bv 2) .nil))), (6, (.cst (.int .i64 0)))] none)))))))) h28_7) Q env w := rfl
def h28_9 : HC := (.seq (.reg (.done [(2, (.cst (.slice none 0 0)))] none)) h28_8)
@[simp] theorem h28_9_wp {P : Program} {F : PF P} {Q : EX → List Value → World → Prop} {env : List Value} {w : World} : h28_9.wp F Q env w = HC.wp F (.seq (.reg (.done [(2, (.cst (.slice none 0 0)))] none)) h28_8) Q env w := rfl
def h28_10 : HC := (.seq (.reg (.done [(1, (.cst (.slice none 0 0)))] none)) .ret)
@[simp] theorem h28_10_wp {P : Program} {F : PF P} {Q : EX → List Value → World → Prop} {env : List Value} {w : World} : h28_10.wp F Q env w = HC.wp F (.seq (.reg (.done [(1, (.cst (.slice none 0 0)))] none)) .ret) Q env w := rfl
def h28_11 : HC := (.seq (.br (.chk none (.eqNil false (.pointer 95) (.pointer none)) (.cons (.inp 0) .nil) (.done [] (some (.op (.eqNil false (.pointer 95) (.pointer none)) (.cons (.inp 0) .nil))))) h28_10 .skip) h28_9)
@[simp] theorem h28_11_wp {P : Program} {F : PF P} {Q : EX → List Value → World → Prop} {env : List Value} {w : World} : h28_11.wp F Q env w = HC.wp F (.seq (.br (.chk none (.eqNil false (.pointer 95) (.pointer none)) (.cons (.inp 0) .nil) (.done [] (some (.op (.eqNil false (.pointer 95) (.pointer none)) (.cons (.inp 0) .nil))))) h28_10 .skip) h28_9) Q env w := rfl
def l28 : Lifted := ⟨[0, 2, 3, 5, 13, 14, 15], 33, [.slot 1], (.seq (.reg (.done [(1, (.cst (.slice none 0 0)))] none)) h28_11)⟩
theorem l28_ok : liftFn E0 28 400 = some l28 := by kernel_rfl


theorem keys_spec (mb : Option Nat) (w0 w : World) (A : Asn) (s : St w0 A w) :
    CallW Try.prog 52 [.map mb] (fun r w' => ∃ b, r = .func (.func 69) #[] #[.pointer (some ⟨b, 0, none⟩)] ∧ St w0 (A * pt b (.cells #[.map mb] 93 (0, 0))) w') w := by
  refine callW_of_lift l52_ok (by simp [l52]) ?_
  simp [l52]
  refine eff_box s fun b w1 s1 => ?_
  simp
  exact s1
set_option maxHeartbeats 1000000 in
theorem sorted_spec (m c b : Nat) (es : List En) (l : List Rw) (w0 w : World) (A : Asn) (h0 : w0.drawn = 0) (hE : EH es c l) (ok : RwOK l) (hl : l.length ≤ 4194304) (s : St w0 (A * imap m es c * pt b (.cells #[.map (some m)] 93 (0, 0))) w) :
    CallW Try.prog 51 [.func (.func 69) #[] #[.pointer (some ⟨b, 0, none⟩)]]
      (fun r w' => St w0 (A * imap m es c * own 3 1 r l.length (Gd.ints (l.map (·.1)))) w') w := by
  obtain ⟨D0, hown, hsz, hperm⟩ := owns_of s.drop.look hE ok hl
  have hcb : w.cell? ⟨b, 0, none⟩ = some (.map (some m)) := (cell_of s.look).trans rfl
  have hlt : b < w.heap.size := (Array.getElem?_eq_some_iff.1 s.look).1
  have hseq : SeqGives Fence.wide 2 Try.prog 69 #[.pointer (some ⟨b, 0, none⟩)] encZ (fun ss => ss.Perm (intKeys D0)) (Maps.size D0) w :=
    AnyZI.keys_gives (ρ := keysL_ren) { keysL with } Fence.wide _ trivial rfl (by omega) b m l.length D0 w hlt hcb hown
  have cS := AnyZI.sorted_in sortedL Fence.wide 5 trivial trivial trivial trivial rfl (by omega) (sortsL _) (enters_of Try.func68 (by kernel_rfl) rfl) 69 #[.pointer (some ⟨b, 0, none⟩)] trivial (enters_of Try.func69 (by kernel_rfl) rfl) _ (Maps.size D0) (by rw [hsz]; unfold maxLen; omega) (by rw [hsz]; omega) w hseq
  have cS2 : CallsIn Fence.wide 5 Try.prog 51 #[.func (.func 69) #[] #[.pointer (some ⟨b, 0, none⟩)]] w fun e w' => ∃ (v : Value) (ss : List Int), e = .returned v ∧ ss.Perm (intKeys D0) ∧
      w'.ownsRow w.heap.size 3 1 v ss.length ((ss.mergeSort (fun x y => decide (x ≤ y))).map encZ) ∧ (v = .slice none 0 0 ↔ ss = []) ∧ Below w.heap.size w w' := cS
  refine Calls.mono (callsIn_wide.1 cS2) ?_
  rintro e w' ⟨v, ss, rfl, hS, hrow, _, hb⟩
  refine ⟨v, rfl, ?_⟩
  have hp := hS.trans hperm
  have hn : ss.length = l.length := by have := hp.length_eq; simpa using this
  rw [sorted_rows ok.1 hp, hn] at hrow
  exact (St.below h0 s hb hrow).swap.drop
theorem clip_spec (v : Value) (n : Nat) (xs : List Value) (e : Nat) (w0 w : World) (A : Asn) (hn : n ≤ 4194304) (s : St w0 (A * own e 2 v n xs) w) :
    CallW Try.prog 53 [v] (fun r w' => St w0 (A * own e 2 r n xs) w') w := by
  obtain ⟨a, cap, rfl, hc, _⟩ := s.own_val
  refine callW_of_lift l53_ok (by simp [l53]) ?_
  simp [l53, Pu.add_zero]
  exact ⟨hc, Pu.clip_own s⟩
theorem Rows_spec (s p g : Nat) (l : List Rw) (w0 w : World) (A : Asn) (h0 : w0.drawn = 0) (ok : RwOK l) (hl : l.length ≤ 4194304) (h : St w0 (A * esc s p g l) w) :
    CallW Try.prog 28 [.pointer (some ⟨s, 0, none⟩)] (fun r w' => St w0 (A * esc s p g l * own 98 2 r l.length (rflat l)) w') w := by
  obtain ⟨m, es, cl, hE, h1⟩ := eopen h
  have hm : ∀ {Z : Asn} {w : World}, St w0 (A * pte s p g m * imap m es cl * Z) w → w.cell? ⟨s, 2, none⟩ = some (.map (some m)) := fun h => (cell_of h.drop.swap.look).trans rfl
  refine callW_of_lift l28_ok (by simp [l28]) ?_
  simp [l28]
  refine eff_ldc (v := .map (some m)) ((cell_of h1.swap.look).trans rfl) ?_
  simp
  refine eff_call ((keys_spec (some m) w0 w _ h1).mono ?_)
  rintro r w1 ⟨b, rfl, s1⟩
  simp
  refine eff_call ((sorted_spec m cl b es l w0 w1 _ h0 hE ok hl s1).mono ?_)
  intro kv w2 s2
  obtain ⟨ka, kcap, rfl, _⟩ := s2.own_val
  simp
  refine loopI (fun env w' => ∃ (i : Nat) (lv o3 : Value), env = [.pointer (some ⟨s, 0, none⟩), .slice none 0 0, lv, o3, .slice ka l.length kcap, .int .i64 l.length, .int .i64 i] ∧ i ≤ l.length ∧
      St w0 (A * pte s p g m * imap m es cl * own 3 1 (.slice ka l.length kcap) l.length (Gd.ints (l.map (·.1))) * own 98 2 lv i (rflat (l.take i))) w')
    (fun env _ => l.length - slotN env 6) ⟨0, _, _, rfl, by omega, s2.own_nil 98 2⟩ ?_
  clear s1 s2 h h1
  rintro LQ env w' ⟨i, lv, o3, rfl, hi, s1⟩ hN hX hR
  simp
  refine cndI (fun hc => ?_) (fun hc => ?_)
  · simp at hc
    obtain ⟨kg, kc', hv, _, hcell⟩ := s1.drop.own_at (by omega)
    cases hv
    simp [hc]
    refine eff_ldc (hcell i (.int .i64 l[i].1) (by simp [Gd.ints, hc])) ?_
    simp
    refine eff_ldc (hm (s1.to (sep_assoc _ _ _))) ?_
    simp
    refine eff_lookI escT (m := m) (es := es) (c := cl) s1.drop.drop.look ?_
    rw [(hE.get ok l[i].1).1]
    have hcn : cns l l[i].1 = l[i].2 := cns_mem ok.ne (List.getElem_mem hc)
    rw [hcn]
    simp [Instr.fill, Value.cells]
    refine eff_bslV (v := .agg l[i].cs.toArray) s1 rfl fun c w3 s3 => ?_
    simp
    refine eff_app (m := 1) (news := l[i].cs) s3.swap rfl s3.cells_look (rw_one _) (by decide) rfl (by unfold maxLen; omega) (by omega) fun v2 w4 s4 => ?_
    have e1 : rflat (l.take i) ++ l[i].cs = rflat (l.take (i + 1)) := by
      unfold rflat
      rw [List.take_succ_eq_append_getElem hc, List.flatMap_append]
      simp only [List.flatMap_cons, List.flatMap_nil, List.append_nil]
    rw [e1] at s4
    simp
    try simp (disch := omega) only [wrap64]
    exact hN _ _ ⟨i + 1, v2, _, by simp; rfl, by omega, s4.swap.drop⟩ (by simp [slotN]; omega)
  · simp at hc
    simp
    refine hX _ _ _ ?_
    have : i = l.length := by omega
    subst this
    rw [List.take_length] at s1
    simp
    refine eff_call ((clip_spec lv _ _ _ w0 w' _ hl s1).mono ?_)
    intro r w3 s3
    simp
    have := eclose (A := A * own 98 2 r l.length (rflat l)) hE (s3.cut (own 3 1 (.slice ka l.length kcap) l.length (Gd.ints (l.map (·.1)))) (by ac_rfl))
    exact this.swap
theorem Rows_nil (w : World) : CallW Try.prog 28 [.pointer none] (fun r w' => r = .slice none 0 0 ∧ w' = w) w := by
  refine callW_of_lift l28_ok (by simp [l28]) ?_
  simp [l28]
end Go.HL.Es

namespace Go.HL.Es
open Go.HL Go.Proofs
set_option maxRecDepth 4000
set_option linter.unusedSimpArgs false
set_option linter.unusedVariables false
theorem turn_nil (c : Int) (gv bv : Value) (w0 w : World) (A : Asn) (s : St w0 A w) : CallW Try.prog 39 [.pointer none, .int .i64 c, gv, bv] (fun r w' => r = .int .i64 1 ∧ St w0 A w') w := by
  refine callW_of_liftD l39_ok (by simp [l39]) ?_
  simp [l39]
  refine eff_new s fun Be w1 h1 => ?_
  simp
  have h1 : St w0 (A * pt Be (.cells #[.int .i64 0] 31 (0, 0))) w1 := h1
  refine eff_call ((asked_nil c w1).mono ?_)
  rintro r w2 ⟨rfl, rfl⟩
  simp
  refine eff_st1 h1 rfl (by simp) fun w3 h3 => ?_
  have h3 : St w0 (A * pt Be (.cells #[.int .i64 1] 31 (0, 0))) w3 := by simpa using h3
  simp [dfrQ]
  refine rv_cell1 (a := ⟨Be, 0, none⟩) (v := .int .i64 1) rfl ((cell_of h3.look).trans rfl) ?_
  simp
  exact h3.drop
theorem Turn_nil (c : Int) (gv ev : Value) (w0 w : World) (A : Asn) (s : St w0 A w) : CallW Try.prog 13 [.pointer none, .int .i64 c, gv, ev] (fun r w' => r = .int .i64 1 ∧ St w0 A w') w := by
  refine callW_of_lift l13_ok (by simp [l13]) ?_
  simp [l13]
  refine eff_box s fun b4 w1 h1 => ?_
  simp
  refine eff_box h1 fun b5 w2 h2 => ?_
  simp
  refine eff_box h2 fun b6 w3 h3 => ?_
  simp
  refine eff_ldc (v := .pointer none) ((cell_of h3.drop.drop.look).trans rfl) ?_
  simp
  refine eff_ldc (v := .int .i64 c) ((cell_of h3.drop.look).trans rfl) ?_
  simp
  refine eff_call ((turn_nil c gv _ w0 w3 _ h3).mono ?_)
  rintro r w4 ⟨rfl, h4⟩
  simp
  exact h4.drop.drop.drop
theorem Put_nil (c pr : Int) (x : Et) (wv : Value) (w0 w : World) (A : Asn) (s : St w0 A w) : CallW Try.prog 14 [.pointer none, .int .i64 c, .agg (x.cs pr wv).toArray] (fun r w' => r = .int .i64 1 ∧ St w0 A w') w := by
  refine callW_of_lift l14_ok (by simp [l14]) ?_
  simp [l14]
  refine eff_box s fun b w1 h1 => ?_
  simp
  have h2 : St w0 (A * pt b (.cells (x.cs pr wv).toArray 46 (0, 0))) w1 := h1
  refine eff_ldcs (vs := x.cs pr wv) h2.row_cells rfl ?_
  simp
  refine eff_call ((Turn_nil c _ _ w0 w1 _ h2).mono ?_)
  rintro r w2 ⟨rfl, h3⟩
  simp
  exact h3.drop
theorem End_nil (c : Int) (gv : Value) (w0 w : World) (A : Asn) (s : St w0 A w) : CallW Try.prog 23 [.pointer none, .int .i64 c, gv] (fun r w' => r = .int .i64 1 ∧ St w0 A w') w := by
  refine callW_of_lift l23_ok (by simp [l23]) ?_
  simp [l23]
  refine eff_box s fun b4 w1 h1 => ?_
  simp
  refine eff_box h1 fun b5 w2 h2 => ?_
  simp
  refine eff_ldc (v := .pointer none) ((cell_of h2.drop.look).trans rfl) ?_
  simp
  refine eff_ldc (v := .int .i64 c) ((cell_of h2.look).trans rfl) ?_
  simp
  refine eff_call ((turn_nil c gv _ w0 w2 _ h2).mono ?_)
  rintro r w4 ⟨rfl, h4⟩
  simp
  exact h4.drop.drop
theorem Coins_nil (c : Int) (w : World) : CallW Try.prog 20 [.pointer none, .int .i64 c] (fun r w' => r = .int .u64 0 ∧ w' = w) w := by
  refine callW_of_lift l20_ok (by simp [l20]) ?_
  simp [l20]
theorem Items_nil (c : Int) (w : World) : CallW Try.prog 16 [.pointer none, .int .i64 c] (fun r w' => r = .slice none 0 0 ∧ w' = w) w := by
  refine callW_of_lift l16_ok (by simp [l16]) ?_
  simp [l16]
theorem Load_nil (q : Option Addr) (v : Value) (w : World) : CallW Try.prog 10 [.pointer q, .pointer none, v] (fun r w' => r = .tuple #[.pointer none, .int .i64 1] ∧ w' = w) w := by
  refine callW_of_lift l10_ok (by simp [l10]) ?_
  cases q <;> simp [l10]
theorem New_nil (w : World) : CallW Try.prog 30 [.pointer none, .pointer none] (fun r w' => r = .tuple #[.pointer none, .int .i64 1] ∧ w' = w) w := by
  refine callW_of_lift l30_ok (by simp [l30]) ?_
  simp [l30]
  refine eff_call ((Load_nil none _ w).mono ?_)
  rintro r w1 ⟨rfl, rfl⟩
  simp
def EB : Eco := ⟨⟨3, [⟨Pu.bankB, 0⟩, ⟨[65, 110, 110], 0⟩, ⟨[66, 111, 98], 50⟩], 150, 100⟩, [⟨1, 0, -1, 7⟩, ⟨2, 0, 2, 0⟩], [(7, 100)]⟩
def EC : Eco := ⟨⟨3, [⟨Pu.bankB, 0⟩, ⟨[65, 110, 110], 60⟩, ⟨[66, 111, 98], 90⟩], 150, 0⟩, [⟨1, 0, 2, 0⟩, ⟨2, 0, 2, 0⟩], []⟩
theorem st_a : turnF 7 [] (putE 7 ⟨1, 1, 0⟩) EA = (151, EA) := by decide +kernel
theorem st_b : turnF 7 [] (putE 7 ⟨2, 0, 51⟩) EA = (143, EA) := by decide +kernel
theorem st_c : turnF 7 [] (putE 7 ⟨3, 0, 0⟩) EA = (142, EA) := by decide +kernel
theorem st_d : turnF 0 [] (putE 0 ⟨1, 0, 0⟩) EA = (2, EA) := by decide +kernel
theorem st_e : turnF 7 [⟨1, 0, 30⟩] (putE 7 ⟨1, 0, 100⟩) EA = (0, EB) := by decide +kernel
theorem st_f : turnF 7 [⟨2, 0, 100⟩] (putE 7 ⟨2, 0, 151⟩) EB = (143, EB) := by decide +kernel
theorem st_g : turnF 7 [⟨2, 1, 0⟩] (endE 7) EB = (170, EB) := by decide +kernel
theorem st_h : turnF 7 [⟨2, 1, 0⟩, ⟨1, 0, 101⟩] (endE 7) EB = (170, EB) := by decide +kernel
theorem st_i : turnF 7 [⟨1, 2, 0⟩] (endE 7) EB = (170, EB) := by decide +kernel
theorem st_j : turnF 7 [⟨2, 1, 0⟩, ⟨1, 0, 60⟩, ⟨2, 0, 40⟩] (endE 7) EB = (0, EC) := by decide +kernel
theorem end_ei {lp lg c : Int} {E : Eco} (h : EI lp lg E) : EI lp lg (endE c E).2 := h
theorem eb_ei : EI 3 9 EB := by
  have := turn_ei (lp := 3) (lg := 9) (c := 7) (gs := [⟨1, 0, 30⟩]) (bes := putE 7 ⟨1, 0, 100⟩) ea_ei (by decide) (by decide) (fun E h1 h => put_ei h ⟨h1, by decide⟩ (by decide))
  rw [st_e] at this
  exact this
theorem ec_ei : EI 3 9 EC := by
  have := turn_ei (lp := 3) (lg := 9) (c := 7) (gs := [⟨2, 1, 0⟩, ⟨1, 0, 60⟩, ⟨2, 0, 40⟩]) (bes := endE 7) eb_ei (by decide) (by decide) (fun E h1 h => end_ei h)
  rw [st_j] at this
  exact this
/-- a slice of gifts, built -/
theorem eff_gifts {K : Value → World → Prop} {w w0 : World} {F : Asn} {n : Nat} {z : Array Value} {gs : List Gf} {ix : List Nat} {vs : List Value} (s : St w0 F w) (hv : vs = gs.map fun x => .agg x.cs.toArray) (hn : gs.length = n) (hix : ix = List.range' 0 n) (hm : n ≤ maxLen)
    (hk : ∀ v w', St w0 (F * own 60 3 v gs.length (gflat gs)) w' → K v w') : EffW Try.prog (.bsl 60 n 3 z ix) vs K w := by
  subst hv hn
  refine eff_bslN s (by intro v hv; obtain ⟨x, _, rfl⟩ := List.mem_map.1 hv; rfl) (by simp) hix hm fun v w' h => hk v w' ?_
  have e : ((gs.map fun x => Value.agg x.cs.toArray).flatMap fun v => v.cells.toList) = gflat gs := by
    clear h s hm hix hk
    induction gs with
    | nil => rfl
    | cons x t ih => simp only [List.map_cons, List.flatMap_cons, gflat, cells_agg] at ih ⊢; rw [ih]
  rw [e] at h
  exact h
end Go.HL.Es

namespace Go.HL.Es
open Go.HL Go.Proofs
set_option maxRecDepth 4000
set_option linter.unusedSimpArgs false
set_option linter.unusedVariables false
-- bazaar/bazaarlaw17.EscrowKnown
def h5_0 : HC := (.seq (.reg (.chk none (.eqNil false (.pointer 95) (.pointer none)) (.cons (.inp 13) .nil) (.bnd (.op (.eqNil false (.pointer 95) (.pointer none)) (.cons (.inp 13) .nil)) (.chk (some ((.bv 0), true)) (.eqNil false (.pointer 95) (.pointer none)) (.cons (.inp 15) .nil) (.isb none (.bv 0) (.bnd (.ite (.bv 0) true (.op (.eqNil false (.pointer 95) (.pointer none)) (.cons (.inp 15) .nil)) (.cst (.bool false))) (.chk (some ((.bv 1), true)) (.cal 9) (.cons (.inp 14) .nil) (.chk (some ((.bv 1), true)) (.bin .eql) (.cons (.op (.cal 9) (.cons (.inp 14) .nil)) (.cons (.cst (.int .i64 1)) .nil)) (.isb none (.bv 1) (.bnd (.ite (.bv 1) true (.op (.bin .eql) (.cons (.op (.cal 9) (.cons (.inp 14) .nil)) (.cons (.cst (.int .i64 1)) .nil))) (.cst (.bool false))) (.chk (some ((.bv 2), true)) (.cal 9) (.cons (.inp 16) .nil) (.chk (some ((.bv 2), true)) (.bin .eql) (.cons (.op (.cal 9) (.cons (.inp 16) .nil)) (.cons (.cst (.int .i64 1)) .nil)) (.isb none (.bv 2) (.bnd (.ite (.bv 2) true (.op (.bin .eql) (.cons (.op (.cal 9) (.cons (.inp 16) .nil)) (.cons (.cst (.int .i64 1)) .nil))) (.cst (.bool false))) (.chk (some ((.bv 3), true)) (.cal 9) (.cons (.inp 18) .nil) (.chk (some ((.bv 3), true)) (.bin .eql) (.cons (.op (.cal 9) (.cons (.inp 18) .nil)) (.cons (.cst (.int .i64 1)) .nil)) (.isb none (.bv 3) (.bnd (.ite (.bv 3) true (.op (.bin .eql) (.cons (.op (.cal 9) (.cons (.inp 18) .nil)) (.cons (.cst (.int .i64 1)) .nil))) (.cst (.bool false))) (.chk (some ((.bv 4), true)) (.cal 9) (.cons (.inp 19) .nil) (.chk (some ((.bv 4), true)) (.bin .eql) (.cons (.op (.cal 9) (.cons (.inp 19) .nil)) (.cons (.cst (.int .i64 1)) .nil)) (.isb none (.bv 4) (.bnd (.ite (.bv 4) true (.op (.bin .eql) (.cons (.op (.cal 9) (.cons (.inp 19) .nil)) (.cons (.cst (.int .i64 1)) .nil))) (.cst (.bool false))) (.chk (some ((.bv 5), true)) (.cal 9) (.cons (.inp 20) .nil) (.chk (some ((.bv 5), true)) (.bin .eql) (.cons (.op (.cal 9) (.cons (.inp 20) .nil)) (.cons (.cst (.int .i64 1)) .nil)) (.isb none (.bv 5) (.bnd (.ite (.bv 5) true (.op (.bin .eql) (.cons (.op (.cal 9) (.cons (.inp 20) .nil)) (.cons (.cst (.int .i64 1)) .nil))) (.cst (.bool false))) (.ite (.bv 6) true (.eff (.call 20) (.cons (.ite (.bv 6) true (.inp 17) (.cst (.tuple #[]))) (.cons (.cst (.int .i64 1)) .nil)) (.chk none (.bin .eql) (.cons (.bv 7) (.cons (.cst (.int .u64 0)) .nil)) (.isb none (.bv 6) (.bnd (.op (.bin .eql) (.cons (.bv 7) (.cons (.cst (.int .u64 0)) .nil))) (.ite (.bv 8) true (.eff (.call 16) (.cons (.ite (.bv 8) true (.inp 17) (.cst (.tuple #[]))) (.cons (.cst (.int .i64 1)) .nil)) (.chk none .lenL (.cons (.bv 9) .nil) (.chk none (.bin .eql) (.cons (.op .lenL (.cons (.bv 9) .nil)) (.cons (.cst (.int .i64 0)) .nil)) (.isb none (.bv 8) (.bnd (.op (.bin .eql) (.cons (.op .lenL (.cons (.bv 9) .nil)) (.cons (.cst (.int .i64 0)) .nil))) (.ite (.bv 10) true (.eff (.call 28) (.cons (.ite (.bv 10) true (.inp 17) (.cst (.tuple #[]))) .nil) (.chk none .lenL (.cons (.bv 11) .nil) (.chk none (.bin .eql) (.cons (.op .lenL (.cons (.bv 11) .nil)) (.cons (.cst (.int .i64 0)) .nil)) (.isb none (.bv 10) (.done [(0, (.op (.bin .eql) (.cons (.op .lenL (.cons (.bv 11) .nil)) (.cons (.cst (.int .i64 0)) .nil))))] none))))) (.isb none (.bv 10) (.done [(0, (.cst (.bool false)))] none)))))))) (.isb none (.bv 8) (.isb none (.cst (.bool false)) (.done [(0, (.cst (.bool false)))] none)))))))) (.isb none (.bv 6) (.isb none (.cst (.bool false)) (.isb none (.cst (.bool false)) (.done [(0, (.cst (.bool false)))] none))))))))))))))))))))))))))))))) .ret)
@[simp] theorem h5_0_wp {P : Program} {F : PF P} {Q : EX → List Value → World → Prop} {env : List Value} {w : World} : h5_0.wp F Q env w = HC.wp F (.seq (.reg (.chk none (.eqNil false (.pointer 95) (.pointer none)) (.cons (.inp 13) .nil) (.bnd (.op (.eqNil false (.pointer 95) (.pointer none)) (.cons (.inp 13) .nil)) (.chk (some ((.bv 0), true)) (.eqNil false (.pointer 95) (.pointer none)) (.cons (.inp 15) .nil) (.isb none (.bv 0) (.bnd (.ite (.bv 0) true (.op (.eqNil false (.pointer 95) (.pointer none)) (.cons (.inp 15) .nil)) (.cst (.bool false))) (.chk (some ((.bv 1), true)) (.cal 9) (.cons (.inp 14) .nil) (.chk (some ((.bv 1), true)) (.bin .eql) (.cons (.op (.cal 9) (.cons (.inp 14) .nil)) (.cons (.cst (.int .i64 1)) .nil)) (.isb none (.bv 1) (.bnd (.ite (.bv 1) true (.op (.bin .eql) (.cons (.op (.cal 9) (.cons (.inp 14) .nil)) (.cons (.cst (.int .i64 1)) .nil))) (.cst (.bool false))) (.chk (some ((.bv 2), true)) (.cal 9) (.cons (.inp 16) .nil) (.chk (some ((.bv 2), true)) (.bin .eql) (.cons (.op (.cal 9) (.cons (.inp 16) .nil)) (.cons (.cst (.int .i64 1)) .nil)) (.isb none (.bv 2) (.bnd (.ite (.bv 2) true (.op (.bin .eql) (.cons (.op (.cal 9) (.cons (.inp 16) .nil)) (.cons (.cst (.int .i64 1)) .nil))) (.cst (.bool false))) (.chk (some ((.bv 3), true)) (.cal 9) (.cons (.inp 18) .nil) (.chk (some ((.bv 3), true)) (.bin .eql) (.cons (.op (.cal 9) (.cons (.inp 18) .nil)) (.cons (.cst (.int .i64 1)) .nil)) (.isb none (.bv 3) (.bnd (.ite (.bv 3) true (.op (.bin .eql) (.cons (.op (.cal 9) (.cons (.inp 18) .nil)) (.cons (.cst (.int .i64 1)) .nil))) (.cst (.bool false))) (.chk (some ((.bv 4), true)) (.cal 9) (.cons (.inp 19) .nil) (.chk (some ((.bv 4), true)) (.bin .eql) (.cons (.op (.cal 9) (.cons (.inp 19) .nil)) (.cons (.cst (.int .i64 1)) .nil)) (.isb none (.bv 4) (.bnd (.ite (.bv 4) true (.op (.bin .eql) (.cons (.op (.cal 9) (.cons (.inp 19) .nil)) (.cons (.cst (.int .i64 1)) .nil))) (.cst (.bool false))) (.chk (some ((.bv 5), true)) (.cal 9) (.cons (.inp 20) .nil) (.chk (some ((.bv 5), true)) (.bin .eql) (.cons (.op (.cal 9) (.cons (.inp 20) .nil)) (.cons (.cst (.int .i64 1)) .nil)) (.isb none (.bv 5) (.bnd (.ite (.bv 5) true (.op (.bin .eql) (.cons (.op (.cal 9) (.cons (.inp 20) .nil)) (.cons (.cst (.int .i64 1)) .nil))) (.cst (.bool false))) (.ite (.bv 6) true (.eff (.call 20) (.cons (.ite (.bv 6) true (.inp 17) (.cst (.tuple #[]))) (.cons (.cst (.int .i64 1)) .nil)) (.chk none (.bin .eql) (.cons (.bv 7) (.cons (.cst (.int .u64 0)) .nil)) (.isb none (.bv 6) (.bnd (.op (.bin .eql) (.cons (.bv 7) (.cons (.cst (.int .u64 0)) .nil))) (.ite (.bv 8) true (.eff (.call 16) (.cons (.ite (.bv 8) true (.inp 17) (.cst (.tuple #[]))) (.cons (.cst (.int .i64 1)) .nil)) (.chk none .lenL (.cons (.bv 9) .nil) (.chk none (.bin .eql) (.cons (.op .lenL (.cons (.bv 9) .nil)) (.cons (.cst (.int .i64 0)) .nil)) (.isb none (.bv 8) (.bnd (.op (.bin .eql) (.cons (.op .lenL (.cons (.bv 9) .nil)) (.cons (.cst (.int .i64 0)) .nil))) (.ite (.bv 10) true (.eff (.call 28) (.cons (.ite (.bv 10) true (.inp 17) (.cst (.tuple #[]))) .nil) (.chk none .lenL (.cons (.bv 11) .nil) (.chk none (.bin .eql) (.cons (.op .lenL (.cons (.bv 11) .nil)) (.cons (.cst (.int .i64 0)) .nil)) (.isb none (.bv 10) (.done [(0, (.op (.bin .eql) (.cons (.op .lenL (.cons (.bv 11) .nil)) (.cons (.cst (.int .i64 0)) .nil))))] none))))) (.isb none (.bv 10) (.done [(0, (.cst (.bool false)))] none)))))))) (.isb none (.bv 8) (.isb none (.cst (.bool false)) (.done [(0, (.cst (.bool false)))] none)))))))) (.isb none (.bv 6) (.isb none (.cst (.bool false)) (.isb none (.cst (.bool false)) (.done [(0, (.cst (.bool false)))] none))))))))))))))))))))))))))))))) .ret) Q env w := rfl
def h5_1 : HC := (.seq (.reg (.eff (.call 23) (.cons (.inp 17) (.cons (.cst (.int .i64 0)) (.cons (.cst (.slice none 0 0)) .nil))) (.done [(20, (.bv 0))] none))) h5_0)
@[simp] theorem h5_1_wp {P : Program} {F : PF P} {Q : EX → List Value → World → Prop} {env : List Value} {w : World} : h5_1.wp F Q env w = HC.wp F (.seq (.reg (.eff (.call 23) (.cons (.inp 17) (.cons (.cst (.int .i64 0)) (.cons (.cst (.slice none 0 0)) .nil))) (.done [(20, (.bv 0))] none))) h5_0) Q env w := rfl
def h5_2 : HC := (.seq (.reg (.chk none (.build #[(.int .i64 0), (.int .i64 0), (.int .u64 0), (.int .u64 0), (.slice none 0 0)] [(0, 1), (1, 1), (2, 1), (3, 1), (4, 1)] []) .nil (.eff (.call 13) (.cons (.inp 17) (.cons (.cst (.int .i64 0)) (.cons (.cst (.slice none 0 0)) (.cons (.op (.build #[(.int .i64 0), (.int .i64 0), (.int .u64 0), (.int .u64 0), (.slice none 0 0)] [(0, 1), (1, 1), (2, 1), (3, 1), (4, 1)] []) .nil) .nil)))) (.done [(19, (.bv 0))] none)))) h5_1)
@[simp] theorem h5_2_wp {P : Program} {F : PF P} {Q : EX → List Value → World → Prop} {env : List Value} {w : World} : h5_2.wp F Q env w = HC.wp F (.seq (.reg (.chk none (.build #[(.int .i64 0), (.int .i64 0), (.int .u64 0), (.int .u64 0), (.slice none 0 0)] [(0, 1), (1, 1), (2, 1), (3, 1), (4, 1)] []) .nil (.eff (.call 13) (.cons (.inp 17) (.cons (.cst (.int .i64 0)) (.cons (.cst (.slice none 0 0)) (.cons (.op (.build #[(.int .i64 0), (.int .i64 0), (.int .u64 0), (.int .u64 0), (.slice none 0 0)] [(0, 1), (1, 1), (2, 1), (3, 1), (4, 1)] []) .nil) .nil)))) (.done [(19, (.bv 0))] none)))) h5_1) Q env w := rfl
def h5_3 : HC := (.seq (.reg (.chk none (.build #[(.int .i64 0), (.int .i64 0), (.int .u64 0), (.int .u64 0), (.slice none 0 0)] [(0, 1), (1, 1), (2, 1), (3, 1), (4, 1)] []) .nil (.eff (.call 14) (.cons (.inp 17) (.cons (.cst (.int .i64 1)) (.cons (.op (.build #[(.int .i64 0), (.int .i64 0), (.int .u64 0), (.int .u64 0), (.slice none 0 0)] [(0, 1), (1, 1), (2, 1), (3, 1), (4, 1)] []) .nil) .nil))) (.done [(18, (.bv 0))] none)))) h5_2)
@[simp] theorem h5_3_wp {P : Program} {F : PF P} {Q : EX → List Value → World → Prop} {env : List Value} {w : World} : h5_3.wp F Q env w = HC.wp F (.seq (.reg (.chk none (.build #[(.int .i64 0), (.int .i64 0), (.int .u64 0), (.int .u64 0), (.slice none 0 0)] [(0, 1), (1, 1), (2, 1), (3, 1), (4, 1)] []) .nil (.eff (.call 14) (.cons (.inp 17) (.cons (.cst (.int .i64 1)) (.cons (.op (.build #[(.int .i64 0), (.int .i64 0), (.int .u64 0), (.int .u64 0), (.slice none 0 0)] [(0, 1), (1, 1), (2, 1), (3, 1), (4, 1)] []) .nil) .nil))) (.done [(18, (.bv 0))] none)))) h5_2) Q env w := rfl
def h5_4 : HC := (.seq (.reg (.done [(17, (.cst (.pointer none)))] none)) h5_3)
@[simp] theorem h5_4_wp {P : Program} {F : PF P} {Q : EX → List Value → World → Prop} {env : List Value} {w : World} : h5_4.wp F Q env w = HC.wp F (.seq (.reg (.done [(17, (.cst (.pointer none)))] none)) h5_3) Q env w := rfl
def h5_5 : HC := (.seq (.reg (.eff (.call 10) (.cons (.inp 1) (.cons (.cst (.pointer none)) (.cons (.cst (.slice none 0 0)) .nil))) (.chk none (.ext 0) (.cons (.bv 0) .nil) (.chk none (.ext 1) (.cons (.bv 0) .nil) (.done [(15, (.op (.ext 0) (.cons (.bv 0) .nil))), (16, (.op (.ext 1) (.cons (.bv 0) .nil)))] none))))) h5_4)
@[simp] theorem h5_5_wp {P : Program} {F : PF P} {Q : EX → List Value → World → Prop} {env : List Value} {w : World} : h5_5.wp F Q env w = HC.wp F (.seq (.reg (.eff (.call 10) (.cons (.inp 1) (.cons (.cst (.pointer none)) (.cons (.cst (.slice none 0 0)) .nil))) (.chk none (.ext 0) (.cons (.bv 0) .nil) (.chk none (.ext 1) (.cons (.bv 0) .nil) (.done [(15, (.op (.ext 0) (.cons (.bv 0) .nil))), (16, (.op (.ext 1) (.cons (.bv 0) .nil)))] none))))) h5_4) Q env w := rfl
def h5_6 : HC := (.seq (.reg (.eff (.call 30) (.cons (.cst (.pointer none)) (.cons (.cst (.pointer none)) .nil)) (.chk none (.ext 0) (.cons (.bv 0) .nil) (.chk none (.ext 1) (.cons (.bv 0) .nil) (.done [(13, (.op (.ext 0) (.cons (.bv 0) .nil))), (14, (.op (.ext 1) (.cons (.bv 0) .nil)))] none))))) h5_5)
@[simp] theorem h5_6_wp {P : Program} {F : PF P} {Q : EX → List Value → World → Prop} {env : List Value} {w : World} : h5_6.wp F Q env w = HC.wp F (.seq (.reg (.eff (.call 30) (.cons (.cst (.pointer none)) (.cons (.cst (.pointer none)) .nil)) (.chk none (.ext 0) (.cons (.bv 0) .nil) (.chk none (.ext 1) (.cons (.bv 0) .nil) (.done [(13, (.op (.ext 0) (.cons (.bv 0) .nil))), (14, (.op (.ext 1) (.cons (.bv 0) .nil)))] none))))) h5_5) Q env w := rfl
def h5_7 : HC := (.seq (.reg (.done [(0, (.cst (.bool false)))] none)) .ret)
@[simp] theorem h5_7_wp {P : Program} {F : PF P} {Q : EX → List Value → World → Prop} {env : List Value} {w : World} : h5_7.wp F Q env w = HC.wp F (.seq (.reg (.done [(0, (.cst (.bool false)))] none)) .ret) Q env w := rfl
def h5_8 : HC := (.seq (.br (.chk none (.cal 9) (.cons (.inp 9) .nil) (.chk none (.bin .neq) (.cons (.op (.cal 9) (.cons (.inp 9) .nil)) (.cons (.cst (.int .i64 170)) .nil)) (.bnd (.op (.bin .neq) (.cons (.op (.cal 9) (.cons (.inp 9) .nil)) (.cons (.cst (.int .i64 170)) .nil))) (.chk (some ((.bv 0), false)) (.cal 9) (.cons (.inp 10) .nil) (.chk (some ((.bv 0), false)) (.bin .neq) (.cons (.op (.cal 9) (.cons (.inp 10) .nil)) (.cons (.cst (.int .i64 170)) .nil)) (.isb none (.bv 0) (.bnd (.ite (.bv 0) true (.cst (.bool true)) (.op (.bin .neq) (.cons (.op (.cal 9) (.cons (.inp 10) .nil)) (.cons (.cst (.int .i64 170)) .nil)))) (.chk (some ((.bv 1), false)) (.cal 9) (.cons (.inp 11) .nil) (.chk (some ((.bv 1), false)) (.bin .neq) (.cons (.op (.cal 9) (.cons (.inp 11) .nil)) (.cons (.cst (.int .i64 170)) .nil)) (.isb none (.bv 1) (.bnd (.ite (.bv 1) true (.cst (.bool true)) (.op (.bin .neq) (.cons (.op (.cal 9) (.cons (.inp 11) .nil)) (.cons (.cst (.int .i64 170)) .nil)))) (.chk (some ((.bv 2), false)) (.cal 9) (.cons (.inp 12) .nil) (.chk (some ((.bv 2), false)) (.bin .neq) (.cons (.op (.cal 9) (.cons (.inp 12) .nil)) (.cons (.cst (.int .i64 0)) .nil)) (.isb none (.bv 2) (.bnd (.ite (.bv 2) true (.cst (.bool true)) (.op (.bin .neq) (.cons (.op (.cal 9) (.cons (.inp 12) .nil)) (.cons (.cst (.int .i64 0)) .nil)))) (.ite (.bv 3) false (.eff (.call 28) (.cons (.ite (.bv 3) false (.inp 2) (.cst (.tuple #[]))) .nil) (.chk none .lenL (.cons (.bv 4) .nil) (.chk none (.bin .neq) (.cons (.op .lenL (.cons (.bv 4) .nil)) (.cons (.cst (.int .i64 0)) .nil)) (.isb none (.bv 3) (.bnd (.op (.bin .neq) (.cons (.op .lenL (.cons (.bv 4) .nil)) (.cons (.cst (.int .i64 0)) .nil))) (.ite (.bv 5) false (.eff (.call 16) (.cons (.ite (.bv 5) false (.inp 2) (.cst (.tuple #[]))) (.cons (.cst (.int .i64 7)) .nil)) (.chk none .lenL (.cons (.bv 6) .nil) (.chk none (.bin .neq) (.cons (.op .lenL (.cons (.bv 6) .nil)) (.cons (.cst (.int .i64 0)) .nil)) (.isb none (.bv 5) (.bnd (.op (.bin .neq) (.cons (.op .lenL (.cons (.bv 6) .nil)) (.cons (.cst (.int .i64 0)) .nil))) (.ite (.bv 7) false (.eff (.call 29) (.cons (.ite (.bv 7) false (.inp 1) (.cst (.tuple #[]))) .nil) (.chk none (.bin .neq) (.cons (.bv 8) (.cons (.cst (.int .u64 0)) .nil)) (.isb none (.bv 7) (.bnd (.op (.bin .neq) (.cons (.bv 8) (.cons (.cst (.int .u64 0)) .nil))) (.ite (.bv 9) false (.eff (.call 27) (.cons (.ite (.bv 9) false (.inp 1) (.cst (.tuple #[]))) (.cons (.cst (.int .i64 1)) (.cons (.cst (.int .u64 60)) .nil))) (.chk none (.un .not) (.cons (.bv 10) .nil) (.isb none (.bv 9) (.bnd (.op (.un .not) (.cons (.bv 10) .nil)) (.ite (.bv 11) false (.eff (.call 27) (.cons (.ite (.bv 11) false (.inp 1) (.cst (.tuple #[]))) (.cons (.cst (.int .i64 2)) (.cons (.cst (.int .u64 90)) .nil))) (.chk none (.un .not) (.cons (.bv 12) .nil) (.isb none (.bv 11) (.done [] (some (.op (.un .not) (.cons (.bv 12) .nil))))))) (.isb none (.bv 11) (.done [] (some (.cst (.bool true)))))))))) (.isb none (.bv 9) (.isb none (.cst (.bool true)) (.done [] (some (.cst (.bool true))))))))))) (.isb none (.bv 7) (.isb none (.cst (.bool true)) (.isb none (.cst (.bool true)) (.done [] (some (.cst (.bool true))))))))))))) (.isb none (.bv 5) (.isb none (.cst (.bool true)) (.isb none (.cst (.bool true)) (.isb none (.cst (.bool true)) (.done [] (some (.cst (.bool true)))))))))))))) (.isb none (.bv 3) (.isb none (.cst (.bool true)) (.isb none (.cst (.bool true)) (.isb none (.cst (.bool true)) (.isb none (.cst (.bool true)) (.done [] (some (.cst (.bool true))))))))))))))))))))))))) h5_7 .skip) h5_6)
@[simp] theorem h5_8_wp {P : Program} {F : PF P} {Q : EX → List Value → World → Prop} {env : List Value} {w : World} : h5_8.wp F Q env w = HC.wp F (.seq (.br (.chk none (.cal 9) (.cons (.inp 9) .nil) (.chk none (.bin .neq) (.cons (.op (.cal 9) (.cons (.inp 9) .nil)) (.cons (.cst (.int .i64 170)) .nil)) (.bnd (.op (.bin .neq) (.cons (.op (.cal 9) (.cons (.inp 9) .nil)) (.cons (.cst (.int .i64 170)) .nil))) (.chk (some ((.bv 0), false)) (.cal 9) (.cons (.inp 10) .nil) (.chk (some ((.bv 0), false)) (.bin .neq) (.cons (.op (.cal 9) (.cons (.inp 10) .nil)) (.cons (.cst (.int .i64 170)) .nil)) (.isb none (.bv 0) (.bnd (.ite (.bv 0) true (.cst (.bool true)) (.op (.bin .neq) (.cons (.op (.cal 9) (.cons (.inp 10) .nil)) (.cons (.cst (.int .i64 170)) .nil)))) (.chk (some ((.bv 1), false)) (.cal 9) (.cons (.inp 11) .nil) (.chk (some ((.bv 1), false)) (.bin .neq) (.cons (.op (.cal 9) (.cons (.inp 11) .nil)) (.cons (.cst (.int .i64 170)) .nil)) (.isb none (.bv 1) (.bnd (.ite (.bv 1) true (.cst (.bool true)) (.op (.bin .neq) (.cons (.op (.cal 9) (.cons (.inp 11) .nil)) (.cons (.cst (.int .i64 170)) .nil)))) (.chk (some ((.bv 2), false)) (.cal 9) (.cons (.inp 12) .nil) (.chk (some ((.bv 2), false)) (.bin .neq) (.cons (.op (.cal 9) (.cons (.inp 12) .nil)) (.cons (.cst (.int .i64 0)) .nil)) (.isb none (.bv 2) (.bnd (.ite (.bv 2) true (.cst (.bool true)) (.op (.bin .neq) (.cons (.op (.cal 9) (.cons (.inp 12) .nil)) (.cons (.cst (.int .i64 0)) .nil)))) (.ite (.bv 3) false (.eff (.call 28) (.cons (.ite (.bv 3) false (.inp 2) (.cst (.tuple #[]))) .nil) (.chk none .lenL (.cons (.bv 4) .nil) (.chk none (.bin .neq) (.cons (.op .lenL (.cons (.bv 4) .nil)) (.cons (.cst (.int .i64 0)) .nil)) (.isb none (.bv 3) (.bnd (.op (.bin .neq) (.cons (.op .lenL (.cons (.bv 4) .nil)) (.cons (.cst (.int .i64 0)) .nil))) (.ite (.bv 5) false (.eff (.call 16) (.cons (.ite (.bv 5) false (.inp 2) (.cst (.tuple #[]))) (.cons (.cst (.int .i64 7)) .nil)) (.chk none .lenL (.cons (.bv 6) .nil) (.chk none (.bin .neq) (.cons (.op .lenL (.cons (.bv 6) .nil)) (.cons (.cst (.int .i64 0)) .nil)) (.isb none (.bv 5) (.bnd (.op (.bin .neq) (.cons (.op .lenL (.cons (.bv 6) .nil)) (.cons (.cst (.int .i64 0)) .nil))) (.ite (.bv 7) false (.eff (.call 29) (.cons (.ite (.bv 7) false (.inp 1) (.cst (.tuple #[]))) .nil) (.chk none (.bin .neq) (.cons (.bv 8) (.cons (.cst (.int .u64 0)) .nil)) (.isb none (.bv 7) (.bnd (.op (.bin .neq) (.cons (.bv 8) (.cons (.cst (.int .u64 0)) .nil))) (.ite (.bv 9) false (.eff (.call 27) (.cons (.ite (.bv 9) false (.inp 1) (.cst (.tuple #[]))) (.cons (.cst (.int .i64 1)) (.cons (.cst (.int .u64 60)) .nil))) (.chk none (.un .not) (.cons (.bv 10) .nil) (.isb none (.bv 9) (.bnd (.op (.un .not) (.cons (.bv 10) .nil)) (.ite (.bv 11) false (.eff (.call 27) (.cons (.ite (.bv 11) false (.inp 1) (.cst (.tuple #[]))) (.cons (.cst (.int .i64 2)) (.cons (.cst (.int .u64 90)) .nil))) (.chk none (.un .not) (.cons (.bv 12) .nil) (.isb none (.bv 11) (.done [] (some (.op (.un .not) (.cons (.bv 12) .nil))))))) (.isb none (.bv 11) (.done [] (some (.cst (.bool true)))))))))) (.isb none (.bv 9) (.isb none (.cst (.bool true)) (.done [] (some (.cst (.bool true))))))))))) (.isb none (.bv 7) (.isb none (.cst (.bool true)) (.isb none (.cst (.bool true)) (.done [] (some (.cst (.bool true))))))))))))) (.isb none (.bv 5) (.isb none (.cst (.bool true)) (.isb none (.cst (.bool true)) (.isb none (.cst (.bool true)) (.done [] (some (.cst (.bool true)))))))))))))) (.isb none (.bv 3) (.isb none (.cst (.bool true)) (.isb none (.cst (.bool true)) (.isb none (.cst (.bool true)) (.isb none (.cst (.bool true)) (.done [] (some (.cst (.bool true))))))))))))))))))))))))) h5_7 .skip) h5_6) Q env w := rfl
def h5_9 : HC := (.seq (.reg (.chk none (.build #[(.int .i64 0), (.int .i64 0), (.int .u64 0)] [(0, 1), (1, 1), (2, 1)] [0, 1]) (.cons (.cst (.int .i64 2)) (.cons (.cst (.int .i64 1)) .nil)) (.chk none (.build #[(.int .i64 0), (.int .i64 0), (.int .u64 0)] [(0, 1), (1, 1), (2, 1)] [0, 2]) (.cons (.cst (.int .i64 1)) (.cons (.cst (.int .u64 60)) .nil)) (.chk none (.build #[(.int .i64 0), (.int .i64 0), (.int .u64 0)] [(0, 1), (1, 1), (2, 1)] [0, 2]) (.cons (.cst (.int .i64 2)) (.cons (.cst (.int .u64 40)) .nil)) (.eff (.bsl 60 3 3 #[(.int .i64 0), (.int .i64 0), (.int .u64 0)] [0, 1, 2]) (.cons (.op (.build #[(.int .i64 0), (.int .i64 0), (.int .u64 0)] [(0, 1), (1, 1), (2, 1)] [0, 1]) (.cons (.cst (.int .i64 2)) (.cons (.cst (.int .i64 1)) .nil))) (.cons (.op (.build #[(.int .i64 0), (.int .i64 0), (.int .u64 0)] [(0, 1), (1, 1), (2, 1)] [0, 2]) (.cons (.cst (.int .i64 1)) (.cons (.cst (.int .u64 60)) .nil))) (.cons (.op (.build #[(.int .i64 0), (.int .i64 0), (.int .u64 0)] [(0, 1), (1, 1), (2, 1)] [0, 2]) (.cons (.cst (.int .i64 2)) (.cons (.cst (.int .u64 40)) .nil))) .nil))) (.eff (.call 23) (.cons (.inp 2) (.cons (.cst (.int .i64 7)) (.cons (.bv 0) .nil))) (.done [(12, (.bv 1))] none))))))) h5_8)
@[simp] theorem h5_9_wp {P : Program} {F : PF P} {Q : EX → List Value → World → Prop} {env : List Value} {w : World} : h5_9.wp F Q env w = HC.wp F (.seq (.reg (.chk none (.build #[(.int .i64 0), (.int .i64 0), (.int .u64 0)] [(0, 1), (1, 1), (2, 1)] [0, 1]) (.cons (.cst (.int .i64 2)) (.cons (.cst (.int .i64 1)) .nil)) (.chk none (.build #[(.int .i64 0), (.int .i64 0), (.int .u64 0)] [(0, 1), (1, 1), (2, 1)] [0, 2]) (.cons (.cst (.int .i64 1)) (.cons (.cst (.int .u64 60)) .nil)) (.chk none (.build #[(.int .i64 0), (.int .i64 0), (.int .u64 0)] [(0, 1), (1, 1), (2, 1)] [0, 2]) (.cons (.cst (.int .i64 2)) (.cons (.cst (.int .u64 40)) .nil)) (.eff (.bsl 60 3 3 #[(.int .i64 0), (.int .i64 0), (.int .u64 0)] [0, 1, 2]) (.cons (.op (.build #[(.int .i64 0), (.int .i64 0), (.int .u64 0)] [(0, 1), (1, 1), (2, 1)] [0, 1]) (.cons (.cst (.int .i64 2)) (.cons (.cst (.int .i64 1)) .nil))) (.cons (.op (.build #[(.int .i64 0), (.int .i64 0), (.int .u64 0)] [(0, 1), (1, 1), (2, 1)] [0, 2]) (.cons (.cst (.int .i64 1)) (.cons (.cst (.int .u64 60)) .nil))) (.cons (.op (.build #[(.int .i64 0), (.int .i64 0), (.int .u64 0)] [(0, 1), (1, 1), (2, 1)] [0, 2]) (.cons (.cst (.int .i64 2)) (.cons (.cst (.int .u64 40)) .nil))) .nil))) (.eff (.call 23) (.cons (.inp 2) (.cons (.cst (.int .i64 7)) (.cons (.bv 0) .nil))) (.done [(12, (.bv 1))] none))))))) h5_8) Q env w := rfl
def h5_10 : HC := (.seq (.reg (.chk none (.build #[(.int .i64 0), (.int .i64 0), (.int .u64 0)] [(0, 1), (1, 1), (2, 1)] [0, 1]) (.cons (.cst (.int .i64 1)) (.cons (.cst (.int .i64 2)) .nil)) (.eff (.bsl 60 1 3 #[(.int .i64 0), (.int .i64 0), (.int .u64 0)] [0]) (.cons (.op (.build #[(.int .i64 0), (.int .i64 0), (.int .u64 0)] [(0, 1), (1, 1), (2, 1)] [0, 1]) (.cons (.cst (.int .i64 1)) (.cons (.cst (.int .i64 2)) .nil))) .nil) (.eff (.call 23) (.cons (.inp 2) (.cons (.cst (.int .i64 7)) (.cons (.bv 0) .nil))) (.done [(11, (.bv 1))] none))))) h5_9)
@[simp] theorem h5_10_wp {P : Program} {F : PF P} {Q : EX → List Value → World → Prop} {env : List Value} {w : World} : h5_10.wp F Q env w = HC.wp F (.seq (.reg (.chk none (.build #[(.int .i64 0), (.int .i64 0), (.int .u64 0)] [(0, 1), (1, 1), (2, 1)] [0, 1]) (.cons (.cst (.int .i64 1)) (.cons (.cst (.int .i64 2)) .nil)) (.eff (.bsl 60 1 3 #[(.int .i64 0), (.int .i64 0), (.int .u64 0)] [0]) (.cons (.op (.build #[(.int .i64 0), (.int .i64 0), (.int .u64 0)] [(0, 1), (1, 1), (2, 1)] [0, 1]) (.cons (.cst (.int .i64 1)) (.cons (.cst (.int .i64 2)) .nil))) .nil) (.eff (.call 23) (.cons (.inp 2) (.cons (.cst (.int .i64 7)) (.cons (.bv 0) .nil))) (.done [(11, (.bv 1))] none))))) h5_9) Q env w := rfl
def h5_11 : HC := (.seq (.reg (.chk none (.build #[(.int .i64 0), (.int .i64 0), (.int .u64 0)] [(0, 1), (1, 1), (2, 1)] [0, 1]) (.cons (.cst (.int .i64 2)) (.cons (.cst (.int .i64 1)) .nil)) (.chk none (.build #[(.int .i64 0), (.int .i64 0), (.int .u64 0)] [(0, 1), (1, 1), (2, 1)] [0, 2]) (.cons (.cst (.int .i64 1)) (.cons (.cst (.int .u64 101)) .nil)) (.eff (.bsl 60 2 3 #[(.int .i64 0), (.int .i64 0), (.int .u64 0)] [0, 1]) (.cons (.op (.build #[(.int .i64 0), (.int .i64 0), (.int .u64 0)] [(0, 1), (1, 1), (2, 1)] [0, 1]) (.cons (.cst (.int .i64 2)) (.cons (.cst (.int .i64 1)) .nil))) (.cons (.op (.build #[(.int .i64 0), (.int .i64 0), (.int .u64 0)] [(0, 1), (1, 1), (2, 1)] [0, 2]) (.cons (.cst (.int .i64 1)) (.cons (.cst (.int .u64 101)) .nil))) .nil)) (.eff (.call 23) (.cons (.inp 2) (.cons (.cst (.int .i64 7)) (.cons (.bv 0) .nil))) (.done [(10, (.bv 1))] none)))))) h5_10)
@[simp] theorem h5_11_wp {P : Program} {F : PF P} {Q : EX → List Value → World → Prop} {env : List Value} {w : World} : h5_11.wp F Q env w = HC.wp F (.seq (.reg (.chk none (.build #[(.int .i64 0), (.int .i64 0), (.int .u64 0)] [(0, 1), (1, 1), (2, 1)] [0, 1]) (.cons (.cst (.int .i64 2)) (.cons (.cst (.int .i64 1)) .nil)) (.chk none (.build #[(.int .i64 0), (.int .i64 0), (.int .u64 0)] [(0, 1), (1, 1), (2, 1)] [0, 2]) (.cons (.cst (.int .i64 1)) (.cons (.cst (.int .u64 101)) .nil)) (.eff (.bsl 60 2 3 #[(.int .i64 0), (.int .i64 0), (.int .u64 0)] [0, 1]) (.cons (.op (.build #[(.int .i64 0), (.int .i64 0), (.int .u64 0)] [(0, 1), (1, 1), (2, 1)] [0, 1]) (.cons (.cst (.int .i64 2)) (.cons (.cst (.int .i64 1)) .nil))) (.cons (.op (.build #[(.int .i64 0), (.int .i64 0), (.int .u64 0)] [(0, 1), (1, 1), (2, 1)] [0, 2]) (.cons (.cst (.int .i64 1)) (.cons (.cst (.int .u64 101)) .nil))) .nil)) (.eff (.call 23) (.cons (.inp 2) (.cons (.cst (.int .i64 7)) (.cons (.bv 0) .nil))) (.done [(10, (.bv 1))] none)))))) h5_10) Q env w := rfl
def h5_12 : HC := (.seq (.reg (.chk none (.build #[(.int .i64 0), (.int .i64 0), (.int .u64 0)] [(0, 1), (1, 1), (2, 1)] [0, 1]) (.cons (.cst (.int .i64 2)) (.cons (.cst (.int .i64 1)) .nil)) (.eff (.bsl 60 1 3 #[(.int .i64 0), (.int .i64 0), (.int .u64 0)] [0]) (.cons (.op (.build #[(.int .i64 0), (.int .i64 0), (.int .u64 0)] [(0, 1), (1, 1), (2, 1)] [0, 1]) (.cons (.cst (.int .i64 2)) (.cons (.cst (.int .i64 1)) .nil))) .nil) (.eff (.call 23) (.cons (.inp 2) (.cons (.cst (.int .i64 7)) (.cons (.bv 0) .nil))) (.done [(9, (.bv 1))] none))))) h5_11)
@[simp] theorem h5_12_wp {P : Program} {F : PF P} {Q : EX → List Value → World → Prop} {env : List Value} {w : World} : h5_12.wp F Q env w = HC.wp F (.seq (.reg (.chk none (.build #[(.int .i64 0), (.int .i64 0), (.int .u64 0)] [(0, 1), (1, 1), (2, 1)] [0, 1]) (.cons (.cst (.int .i64 2)) (.cons (.cst (.int .i64 1)) .nil)) (.eff (.bsl 60 1 3 #[(.int .i64 0), (.int .i64 0), (.int .u64 0)] [0]) (.cons (.op (.build #[(.int .i64 0), (.int .i64 0), (.int .u64 0)] [(0, 1), (1, 1), (2, 1)] [0, 1]) (.cons (.cst (.int .i64 2)) (.cons (.cst (.int .i64 1)) .nil))) .nil) (.eff (.call 23) (.cons (.inp 2) (.cons (.cst (.int .i64 7)) (.cons (.bv 0) .nil))) (.done [(9, (.bv 1))] none))))) h5_11) Q env w := rfl
def h5_13 : HC := (.seq (.reg (.done [(0, (.cst (.bool false)))] none)) .ret)
@[simp] theorem h5_13_wp {P : Program} {F : PF P} {Q : EX → List Value → World → Prop} {env : List Value} {w : World} : h5_13.wp F Q env w = HC.wp F (.seq (.reg (.done [(0, (.cst (.bool false)))] none)) .ret) Q env w := rfl
def h5_14 : HC := (.seq (.br (.chk none (.cal 9) (.cons (.inp 8) .nil) (.chk none (.bin .neq) (.cons (.op (.cal 9) (.cons (.inp 8) .nil)) (.cons (.cst (.int .i64 143)) .nil)) (.bnd (.op (.bin .neq) (.cons (.op (.cal 9) (.cons (.inp 8) .nil)) (.cons (.cst (.int .i64 143)) .nil))) (.ite (.bv 0) false (.eff (.call 20) (.cons (.ite (.bv 0) false (.inp 2) (.cst (.tuple #[]))) (.cons (.cst (.int .i64 7)) .nil)) (.chk none (.bin .neq) (.cons (.bv 1) (.cons (.cst (.int .u64 100)) .nil)) (.isb none (.bv 0) (.bnd (.op (.bin .neq) (.cons (.bv 1) (.cons (.cst (.int .u64 100)) .nil))) (.ite (.bv 2) false (.eff (.call 27) (.cons (.ite (.bv 2) false (.inp 1) (.cst (.tuple #[]))) (.cons (.cst (.int .i64 2)) (.cons (.cst (.int .u64 50)) .nil))) (.chk none (.un .not) (.cons (.bv 3) .nil) (.isb none (.bv 2) (.done [] (some (.op (.un .not) (.cons (.bv 3) .nil))))))) (.isb none (.bv 2) (.done [] (some (.cst (.bool true)))))))))) (.isb none (.bv 0) (.isb none (.cst (.bool true)) (.done [] (some (.cst (.bool true)))))))))) h5_13 .skip) h5_12)
@[simp] theorem h5_14_wp {P : Program} {F : PF P} {Q : EX → List Value → World → Prop} {env : List Value} {w : World} : h5_14.wp F Q env w = HC.wp F (.seq (.br (.chk none (.cal 9) (.cons (.inp 8) .nil) (.chk none (.bin .neq) (.cons (.op (.cal 9) (.cons (.inp 8) .nil)) (.cons (.cst (.int .i64 143)) .nil)) (.bnd (.op (.bin .neq) (.cons (.op (.cal 9) (.cons (.inp 8) .nil)) (.cons (.cst (.int .i64 143)) .nil))) (.ite (.bv 0) false (.eff (.call 20) (.cons (.ite (.bv 0) false (.inp 2) (.cst (.tuple #[]))) (.cons (.cst (.int .i64 7)) .nil)) (.chk none (.bin .neq) (.cons (.bv 1) (.cons (.cst (.int .u64 100)) .nil)) (.isb none (.bv 0) (.bnd (.op (.bin .neq) (.cons (.bv 1) (.cons (.cst (.int .u64 100)) .nil))) (.ite (.bv 2) false (.eff (.call 27) (.cons (.ite (.bv 2) false (.inp 1) (.cst (.tuple #[]))) (.cons (.cst (.int .i64 2)) (.cons (.cst (.int .u64 50)) .nil))) (.chk none (.un .not) (.cons (.bv 3) .nil) (.isb none (.bv 2) (.done [] (some (.op (.un .not) (.cons (.bv 3) .nil))))))) (.isb none (.bv 2) (.done [] (some (.cst (.bool true)))))))))) (.isb none (.bv 0) (.isb none (.cst (.bool true)) (.done [] (some (.cst (.bool true)))))))))) h5_13 .skip) h5_12) Q env w := rfl
def h5_15 : HC := (.seq (.reg (.chk none (.build #[(.int .i64 0), (.int .i64 0), (.int .u64 0)] [(0, 1), (1, 1), (2, 1)] [0, 2]) (.cons (.cst (.int .i64 2)) (.cons (.cst (.int .u64 100)) .nil)) (.eff (.bsl 60 1 3 #[(.int .i64 0), (.int .i64 0), (.int .u64 0)] [0]) (.cons (.op (.build #[(.int .i64 0), (.int .i64 0), (.int .u64 0)] [(0, 1), (1, 1), (2, 1)] [0, 2]) (.cons (.cst (.int .i64 2)) (.cons (.cst (.int .u64 100)) .nil))) .nil) (.chk none (.build #[(.int .i64 0), (.int .i64 0), (.int .u64 0), (.int .u64 0), (.slice none 0 0)] [(0, 1), (1, 1), (2, 1), (3, 1), (4, 1)] [0, 2]) (.cons (.cst (.int .i64 2)) (.cons (.cst (.int .u64 151)) .nil)) (.eff (.call 13) (.cons (.inp 2) (.cons (.cst (.int .i64 7)) (.cons (.bv 0) (.cons (.op (.build #[(.int .i64 0), (.int .i64 0), (.int .u64 0), (.int .u64 0), (.slice none 0 0)] [(0, 1), (1, 1), (2, 1), (3, 1), (4, 1)] [0, 2]) (.cons (.cst (.int .i64 2)) (.cons (.cst (.int .u64 151)) .nil))) .nil)))) (.done [(8, (.bv 1))] none)))))) h5_14)
@[simp] theorem h5_15_wp {P : Program} {F : PF P} {Q : EX → List Value → World → Prop} {env : List Value} {w : World} : h5_15.wp F Q env w = HC.wp F (.seq (.reg (.chk none (.build #[(.int .i64 0), (.int .i64 0), (.int .u64 0)] [(0, 1), (1, 1), (2, 1)] [0, 2]) (.cons (.cst (.int .i64 2)) (.cons (.cst (.int .u64 100)) .nil)) (.eff (.bsl 60 1 3 #[(.int .i64 0), (.int .i64 0), (.int .u64 0)] [0]) (.cons (.op (.build #[(.int .i64 0), (.int .i64 0), (.int .u64 0)] [(0, 1), (1, 1), (2, 1)] [0, 2]) (.cons (.cst (.int .i64 2)) (.cons (.cst (.int .u64 100)) .nil))) .nil) (.chk none (.build #[(.int .i64 0), (.int .i64 0), (.int .u64 0), (.int .u64 0), (.slice none 0 0)] [(0, 1), (1, 1), (2, 1), (3, 1), (4, 1)] [0, 2]) (.cons (.cst (.int .i64 2)) (.cons (.cst (.int .u64 151)) .nil)) (.eff (.call 13) (.cons (.inp 2) (.cons (.cst (.int .i64 7)) (.cons (.bv 0) (.cons (.op (.build #[(.int .i64 0), (.int .i64 0), (.int .u64 0), (.int .u64 0), (.slice none 0 0)] [(0, 1), (1, 1), (2, 1), (3, 1), (4, 1)] [0, 2]) (.cons (.cst (.int .i64 2)) (.cons (.cst (.int .u64 151)) .nil))) .nil)))) (.done [(8, (.bv 1))] none)))))) h5_14) Q env w := rfl
def h5_16 : HC := (.seq (.reg (.done [(0, (.cst (.bool false)))] none)) .ret)
@[simp] theorem h5_16_wp {P : Program} {F : PF P} {Q : EX → List Value → World → Prop} {env : List Value} {w : World} : h5_16.wp F Q env w = HC.wp F (.seq (.reg (.done [(0, (.cst (.bool false)))] none)) .ret) Q env w := rfl
def h5_17 : HC := (.seq (.br (.chk none (.cal 9) (.cons (.inp 7) .nil) (.chk none (.bin .neq) (.cons (.op (.cal 9) (.cons (.inp 7) .nil)) (.cons (.cst (.int .i64 0)) .nil)) (.bnd (.op (.bin .neq) (.cons (.op (.cal 9) (.cons (.inp 7) .nil)) (.cons (.cst (.int .i64 0)) .nil))) (.ite (.bv 0) false (.eff (.call 20) (.cons (.ite (.bv 0) false (.inp 2) (.cst (.tuple #[]))) (.cons (.cst (.int .i64 7)) .nil)) (.chk none (.bin .neq) (.cons (.bv 1) (.cons (.cst (.int .u64 100)) .nil)) (.isb none (.bv 0) (.bnd (.op (.bin .neq) (.cons (.bv 1) (.cons (.cst (.int .u64 100)) .nil))) (.ite (.bv 2) false (.eff (.call 27) (.cons (.ite (.bv 2) false (.inp 1) (.cst (.tuple #[]))) (.cons (.cst (.int .i64 1)) (.cons (.cst (.int .u64 0)) .nil))) (.chk none (.un .not) (.cons (.bv 3) .nil) (.isb none (.bv 2) (.done [] (some (.op (.un .not) (.cons (.bv 3) .nil))))))) (.isb none (.bv 2) (.done [] (some (.cst (.bool true)))))))))) (.isb none (.bv 0) (.isb none (.cst (.bool true)) (.done [] (some (.cst (.bool true)))))))))) h5_16 .skip) h5_15)
@[simp] theorem h5_17_wp {P : Program} {F : PF P} {Q : EX → List Value → World → Prop} {env : List Value} {w : World} : h5_17.wp F Q env w = HC.wp F (.seq (.br (.chk none (.cal 9) (.cons (.inp 7) .nil) (.chk none (.bin .neq) (.cons (.op (.cal 9) (.cons (.inp 7) .nil)) (.cons (.cst (.int .i64 0)) .nil)) (.bnd (.op (.bin .neq) (.cons (.op (.cal 9) (.cons (.inp 7) .nil)) (.cons (.cst (.int .i64 0)) .nil))) (.ite (.bv 0) false (.eff (.call 20) (.cons (.ite (.bv 0) false (.inp 2) (.cst (.tuple #[]))) (.cons (.cst (.int .i64 7)) .nil)) (.chk none (.bin .neq) (.cons (.bv 1) (.cons (.cst (.int .u64 100)) .nil)) (.isb none (.bv 0) (.bnd (.op (.bin .neq) (.cons (.bv 1) (.cons (.cst (.int .u64 100)) .nil))) (.ite (.bv 2) false (.eff (.call 27) (.cons (.ite (.bv 2) false (.inp 1) (.cst (.tuple #[]))) (.cons (.cst (.int .i64 1)) (.cons (.cst (.int .u64 0)) .nil))) (.chk none (.un .not) (.cons (.bv 3) .nil) (.isb none (.bv 2) (.done [] (some (.op (.un .not) (.cons (.bv 3) .nil))))))) (.isb none (.bv 2) (.done [] (some (.cst (.bool true)))))))))) (.isb none (.bv 0) (.isb none (.cst (.bool true)) (.done [] (some (.cst (.bool true)))))))))) h5_16 .skip) h5_15) Q env w := rfl
def h5_18 : HC := (.seq (.reg (.chk none (.build #[(.int .i64 0), (.int .i64 0), (.int .u64 0)] [(0, 1), (1, 1), (2, 1)] [0, 2]) (.cons (.cst (.int .i64 1)) (.cons (.cst (.int .u64 30)) .nil)) (.eff (.bsl 60 1 3 #[(.int .i64 0), (.int .i64 0), (.int .u64 0)] [0]) (.cons (.op (.build #[(.int .i64 0), (.int .i64 0), (.int .u64 0)] [(0, 1), (1, 1), (2, 1)] [0, 2]) (.cons (.cst (.int .i64 1)) (.cons (.cst (.int .u64 30)) .nil))) .nil) (.chk none (.build #[(.int .i64 0), (.int .i64 0), (.int .u64 0), (.int .u64 0), (.slice none 0 0)] [(0, 1), (1, 1), (2, 1), (3, 1), (4, 1)] [0, 2]) (.cons (.cst (.int .i64 1)) (.cons (.cst (.int .u64 100)) .nil)) (.eff (.call 13) (.cons (.inp 2) (.cons (.cst (.int .i64 7)) (.cons (.bv 0) (.cons (.op (.build #[(.int .i64 0), (.int .i64 0), (.int .u64 0), (.int .u64 0), (.slice none 0 0)] [(0, 1), (1, 1), (2, 1), (3, 1), (4, 1)] [0, 2]) (.cons (.cst (.int .i64 1)) (.cons (.cst (.int .u64 100)) .nil))) .nil)))) (.done [(7, (.bv 1))] none)))))) h5_17)
@[simp] theorem h5_18_wp {P : Program} {F : PF P} {Q : EX → List Value → World → Prop} {env : List Value} {w : World} : h5_18.wp F Q env w = HC.wp F (.seq (.reg (.chk none (.build #[(.int .i64 0), (.int .i64 0), (.int .u64 0)] [(0, 1), (1, 1), (2, 1)] [0, 2]) (.cons (.cst (.int .i64 1)) (.cons (.cst (.int .u64 30)) .nil)) (.eff (.bsl 60 1 3 #[(.int .i64 0), (.int .i64 0), (.int .u64 0)] [0]) (.cons (.op (.build #[(.int .i64 0), (.int .i64 0), (.int .u64 0)] [(0, 1), (1, 1), (2, 1)] [0, 2]) (.cons (.cst (.int .i64 1)) (.cons (.cst (.int .u64 30)) .nil))) .nil) (.chk none (.build #[(.int .i64 0), (.int .i64 0), (.int .u64 0), (.int .u64 0), (.slice none 0 0)] [(0, 1), (1, 1), (2, 1), (3, 1), (4, 1)] [0, 2]) (.cons (.cst (.int .i64 1)) (.cons (.cst (.int .u64 100)) .nil)) (.eff (.call 13) (.cons (.inp 2) (.cons (.cst (.int .i64 7)) (.cons (.bv 0) (.cons (.op (.build #[(.int .i64 0), (.int .i64 0), (.int .u64 0), (.int .u64 0), (.slice none 0 0)] [(0, 1), (1, 1), (2, 1), (3, 1), (4, 1)] [0, 2]) (.cons (.cst (.int .i64 1)) (.cons (.cst (.int .u64 100)) .nil))) .nil)))) (.done [(7, (.bv 1))] none)))))) h5_17) Q env w := rfl
def h5_19 : HC := (.seq (.reg (.done [(0, (.cst (.bool false)))] none)) .ret)
@[simp] theorem h5_19_wp {P : Program} {F : PF P} {Q : EX → List Value → World → Prop} {env : List Value} {w : World} : h5_19.wp F Q env w = HC.wp F (.seq (.reg (.done [(0, (.cst (.bool false)))] none)) .ret) Q env w := rfl
def h5_20 : HC := (.seq (.br (.chk none (.cal 9) (.cons (.inp 3) .nil) (.chk none (.bin .neq) (.cons (.op (.cal 9) (.cons (.inp 3) .nil)) (.cons (.cst (.int .i64 151)) .nil)) (.bnd (.op (.bin .neq) (.cons (.op (.cal 9) (.cons (.inp 3) .nil)) (.cons (.cst (.int .i64 151)) .nil))) (.chk (some ((.bv 0), false)) (.cal 9) (.cons (.inp 4) .nil) (.chk (some ((.bv 0), false)) (.bin .neq) (.cons (.op (.cal 9) (.cons (.inp 4) .nil)) (.cons (.cst (.int .i64 143)) .nil)) (.isb none (.bv 0) (.bnd (.ite (.bv 0) true (.cst (.bool true)) (.op (.bin .neq) (.cons (.op (.cal 9) (.cons (.inp 4) .nil)) (.cons (.cst (.int .i64 143)) .nil)))) (.chk (some ((.bv 1), false)) (.cal 9) (.cons (.inp 5) .nil) (.chk (some ((.bv 1), false)) (.bin .neq) (.cons (.op (.cal 9) (.cons (.inp 5) .nil)) (.cons (.cst (.int .i64 142)) .nil)) (.isb none (.bv 1) (.bnd (.ite (.bv 1) true (.cst (.bool true)) (.op (.bin .neq) (.cons (.op (.cal 9) (.cons (.inp 5) .nil)) (.cons (.cst (.int .i64 142)) .nil)))) (.chk (some ((.bv 2), false)) (.cal 9) (.cons (.inp 6) .nil) (.chk (some ((.bv 2), false)) (.bin .neq) (.cons (.op (.cal 9) (.cons (.inp 6) .nil)) (.cons (.cst (.int .i64 2)) .nil)) (.isb none (.bv 2) (.done [] (some (.ite (.bv 2) true (.cst (.bool true)) (.op (.bin .neq) (.cons (.op (.cal 9) (.cons (.inp 6) .nil)) (.cons (.cst (.int .i64 2)) .nil)))))))))))))))))))) h5_19 .skip) h5_18)
@[simp] theorem h5_20_wp {P : Program} {F : PF P} {Q : EX → List Value → World → Prop} {env : List Value} {w : World} : h5_20.wp F Q env w = HC.wp F (.seq (.br (.chk none (.cal 9) (.cons (.inp 3) .nil) (.chk none (.bin .neq) (.cons (.op (.cal 9) (.cons (.inp 3) .nil)) (.cons (.cst (.int .i64 151)) .nil)) (.bnd (.op (.bin .neq) (.cons (.op (.cal 9) (.cons (.inp 3) .nil)) (.cons (.cst (.int .i64 151)) .nil))) (.chk (some ((.bv 0), false)) (.cal 9) (.cons (.inp 4) .nil) (.chk (some ((.bv 0), false)) (.bin .neq) (.cons (.op (.cal 9) (.cons (.inp 4) .nil)) (.cons (.cst (.int .i64 143)) .nil)) (.isb none (.bv 0) (.bnd (.ite (.bv 0) true (.cst (.bool true)) (.op (.bin .neq) (.cons (.op (.cal 9) (.cons (.inp 4) .nil)) (.cons (.cst (.int .i64 143)) .nil)))) (.chk (some ((.bv 1), false)) (.cal 9) (.cons (.inp 5) .nil) (.chk (some ((.bv 1), false)) (.bin .neq) (.cons (.op (.cal 9) (.cons (.inp 5) .nil)) (.cons (.cst (.int .i64 142)) .nil)) (.isb none (.bv 1) (.bnd (.ite (.bv 1) true (.cst (.bool true)) (.op (.bin .neq) (.cons (.op (.cal 9) (.cons (.inp 5) .nil)) (.cons (.cst (.int .i64 142)) .nil)))) (.chk (some ((.bv 2), false)) (.cal 9) (.cons (.inp 6) .nil) (.chk (some ((.bv 2), false)) (.bin .neq) (.cons (.op (.cal 9) (.cons (.inp 6) .nil)) (.cons (.cst (.int .i64 2)) .nil)) (.isb none (.bv 2) (.done [] (some (.ite (.bv 2) true (.cst (.bool true)) (.op (.bin .neq) (.cons (.op (.cal 9) (.cons (.inp 6) .nil)) (.cons (.cst (.int .i64 2)) .nil)))))))))))))))))))) h5_19 .skip) h5_18) Q env w := rfl
def h5_21 : HC := (.seq (.reg (.chk none (.build #[(.int .i64 0), (.int .i64 0), (.int .u64 0), (.int .u64 0), (.slice none 0 0)] [(0, 1), (1, 1), (2, 1), (3, 1), (4, 1)] [0]) (.cons (.cst (.int .i64 1)) .nil) (.eff (.call 14) (.cons (.inp 2) (.cons (.cst (.int .i64 0)) (.cons (.op (.build #[(.int .i64 0), (.int .i64 0), (.int .u64 0), (.int .u64 0), (.slice none 0 0)] [(0, 1), (1, 1), (2, 1), (3, 1), (4, 1)] [0]) (.cons (.cst (.int .i64 1)) .nil)) .nil))) (.done [(6, (.bv 0))] none)))) h5_20)
@[simp] theorem h5_21_wp {P : Program} {F : PF P} {Q : EX → List Value → World → Prop} {env : List Value} {w : World} : h5_21.wp F Q env w = HC.wp F (.seq (.reg (.chk none (.build #[(.int .i64 0), (.int .i64 0), (.int .u64 0), (.int .u64 0), (.slice none 0 0)] [(0, 1), (1, 1), (2, 1), (3, 1), (4, 1)] [0]) (.cons (.cst (.int .i64 1)) .nil) (.eff (.call 14) (.cons (.inp 2) (.cons (.cst (.int .i64 0)) (.cons (.op (.build #[(.int .i64 0), (.int .i64 0), (.int .u64 0), (.int .u64 0), (.slice none 0 0)] [(0, 1), (1, 1), (2, 1), (3, 1), (4, 1)] [0]) (.cons (.cst (.int .i64 1)) .nil)) .nil))) (.done [(6, (.bv 0))] none)))) h5_20) Q env w := rfl
def h5_22 : HC := (.seq (.reg (.chk none (.build #[(.int .i64 0), (.int .i64 0), (.int .u64 0), (.int .u64 0), (.slice none 0 0)] [(0, 1), (1, 1), (2, 1), (3, 1), (4, 1)] [0]) (.cons (.cst (.int .i64 3)) .nil) (.eff (.call 14) (.cons (.inp 2) (.cons (.cst (.int .i64 7)) (.cons (.op (.build #[(.int .i64 0), (.int .i64 0), (.int .u64 0), (.int .u64 0), (.slice none 0 0)] [(0, 1), (1, 1), (2, 1), (3, 1), (4, 1)] [0]) (.cons (.cst (.int .i64 3)) .nil)) .nil))) (.done [(5, (.bv 0))] none)))) h5_21)
@[simp] theorem h5_22_wp {P : Program} {F : PF P} {Q : EX → List Value → World → Prop} {env : List Value} {w : World} : h5_22.wp F Q env w = HC.wp F (.seq (.reg (.chk none (.build #[(.int .i64 0), (.int .i64 0), (.int .u64 0), (.int .u64 0), (.slice none 0 0)] [(0, 1), (1, 1), (2, 1), (3, 1), (4, 1)] [0]) (.cons (.cst (.int .i64 3)) .nil) (.eff (.call 14) (.cons (.inp 2) (.cons (.cst (.int .i64 7)) (.cons (.op (.build #[(.int .i64 0), (.int .i64 0), (.int .u64 0), (.int .u64 0), (.slice none 0 0)] [(0, 1), (1, 1), (2, 1), (3, 1), (4, 1)] [0]) (.cons (.cst (.int .i64 3)) .nil)) .nil))) (.done [(5, (.bv 0))] none)))) h5_21) Q env w := rfl
def h5_23 : HC := (.seq (.reg (.chk none (.build #[(.int .i64 0), (.int .i64 0), (.int .u64 0), (.int .u64 0), (.slice none 0 0)] [(0, 1), (1, 1), (2, 1), (3, 1), (4, 1)] [0, 2]) (.cons (.cst (.int .i64 2)) (.cons (.cst (.int .u64 51)) .nil)) (.eff (.call 14) (.cons (.inp 2) (.cons (.cst (.int .i64 7)) (.cons (.op (.build #[(.int .i64 0), (.int .i64 0), (.int .u64 0), (.int .u64 0), (.slice none 0 0)] [(0, 1), (1, 1), (2, 1), (3, 1), (4, 1)] [0, 2]) (.cons (.cst (.int .i64 2)) (.cons (.cst (.int .u64 51)) .nil))) .nil))) (.done [(4, (.bv 0))] none)))) h5_22)
@[simp] theorem h5_23_wp {P : Program} {F : PF P} {Q : EX → List Value → World → Prop} {env : List Value} {w : World} : h5_23.wp F Q env w = HC.wp F (.seq (.reg (.chk none (.build #[(.int .i64 0), (.int .i64 0), (.int .u64 0), (.int .u64 0), (.slice none 0 0)] [(0, 1), (1, 1), (2, 1), (3, 1), (4, 1)] [0, 2]) (.cons (.cst (.int .i64 2)) (.cons (.cst (.int .u64 51)) .nil)) (.eff (.call 14) (.cons (.inp 2) (.cons (.cst (.int .i64 7)) (.cons (.op (.build #[(.int .i64 0), (.int .i64 0), (.int .u64 0), (.int .u64 0), (.slice none 0 0)] [(0, 1), (1, 1), (2, 1), (3, 1), (4, 1)] [0, 2]) (.cons (.cst (.int .i64 2)) (.cons (.cst (.int .u64 51)) .nil))) .nil))) (.done [(4, (.bv 0))] none)))) h5_22) Q env w := rfl
def h5_24 : HC := (.seq (.reg (.chk none (.build #[(.int .i64 0), (.int .i64 0), (.int .u64 0), (.int .u64 0), (.slice none 0 0)] [(0, 1), (1, 1), (2, 1), (3, 1), (4, 1)] [0, 1]) (.cons (.cst (.int .i64 1)) (.cons (.cst (.int .i64 1)) .nil)) (.eff (.call 14) (.cons (.inp 2) (.cons (.cst (.int .i64 7)) (.cons (.op (.build #[(.int .i64 0), (.int .i64 0), (.int .u64 0), (.int .u64 0), (.slice none 0 0)] [(0, 1), (1, 1), (2, 1), (3, 1), (4, 1)] [0, 1]) (.cons (.cst (.int .i64 1)) (.cons (.cst (.int .i64 1)) .nil))) .nil))) (.done [(3, (.bv 0))] none)))) h5_23)
@[simp] theorem h5_24_wp {P : Program} {F : PF P} {Q : EX → List Value → World → Prop} {env : List Value} {w : World} : h5_24.wp F Q env w = HC.wp F (.seq (.reg (.chk none (.build #[(.int .i64 0), (.int .i64 0), (.int .u64 0), (.int .u64 0), (.slice none 0 0)] [(0, 1), (1, 1), (2, 1), (3, 1), (4, 1)] [0, 1]) (.cons (.cst (.int .i64 1)) (.cons (.cst (.int .i64 1)) .nil)) (.eff (.call 14) (.cons (.inp 2) (.cons (.cst (.int .i64 7)) (.cons (.op (.build #[(.int .i64 0), (.int .i64 0), (.int .u64 0), (.int .u64 0), (.slice none 0 0)] [(0, 1), (1, 1), (2, 1), (3, 1), (4, 1)] [0, 1]) (.cons (.cst (.int .i64 1)) (.cons (.cst (.int .i64 1)) .nil))) .nil))) (.done [(3, (.bv 0))] none)))) h5_23) Q env w := rfl
def h5_25 : HC := (.seq (.reg (.chk none (.build #[(.int .i64 0), (.int .i64 0), (.int .u64 0), (.int .u64 0), (.slice none 0 0)] [(0, 1), (1, 1), (2, 1), (3, 1), (4, 1)] [0, 1, 2]) (.cons (.cst (.int .i64 1)) (.cons (.cst (.int .i64 1)) (.cons (.cst (.int .u64 30)) .nil))) (.eff (.call 14) (.cons (.inp 2) (.cons (.cst (.int .i64 7)) (.cons (.op (.build #[(.int .i64 0), (.int .i64 0), (.int .u64 0), (.int .u64 0), (.slice none 0 0)] [(0, 1), (1, 1), (2, 1), (3, 1), (4, 1)] [0, 1, 2]) (.cons (.cst (.int .i64 1)) (.cons (.cst (.int .i64 1)) (.cons (.cst (.int .u64 30)) .nil)))) .nil))) (.done [] none)))) h5_24)
@[simp] theorem h5_25_wp {P : Program} {F : PF P} {Q : EX → List Value → World → Prop} {env : List Value} {w : World} : h5_25.wp F Q env w = HC.wp F (.seq (.reg (.chk none (.build #[(.int .i64 0), (.int .i64 0), (.int .u64 0), (.int .u64 0), (.slice none 0 0)] [(0, 1), (1, 1), (2, 1), (3, 1), (4, 1)] [0, 1, 2]) (.cons (.cst (.int .i64 1)) (.cons (.cst (.int .i64 1)) (.cons (.cst (.int .u64 30)) .nil))) (.eff (.call 14) (.cons (.inp 2) (.cons (.cst (.int .i64 7)) (.cons (.op (.build #[(.int .i64 0), (.int .i64 0), (.int .u64 0), (.int .u64 0), (.slice none 0 0)] [(0, 1), (1, 1), (2, 1), (3, 1), (4, 1)] [0, 1, 2]) (.cons (.cst (.int .i64 1)) (.cons (.cst (.int .i64 1)) (.cons (.cst (.int .u64 30)) .nil)))) .nil))) (.done [] none)))) h5_24) Q env w := rfl
def h5_26 : HC := (.seq (.reg (.done [(0, (.cst (.bool false)))] none)) .ret)
@[simp] theorem h5_26_wp {P : Program} {F : PF P} {Q : EX → List Value → World → Prop} {env : List Value} {w : World} : h5_26.wp F Q env w = HC.wp F (.seq (.reg (.done [(0, (.cst (.bool false)))] none)) .ret) Q env w := rfl
def h5_27 : HC := (.seq (.br (.eff (.call 6) .nil (.chk none (.un .not) (.cons (.bv 0) .nil) (.bnd (.op (.un .not) (.cons (.bv 0) .nil)) (.chk (some ((.bv 1), false)) (.eqNil false (.pointer 95) (.pointer none)) (.cons (.inp 2) .nil) (.isb none (.bv 1) (.done [] (some (.ite (.bv 1) true (.cst (.bool true)) (.op (.eqNil false (.pointer 95) (.pointer none)) (.cons (.inp 2) .nil)))))))))) h5_26 .skip) h5_25)
@[simp] theorem h5_27_wp {P : Program} {F : PF P} {Q : EX → List Value → World → Prop} {env : List Value} {w : World} : h5_27.wp F Q env w = HC.wp F (.seq (.br (.eff (.call 6) .nil (.chk none (.un .not) (.cons (.bv 0) .nil) (.bnd (.op (.un .not) (.cons (.bv 0) .nil)) (.chk (some ((.bv 1), false)) (.eqNil false (.pointer 95) (.pointer none)) (.cons (.inp 2) .nil) (.isb none (.bv 1) (.done [] (some (.ite (.bv 1) true (.cst (.bool true)) (.op (.eqNil false (.pointer 95) (.pointer none)) (.cons (.inp 2) .nil)))))))))) h5_26 .skip) h5_25) Q env w := rfl
def h5_28 : HC := (.seq (.reg (.eff (.call 26) .nil (.chk none (.ext 0) (.cons (.bv 0) .nil) (.chk none (.ext 1) (.cons (.bv 0) .nil) (.chk none (.ext 2) (.cons (.bv 0) .nil) (.done [(1, (.op (.ext 0) (.cons (.bv 0) .nil))), (2, (.op (.ext 2) (.cons (.bv 0) .nil)))] none)))))) h5_27)
@[simp] theorem h5_28_wp {P : Program} {F : PF P} {Q : EX → List Value → World → Prop} {env : List Value} {w : World} : h5_28.wp F Q env w = HC.wp F (.seq (.reg (.eff (.call 26) .nil (.chk none (.ext 0) (.cons (.bv 0) .nil) (.chk none (.ext 1) (.cons (.bv 0) .nil) (.chk none (.ext 2) (.cons (.bv 0) .nil) (.done [(1, (.op (.ext 0) (.cons (.bv 0) .nil))), (2, (.op (.ext 2) (.cons (.bv 0) .nil)))] none)))))) h5_27) Q env w := rfl
def l5 : Lifted := ⟨[0, 1, 3, 4, 5, 6, 7, 8, 9, 10, 11, 12, 13, 14, 15, 16, 17, 18, 19, 20, 21], 231, [.slot 0], (.seq (.reg (.done [(0, (.cst (.bool false)))] none)) h5_28)⟩
theorem l5_ok : liftFn E2 5 400 = some l5 := by kernel_rfl


set_option maxHeartbeats 4000000 in
theorem known_rest (p g s : Nat) (w0 w : World) (A : Asn) (o0 o3 o4 o5 o6 o7 o8 o9 o10 o11 o12 o13 o14 o15 o16 o17 o18 o19 o20 : Value) (h0 : w0.drawn = 0) (h : St w0 (A * ecoA p g s 9 EB) w) :
    HC.wp E2 h5_12 (endQ Try.prog [.slot 0] (fun r w' => r = .bool true ∧ St w0 A w'))
      [o0, .pointer (some ⟨p, 0, none⟩), .pointer (some ⟨s, 0, none⟩), o3, o4, o5, o6, o7, o8, o9, o10, o11, o12, o13, o14, o15, o16, o17, o18, o19, o20] w := by
  simp [Instr.fill, Value.cells]
  refine eff_gifts (gs := [⟨2, 1, 0⟩]) h rfl rfl rfl (by decide) fun gv w1 g1 => ?_
  simp [Instr.fill, Value.cells]
  have g1' : St w0 (A * own 60 3 gv 1 (gflat [⟨2, 1, 0⟩]) * ecoA p g s 9 EB) w1 := St.swap g1
  refine eff_call ((End_spec p g s 3 9 7 [⟨2, 1, 0⟩] gv EB w0 w1 _ eb_ei (by decide) (by decide) (by decide) (row_own g1'.drop) g1').mono ?_)
  rintro r v1 ⟨rfl, q1⟩
  rw [st_g] at q1 ⊢
  simp [Instr.fill, Value.cells]
  have q1 : St w0 (A * ecoA p g s 9 EB) v1 := q1.swap.drop
  refine eff_gifts (gs := [⟨2, 1, 0⟩, ⟨1, 0, 101⟩]) q1 rfl rfl rfl (by decide) fun gv w2 g2 => ?_
  simp [Instr.fill, Value.cells]
  have g2' : St w0 (A * own 60 3 gv 2 (gflat [⟨2, 1, 0⟩, ⟨1, 0, 101⟩]) * ecoA p g s 9 EB) w2 := St.swap g2
  refine eff_call ((End_spec p g s 3 9 7 [⟨2, 1, 0⟩, ⟨1, 0, 101⟩] gv EB w0 w2 _ eb_ei (by decide) (by decide) (by decide) (row_own g2'.drop) g2').mono ?_)
  rintro r v2 ⟨rfl, q2⟩
  rw [st_h] at q2 ⊢
  simp [Instr.fill, Value.cells]
  have q2 : St w0 (A * ecoA p g s 9 EB) v2 := q2.swap.drop
  refine eff_gifts (gs := [⟨1, 2, 0⟩]) q2 rfl rfl rfl (by decide) fun gv w3 g3 => ?_
  simp [Instr.fill, Value.cells]
  have g3' : St w0 (A * own 60 3 gv 1 (gflat [⟨1, 2, 0⟩]) * ecoA p g s 9 EB) w3 := St.swap g3
  refine eff_call ((End_spec p g s 3 9 7 [⟨1, 2, 0⟩] gv EB w0 w3 _ eb_ei (by decide) (by decide) (by decide) (row_own g3'.drop) g3').mono ?_)
  rintro r v3 ⟨rfl, q3⟩
  rw [st_i] at q3 ⊢
  simp [Instr.fill, Value.cells]
  have q3 : St w0 (A * ecoA p g s 9 EB) v3 := q3.swap.drop
  refine eff_gifts (gs := [⟨2, 1, 0⟩, ⟨1, 0, 60⟩, ⟨2, 0, 40⟩]) q3 rfl rfl rfl (by decide) fun gv w4 g4 => ?_
  simp [Instr.fill, Value.cells]
  have g4' : St w0 (A * own 60 3 gv 3 (gflat [⟨2, 1, 0⟩, ⟨1, 0, 60⟩, ⟨2, 0, 40⟩]) * ecoA p g s 9 EB) w4 := St.swap g4
  refine eff_call ((End_spec p g s 3 9 7 [⟨2, 1, 0⟩, ⟨1, 0, 60⟩, ⟨2, 0, 40⟩] gv EB w0 w4 _ eb_ei (by decide) (by decide) (by decide) (row_own g4'.drop) g4').mono ?_)
  rintro r v4 ⟨rfl, q4⟩
  rw [st_j] at q4 ⊢
  simp [Instr.fill, Value.cells]
  have q4 : St w0 (A * ecoA p g s 9 EC) v4 := q4.swap.drop
  have s1 : St w0 (A * Pu.pur p EC.P * Gd.gds g 9 EC.its * esc s p g EC.l) v4 := q4.to (by simp only [ecoA]; ac_rfl)
  refine eff_call ((Rows_spec s p g EC.l w0 v4 _ h0 ec_ei.R (by decide) s1).mono ?_)
  intro rv w20 s2
  obtain ⟨ra, rcap, rfl, _⟩ := s2.own_val
  rw [show EC.l.length = 0 by rfl]
  simp
  have s3 : St w0 (A * ecoA p g s 9 EC) w20 := s2.drop.to (by simp only [ecoA]; ac_rfl)
  refine eff_call ((Items_spec p g s 3 9 7 EC w0 w20 A ec_ei s3).mono ?_)
  intro iv w21 s4
  obtain ⟨ia, icap, rfl, _⟩ := s4.own_val
  rw [show (Gd.inF EC.its 7).length = 0 by decide]
  simp
  have s5 : St w0 (A * Gd.gds g 9 EC.its * esc s p g EC.l * Pu.pur p EC.P) w21 := s4.drop.to (by simp only [ecoA]; ac_rfl)
  refine eff_call ((Pu.Held_spec p EC.P w0 w21 _ s5).mono ?_)
  rintro r w22 ⟨rfl, s6⟩
  rw [show EC.P.held = 0 by rfl]
  simp
  refine eff_call ((has_spec p EC.P 1 60 w0 w22 _ (by decide) s6).mono ?_)
  rintro r w23 ⟨rfl, s7⟩
  rw [show decide ((Pu.getF EC.P 1).2 = 0 ∧ (Pu.getF EC.P 1).1.coins = 60) = true by decide +kernel]
  simp
  refine eff_call ((has_spec p EC.P 2 90 w0 w23 _ (by decide) s7).mono ?_)
  rintro r w24 ⟨rfl, s8⟩
  rw [show decide ((Pu.getF EC.P 2).2 = 0 ∧ (Pu.getF EC.P 2).1.coins = 90) = true by decide +kernel]
  simp
  have sA : St w0 A w24 := s8.drop.drop.drop
  refine eff_call ((New_nil w24).mono ?_)
  rintro r w25 ⟨rfl, rfl⟩
  simp
  refine eff_call ((Load_nil _ _ w25).mono ?_)
  rintro r w26 ⟨rfl, rfl⟩
  simp [Instr.fill, Value.cells]
  refine eff_call ((Put_nil 1 0 ⟨0, 0, 0⟩ (.slice none 0 0) w0 w26 A sA).mono ?_)
  rintro r w27 ⟨rfl, sB⟩
  simp [Instr.fill, Value.cells]
  refine eff_call ((Turn_nil 0 _ _ w0 w27 A sB).mono ?_)
  rintro r w28 ⟨rfl, sC⟩
  simp
  refine eff_call ((End_nil 0 _ w0 w28 A sC).mono ?_)
  rintro r w29 ⟨rfl, sD⟩
  simp
  refine eff_call ((Coins_nil 1 w29).mono ?_)
  rintro r w30 ⟨rfl, rfl⟩
  simp
  refine eff_call ((Items_nil 1 w30).mono ?_)
  rintro r w31 ⟨rfl, rfl⟩
  simp
  refine eff_call ((Rows_nil w31).mono ?_)
  rintro r w32 ⟨rfl, rfl⟩
  simp
  exact sD
set_option maxHeartbeats 4000000 in
theorem known_walk (w0 w : World) (A : Asn) (h0 : w0.drawn = 0) (h : St w0 A w) : CallW Try.prog 5 [] (fun r w' => r = .bool true ∧ St w0 A w') w := by
  refine callW_of_lift l5_ok (by simp [l5]) ?_
  simp [l5]
  refine eff_call ((given_spec w0 w A h).mono ?_)
  rintro r w1 ⟨p, g, s, rfl, h1⟩
  simp
  refine eff_call ((awake_spec w0 w1 _ h1).mono ?_)
  rintro r w2 ⟨rfl, h2⟩
  simp [Instr.fill, Value.cells]
  refine eff_call ((Put_spec p g s 3 9 7 0 ent1 (.slice none 0 0) EG w0 w2 A eg_ei (by decide) (by decide) h2).mono ?_)
  rintro r w3 ⟨rfl, h3⟩
  rw [put_ea] at h3 ⊢
  simp [Instr.fill, Value.cells]
  refine eff_call ((Put_spec p g s 3 9 7 0 ⟨1, 1, 0⟩ (.slice none 0 0) EA w0 w3 A ea_ei (by decide) (by decide) h3).mono ?_)
  rintro r w4 ⟨rfl, h4⟩
  rw [st_a] at h4 ⊢
  simp [Instr.fill, Value.cells]
  refine eff_call ((Put_spec p g s 3 9 7 0 ⟨2, 0, 51⟩ (.slice none 0 0) EA w0 w4 A ea_ei (by decide) (by decide) h4).mono ?_)
  rintro r w5 ⟨rfl, h5⟩
  rw [st_b] at h5 ⊢
  simp [Instr.fill, Value.cells]
  refine eff_call ((Put_spec p g s 3 9 7 0 ⟨3, 0, 0⟩ (.slice none 0 0) EA w0 w5 A ea_ei (by decide) (by decide) h5).mono ?_)
  rintro r w6 ⟨rfl, h6⟩
  rw [st_c] at h6 ⊢
  simp [Instr.fill, Value.cells]
  refine eff_call ((Put_spec p g s 3 9 0 0 ⟨1, 0, 0⟩ (.slice none 0 0) EA w0 w6 A ea_ei (by decide) (by decide) h6).mono ?_)
  rintro r w7 ⟨rfl, h7⟩
  rw [st_d] at h7 ⊢
  simp [Instr.fill, Value.cells]
  refine eff_gifts (gs := [⟨1, 0, 30⟩]) h7 rfl rfl rfl (by decide) fun gv w10 g10 => ?_
  simp [Instr.fill, Value.cells]
  have g10' : St w0 (A * own 60 3 gv 1 (gflat [⟨1, 0, 30⟩]) * ecoA p g s 9 EA) w10 := St.swap g10
  refine eff_call ((Turn_spec p g s 3 9 7 0 [⟨1, 0, 30⟩] gv ⟨1, 0, 100⟩ (.slice none 0 0) EA w0 w10 _ ea_ei (by decide) (by decide) (by decide) (by decide) (row_own g10'.drop) g10').mono ?_)
  rintro r v10 ⟨rfl, q10⟩
  rw [st_e] at q10 ⊢
  simp
  have e1 : St w0 (A * Pu.pur p EB.P * Gd.gds g 9 EB.its * esc s p g EB.l) v10 := q10.swap.drop.to (by simp only [ecoA]; ac_rfl)
  refine eff_call ((Coins_spec s p g EB.l 7 w0 v10 _ eb_ei.R e1).mono ?_)
  rintro r v11 ⟨rfl, rfl⟩
  rw [show cns EB.l 7 = 100 by decide]
  simp
  refine eff_call ((has_spec p EB.P 1 0 w0 v11 (A * Gd.gds g 9 EB.its * esc s p g EB.l) (by decide) (e1.to (by ac_rfl))).mono ?_)
  rintro r v12 ⟨rfl, e2⟩
  rw [show decide ((Pu.getF EB.P 1).2 = 0 ∧ (Pu.getF EB.P 1).1.coins = 0) = true by decide +kernel]
  simp [Instr.fill, Value.cells]
  have e3 : St w0 (A * ecoA p g s 9 EB) v12 := e2.to (by simp only [ecoA]; ac_rfl)
  refine eff_gifts (gs := [⟨2, 0, 100⟩]) e3 rfl rfl rfl (by decide) fun gv w13 g13 => ?_
  simp [Instr.fill, Value.cells]
  have g13' : St w0 (A * own 60 3 gv 1 (gflat [⟨2, 0, 100⟩]) * ecoA p g s 9 EB) w13 := St.swap g13
  refine eff_call ((Turn_spec p g s 3 9 7 0 [⟨2, 0, 100⟩] gv ⟨2, 0, 151⟩ (.slice none 0 0) EB w0 w13 _ eb_ei (by decide) (by decide) (by decide) (by decide) (row_own g13'.drop) g13').mono ?_)
  rintro r v13 ⟨rfl, q13⟩
  rw [st_f] at q13 ⊢
  simp
  have e4 : St w0 (A * Pu.pur p EB.P * Gd.gds g 9 EB.its * esc s p g EB.l) v13 := q13.swap.drop.to (by simp only [ecoA]; ac_rfl)
  refine eff_call ((Coins_spec s p g EB.l 7 w0 v13 _ eb_ei.R e4).mono ?_)
  rintro r v14 ⟨rfl, rfl⟩
  rw [show cns EB.l 7 = 100 by decide]
  simp
  refine eff_call ((has_spec p EB.P 2 50 w0 v14 (A * Gd.gds g 9 EB.its * esc s p g EB.l) (by decide) (e4.to (by ac_rfl))).mono ?_)
  rintro r v15 ⟨rfl, e5⟩
  rw [show decide ((Pu.getF EB.P 2).2 = 0 ∧ (Pu.getF EB.P 2).1.coins = 50) = true by decide +kernel]
  simp [Instr.fill, Value.cells]
  have e6 : St w0 (A * ecoA p g s 9 EB) v15 := e5.to (by simp only [ecoA]; ac_rfl)
  have := known_rest p g s w0 v15 A (.bool false) (.int .i64 151) (.int .i64 143) (.int .i64 142) (.int .i64 2) (.int .i64 0) (.int .i64 143) undef undef undef undef undef undef undef undef undef undef undef undef h0 e6
  simpa [Instr.fill, Value.cells] using this
end Go.HL.Es

namespace Go.HL
open Go.HL
/-- a world that has drawn nothing -/
def World.fresh (W : World) : World := { W with drawn := 0 }
theorem St.start0 (W : World) : St (World.fresh W) (old W) W := ⟨rfl, rfl, Nat.le_refl _, ⟨rfl, Nat.zero_le _⟩, _, fun b o h => h, rfl⟩
theorem St.kept0 {w0 w : World} (s : St (World.fresh w0) (old w0) w) (may : MemPlace → Prop) : w0.keptBut w may := by
  suffices hk : w0.keptBut w (fun _ => False) from World.keptBut_mono (fun _ f => f.elim) hk
  refine ⟨s.os, s.out, fun i hi => ?_⟩
  have h0 : w0.heap[i]? = some w0.heap[i] := by simp [hi]
  rw [s.lookOld0 h0, h0]
  generalize w0.heap[i] = o
  cases o <;> simp
theorem St.frz0 {w0 w : World} (s : St (World.fresh w0) (old w0) w) {a : Addr} (h : a.block < w0.heap.size) : w.frozen? a = w0.frozen? a := by
  unfold World.frozen?
  have h0 : w0.heap[a.block]? = some w0.heap[a.block] := by simp [h]
  rw [s.lookOld0 h0, h0]
theorem St.same0 {w0 w : World} (s : St (World.fresh w0) (old w0) w) {p : MemPlace} (hb : p.block < w0.heap.size) : w0.sameAt w p := by
  have h0 : w0.heap[p.block]? = some w0.heap[p.block] := by simp [hb]
  have h1 : w.heap[p.block]? = w0.heap[p.block]? := by rw [s.lookOld0 h0, h0]
  cases p with
  | cell b o =>
    simp only [MemPlace.block] at h1
    show w.cell? ⟨b, o, none⟩ = w0.cell? ⟨b, o, none⟩
    unfold World.cell?
    simp only [h1]
  | map b => exact h1
open Go.WideShapes Go.ChangeShapes in
theorem post_of_old0 {H : Type} {enc : TypeId × Value → H} {P : Program} {f : Func} {s : ChangeSpec} {apart fresh handsOn again : Bool} {W W' : World} (hst : St (World.fresh W) (old W) W') {args : Array Value} {v : Value} {ds gs : List (DataW H)} {before pa pv : List MemPlace}
    (hW : DataW.Whole enc P f.params.toList s.vars apart W args.toList ds gs before)
    (hres : ∀ (b : Nat) (sp : Nat → Bool) (hd : Bool), DataW.TrodAll enc P W' b sp hd f.resultTypes.toList (v.resultList f.resultTypes.size) (s.fn H (ds ++ gs)).results [])
    (hargs : ∀ sp : Nat → Bool, (∀ p ∈ before, sp p.block = true) → DataW.TrodAll enc P W' 0 sp true f.params.toList args.toList (s.fn H (ds ++ gs)).args pa)
    (hvars : ∀ sp : Nat → Bool, (∀ p ∈ before, sp p.block = true) → DataW.TrodVars enc P W' sp s.vars (s.fn H (ds ++ gs)).vars pv)
    (hps : before = pa ++ pv)
    (hok : ∀ (j : Nat) (t : TypeId) (r : Value), f.resultTypes[j]? = some t → (v.resultList f.resultTypes.size)[j]? = some r → Value.okWide P W' .any 0 t r) :
    s.post enc P f apart fresh handsOn again W args v W' := by
  have hlt := hW.lt
  have hold : ∀ p ∈ before, (fun b => decide (b < W.heap.size)) p.block = true := fun p hp => by simpa using hlt p hp
  refine ⟨ds, gs, before, [], pa, pv, hW, hres _ _ _, hargs _ hold, hvars _ hold, hst.kept0 _, fun _ => ?_⟩
  obtain ⟨_, _, _, _, _, hz, hn⟩ := hW
  refine ⟨hok, _, _, ([] ++ pa) ++ pv, ⟨[] ++ pa, pv, trodAll_append (hargs _ (fun _ _ => rfl)) (hres _ _ _), hvars _ (fun _ _ => rfl), rfl, ?_, ?_⟩, ?_⟩
  · intro b off hp
    have hp' : MemPlace.cell b off ∈ before := by rw [hps]; simpa using hp
    rw [hst.frz0 (hlt _ hp')]
    exact hz b off hp'
  · intro ha
    have := hn ha
    rw [hps] at this
    simpa using this
  · intro p hp _
    rw [hps]
    simpa using hp
end Go.HL

namespace Go.Proofs.Ytiokklaedanjbaa.escrowKnown
open Go.ChangeShapes Go.WideShapes Go.ChangeAt Go.RowKit Go.WideMaps Go.WideElems
open Go.ChangeMaps (open_string shut_string)
set_option linter.unusedVariables false

theorem own : ownKnob Try.prog.godebug = none := by kernel_rfl

theorem keeps : Go.HL.keepB Try.prog [27, 3, 23, 22, 76, 9, 24, 72, 25, 100, 28, 46, 44] = true := by kernel_rfl

set_option maxRecDepth 10000 in
theorem contract (H : Type) (enc : TypeId × Value → H) (W : World) (base : Nat) (args : Array Value) (ds gs : List (DataW H)) (before : List MemPlace)
    (hval : ∀ (j : Nat) t v, Try.f5.params[j]? = some t → args[j]? = some v → Value.okWide Try.prog W .any base t v)
    (hW : DataW.Whole enc Try.prog Try.f5.params.toList Rows.escrowKnownSpec.vars false W args.toList ds gs before) (hk : Rows.uptoSmall H (ds ++ gs) = true) :
    Calls Try.prog 5 args W fun e W' => ∃ v, e = .returned v ∧ Rows.escrowKnownSpec.post enc Try.prog Try.f5 false true false false W args v W' := by
  have hW' := hW
  have hlt := hW.lt
  obtain ⟨p, q, hA0, hV, rfl, hfz, hnd⟩ := hW
  have hA : DataW.TrodAll enc Try.prog W 0 (fun _ => true) true Try.f5.params.toList args.toList ds p := hA0
  have hA1 := hA
  rw [Try.params5] at hA hval
  obtain ⟨hargs, rfl, rfl⟩ := trodAll_nil hA
  obtain rfl : args = #[] := by cases args; simp_all
  obtain ⟨rfl, rfl⟩ := trodVars_none hV
  simp only [List.append_nil, List.nil_append] at hW' hlt hA1
  have hb := Go.HL.bulk_bound hk
  simp only [List.append_nil, Rows.uptoBulkAll, Go.HL.bulk_string] at hb
  have hwalk := Go.HL.Es.known_walk (Go.HL.World.fresh W) W (Go.HL.old W) rfl (Go.HL.St.start0 W)
  refine Calls.mono hwalk fun e W' ⟨v, he, hv, hst⟩ => ?_
  subst hv
  refine ⟨_, he, Go.HL.post_of_old0 hst (pv := []) hW' (fun _ _ _ => (trodAll_cons_mk (shut_bool Try.underlying4 _) trodAll_mk0))
    (fun sp hsp => Go.HL.trodAll_keep keeps (by decide) hA1 (fun x hx => hst.same0 (hlt x hx)) hsp) (fun _ _ => rfl) (by simp)
    (ok_one (by kernel_rfl) rfl (okWide_bool_mk Try.underlying4 _))⟩

set_option maxRecDepth 100000 in
theorem lifted (os : Os) (started : os.Started) (H : Type) (enc : TypeId × Value → H) (F : Stop.Interp) :
    ReturnsInHanded {} Try.checked os 5 .any ((Rows.OpenSpec.upto Rows.escrowKnownSpec).pre6 enc Try.prog Try.f5 Rows.escrowKnownUptoRow.domain false) (((Rows.OpenSpec.upto Rows.escrowKnownSpec).at F).post enc Try.prog Try.f5 false true false false) := by
  refine returnsInHanded_of_cond (C := Try.checked) (s := Rows.OpenSpec.upto Rows.escrowKnownSpec) (k := Rows.uptoSmall) rfl own started (by kernel_rfl) Try.func5
    (OpenSpec.witness (enc := enc) (C := Try.checked) (s := Rows.OpenSpec.upto Rows.escrowKnownSpec) (k := Rows.uptoSmall) rfl false ⟨#[], #[], []⟩ 8 (by kernel_rfl) (by kernel_rfl) (by kernel_rfl)
      (x := ([], [], [])) (by kernel_rfl) rfl (by kernel_rfl)) ?_
  intro W base args ds gs before hval hW _ hk _
  exact contract H enc W base args ds gs before hval hW hk

theorem over : Rows.escrowKnownUptoRow.holds Try.pinned (Rows.OpenSpec.upto Rows.escrowKnownSpec) :=
  OpenClaim.holds_of_cond 5 Try.f5 rfl rfl rfl rfl rfl rfl rfl ⟨rfl, rfl, rfl, rfl, rfl⟩ rfl rfl rfl rfl rfl (by kernel_rfl) Try.func5 (by kernel_rfl)
    (of_decide_eq_true (by kernel_rfl)) (by unfold Func.isWrapper; first | (rw [if_pos (by decide +kernel)]; kernel_rfl) | (rw [if_neg (by decide +kernel)]; exact ⟨rfl, rfl⟩))
    (fun os started H enc _ F => lifted os started H enc F)

theorem proved : Rows.EscrowKnownUptoSaid :=
  over
end Go.Proofs.Ytiokklaedanjbaa.escrowKnown
