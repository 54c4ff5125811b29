/-
  Goods: items in memory, goods in memory, the small functions. No condition.
-/
import Derived.Test.YtfcgookobpjdgaaEngE
import Derived.Test.YtfcgookobpjdgaaProg
namespace Go.HL.Gd
open Go.HL Go.Proofs
set_option maxRecDepth 4000
set_option linter.unusedSimpArgs false
set_option linter.unusedVariables false
/-- an item -/
structure It where
  num : Int
  kind : Int
  acc : Int
  con : Int
deriving DecidableEq
def It.cs (x : It) : List Value := [.int .i64 x.num, .int .i64 x.kind, .int .i64 x.acc, .int .i64 x.con]
def flat (l : List It) : List Value := l.flatMap It.cs
theorem cs_len (x : It) : x.cs.length = 4 := rfl
theorem flat_len (l : List It) : (flat l).length = l.length * 4 := flat_length It.cs 4 cs_len l
theorem cs_one (x : It) : ∀ u ∈ x.cs, u.oneCell' = true := by
  intro u hu
  simp only [It.cs, List.mem_cons, List.not_mem_nil, or_false] at hu
  rcases hu with rfl | rfl | rfl | rfl <;> rfl
theorem flat_at {its : List It} {i : Nat} (h : i < its.length) : ∀ j u, (its[i].cs)[j]? = some u → (flat its)[i * 4 + j]? = some u := by
  intro j u hu
  have hj : j < 4 := (List.getElem?_eq_some_iff.1 hu).1
  rw [← hu]
  exact flat_get It.cs 4 cs_len its i j h hj
theorem flat_set2 {its : List It} {i : Nat} (h : i < its.length) (a c : Int) : ((flat its).set (i * 4 + 2) (.int .i64 a)).set (i * 4 + 3) (.int .i64 c) = flat (its.set i ⟨its[i].num, its[i].kind, a, c⟩) := by
  have e := flat_set It.cs 4 cs_len (⟨its[i].num, its[i].kind, a, c⟩ : It) its i h
  show _ = List.flatMap It.cs _
  rw [← e]
  have hl := flat_len its
  apply List.ext_getElem?
  intro k
  have hlen : i * 4 + 4 ≤ (its.flatMap It.cs).length := by
    have : (its.flatMap It.cs).length = its.length * 4 := flat_len its
    omega
  have tl : ((its.flatMap It.cs).take (i * 4)).length = i * 4 := by rw [List.length_take]; omega
  have hf : flat its = its.flatMap It.cs := rfl
  rw [hf]
  have c4 : (⟨its[i].num, its[i].kind, a, c⟩ : It).cs.length = 4 := rfl
  by_cases k1 : k < i * 4
  · rw [List.getElem?_set_ne (by omega), List.getElem?_set_ne (by omega), List.append_assoc, List.getElem?_append_left (by omega), List.getElem?_take, if_pos k1]
  by_cases k2 : k < i * 4 + 4
  · have g0 : ∀ j, j < 4 → (its.flatMap It.cs)[i * 4 + j]? = (its[i].cs)[j]? := fun j hj => flat_get It.cs 4 cs_len its i j h hj
    rw [List.append_assoc, List.getElem?_append_right (by omega), tl, List.getElem?_append_left (by rw [c4]; omega)]
    obtain ⟨j, rfl⟩ : ∃ j, k = i * 4 + j := ⟨k - i * 4, by omega⟩
    have hj : j < 4 := by omega
    rw [Nat.add_sub_cancel_left]
    have : j = 0 ∨ j = 1 ∨ j = 2 ∨ j = 3 := by omega
    rcases this with rfl | rfl | rfl | rfl
    · rw [List.getElem?_set_ne (by omega), List.getElem?_set_ne (by omega), g0 0 (by omega)]; rfl
    · rw [List.getElem?_set_ne (by omega), List.getElem?_set_ne (by omega), g0 1 (by omega)]; rfl
    · rw [List.getElem?_set_ne (by omega), List.getElem?_set_self (by omega)]; rfl
    · rw [List.getElem?_set_self (by rw [List.length_set]; omega)]; rfl
  · rw [List.getElem?_set_ne (by omega), List.getElem?_set_ne (by omega), List.append_assoc, List.getElem?_append_right (by omega), tl, List.getElem?_append_right (by rw [c4]; omega), List.getElem?_drop, c4]
    congr 1
    omega
/-- goods at p -/
def gds (p : Nat) (lim : Int) (its : List It) : Asn := fun h => ∃ v, (pt p (.cells #[.int .i64 lim, v] 71 (0, 0)) * own 73 4 v its.length (flat its)) h
theorem gopen {w0 w : World} {A : Asn} {p : Nat} {lim : Int} {its : List It} (s : St w0 (A * gds p lim its) w) :
    ∃ v, St w0 (A * pt p (.cells #[.int .i64 lim, v] 71 (0, 0)) * own 73 4 v its.length (flat its)) w := by
  obtain ⟨g, h1, h2, h3, d, e, a, v, b⟩ := s.holds
  refine ⟨v, ?_⟩
  rw [sep_assoc]
  exact s.of ⟨g, h1, h2, h3, d, e, a, b⟩
theorem gclose {w0 w : World} {A : Asn} {p : Nat} {lim : Int} {its : List It} {v : Value}
    (s : St w0 (A * pt p (.cells #[.int .i64 lim, v] 71 (0, 0)) * own 73 4 v its.length (flat its)) w) : St w0 (A * gds p lim its) w := by
  rw [sep_assoc] at s
  obtain ⟨g, h1, h2, h3, d, e, a, b⟩ := s.holds
  exact s.of ⟨g, h1, h2, h3, d, e, a, v, b⟩
noncomputable abbrev G0 : PF Try.prog := PF.none _
-- bazaar/goods.account
def h36_0 : HC := (.seq (.reg (.chk none (.bin .geq) (.cons (.inp 0) (.cons (.cst (.int .i64 0)) .nil)) (.bnd (.op (.bin .geq) (.cons (.inp 0) (.cons (.cst (.int .i64 0)) .nil))) (.chk (some ((.bv 0), true)) (.bin .lss) (.cons (.inp 0) (.cons (.cst (.int .i64 64)) .nil)) (.isb none (.bv 0) (.done [(1, (.ite (.bv 0) true (.op (.bin .lss) (.cons (.inp 0) (.cons (.cst (.int .i64 64)) .nil))) (.cst (.bool false))))] none)))))) .ret)
@[simp] theorem h36_0_wp {P : Program} {F : PF P} {Q : EX → List Value → World → Prop} {env : List Value} {w : World} : h36_0.wp F Q env w = HC.wp F (.seq (.reg (.chk none (.bin .geq) (.cons (.inp 0) (.cons (.cst (.int .i64 0)) .nil)) (.bnd (.op (.bin .geq) (.cons (.inp 0) (.cons (.cst (.int .i64 0)) .nil))) (.chk (some ((.bv 0), true)) (.bin .lss) (.cons (.inp 0) (.cons (.cst (.int .i64 64)) .nil)) (.isb none (.bv 0) (.done [(1, (.ite (.bv 0) true (.op (.bin .lss) (.cons (.inp 0) (.cons (.cst (.int .i64 64)) .nil))) (.cst (.bool false))))] none)))))) .ret) Q env w := rfl
def l36 : Lifted := ⟨[0, 2], 9, [.slot 1], (.seq (.reg (.done [(1, (.cst (.bool false)))] none)) h36_0)⟩
theorem l36_ok : liftFn G0 36 400 = some l36 := by kernel_rfl

-- bazaar/goods.kind
def h34_0 : HC := (.seq (.reg (.chk none (.bin .geq) (.cons (.inp 0) (.cons (.cst (.int .i64 0)) .nil)) (.bnd (.op (.bin .geq) (.cons (.inp 0) (.cons (.cst (.int .i64 0)) .nil))) (.chk (some ((.bv 0), true)) (.bin .lss) (.cons (.inp 0) (.cons (.cst (.int .i64 16)) .nil)) (.isb none (.bv 0) (.done [(1, (.ite (.bv 0) true (.op (.bin .lss) (.cons (.inp 0) (.cons (.cst (.int .i64 16)) .nil))) (.cst (.bool false))))] none)))))) .ret)
@[simp] theorem h34_0_wp {P : Program} {F : PF P} {Q : EX → List Value → World → Prop} {env : List Value} {w : World} : h34_0.wp F Q env w = HC.wp F (.seq (.reg (.chk none (.bin .geq) (.cons (.inp 0) (.cons (.cst (.int .i64 0)) .nil)) (.bnd (.op (.bin .geq) (.cons (.inp 0) (.cons (.cst (.int .i64 0)) .nil))) (.chk (some ((.bv 0), true)) (.bin .lss) (.cons (.inp 0) (.cons (.cst (.int .i64 16)) .nil)) (.isb none (.bv 0) (.done [(1, (.ite (.bv 0) true (.op (.bin .lss) (.cons (.inp 0) (.cons (.cst (.int .i64 16)) .nil))) (.cst (.bool false))))] none)))))) .ret) Q env w := rfl
def l34 : Lifted := ⟨[0, 2], 9, [.slot 1], (.seq (.reg (.done [(1, (.cst (.bool false)))] none)) h34_0)⟩
theorem l34_ok : liftFn G0 34 400 = some l34 := by kernel_rfl

-- bazaar/bazaarlaw15.num
def h10_0 : HC := (.seq (.reg (.done [(1, (.inp 0))] none)) .ret)
@[simp] theorem h10_0_wp {P : Program} {F : PF P} {Q : EX → List Value → World → Prop} {env : List Value} {w : World} : h10_0.wp F Q env w = HC.wp F (.seq (.reg (.done [(1, (.inp 0))] none)) .ret) Q env w := rfl
def l10 : Lifted := ⟨[0, 2], 4, [.slot 1], (.seq (.reg (.done [(1, (.cst (.int .i64 0)))] none)) h10_0)⟩
theorem l10_ok : liftFn G0 10 400 = some l10 := by kernel_rfl

-- bazaar/bazaarlaw15.place
def h9_0 : HC := (.seq (.reg (.done [(2, (.inp 3))] none)) .ret)
@[simp] theorem h9_0_wp {P : Program} {F : PF P} {Q : EX → List Value → World → Prop} {env : List Value} {w : World} : h9_0.wp F Q env w = HC.wp F (.seq (.reg (.done [(2, (.inp 3))] none)) .ret) Q env w := rfl
def h9_1 : HC := (.reg (.chk none (.bin .add) (.cons (.inp 3) (.cons (.inp 1) .nil)) (.done [(3, (.op (.bin .add) (.cons (.inp 3) (.cons (.inp 1) .nil))))] none)))
@[simp] theorem h9_1_wp {P : Program} {F : PF P} {Q : EX → List Value → World → Prop} {env : List Value} {w : World} : h9_1.wp F Q env w = HC.wp F (.reg (.chk none (.bin .add) (.cons (.inp 3) (.cons (.inp 1) .nil)) (.done [(3, (.op (.bin .add) (.cons (.inp 3) (.cons (.inp 1) .nil))))] none))) Q env w := rfl
def h9_2 : HC := (.seq (.br (.chk none (.bin .lss) (.cons (.inp 3) (.cons (.cst (.int .i64 0)) .nil)) (.done [] (some (.op (.bin .lss) (.cons (.inp 3) (.cons (.cst (.int .i64 0)) .nil)))))) h9_1 .skip) h9_0)
@[simp] theorem h9_2_wp {P : Program} {F : PF P} {Q : EX → List Value → World → Prop} {env : List Value} {w : World} : h9_2.wp F Q env w = HC.wp F (.seq (.br (.chk none (.bin .lss) (.cons (.inp 3) (.cons (.cst (.int .i64 0)) .nil)) (.done [] (some (.op (.bin .lss) (.cons (.inp 3) (.cons (.cst (.int .i64 0)) .nil)))))) h9_1 .skip) h9_0) Q env w := rfl
def h9_3 : HC := (.seq (.reg (.chk none (.bin .rem) (.cons (.inp 0) (.cons (.inp 1) .nil)) (.done [(3, (.op (.bin .rem) (.cons (.inp 0) (.cons (.inp 1) .nil))))] none))) h9_2)
@[simp] theorem h9_3_wp {P : Program} {F : PF P} {Q : EX → List Value → World → Prop} {env : List Value} {w : World} : h9_3.wp F Q env w = HC.wp F (.seq (.reg (.chk none (.bin .rem) (.cons (.inp 0) (.cons (.inp 1) .nil)) (.done [(3, (.op (.bin .rem) (.cons (.inp 0) (.cons (.inp 1) .nil))))] none))) h9_2) Q env w := rfl
def l9 : Lifted := ⟨[0, 1, 4, 5], 15, [.slot 2], (.seq (.reg (.done [(2, (.cst (.int .i64 0)))] none)) h9_3)⟩
theorem l9_ok : liftFn G0 9 400 = some l9 := by kernel_rfl


def accF (a : Int) : Bool := decide (0 ≤ a) && decide (a < 64)
def kindF (a : Int) : Bool := decide (0 ≤ a) && decide (a < 16)
theorem account_spec (u : Int) (w : World) : CallW Try.prog 36 [.int .i64 u] (fun r w' => r = .bool (accF u) ∧ w' = w) w := by
  refine callW_of_lift l36_ok (by simp [l36]) ?_
  simp [l36, accF, condC_ite]
theorem kind_spec (u : Int) (w : World) : CallW Try.prog 34 [.int .i64 u] (fun r w' => r = .bool (kindF u) ∧ w' = w) w := by
  refine callW_of_lift l34_ok (by simp [l34]) ?_
  simp [l34, kindF, condC_ite]
theorem num_spec (u : Int) (w : World) : CallW Try.prog 10 [.int .i64 u] (fun r w' => r = .int .i64 u ∧ w' = w) w := by
  refine callW_of_lift l10_ok (by simp [l10]) ?_
  simp [l10]
/-- of one number, a number -/
def PS.ii {P : Program} (f : Nat) (k k' : IntKind) (g : Int → Int) (h : ∀ u w, CallW P f [.int k u] (fun r w' => r = .int k' (g u) ∧ w' = w) w) : PS P where
  f := f
  val args := match args with
    | [.int _ u] => .int k' (g u)
    | _ => undef
  ok args := match args with
    | [.int k' _] => k' = k
    | _ => False
  sound args w hok := by
    split at hok
    · subst hok; exact h _ w
    · exact hok.elim
def placeF (a n : Int) : Int := if a.tmod n < 0 then a.tmod n + n else a.tmod n
theorem place_spec (a n : Int) (w : World) (h1 : 0 < n) (h2 : n ≤ 1000000) : CallW Try.prog 9 [.int .i64 a, .int .i64 n] (fun r w' => r = .int .i64 (placeF a n) ∧ w' = w) w := by
  refine callW_of_lift l9_ok (by simp [l9]) ?_
  simp [l9]
  have k1 := Int.tmod_lt_of_pos a h1
  have k2 : -n < a.tmod n := by
    have := Int.lt_tmod_of_pos a h1
    omega
  refine ⟨by omega, cndI (fun h => ?_) (fun h => ?_)⟩
  · simp at h
    have hw : IntKind.i64.wrap (a.tmod n + n) = a.tmod n + n := wrap64 (by omega) (by omega)
    simp [placeF, h, hw]
  · simp at h
    have : ¬ a.tmod n < 0 := by omega
    simp [placeF, this]
theorem place_bd (a n : Int) (h1 : 0 < n) : 0 ≤ placeF a n ∧ placeF a n < n := by
  have k1 := Int.tmod_lt_of_pos a h1
  have k2 : -n < a.tmod n := by
    have := Int.lt_tmod_of_pos a h1
    omega
  unfold placeF
  split <;> omega
end Go.HL.Gd
