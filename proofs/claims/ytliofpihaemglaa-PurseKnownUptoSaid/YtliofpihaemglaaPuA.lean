/-
  Purse: accounts in memory, purses in memory, the small functions. No condition.
-/
import Derived.Test.YtliofpihaemglaaNmN
import Derived.Test.YtliofpihaemglaaNmP
import Derived.Test.YtliofpihaemglaaNmG
import Derived.Test.YtliofpihaemglaaEngI
namespace Go.HL.Pu
open Go.HL Go.HL.Nm Go.Proofs
set_option maxRecDepth 4000
set_option linter.unusedSimpArgs false
set_option linter.unusedVariables false
/-- an account -/
structure Ac where
  name : List UInt8
  coins : Int
deriving DecidableEq
def Ac.cs (x : Ac) : List Value := [.string (HL.mk x.name), .int .u64 x.coins]
def flat (l : List Ac) : List Value := l.flatMap Ac.cs
theorem cs_len (x : Ac) : x.cs.length = 2 := rfl
theorem flat_len (l : List Ac) : (flat l).length = l.length * 2 := flat_length Ac.cs 2 cs_len l
theorem cs_one (x : Ac) : ∀ u ∈ x.cs, u.oneCell' = true := by
  intro u hu
  simp only [Ac.cs, List.mem_cons, List.not_mem_nil, or_false] at hu
  rcases hu with rfl | rfl <;> rfl
theorem flat_one (l : List Ac) : ∀ u ∈ flat l, u.oneCell' = true := by
  intro u hu
  obtain ⟨x, _, hx⟩ := List.mem_flatMap.1 hu
  exact cs_one x u hx
theorem flat_at {its : List Ac} {i : Nat} (h : i < its.length) : ∀ j u, (its[i].cs)[j]? = some u → (flat its)[i * 2 + j]? = some u := by
  intro j u hu
  have hj : j < 2 := (List.getElem?_eq_some_iff.1 hu).1
  rw [← hu]
  exact flat_get Ac.cs 2 cs_len its i j h hj
theorem flat_name {its : List Ac} {i : Nat} (h : i < its.length) : (flat its)[i * 2]? = some (.string (mk its[i].name)) := flat_at h 0 _ rfl
theorem flat_coins {its : List Ac} {i : Nat} (h : i < its.length) : (flat its)[i * 2 + 1]? = some (.int .u64 its[i].coins) := flat_at h 1 _ rfl
theorem flat_set1 {its : List Ac} {i : Nat} (h : i < its.length) (c : Int) : (flat its).set (i * 2 + 1) (.int .u64 c) = flat (its.set i ⟨its[i].name, c⟩) := by
  have e := flat_set Ac.cs 2 cs_len (⟨its[i].name, c⟩ : Ac) its i h
  show _ = List.flatMap Ac.cs _
  rw [← e]
  have hl := flat_len its
  have hf : flat its = its.flatMap Ac.cs := rfl
  apply List.ext_getElem?
  intro k
  have hlen : i * 2 + 2 ≤ (its.flatMap Ac.cs).length := by rw [← hf]; omega
  have tl : ((its.flatMap Ac.cs).take (i * 2)).length = i * 2 := by rw [List.length_take]; omega
  rw [hf]
  have c4 : (⟨its[i].name, c⟩ : Ac).cs.length = 2 := rfl
  by_cases k1 : k < i * 2
  · rw [List.getElem?_set_ne (by omega), List.append_assoc, List.getElem?_append_left (by omega), List.getElem?_take, if_pos k1]
  by_cases k2 : k < i * 2 + 2
  · rw [List.append_assoc, List.getElem?_append_right (by omega), tl, List.getElem?_append_left (by rw [c4]; omega)]
    obtain ⟨j, rfl⟩ : ∃ j, k = i * 2 + j := ⟨k - i * 2, by omega⟩
    have hj : j < 2 := by omega
    rw [Nat.add_sub_cancel_left]
    have : j = 0 ∨ j = 1 := by omega
    rcases this with rfl | rfl
    · rw [List.getElem?_set_ne (by omega), flat_get Ac.cs 2 cs_len its i 0 h (by omega)]; rfl
    · rw [List.getElem?_set_self (by omega)]; rfl
  · rw [List.getElem?_set_ne (by omega), List.append_assoc, List.getElem?_append_right (by omega), tl, List.getElem?_append_right (by rw [c4]; omega), List.getElem?_drop, c4]
    congr 1
    omega
def keyF (l : List UInt8) : List UInt8 := encAll (foldedF l)
def seemF (l : List UInt8) : List UInt8 := encAll (lookF l)
def keys (l : List Ac) : List (List UInt8) := l.map fun x => keyF x.name
/-- a purse's numbers -/
structure Ps where
  lim : Int
  rows : List Ac
  sup : Int
  held : Int
deriving DecidableEq
/-- a purse at p -/
abbrev pt4 (p : Nat) (P : Ps) (m : Nat) (v : Value) : Asn := pt p (.cells #[.map (some m), .int .i64 P.lim, v, .int .u64 P.sup, .int .u64 P.held] 81 (0, 0))
abbrev mpt (m : Nat) (l : List Ac) : Asn := pt m (.map (mapE (keys l)) (keys l).length)
def pur (p : Nat) (P : Ps) : Asn := fun h => ∃ m v, (pt4 p P m v * mpt m P.rows * own 66 2 v P.rows.length (flat P.rows)) h
theorem popen {w0 w : World} {A : Asn} {p : Nat} {P : Ps} (s : St w0 (A * pur p P) w) :
    ∃ m v, St w0 (A * pt4 p P m v * mpt m P.rows * own 66 2 v P.rows.length (flat P.rows)) w := by
  obtain ⟨g, h1, h2, h3, d, e, a, m, v, b⟩ := s.holds
  refine ⟨m, v, ?_⟩
  rw [sep_assoc, sep_assoc, ← sep_assoc (pt4 p P m v)]
  exact s.of ⟨g, h1, h2, h3, d, e, a, b⟩
theorem pclose {w0 w : World} {A : Asn} {p : Nat} {P : Ps} {m : Nat} {v : Value}
    (s : St w0 (A * pt4 p P m v * mpt m P.rows * own 66 2 v P.rows.length (flat P.rows)) w) : St w0 (A * pur p P) w := by
  rw [sep_assoc, sep_assoc, ← sep_assoc (pt4 p P m v)] at s
  obtain ⟨g, h1, h2, h3, d, e, a, b⟩ := s.holds
  exact s.of ⟨g, h1, h2, h3, d, e, a, m, v, b⟩
theorem accT : PrimStruct Try.prog 66 [.str, .int .u64] := ⟨by kernel_rfl, by kernel_rfl, by kernel_rfl, by kernel_rfl⟩
theorem regT : MapT Try.prog 77 9 3 := ⟨by kernel_rfl, by kernel_rfl, by kernel_rfl⟩
noncomputable abbrev U0 : PF Try.prog := PF.none _
-- (*bazaar/purse.register).known
def h47_0 : HC := (.seq (.reg (.done [(2, (.inp 4)), (3, (.inp 5))] none)) .ret)
@[simp] theorem h47_0_wp {P : Program} {F : PF P} {Q : EX → List Value → World → Prop} {env : List Value} {w : World} : h47_0.wp F Q env w = HC.wp F (.seq (.reg (.done [(2, (.inp 4)), (3, (.inp 5))] none)) .ret) Q env w := rfl
def h47_1 : HC := (.seq (.regq (some 2) (.chk none .chkp (.cons (.inp 0) .nil) (.chk none (.fld 0) (.cons (.op .chkp (.cons (.inp 0) .nil)) .nil) (.eff (.ld false 1) (.cons (.op (.fld 0) (.cons (.op .chkp (.cons (.inp 0) .nil)) .nil)) .nil) (.eff (.call 15) (.cons (.inp 1) .nil) (.eff (.look 77 true) (.cons (.bv 0) (.cons (.bv 1) .nil)) (.chk none (.ext 0) (.cons (.bv 2) .nil) (.chk none (.ext 1) (.cons (.bv 2) .nil) (.done [(4, (.op (.ext 0) (.cons (.bv 2) .nil))), (5, (.op (.ext 1) (.cons (.bv 2) .nil)))] none))))))))) h47_0)
@[simp] theorem h47_1_wp {P : Program} {F : PF P} {Q : EX → List Value → World → Prop} {env : List Value} {w : World} : h47_1.wp F Q env w = HC.wp F (.seq (.regq (some 2) (.chk none .chkp (.cons (.inp 0) .nil) (.chk none (.fld 0) (.cons (.op .chkp (.cons (.inp 0) .nil)) .nil) (.eff (.ld false 1) (.cons (.op (.fld 0) (.cons (.op .chkp (.cons (.inp 0) .nil)) .nil)) .nil) (.eff (.call 15) (.cons (.inp 1) .nil) (.eff (.look 77 true) (.cons (.bv 0) (.cons (.bv 1) .nil)) (.chk none (.ext 0) (.cons (.bv 2) .nil) (.chk none (.ext 1) (.cons (.bv 2) .nil) (.done [(4, (.op (.ext 0) (.cons (.bv 2) .nil))), (5, (.op (.ext 1) (.cons (.bv 2) .nil)))] none))))))))) h47_0) Q env w := rfl
def l47 : Lifted := ⟨[0, 1, 4, 5, 6, 7], 20, [.slot 2, .slot 3], (.seq (.reg (.done [(2, (.cst (.int .i64 0))), (3, (.cst (.bool false)))] none)) h47_1)⟩
theorem l47_ok : liftFn U0 47 400 = some l47 := by kernel_rfl

-- (*bazaar/purse.register).enter

def l48 : Lifted := ⟨[0, 1, 2], 13, [], (.regq (some 2) (.chk none .chkp (.cons (.inp 0) .nil) (.chk none (.fld 0) (.cons (.op .chkp (.cons (.inp 0) .nil)) .nil) (.eff (.ld false 1) (.cons (.op (.fld 0) (.cons (.op .chkp (.cons (.inp 0) .nil)) .nil)) .nil) (.eff (.call 15) (.cons (.inp 1) .nil) (.eff (.upd 77) (.cons (.bv 0) (.cons (.bv 1) (.cons (.inp 2) .nil))) (.done [] none)))))))⟩
theorem l48_ok : liftFn U0 48 400 = some l48 := by kernel_rfl

-- maps.Clone[map[string]int,string,int]
def h57_0 : HC := (.seq (.reg (.chk none (.ifc 77) (.cons (.inp 0) .nil) (.eff (.cext 84) (.cons (.op (.ifc 77) (.cons (.inp 0) .nil)) .nil) (.eff (.tas 20 77 false) (.cons (.bv 0) .nil) (.done [(1, (.bv 1))] none))))) .ret)
@[simp] theorem h57_0_wp {P : Program} {F : PF P} {Q : EX → List Value → World → Prop} {env : List Value} {w : World} : h57_0.wp F Q env w = HC.wp F (.seq (.reg (.chk none (.ifc 77) (.cons (.inp 0) .nil) (.eff (.cext 84) (.cons (.op (.ifc 77) (.cons (.inp 0) .nil)) .nil) (.eff (.tas 20 77 false) (.cons (.bv 0) .nil) (.done [(1, (.bv 1))] none))))) .ret) Q env w := rfl
def h57_1 : HC := (.seq (.reg (.done [(1, (.cst (.map none)))] none)) .ret)
@[simp] theorem h57_1_wp {P : Program} {F : PF P} {Q : EX → List Value → World → Prop} {env : List Value} {w : World} : h57_1.wp F Q env w = HC.wp F (.seq (.reg (.done [(1, (.cst (.map none)))] none)) .ret) Q env w := rfl
def h57_2 : HC := (.seq (.br (.chk none (.eqNil false (.map 9 3) (.map none)) (.cons (.inp 0) .nil) (.done [] (some (.op (.eqNil false (.map 9 3) (.map none)) (.cons (.inp 0) .nil))))) h57_1 .skip) h57_0)
@[simp] theorem h57_2_wp {P : Program} {F : PF P} {Q : EX → List Value → World → Prop} {env : List Value} {w : World} : h57_2.wp F Q env w = HC.wp F (.seq (.br (.chk none (.eqNil false (.map 9 3) (.map none)) (.cons (.inp 0) .nil) (.done [] (some (.op (.eqNil false (.map 9 3) (.map none)) (.cons (.inp 0) .nil))))) h57_1 .skip) h57_0) Q env w := rfl
def l57 : Lifted := ⟨[0, 2], 9, [.slot 1], (.seq (.reg (.done [(1, (.cst (.map none)))] none)) h57_2)⟩
theorem l57_ok : liftFn U0 57 400 = some l57 := by kernel_rfl

-- slices.Clip[[]int,int]
def h52_0 : HC := (.seq (.reg (.chk none .lenL (.cons (.inp 0) .nil) (.chk none .lenL (.cons (.inp 0) .nil) (.chk none (.slL 1 false true true) (.cons (.inp 0) (.cons (.op .lenL (.cons (.inp 0) .nil)) (.cons (.op .lenL (.cons (.inp 0) .nil)) .nil))) (.done [(1, (.op (.slL 1 false true true) (.cons (.inp 0) (.cons (.op .lenL (.cons (.inp 0) .nil)) (.cons (.op .lenL (.cons (.inp 0) .nil)) .nil)))))] none))))) .ret)
@[simp] theorem h52_0_wp {P : Program} {F : PF P} {Q : EX → List Value → World → Prop} {env : List Value} {w : World} : h52_0.wp F Q env w = HC.wp F (.seq (.reg (.chk none .lenL (.cons (.inp 0) .nil) (.chk none .lenL (.cons (.inp 0) .nil) (.chk none (.slL 1 false true true) (.cons (.inp 0) (.cons (.op .lenL (.cons (.inp 0) .nil)) (.cons (.op .lenL (.cons (.inp 0) .nil)) .nil))) (.done [(1, (.op (.slL 1 false true true) (.cons (.inp 0) (.cons (.op .lenL (.cons (.inp 0) .nil)) (.cons (.op .lenL (.cons (.inp 0) .nil)) .nil)))))] none))))) .ret) Q env w := rfl
def l52 : Lifted := ⟨[0, 2], 9, [.slot 1], (.seq (.reg (.done [(1, (.cst (.slice none 0 0)))] none)) h52_0)⟩
theorem l52_ok : liftFn U0 52 400 = some l52 := by kernel_rfl

-- slices.Clip[[]bazaar/api.Account,bazaar/api.Account]
def h59_0 : HC := (.seq (.reg (.chk none .lenL (.cons (.inp 0) .nil) (.chk none .lenL (.cons (.inp 0) .nil) (.chk none (.slL 2 false true true) (.cons (.inp 0) (.cons (.op .lenL (.cons (.inp 0) .nil)) (.cons (.op .lenL (.cons (.inp 0) .nil)) .nil))) (.done [(1, (.op (.slL 2 false true true) (.cons (.inp 0) (.cons (.op .lenL (.cons (.inp 0) .nil)) (.cons (.op .lenL (.cons (.inp 0) .nil)) .nil)))))] none))))) .ret)
@[simp] theorem h59_0_wp {P : Program} {F : PF P} {Q : EX → List Value → World → Prop} {env : List Value} {w : World} : h59_0.wp F Q env w = HC.wp F (.seq (.reg (.chk none .lenL (.cons (.inp 0) .nil) (.chk none .lenL (.cons (.inp 0) .nil) (.chk none (.slL 2 false true true) (.cons (.inp 0) (.cons (.op .lenL (.cons (.inp 0) .nil)) (.cons (.op .lenL (.cons (.inp 0) .nil)) .nil))) (.done [(1, (.op (.slL 2 false true true) (.cons (.inp 0) (.cons (.op .lenL (.cons (.inp 0) .nil)) (.cons (.op .lenL (.cons (.inp 0) .nil)) .nil)))))] none))))) .ret) Q env w := rfl
def l59 : Lifted := ⟨[0, 2], 9, [.slot 1], (.seq (.reg (.done [(1, (.cst (.slice none 0 0)))] none)) h59_0)⟩
theorem l59_ok : liftFn U0 59 400 = some l59 := by kernel_rfl

-- slices.Clone[[]bazaar/api.Account,bazaar/api.Account]
def h56_0 : HC := (.seq (.reg (.eff (.bsl 66 0 2 #[] []) .nil (.eff (.app 39 39 66 2 24 (.agg #[(.string ⟨#[]⟩), (.int .u64 0)])) (.cons (.bv 0) (.cons (.inp 0) .nil)) (.done [(1, (.bv 1))] none)))) .ret)
@[simp] theorem h56_0_wp {P : Program} {F : PF P} {Q : EX → List Value → World → Prop} {env : List Value} {w : World} : h56_0.wp F Q env w = HC.wp F (.seq (.reg (.eff (.bsl 66 0 2 #[] []) .nil (.eff (.app 39 39 66 2 24 (.agg #[(.string ⟨#[]⟩), (.int .u64 0)])) (.cons (.bv 0) (.cons (.inp 0) .nil)) (.done [(1, (.bv 1))] none)))) .ret) Q env w := rfl
def h56_1 : HC := (.seq (.reg (.done [(1, (.cst (.slice none 0 0)))] none)) .ret)
@[simp] theorem h56_1_wp {P : Program} {F : PF P} {Q : EX → List Value → World → Prop} {env : List Value} {w : World} : h56_1.wp F Q env w = HC.wp F (.seq (.reg (.done [(1, (.cst (.slice none 0 0)))] none)) .ret) Q env w := rfl
def h56_2 : HC := (.seq (.br (.chk none (.eqNil false (.slice 66) (.slice none 0 0)) (.cons (.inp 0) .nil) (.done [] (some (.op (.eqNil false (.slice 66) (.slice none 0 0)) (.cons (.inp 0) .nil))))) h56_1 .skip) h56_0)
@[simp] theorem h56_2_wp {P : Program} {F : PF P} {Q : EX → List Value → World → Prop} {env : List Value} {w : World} : h56_2.wp F Q env w = HC.wp F (.seq (.br (.chk none (.eqNil false (.slice 66) (.slice none 0 0)) (.cons (.inp 0) .nil) (.done [] (some (.op (.eqNil false (.slice 66) (.slice none 0 0)) (.cons (.inp 0) .nil))))) h56_1 .skip) h56_0) Q env w := rfl
def l56 : Lifted := ⟨[0, 2], 8, [.slot 1], (.seq (.reg (.done [(1, (.cst (.slice none 0 0)))] none)) h56_2)⟩
theorem l56_ok : liftFn U0 56 400 = some l56 := by kernel_rfl

-- bazaar/count.Take
def h53_0 : HC := (.seq (.reg (.chk none (.bin .sub) (.cons (.inp 0) (.cons (.inp 1) .nil)) (.done [(2, (.op (.bin .sub) (.cons (.inp 0) (.cons (.inp 1) .nil)))), (3, (.cst (.int .i64 0)))] none))) .ret)
@[simp] theorem h53_0_wp {P : Program} {F : PF P} {Q : EX → List Value → World → Prop} {env : List Value} {w : World} : h53_0.wp F Q env w = HC.wp F (.seq (.reg (.chk none (.bin .sub) (.cons (.inp 0) (.cons (.inp 1) .nil)) (.done [(2, (.op (.bin .sub) (.cons (.inp 0) (.cons (.inp 1) .nil)))), (3, (.cst (.int .i64 0)))] none))) .ret) Q env w := rfl
def h53_1 : HC := (.seq (.reg (.done [(2, (.cst (.int .u64 0))), (3, (.cst (.int .i64 11)))] none)) .ret)
@[simp] theorem h53_1_wp {P : Program} {F : PF P} {Q : EX → List Value → World → Prop} {env : List Value} {w : World} : h53_1.wp F Q env w = HC.wp F (.seq (.reg (.done [(2, (.cst (.int .u64 0))), (3, (.cst (.int .i64 11)))] none)) .ret) Q env w := rfl
def h53_2 : HC := (.seq (.br (.chk none (.bin .gtr) (.cons (.inp 1) (.cons (.inp 0) .nil)) (.done [] (some (.op (.bin .gtr) (.cons (.inp 1) (.cons (.inp 0) .nil)))))) h53_1 .skip) h53_0)
@[simp] theorem h53_2_wp {P : Program} {F : PF P} {Q : EX → List Value → World → Prop} {env : List Value} {w : World} : h53_2.wp F Q env w = HC.wp F (.seq (.br (.chk none (.bin .gtr) (.cons (.inp 1) (.cons (.inp 0) .nil)) (.done [] (some (.op (.bin .gtr) (.cons (.inp 1) (.cons (.inp 0) .nil)))))) h53_1 .skip) h53_0) Q env w := rfl
def l53 : Lifted := ⟨[0, 1, 4, 5], 12, [.slot 2, .slot 3], (.seq (.reg (.done [(2, (.cst (.int .u64 0))), (3, (.cst (.int .i64 0)))] none)) h53_2)⟩
theorem l53_ok : liftFn U0 53 400 = some l53 := by kernel_rfl

-- bazaar/bazaarlaw14.num
def h10_0 : HC := (.seq (.reg (.done [(1, (.inp 0))] none)) .ret)
@[simp] theorem h10_0_wp {P : Program} {F : PF P} {Q : EX → List Value → World → Prop} {env : List Value} {w : World} : h10_0.wp F Q env w = HC.wp F (.seq (.reg (.done [(1, (.inp 0))] none)) .ret) Q env w := rfl
def l10 : Lifted := ⟨[0, 2], 4, [.slot 1], (.seq (.reg (.done [(1, (.cst (.int .i64 0)))] none)) h10_0)⟩
theorem l10_ok : liftFn U0 10 400 = some l10 := by kernel_rfl

-- bazaar/bazaarlaw14.round
def h25_0 : HC := (.seq (.reg (.done [(2, (.inp 0))] none)) .ret)
@[simp] theorem h25_0_wp {P : Program} {F : PF P} {Q : EX → List Value → World → Prop} {env : List Value} {w : World} : h25_0.wp F Q env w = HC.wp F (.seq (.reg (.done [(2, (.inp 0))] none)) .ret) Q env w := rfl
def h25_1 : HC := (.reg (.chk none (.bin .add) (.cons (.inp 0) (.cons (.inp 1) .nil)) (.done [(0, (.op (.bin .add) (.cons (.inp 0) (.cons (.inp 1) .nil))))] none)))
@[simp] theorem h25_1_wp {P : Program} {F : PF P} {Q : EX → List Value → World → Prop} {env : List Value} {w : World} : h25_1.wp F Q env w = HC.wp F (.reg (.chk none (.bin .add) (.cons (.inp 0) (.cons (.inp 1) .nil)) (.done [(0, (.op (.bin .add) (.cons (.inp 0) (.cons (.inp 1) .nil))))] none))) Q env w := rfl
def h25_2 : HC := (.seq (.br (.chk none (.bin .lss) (.cons (.inp 0) (.cons (.cst (.int .i64 0)) .nil)) (.done [] (some (.op (.bin .lss) (.cons (.inp 0) (.cons (.cst (.int .i64 0)) .nil)))))) h25_1 .skip) h25_0)
@[simp] theorem h25_2_wp {P : Program} {F : PF P} {Q : EX → List Value → World → Prop} {env : List Value} {w : World} : h25_2.wp F Q env w = HC.wp F (.seq (.br (.chk none (.bin .lss) (.cons (.inp 0) (.cons (.cst (.int .i64 0)) .nil)) (.done [] (some (.op (.bin .lss) (.cons (.inp 0) (.cons (.cst (.int .i64 0)) .nil)))))) h25_1 .skip) h25_0) Q env w := rfl
def h25_3 : HC := (.seq (.reg (.chk none (.bin .rem) (.cons (.inp 0) (.cons (.inp 1) .nil)) (.done [(0, (.op (.bin .rem) (.cons (.inp 0) (.cons (.inp 1) .nil))))] none))) h25_2)
@[simp] theorem h25_3_wp {P : Program} {F : PF P} {Q : EX → List Value → World → Prop} {env : List Value} {w : World} : h25_3.wp F Q env w = HC.wp F (.seq (.reg (.chk none (.bin .rem) (.cons (.inp 0) (.cons (.inp 1) .nil)) (.done [(0, (.op (.bin .rem) (.cons (.inp 0) (.cons (.inp 1) .nil))))] none))) h25_2) Q env w := rfl
def l25 : Lifted := ⟨[0, 1, 4], 14, [.slot 2], (.seq (.reg (.done [(2, (.cst (.int .i64 0)))] none)) h25_3)⟩
theorem l25_ok : liftFn U0 25 400 = some l25 := by kernel_rfl


theorem known_spec (p : Nat) (c : Array Value) (t : TypeId) (m : Nat) (ks : List (List UInt8)) (n : Nat) (x : List UInt8) (w0 w : World) (A : Asn) (hc : c[0]? = some (.map (some m))) (hx : x.length ≤ 1048576)
    (s : St w0 (A * pt p (.cells c t (0, 0)) * pt m (.map (mapE ks) n)) w) :
    CallW Try.prog 47 [.pointer (some ⟨p, 0, none⟩), .string (mk x)] (fun r w' => r = .tuple #[.int .i64 (askN (keyF x) ks), .bool (askB (keyF x) ks)] ∧ St w0 (A * pt p (.cells c t (0, 0)) * pt m (.map (mapE ks) n)) w') w := by
  refine callW_of_lift l47_ok (by simp [l47]) ?_
  simp [l47]
  refine regmI (fun vs w => match vs with
    | [] => St w0 (A * pt p (.cells c t (0, 0)) * pt m (.map (mapE ks) n)) w
    | r :: _ => r = .string (mk (keyF x)) ∧ St w0 (A * pt p (.cells c t (0, 0)) * pt m (.map (mapE ks) n)) w) s.drew ?_
  have base : ∀ {vs' : List Value} {w : World}, (match vs' with
    | [] => St w0 (A * pt p (.cells c t (0, 0)) * pt m (.map (mapE ks) n)) w
    | r :: _ => r = .string (mk (keyF x)) ∧ St w0 (A * pt p (.cells c t (0, 0)) * pt m (.map (mapE ks) n)) w) → St w0 (A * pt p (.cells c t (0, 0)) * pt m (.map (mapE ks) n)) w := by
    intro vs' w h
    cases vs' with
    | nil => exact h
    | cons r l => exact h.2
  simp
  refine effm_ldc (v := .map (some m)) (fun vs' w _ hw => by rw [cell_of (base hw).drop.look]; exact hc) ?_
  simp
  refine effm_mv rfl (fun w hw => eff_call ((Fold_spec x w0 w _ hx hw).mono fun r w' h => h)) (fun r hr => ?_)
  obtain ⟨_, rfl, _⟩ := hr
  simp
  refine effm_look regT (fun vs' w _ hw => (base hw).look) ?_
  simp
theorem enter_spec (p : Nat) (c : Array Value) (t : TypeId) (m : Nat) (ks : List (List UInt8)) (x : List UInt8) (w0 w : World) (A : Asn) (hc : c[0]? = some (.map (some m))) (hx : x.length ≤ 1048576) (hn : lookK (keyF x) ks 0 = none)
    (s : St w0 (A * pt p (.cells c t (0, 0)) * pt m (.map (mapE ks) ks.length)) w) :
    CallW Try.prog 48 [.pointer (some ⟨p, 0, none⟩), .string (mk x), .int .i64 (ks.length : Int)] (fun r w' => St w0 (A * pt p (.cells c t (0, 0)) * pt m (.map (mapE (ks ++ [keyF x])) (ks ++ [keyF x]).length)) w') w := by
  refine callW_of_lift l48_ok (by simp [l48]) ?_
  simp [l48]
  refine regmI (fun vs w => match vs with
    | [] => St w0 (A * pt p (.cells c t (0, 0)) * pt m (.map (mapE ks) ks.length)) w
    | [r] => r = .string (mk (keyF x)) ∧ St w0 (A * pt p (.cells c t (0, 0)) * pt m (.map (mapE ks) ks.length)) w
    | _ => St w0 (A * pt p (.cells c t (0, 0)) * pt m (.map (mapE (ks ++ [keyF x])) (ks ++ [keyF x]).length)) w) s.drew ?_
  simp
  refine effm_ldc (v := .map (some m)) (fun vs' w he hw => ?_) ?_
  · match vs', hw with
    | [], hw => rw [cell_of (St.drop hw).look]; exact hc
    | [_], hw => rw [cell_of (St.drop hw.2).look]; exact hc
    | _ :: _ :: _, hw => simp [era] at he
  simp
  refine effm_mv rfl (fun w hw => eff_call ((Fold_spec x w0 w _ hx hw).mono fun r w' h => h)) (fun r hr => ?_)
  obtain ⟨_, rfl, _⟩ := hr
  simp
  refine effm_mv rfl (fun w hw => eff_upd regT hw.2 hn fun w' h => by simpa using h) (fun r hr => ?_)
  simp
theorem take_spec (a b : Int) (w : World) (ha : 0 ≤ a ∧ a < 18446744073709551616) (hb : 0 ≤ b ∧ b < 18446744073709551616) : CallW Try.prog 53 [.int .u64 a, .int .u64 b] (fun r w' => r = .tuple #[.int .u64 (if a < b then 0 else a - b), .int .i64 (if a < b then 11 else 0)] ∧ w' = w) w := by
  refine callW_of_lift l53_ok (by simp [l53]) ?_
  simp [l53]
  refine cndI (fun h => ?_) (fun h => ?_)
  · simp at h
    simp [h]
  · simp at h
    simp
    try simp (disch := omega) only [wrapu64]
    exact ⟨by rw [if_neg (by omega)], by omega⟩
theorem num_spec (u : Int) (w : World) : CallW Try.prog 10 [.int .i64 u] (fun r w' => r = .int .i64 u ∧ w' = w) w := by
  refine callW_of_lift l10_ok (by simp [l10]) ?_
  simp [l10]
def clipV : Value → Value
  | .slice a n _ => .slice a n n
  | v => v
theorem clip_own {w0 w : World} {A : Asn} {e size n : Nat} {v : Value} {xs : List Value} (s : St w0 (A * own e size v n xs) w) : St w0 (A * own e size (clipV v) n xs) w := by
  rcases s.own with ⟨hl, ⟨rfl, rfl, rfl, s'⟩ | ⟨g, cap, cur, rfl, h1, h2, h3, h4, s'⟩⟩
  · exact s
  · exact s'.own_mk' (Nat.le_refl n) (Nat.le_trans h1 h2) (Nat.le_trans (Nat.mul_le_mul_right _ h1) h3) h4
theorem add_zero : (fun x : Addr => x.add 0) = id := by funext x; cases x; rfl
theorem clipI_spec (v : Value) (n : Nat) (xs : List Value) (e : Nat) (w0 w : World) (A : Asn) (hn : n ≤ 1048576) (s : St w0 (A * own e 1 v n xs) w) :
    CallW Try.prog 52 [v] (fun r w' => St w0 (A * own e 1 r n xs) w') w := by
  obtain ⟨a, cap, rfl, hc, _⟩ := s.own_val
  refine callW_of_lift l52_ok (by simp [l52]) ?_
  simp [l52, add_zero]
  exact ⟨hc, clip_own s⟩
theorem clipA_spec (v : Value) (n : Nat) (xs : List Value) (e : Nat) (w0 w : World) (A : Asn) (hn : n ≤ 1048576) (s : St w0 (A * own e 2 v n xs) w) :
    CallW Try.prog 59 [v] (fun r w' => St w0 (A * own e 2 r n xs) w') w := by
  obtain ⟨a, cap, rfl, hc, _⟩ := s.own_val
  refine callW_of_lift l59_ok (by simp [l59]) ?_
  simp [l59, add_zero]
  exact ⟨hc, clip_own s⟩
theorem clone_spec (v : Value) (rows : List Ac) (w0 w : World) (A : Asn) (hl : rows.length ≤ 1048576) (s : St w0 (A * own 66 2 v rows.length (flat rows)) w) :
    CallW Try.prog 56 [v] (fun r w' => St w0 (A * own 66 2 v rows.length (flat rows) * own 66 2 r rows.length (flat rows)) w') w := by
  obtain ⟨a, cap, rfl, hcap, _⟩ := s.own_val
  refine callW_of_lift l56_ok (by simp [l56]) ?_
  simp [l56]
  cases a with
  | none =>
    simp
    rcases s.own.2 with ⟨h, h0, _⟩ | ⟨_, _, _, h, _⟩
    · have hi : rows = [] := List.eq_nil_of_length_eq_zero h0
      subst hi
      exact s.own_nil _ _
    · cases h
  | some a =>
    simp
    refine eff_bsl0 s ?_
    intro v0 w1 s1
    simp
    have hr : Row w0 (A * own 66 2 (.slice (some a) rows.length cap) rows.length (flat rows) * own 66 2 v0 0 []) (.slice (some a) rows.length cap) rows.length 2 (flat rows) := (row_own s).mono fun w s => s.drop
    refine eff_appR s1 hr (flat_one _) (by decide) rfl (by unfold maxLen; omega) (by omega) ?_
    intro v' w2 s2
    simp
    simpa using s2
theorem eff_mclone {m : Nat} {es : Array MapEntry} {n : Nat} {t : TypeId} {w0 w : World} {A : Asn} {K : Value → World → Prop} (s : St w0 (A * pt m (.map es n)) w) (hk : ∀ m' w', St w0 (A * pt m (.map es n) * pt m' (.map es n)) w' → K (.iface t (.map (some m'))) w') :
    EffW Try.prog (.cext 84) [.iface t (.map (some m))] K w := by
  intro _
  unfold UponW
  have h := run_callFunc_extern (P := Try.prog) (f := 84) (fn := Try.f84) (e := Extern.MapsClone.clone) Try.func84 (by kernel_rfl) (by kernel_rfl) (by kernel_rfl) (by kernel_rfl) #[.iface t (.map (some m))] w
  have hb := s.look
  have hr : (Extern.MapsClone.clone #[.iface t (.map (some m))]).run Try.prog w = .ok (.iface t (.map (some w.heap.size))) (w.alloc (.map es n)) := by
    have e : Extern.MapsClone.clone #[.iface t (.map (some m))] = (getObj m >>= fun o => match o with
      | .map entries clock => (newObj (.map entries clock) >>= fun n => pure (.iface t (.map (some n))))
      | _ => stuck "maps.clone: a map expected") := rfl
    rw [e]
    simp [MapKept.run_getObj_map hb, Result.andThen, newObj]
    rfl
  rw [hr] at h
  simp only [EO.sem]
  rw [h]
  simp only [Result.andThen]
  exact hk _ _ (s.alloc trivial)
theorem mclone_spec (m : Nat) (ks : List (List UInt8)) (n : Nat) (w0 w : World) (A : Asn) (s : St w0 (A * pt m (.map (mapE ks) n)) w) :
    CallW Try.prog 57 [.map (some m)] (fun r w' => ∃ m', r = .map (some m') ∧ St w0 (A * pt m (.map (mapE ks) n) * pt m' (.map (mapE ks) n)) w') w := by
  refine callW_of_lift l57_ok (by simp [l57]) ?_
  simp [l57]
  refine eff_mclone s ?_
  intro m' w1 s1
  simp
  refine eff_tas regT.ty (by intro ms h; cases h) ?_
  simp
  exact s1
end Go.HL.Pu
