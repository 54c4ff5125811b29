/-
  What the claim leans on, part 4 of 14. Conditions: as each theorem says.
-/
import Derived.Test.YtdeidghdeijcaaaGreatMHMc
import Derived.Test.YtdeidghdeijcaaaGreatProg
namespace Go.HL.Nm
open Go.HL Go.Proofs
set_option maxRecDepth 4000
set_option linter.unusedSimpArgs false
set_option linter.unusedVariables false
noncomputable abbrev F0 : PF Tryz.prog := PF.none _
def pNmB1 : Nat → PO
  | 0 => (.bin .eql)
  | 1 => (.bin .geq)
  | 2 => (.bin .leq)
  | 3 => (.bin .neq)
  | 4 => (.bin .add)
  | 5 => .lenS
  | 6 => (.slS false true)
  | _ => .same
def eNmB1 : Nat → EO
  | _ => .ent
def vNmB1 : Nat → Value
  | 0 => (.bool false)
  | 1 => (.int .i32 32)
  | 2 => (.int .i32 45)
  | 3 => (.bool true)
  | 4 => (.int .i32 95)
  | 5 => (.int .i32 48)
  | 6 => (.int .i32 57)
  | 7 => (.int .i32 65)
  | 8 => (.int .i32 90)
  | 9 => (.int .i32 97)
  | 10 => (.int .i32 122)
  | 11 => (.int .i32 192)
  | 12 => (.int .i32 255)
  | 13 => (.int .i32 215)
  | 14 => (.int .i32 247)
  | 15 => (.int .i32 913)
  | 16 => (.int .i32 937)
  | 17 => (.int .i32 930)
  | 18 => (.int .i32 945)
  | 19 => (.int .i32 969)
  | 20 => (.int .i32 1040)
  | 21 => (.tuple #[])
  | 22 => (.int .i32 1103)
  | 23 => (.int .i32 1025)
  | 24 => (.int .i32 1105)
  | 25 => (.int .i32 0)
  | 26 => (.int .i32 222)
  | 27 => (.int .i32 1071)
  | 28 => (.int .i32 962)
  | 29 => (.int .i32 963)
  | _ => undef
def tNmB1 : Tab := ⟨pNmB1, eNmB1, vNmB1⟩
def l96 : Lifted := ⟨[0, 2], 13, [.slot 1], dcH tNmB1 [] 0xb2cbc19dc8dd7e375f6996175545134844000120d10414415144d21100004415d55144d20900004834404405144d2090000440554513481400014513481400027699612001⟩
theorem l96_ok : liftFn F0 96 400 = some l96 := by kernel_rfl
def l95 : Lifted := ⟨[0, 2, 3], 66, [.slot 1], dcH tNmB1 [] 0xb2cb2f06772379f8dd8de81f8dd7e375f6996175545134880d00004834440511145134880d00004445d55144d23c24000120d10d10d451348f0900004435d748055451348e0900024424834414414424415144d238240009109648d0955144d230240005105451348c0900014415d20155144d22c240009101101451348b09000244055451348a0900015144d228240006db2cae8a2f02cbc19dc6996155144d22424000c15144d22424000dc8de7db5d20155144d22024000910184405144d22024000910155144d23c140005451348f050001b2f06772379f69961748055451348e05000344005101451348e05000344055451348d0500035144d23414000dc8de7db5d20155144d23014000910184405144d23014000910155144d22c140005451348b050001b2f0676996120c10abb2b9dc8de7da6585d20155144d22814000910024405144d22814000910155144d2241400054513489050001bc00a772379f69961748055451348805000244009101451348805000244055451348740005451348740006f0029dc8de7da6585d20155144d21900024400910145134864000910155144d21500015144d2150001027699612001⟩
theorem l95_ok : liftFn F0 95 400 = some l95 := by kernel_rfl
def l123 : Lifted := ⟨[0, 2, 3], 45, [.slot 1], dcH tNmB1 [] 0xb2cb2f067699610001b6cb2ba28bc0b2f06769961234305c6d55144d23034000185144d230340002cbc19da6584880c171b55451348f09000061451348f090000b2f06771a6585545134814001015144d20500040abb2bb2b9dc8de7da6585d20155144d22c34000910024405144d22c34000910155144d230240005451348c090001bc00a772379f8de7da6585d20155144d22424000d10424415144d22424000d10574805545134880900024404405144d22024000910155144d23c140005451348f050001bc00a772379f8de7da6585d20155144d23414000d10424415144d23414000d105748055451348a0d00024404405144d22834000910155144d22c140005451348b050001bc00a772379f6996174805545134880500024400910145134880500024405545134874000545134874000409da6584890c1⟩
theorem l123_ok : liftFn F0 123 400 = some l123 := by kernel_rfl
def l124 : Lifted := ⟨[0, 1, 4], 18, [.slot 2], dcH tNmB1 [] 0xb2cbc19dc71c8de79e7da6585d20155144d00555144d55134011500060110024405144d00555144d55134011500060110145135544d00454001910144d00454405545135544d00455544d00050545135544d00455544d00050544d0045513400167699612002⟩
theorem l124_ok : liftFn F0 124 400 = some l124 := by kernel_rfl
def inF (u lo hi : Int) : Bool := decide (lo ≤ u) && decide (u ≤ hi)
def joinerF (u : Int) : Bool := decide (u = 32) || decide (u = 45) || decide (u = 95)
theorem joiner_spec (u : Int) (w : World) : CallW Tryz.prog 96 [.int .i32 u] (fun r w' => r = .bool (joinerF u) ∧ w' = w) w := by
  refine callC l96_ok (by simp [l96]) ?_
  simp [l96, joinerF]
def letterF (u : Int) : Bool := !(decide (u = 215) || decide (u = 247) || decide (u = 930)) &&
  (inF u 48 57 || inF u 65 90 || inF u 97 122 || inF u 192 255 || inF u 913 937 || inF u 945 969 || decide (u = 1025) || inF u 1040 1103 || decide (u = 1105))
theorem letter_spec (u : Int) (w : World) : CallW Tryz.prog 95 [.int .i32 u] (fun r w' => r = .bool (letterF u) ∧ w' = w) w := by
  refine callC l95_ok (by simp [l95]) ?_
  simp [l95, condC_ite, letterF, inF]
  repeat' split
  all_goals (try simp)
  all_goals (try (rw [Bool.eq_iff_iff]; simp))
  all_goals omega
def foldF (u : Int) : Int :=
  if (65 ≤ u ∧ u ≤ 90) ∨ (192 ≤ u ∧ u ≤ 222 ∧ u ≠ 215) ∨ (913 ≤ u ∧ u ≤ 937 ∧ u ≠ 930) ∨ (1040 ≤ u ∧ u ≤ 1071) then u + 32
  else if u = 1025 then 1105 else if u = 962 then 963 else u
theorem fold_spec (u : Int) (w : World) (h0 : 0 ≤ u) (h1 : u < 2097408) : CallW Tryz.prog 123 [.int .i32 u] (fun r w' => r = .int .i32 (foldF u) ∧ w' = w) w := by
  refine callC l123_ok (by simp [l123]) ?_
  simp [l123, condC_ite, foldF]
  repeat' split
  all_goals (try simp (disch := omega) only [wrap32])
  all_goals (try (first | rfl | omega))
theorem slhp_spec (s p : List UInt8) (w : World) (hs : s.length ≤ 1048576) : CallW Tryz.prog 124 [.string (mk s), .string (mk p)] (fun r w' => r = .bool (p.isPrefixOf s) ∧ w' = w) w := by
  refine callC l124_ok (by simp [l124]) ?_
  simp [l124]
  rw [Bool.eq_iff_iff]
  simp only [Bool.and_eq_true, decide_eq_true_eq, beq_iff_eq, List.isPrefixOf_iff_prefix]
  constructor
  · rintro ⟨h1, h2⟩
    exact List.prefix_iff_eq_take.2 h2.symm
  · intro h
    exact ⟨h.length_le, (List.prefix_iff_eq_take.1 h).symm⟩
end Go.HL.Nm

namespace Go.HL.Nm
open Go.HL Go.Proofs
set_option maxRecDepth 4000
set_option linter.unusedSimpArgs false
set_option linter.unusedVariables false
end Go.HL.Nm

namespace Go.HL.Nm
open Go.HL Go.Proofs
set_option maxRecDepth 4000
set_option linter.unusedSimpArgs false
set_option linter.unusedVariables false
noncomputable abbrev F1 : PF Tryz.prog := PF.of []
def ints (l : List Int) : List Value := l.map (Value.int .i64)
def cutF (l : List UInt8) (n : Int) : List UInt8 := l.take (sumW ((units l).take n.toNat))
end Go.HL.Nm

namespace Go.HL.Nm
open Go.HL Go.Proofs
set_option maxRecDepth 4000
set_option linter.unusedSimpArgs false
set_option linter.unusedVariables false
noncomputable def joinerS : PS Tryz.prog := PS.ib 96 .i32 joinerF joiner_spec
noncomputable def letterS : PS Tryz.prog := PS.ib 95 .i32 letterF letter_spec
noncomputable def slhpS : PS Tryz.prog where
  f := 124
  val args := match args with
    | [.string s, .string p] => .bool (p.data.toList.isPrefixOf s.data.toList)
    | _ => undef
  ok args := match args with
    | [.string s, .string _] => s.data.toList.length ≤ 1048576
    | _ => False
  sound args w h := by
    split at h
    · rename_i s p
      have := slhp_spec s.data.toList p.data.toList w h
      rw [← mk_eta, ← mk_eta] at this
      exact this
    · exact h.elim
noncomputable abbrev F2 : PF Tryz.prog := PF.of [joinerS, letterS, slhpS]
@[simp] theorem F2_hp_val (args : List Value) : F2.val 124 args = slhpS.val args := rfl
@[simp] theorem F2_hp_ok (args : List Value) : F2.ok 124 args = slhpS.ok args := rfl
def pNmF1 : Nat → PO
  | 0 => (.cal 124)
  | _ => .same
def eNmF1 : Nat → EO
  | _ => .ent
def vNmF1 : Nat → Value
  | 0 => (.bool false)
  | _ => undef
def tNmF1 : Tab := ⟨pNmF1, eNmF1, vNmF1⟩
def l111 : Lifted := ⟨[0, 1, 4], 8, [.slot 2], dcH tNmF1 [] 0xb2cbc19dc6996155144d0050000094513401400027699612002⟩
theorem l111_ok : liftFn F2 111 400 = some l111 := by kernel_rfl
theorem hp_spec (s p : List UInt8) (w : World) (hs : s.length ≤ 1048576) : CallW Tryz.prog 111 [.string (mk s), .string (mk p)] (fun r w' => r = .bool (p.isPrefixOf s) ∧ w' = w) w := by
  refine callC l111_ok (by simp [l111]) ?_
  simp [l111, slhpS]
  exact hs
def looksF (u : Int) : Int :=
  if u = 48 ∨ u = 959 ∨ u = 1086 ∨ (242 ≤ u ∧ u ≤ 246) ∨ u = 248 then 111
  else if u = 49 then 108
  else if (224 ≤ u ∧ u ≤ 229) ∨ u = 945 ∨ u = 1072 then 97
  else if u = 231 ∨ u = 1089 then 99
  else if (232 ≤ u ∧ u ≤ 235) ∨ u = 1077 ∨ u = 1105 then 101
  else if (236 ≤ u ∧ u ≤ 239) ∨ u = 953 then 105
  else if u = 954 ∨ u = 1082 then 107
  else if u = 241 then 110
  else if u = 961 ∨ u = 1088 then 112
  else if u = 964 ∨ u = 1090 then 116
  else if (249 ≤ u ∧ u ≤ 252) ∨ u = 965 then 117
  else if u = 957 then 118
  else if u = 967 ∨ u = 1093 then 120
  else if u = 253 ∨ u = 255 ∨ u = 947 ∨ u = 1091 then 121
  else if u = 32 ∨ u = 95 then 45
  else u
noncomputable def hpS : PS Tryz.prog where
  f := 111
  val args := match args with
    | [.string s, .string p] => .bool (p.data.toList.isPrefixOf s.data.toList)
    | _ => undef
  ok args := match args with
    | [.string s, .string _] => s.data.toList.length ≤ 1048576
    | _ => False
  sound args w h := by
    split at h
    · rename_i s p
      have := hp_spec s.data.toList p.data.toList w h
      rw [← mk_eta, ← mk_eta] at this
      exact this
    · exact h.elim
noncomputable def foldS : PS Tryz.prog where
  f := 123
  val args := match args with
    | [.int _ u] => .int .i32 (foldF u)
    | _ => undef
  ok args := match args with
    | [.int k u] => k = .i32 ∧ 0 ≤ u ∧ u < 2097408
    | _ => False
  sound args w h := by
    split at h
    · obtain ⟨rfl, h1, h2⟩ := h; exact fold_spec _ w h1 h2
    · exact h.elim
noncomputable abbrev F3 : PF Tryz.prog := PF.of [joinerS, letterS, slhpS, hpS, foldS]
@[simp] theorem F3_hp_val (args : List Value) : F3.val 111 args = hpS.val args := rfl
@[simp] theorem F3_hp_ok (args : List Value) : F3.ok 111 args = hpS.ok args := rfl
def pNmF2 : Nat → PO
  | 0 => (.bin .eql)
  | 1 => (.slS true false)
  | 2 => (.cal 111)
  | 3 => (.un .not)
  | 4 => .chS
  | 5 => (.convI .i32)
  | 6 => (.bin .add)
  | _ => .same
def eNmF2 : Nat → EO
  | _ => .ent
def vNmF2 : Nat → Value
  | 0 => (.int .i32 0)
  | 1 => (.int .i32 65533)
  | 2 => (.string ⟨#[239, 191, 189]⟩)
  | 3 => (.bool false)
  | 4 => (.int .i32 2097152)
  | _ => undef
def tNmF2 : Tab := ⟨pNmF2, eNmF2, vNmF2⟩
def l94 : Lifted := ⟨[0, 1, 2, 6], 22, [.slot 3], dcH tNmF2 [] 0xb2cb2f067699610083a2f02cbc19dc71c6996155144d55135545134014001054841835144d55135545134014001054841944d55144d005000415451340140011c8de79e7db5d20d55135545134825545134014000420d10184405135545134825545134014000420d10145134825545134014000424405144d0050001440554513481402014513481402027699612003⟩
theorem l94_ok : liftFn F3 94 400 = some l94 := by kernel_rfl
theorem at_spec (l : List UInt8) (i : Nat) (w : World) (hi : i < l.length) (hl : l.length ≤ 1048576) :
    CallW Tryz.prog 94 [.string (mk l), .int .i64 i, .int .i32 (runeOf (oneF (l.drop i)).1)] (fun r w' => r = .int .i32 (oneF (l.drop i)).1 ∧ w' = w) w := by
  have hne : l.drop i ≠ [] := by simp; omega
  have hu := unit_of hne
  have hb := oneF_bd hne
  have hd : (l.drop i).headD 0 = l[i]?.getD 0 := by simp [List.headD_eq_head?_getD, List.head?_drop]
  have hc := (l[i]?.getD 0).toNat_lt
  rw [hd] at hu
  refine callC l94_ok (by simp [l94]) ?_
  simp [l94, hpS]
  refine ⟨fun _ => by omega, fun _ => by omega, ?_⟩
  refine cndI (fun h => ?_) (fun h => ?_)
  · simp at h
    rw [if_pos ⟨by omega, h.2⟩] at hu
    simp
    try simp (disch := omega) only [wrap32]
    exact ⟨hi, hu⟩
  · simp at h
    rw [if_neg (by rintro ⟨h1, h2⟩; rw [List.isPrefixOf_iff_prefix.2 (h (by omega))] at h2; cases h2)] at hu
    simp
    exact hu
noncomputable def atS : PS Tryz.prog where
  f := 94
  val args := match args with
    | [.string s, .int _ i, .int _ _] => .int .i32 (oneF (s.data.toList.drop i.toNat)).1
    | _ => undef
  ok args := match args with
    | [.string s, .int k i, .int k' r] => k = .i64 ∧ k' = .i32 ∧ s.data.toList.length ≤ 1048576 ∧ 0 ≤ i ∧ i < s.data.toList.length ∧ r = runeOf (oneF (s.data.toList.drop i.toNat)).1
    | _ => False
  sound args w h := by
    split at h
    · rename_i s k i k' r
      obtain ⟨rfl, rfl, h1, h2, h3, rfl⟩ := h
      obtain ⟨n, rfl⟩ := Int.eq_ofNat_of_zero_le h2
      have := at_spec s.data.toList n w (by omega) h1
      rw [← mk_eta] at this
      simpa using this
    · exact h.elim
noncomputable abbrev F4 : PF Tryz.prog := PF.of [joinerS, letterS, slhpS, hpS, foldS, atS]
@[simp] theorem F4_j_val (args : List Value) : F4.val 96 args = joinerS.val args := rfl
@[simp] theorem F4_j_ok (args : List Value) : F4.ok 96 args = joinerS.ok args := rfl
@[simp] theorem F4_l_val (args : List Value) : F4.val 95 args = letterS.val args := rfl
@[simp] theorem F4_l_ok (args : List Value) : F4.ok 95 args = letterS.ok args := rfl
@[simp] theorem F4_f_val (args : List Value) : F4.val 123 args = foldS.val args := rfl
@[simp] theorem F4_f_ok (args : List Value) : F4.ok 123 args = foldS.ok args := rfl
@[simp] theorem F4_at_val (args : List Value) : F4.val 94 args = atS.val args := rfl
@[simp] theorem F4_at_ok (args : List Value) : F4.ok 94 args = atS.ok args := rfl
@[simp] theorem j_val (u : Int) (k : IntKind) : joinerS.val [.int k u] = .bool (joinerF u) := rfl
@[simp] theorem j_ok (u : Int) (k : IntKind) : joinerS.ok [.int k u] = (k = .i32) := rfl
@[simp] theorem l_val (u : Int) (k : IntKind) : letterS.val [.int k u] = .bool (letterF u) := rfl
@[simp] theorem l_ok (u : Int) (k : IntKind) : letterS.ok [.int k u] = (k = .i32) := rfl
@[simp] theorem f_val (u : Int) (k : IntKind) : foldS.val [.int k u] = .int .i32 (foldF u) := rfl
@[simp] theorem f_ok (u : Int) (k : IntKind) : foldS.ok [.int k u] = (k = .i32 ∧ 0 ≤ u ∧ u < 2097408) := rfl
@[simp] theorem at_val (l : List UInt8) (i r : Int) (k k' : IntKind) : atS.val [.string (mk l), .int k i, .int k' r] = .int .i32 (oneF (l.drop i.toNat)).1 := by simp [atS]
@[simp] theorem at_ok (l : List UInt8) (i r : Int) (k k' : IntKind) : atS.ok [.string (mk l), .int k i, .int k' r] = (k = .i64 ∧ k' = .i32 ∧ l.length ≤ 1048576 ∧ 0 ≤ i ∧ i < l.length ∧ r = runeOf (oneF (l.drop i.toNat)).1) := by simp [atS]
end Go.HL.Nm

namespace Go.HL.Nm
open Go.HL Go.Proofs
set_option maxRecDepth 4000
set_option linter.unusedSimpArgs false
set_option linter.unusedVariables false
def badAt (j : Bool) (u : Int) : Bool := !letterF u && (j || !joinerF u)
def faultF : Bool → Nat → List (Int × Nat) → Option Nat
  | _, _, [] => none
  | j, p, u :: r => if badAt (j || r.isEmpty) u.1 then some p else faultF (joinerF u.1) (p + u.2) r
def faultP : Bool → Nat → List (Int × Nat) → Option Nat
  | _, _, [] => none
  | j, p, u :: r => if badAt j u.1 then some p else faultP (joinerF u.1) (p + u.2) r
def lastJ : Bool → List (Int × Nat) → Bool
  | j, [] => j
  | _, u :: r => lastJ (joinerF u.1) r
def lastP : Nat → Nat → List (Int × Nat) → Nat
  | d, _, [] => d
  | _, p, u :: r => lastP p (p + u.2) r
theorem joiner_letter {u : Int} (h : joinerF u = true) : letterF u = false := by
  simp only [joinerF, Bool.or_eq_true, decide_eq_true_eq] at h
  rcases h with (h | h) | h <;> subst h <;> decide
theorem fault_eq : ∀ (r : List (Int × Nat)) (j : Bool) (p d : Nat), r ≠ [] → faultF j p r = (match faultP j p r with | some q => some q | none => if lastJ j r then some (lastP d p r) else none)
  | [], _, _, _, h => absurd rfl h
  | [u], j, p, d, _ => by
    cases hj : joinerF u.1 <;> cases hl : letterF u.1 <;> cases j <;> (first | (simp [faultF, faultP, lastJ, lastP, badAt, hj, hl]; done) | (have := joiner_letter hj; rw [hl] at this; cases this))
  | u :: v :: r, j, p, d, _ => by
    have ih := fault_eq (v :: r) (joinerF u.1) (p + u.2) p (by simp)
    rw [faultF, faultP]
    simp only [List.isEmpty_cons, Bool.or_false]
    cases badAt j u.1
    · simp only [Bool.false_eq_true, if_false]; rw [ih]; rfl
    · rfl
theorem faultP_snoc : ∀ (r : List (Int × Nat)) (u : Int × Nat) (j : Bool) (p : Nat), faultP j p (r ++ [u]) = (match faultP j p r with | some q => some q | none => if badAt (lastJ j r) u.1 then some (p + sumW r) else none)
  | [], u, j, p => by cases h : badAt j u.1 <;> simp [faultP, lastJ, sumW, h]
  | v :: r, u, j, p => by
    have ih := faultP_snoc r u (joinerF v.1) (p + v.2)
    cases h : badAt j v.1
    · simp only [List.cons_append, faultP, lastJ, sumW, h, Bool.false_eq_true, if_false]
      rw [ih, Nat.add_assoc]
      rfl
    · simp [faultP, h]
theorem lastJ_snoc : ∀ (r : List (Int × Nat)) (u : Int × Nat) (j : Bool), lastJ j (r ++ [u]) = joinerF u.1
  | [], u, j => rfl
  | v :: r, u, j => by simp only [List.cons_append, lastJ]; exact lastJ_snoc r u _
theorem lastP_snoc : ∀ (r : List (Int × Nat)) (u : Int × Nat) (d p : Nat), lastP d p (r ++ [u]) = p + sumW r
  | [], u, d, p => by simp [lastP, sumW]
  | v :: r, u, d, p => by simp only [List.cons_append, lastP, sumW]; rw [lastP_snoc r u]; omega
def optI : Option Nat → Int
  | some q => q
  | none => -1
def checkF (l : List UInt8) : Int × Int :=
  if l = [] then (0, 41)
  else if 24 < (units l).length then (sumW ((units l).take 24), 42)
  else match faultF true 0 (units l) with
    | some p => (p, 40)
    | none => (0, 0)
def pNmG1 : Nat → PO
  | 0 => (.bin .eql)
  | 1 => (.ext 0)
  | 2 => (.ext 1)
  | 3 => (.ext 2)
  | 4 => (.bin .add)
  | 5 => (.cal 94)
  | 6 => (.bin .lss)
  | 7 => (.cal 95)
  | 8 => (.un .not)
  | 9 => (.cal 96)
  | 10 => (.bin .geq)
  | _ => .same
def eNmG1 : Nat → EO
  | 0 => (.rngS 9)
  | 1 => (.nxt true 0)
  | _ => .ent
def vNmG1 : Nat → Value
  | 0 => (.int .i64 0)
  | 1 => (.string ⟨#[]⟩)
  | 2 => (.int .i64 41)
  | 3 => (.int .i64 (-1))
  | 4 => (.bool true)
  | 5 => (.int .i64 24)
  | 6 => (.int .i64 42)
  | 7 => (.int .i64 1)
  | 8 => (.bool false)
  | 9 => (.tuple #[])
  | 10 => (.int .i64 40)
  | _ => undef
def tNmG1 : Tab := ⟨pNmG1, eNmG1, vNmG1⟩
def l77 : Lifted := ⟨[0, 2, 3, 4, 5, 6, 7, 8, 9, 10, 14, 15], 56, [.slot 1, .slot 2], dcH tNmG1 [] 0x2cb2cb2cb2cb2cbc19da659612002480068bc0b2f06769965848a04240405c6d55144d201010a0585144d201010a068bc09da65840511c8df6d74880501910184405545134804041945134804041adbacb6cb2cb2cb276996101c59dc699615513409049046513409049068bc09da65840711c8de79f8e375d85f6d74880575544d55134090490480521110910584414424415135544d02412412014425134090490510974890501910574880555135544d02411c80510110144d55134090472014405134090474405545134804041945134804041a771a6585545144d02014074001490545144d020140740016771a6585545134874031035144d21d00c4a2f02cbc19da65961218240705c6d55144d21500c061451348540302771c6996585544d02c10c805551340b0421d44d02c10d44d02c1081a2f0af02271b5544d10016584402c15134400544d02810409e269961100a0544d00009da6584841a7699659612005483112003a2f02cbc19da65961208248005c6d55144d2050000614513481400027699658480092001⟩
theorem l77_ok : liftFn F4 77 400 = some l77 := by kernel_rfl
theorem check_spec (l : List UInt8) (w0 w : World) (A : Asn) (hl : l.length ≤ 1048576) (s : St w0 A w) :
    CallW Tryz.prog 77 [.string (mk l)] (fun r w' => r = .tuple #[.int .i64 (checkF l).1, .int .i64 (checkF l).2] ∧ St w0 A w') w := by
  refine callC l77_ok (by simp [l77]) ?_
  simp [l77]
  refine cndI (fun h => ?_) (fun h => ?_)
  · simp at h
    subst h
    simp [checkF]
    exact s
  simp at h
  simp
  refine eff_rngS s ?_
  intro b w1 s1
  simp
  refine loopI (fun env w' => ∃ (i : Nat) (done : List (Int × Nat)) (x y z t : Value), env = [.string (mk l), .int .i64 0, .int .i64 0, .int .i64 done.length, .int .i64 (optI (faultP true 0 done)), .int .i64 (lastP 0 0 done), .bool (lastJ true done), x, y, z, .pointer (some ⟨b, 0, none⟩), t] ∧
      i ≤ l.length ∧ units l = done ++ units (l.drop i) ∧ i = sumW done ∧ done.length ≤ 24 ∧ St w0 (A * pt b (.stringIter (mk l) i)) w')
    (fun env _ => 25 - slotN env 3) ⟨0, [], _, _, _, _, by simp [optI, faultP, lastP, lastJ]; exact ⟨rfl, rfl, rfl, rfl⟩, by omega, by simp, rfl, by simp, s1⟩ ?_
  rintro LQ env w' ⟨i, done, x, y, z, t, rfl, hi, hu, hsum, hd24, s'⟩ hN hE hR
  simp
  refine eff_nxtS s' (fun h w2 s2 => ?_) (fun h => ?_)
  · simp at h
    have hle := oneF_le (l := l) (i := i) h
    have hob := oneF_bd (l := l.drop i) (by simp; omega)
    rw [decode_decL, decL_oneF _ (by simp; omega)] at s2
    have hstep := units_step hu h
    rw [decode_decL, decL_oneF _ (by simp; omega)]
    simp
    refine cndI (fun h2 => ?_) (fun h2 => ?_)
    · simp at h2
      simp
      refine hR _ _ ?_
      simp
      refine ⟨?_, s2.drop⟩
      have hlen : 24 < (units l).length := by rw [hstep]; simp; omega
      unfold checkF
      rw [if_neg (by assumption), if_pos hlen, hu, show (24 : Nat) = done.length by omega, List.take_left, ← hsum]
      simp
    · simp at h2
      simp
      try simp (disch := omega) only [wrap64]
      refine ⟨⟨hl, h⟩, ?_⟩
      have hsn := faultP_snoc done (oneF (l.drop i)) true 0
      have fin : ∀ fv : Int, fv = optI (faultP true 0 (done ++ [oneF (l.drop i)])) → LQ .nrm [.string (mk l), .int .i64 0, .int .i64 0, .int .i64 (done.length + 1), .int .i64 fv, .int .i64 i, .bool (joinerF (oneF (l.drop i)).1), .int .i64 i, .int .i32 (runeOf (oneF (l.drop i)).1), .int .i32 (oneF (l.drop i)).1, .pointer (some ⟨b, 0, none⟩), .tuple #[.bool true, .int .i64 i, .int .i32 (runeOf (oneF (l.drop i)).1)]] w2 := by
        intro fv hfv
        refine hN _ _ ⟨i + (oneF (l.drop i)).2, done ++ [oneF (l.drop i)], .int .i64 i, .int .i32 (runeOf (oneF (l.drop i)).1), .int .i32 (oneF (l.drop i)).1, .tuple #[.bool true, .int .i64 i, .int .i32 (runeOf (oneF (l.drop i)).1)], ?_, hle.1, hstep, by simp [sumW_append, sumW, hsum], by simp; omega, s2⟩ (by simp [slotN]; omega)
        rw [hfv, lastP_snoc, lastJ_snoc, Nat.zero_add, ← hsum]
        simp
      cases hf : faultP true 0 done with
      | some q =>
        have e0 : optI (some q) = (q : Int) := rfl
        rw [hf] at hsn
        have e1 : ¬ ((q : Int) < 0) := by omega
        rw [e0]
        simp [e1]
        exact fin _ (by rw [hsn]; rfl)
      | none =>
        have e0 : optI none = -1 := rfl
        rw [hf] at hsn
        simp only at hsn
        rw [e0]
        cases hlt : letterF (oneF (l.drop i)).1
        · simp
          refine cndI (fun h3 => ?_) (fun h3 => ?_)
          · simp
            refine fin _ ?_
            rw [hsn, badAt, hlt, h3]
            simp [optI, hsum]
          · simp
            refine fin _ ?_
            rw [hsn, badAt, hlt, h3]
            rfl
        · simp
          refine fin _ ?_
          rw [hsn, badAt, hlt]
          rfl
  · simp at h
    simp
    refine hE _ _ _ ?_
    simp
    have : i = l.length := by omega
    subst this
    rw [List.drop_length, units_nil, List.append_nil] at hu
    have hne : units l ≠ [] := by intro e; have := sumW_units l; rw [e] at this; simp [sumW] at this; exact absurd (List.eq_nil_of_length_eq_zero this.symm) (by assumption)
    have hck : checkF l = (match faultF true 0 (units l) with | some p => ((p : Int), 40) | none => (0, 0)) := by
      unfold checkF
      rw [if_neg (by assumption), if_neg (by rw [hu]; omega)]
    rw [fault_eq _ _ _ 0 hne, hu] at hck
    cases hf : faultP true 0 done with
    | some q =>
      rw [hf] at hck
      simp only at hck
      have e0 : optI (some q) = (q : Int) := rfl
      rw [e0, hck]
      have e1 : decide ((q : Int) < 0) = false := by simp
      simp [e1]
      exact s'.drop
    | none =>
      rw [hf] at hck
      simp only at hck
      have e0 : optI none = -1 := rfl
      rw [e0, hck]
      cases hj : lastJ true done
      · simp
        exact s'.drop
      · simp
        exact s'.drop
end Go.HL.Nm

namespace Go.HL
set_option linter.unusedSimpArgs false
set_option linter.unusedVariables false
theorem wrapu32 {x : Int} (h1 : 0 ≤ x) (h2 : x ≤ 4294967295) : IntKind.u32.wrap x = x := IntWalk.u32_in x ⟨h1, h2⟩
section
variable {P : Program} {K : Value → World → Prop} {w w0 : World} {F : Asn}
theorem cells_one {x : Value} (h1 : x.oneCell' = true) : x.cells = #[x] := by cases x <;> first | rfl | (simp [Value.oneCell'] at h1)
theorem zrow (n : Nat) (z : Value) : ((Array.range n).map fun i => (#[z])[i % (#[z]).size]!) = (List.replicate n z).toArray := by
  apply Array.ext
  · simp
  · intro i h1 h2
    simp [Nat.mod_one]
theorem eff_bsl2 {e : Nat} {z x y : Value} (s : St w0 F w) (h1 : x.oneCell' = true) (h2 : y.oneCell' = true)
    (hk : ∀ b w', St w0 (F * pt b (.cells #[x, y] e (0, 0))) w' → K (.slice (some ⟨b, 0, none⟩) 2 2) w') : EffW P (.bsl e 2 1 #[z] [0, 1]) [x, y] K w := by
  refine eff_bsl (cells := #[x, y]) s ?_ hk
  rw [zrow]
  simp [Instr.fill, cells_one h1, cells_one h2]
theorem eff_bsl3 {e : Nat} {z x y u : Value} (s : St w0 F w) (h1 : x.oneCell' = true) (h2 : y.oneCell' = true) (h3 : u.oneCell' = true)
    (hk : ∀ b w', St w0 (F * pt b (.cells #[x, y, u] e (0, 0))) w' → K (.slice (some ⟨b, 0, none⟩) 3 3) w') : EffW P (.bsl e 3 1 #[z] [0, 1, 2]) [x, y, u] K w := by
  refine eff_bsl (cells := #[x, y, u]) s ?_ hk
  rw [zrow]
  simp [Instr.fill, cells_one h1, cells_one h2, cells_one h3]
theorem eff_bsl4 {e : Nat} {z x y u v : Value} (s : St w0 F w) (h1 : x.oneCell' = true) (h2 : y.oneCell' = true) (h3 : u.oneCell' = true) (h4 : v.oneCell' = true)
    (hk : ∀ b w', St w0 (F * pt b (.cells #[x, y, u, v] e (0, 0))) w' → K (.slice (some ⟨b, 0, none⟩) 4 4) w') : EffW P (.bsl e 4 1 #[z] [0, 1, 2, 3]) [x, y, u, v] K w := by
  refine eff_bsl (cells := #[x, y, u, v]) s ?_ hk
  rw [zrow]
  simp [Instr.fill, cells_one h1, cells_one h2, cells_one h3, cells_one h4]
theorem eff_mks {t e size bytes l c : Nat} {k k' : IntKind} {z : Value} (s : St w0 F w) (hlc : l ≤ c) (hm : c ≤ maxLen) (hb : bytes * c ≤ 281474976710656) (hz : z.cells.size = size)
    (hk : ∀ v w', St w0 (F * HL.own e size v l (((Array.range (c * size)).map (z.cells[· % z.cells.size]!)).toList.take (l * size))) w' → K v w') : EffW P (.mks t e size bytes z) [.int k l, .int k' c] K w := by
  rintro ⟨ht, i, hi, hiz, rfl, rfl⟩
  have hc2 : (c : Int) ≤ 9223372036854775807 := by simp only [maxLen] at hm; omega
  have wc : IntKind.i64.wrap (c : Int) = c := wrap64 (by omega) hc2
  have wl : IntKind.i64.wrap (l : Int) = l := wrap64 (by omega) (by omega)
  refine upon_val (w' := w.alloc (.cells ((Array.range (c * i.size)).map (z.cells[· % z.cells.size]!)) e)) (v := .slice (some ⟨w.heap.size, 0, none⟩) l c) ?_ (hk _ _ ?_)
  · have hb' : ¬ (281474976710656 < (i.bytes : Int) * (c : Int)) := by
      rw [← Int.natCast_mul]; omega
    have hlt : ¬ ((c : Int) < (l : Int)) := by omega
    have hc0 : ¬ ((c : Int) < 0) := by omega
    have hl0 : ¬ ((l : Int) < 0) := by omega
    have hr0 : Array.range 0 = #[] := rfl
    have hnew : ∀ cs, (newRow e cs).run P w = .ok ⟨w.heap.size, 0, none⟩ (w.alloc (.cells cs e)) := fun cs => by simp [newRow]
    have hzv : (zeroValue e).run P w = .ok z w := by simp [zeroValue, typeInfo, hi, hiz, Sem.run_bind]
    by_cases h0 : c * i.size = 0
    · have e1 : c = 0 ∨ i.size = 0 := Nat.mul_eq_zero.1 h0
      simp [Instr.makeSlice, run_underlying ht, typeInfo, hi, sizeOf, wc, wl, asInt, asIntOf, hb', hlt, hc0, hl0, h0, e1, hnew, hr0]
    · simp [Instr.makeSlice, run_underlying ht, typeInfo, hi, sizeOf, wc, wl, asInt, asIntOf, hb', hlt, hc0, hl0, h0, hnew, hzv]
  · refine St.own_mk (s.alloc (by rfl)) hlc hm (by simp) rfl
@[simp] theorem iteR_ft {F : PF P} {env : List Value} {Kr} (a b : RT) (bvs : List Value) : IteR F (.bool false) true a b env Kr bvs w = b.wp F env Kr bvs w := rfl
@[simp] theorem iteR_tf {F : PF P} {env : List Value} {Kr} (a b : RT) (bvs : List Value) : IteR F (.bool true) false a b env Kr bvs w = b.wp F env Kr bvs w := rfl
def bytesV (l : List UInt8) : List Value := l.map fun b => .int .u8 b.toNat
theorem push_all : ∀ (l : List UInt8) (s : ByteArray), l.foldl (fun b a => b.push a) s = ⟨s.data ++ l.toArray⟩
  | [], s => by simp
  | b :: l, s => by
    rw [List.foldl_cons, push_all l]
    simp [ByteArray.push]
theorem run_push (P : Program) (w : World) : ∀ (l : List UInt8) (s : ByteArray), (forIn (bytesV l) s (fun c s => (match c with
        | .int .u8 n => pure (ForInStep.yield (s.push (UInt8.ofNat n.toNat)))
        | x => do
          stuck (α := Unit) "bytesToString: byte expected"
          pure (ForInStep.yield s) : Sem (ForInStep ByteArray)))).run P w = .ok ⟨s.data ++ l.toArray⟩ w
  | [], s => by simp [bytesV]
  | b :: l, s => by
    have ih := run_push P w l (s.push b)
    simp only [bytesV] at ih
    simp only [bytesV, List.map_cons, List.forIn_cons, Sem.run_bind]
    simp
    rw [push_all]
    apply congrArg
    simp
theorem eff_b2s {t d e n : Nat} {v : Value} {bs : List UInt8} (s : St w0 (F * HL.own e 1 v n (bytesV bs)) w) (hk : K (.string (mk bs)) w) : EffW P (.b2s t d) [v] K w := by
  intro _
  rcases s.own_cell with ⟨hx, rfl⟩ | ⟨g, cap, rfl, hn, hc⟩
  · have : bs = [] := by simpa [bytesV] using hx
    subst this
    exact upon_val (w' := w) (v := .string (mk [])) (by simp [Conv.bytesToString]; rfl) hk
  · refine upon_val (w' := w) (v := .string (mk bs)) ?_ hk
    have hl : (bytesV bs).length = n := by simpa using s.own.1
    have := run_loadCells_list (P := P) w ⟨g, 0, none⟩ (bytesV bs) (by
      intro j u hj
      rw [addr_add, Nat.zero_add]; exact hc j u hj)
    rw [hl] at this
    have hp := run_push P w bs .empty
    simp only [Conv.bytesToString, Sem.run_bind, this, Result.andThen_ok]
    rw [List.forIn_toArray]
    refine (congrArg (fun r => Result.andThen r _) hp).trans ?_
    simp
end
section
variable {P : Program} {F : PF P} {env bvs : List Value} {w : World} {Q : EX → List Value → World → Prop} {C : World → Prop}
def EffQ (P : Program) (C : World → Prop) (eo : EO) (vs : List Value) (K : Value → Prop) : Prop := ∃ v, (∀ w, C w → QuietW P C eo vs v w) ∧ K v
def contQ (F : PF P) (C : World → Prop) (env : List Value) (K : List Value → Option Value → Prop) (k : RT) (bvs : List Value) (v : Value) : Prop := k.wpq F C env K (bvs ++ [v])
def IteQ (F : PF P) (C : World → Prop) (c : Value) (v : Bool) (a b : RT) (env : List Value) (K : List Value → Option Value → Prop) (bvs : List Value) : Prop := if isB c v = true then a.wpq F C env K bvs else b.wpq F C env K bvs
def regKq (C : World → Prop) (Q : EX → List Value → World → Prop) (env : List Value) (_ : Option Value) : Prop := ∀ w, C w → Q .nrm env w
def brKq (F : PF P) (C : World → Prop) (x y : HC) (Q : EX → List Value → World → Prop) (env : List Value) (c : Option Value) : Prop := ∀ w, C w → CondC F (c.getD undef) x y Q env w
@[simp] theorem wpq_done {K} (sets : List (Nat × SE)) (c : Option SE) : (RT.done sets c).wpq F C env K bvs = K (setAll F env bvs sets env) (c.map (SE.val F env bvs)) := rfl
@[simp] theorem wpq_chk {K} (g : Option (SE × Bool)) (p : PO) (xs : SEs) (k : RT) : (RT.chk g p xs k).wpq F C env K bvs = ((guardOn F env bvs g → p.ok F (SEs.vals F env bvs xs)) ∧ k.wpq F C env K bvs) := rfl
@[simp] theorem wpq_isb {K} (g : Option (SE × Bool)) (c : SE) (k : RT) : (RT.isb g c k).wpq F C env K bvs = ((guardOn F env bvs g → ∃ b, SE.val F env bvs c = .bool b) ∧ k.wpq F C env K bvs) := rfl
@[simp] theorem wpq_eff {K} (eo : EO) (xs : SEs) (k : RT) : (RT.eff eo xs k).wpq F C env K bvs = EffQ P C eo (SEs.vals F env bvs xs) (contQ F C env K k bvs) := rfl
@[simp] theorem wpq_bnd {K} (e : SE) (k : RT) : (RT.bnd e k).wpq F C env K bvs = k.wpq F C env K (bvs ++ [SE.val F env bvs e]) := rfl
@[simp] theorem wpq_ite {K} (c : SE) (v : Bool) (a b : RT) : (RT.ite c v a b).wpq F C env K bvs = IteQ F C (SE.val F env bvs c) v a b env K bvs := rfl
@[simp] theorem contQ_app {K} (k : RT) (v : Value) : contQ F C env K k bvs v = k.wpq F C env K (bvs ++ [v]) := rfl
@[simp] theorem iteQ_tt {K} (a b : RT) : IteQ F C (.bool true) true a b env K bvs = a.wpq F C env K bvs := rfl
@[simp] theorem iteQ_ft {K} (a b : RT) : IteQ F C (.bool false) true a b env K bvs = b.wpq F C env K bvs := rfl
@[simp] theorem regKq_app (c : Option Value) : regKq C Q env c = ∀ w, C w → Q .nrm env w := rfl
@[simp] theorem brKq_app (x y : HC) (c : Option Value) : brKq F C x y Q env c = ∀ w, C w → CondC F (c.getD undef) x y Q env w := rfl
theorem brqI {w0 : World} {A : Asn} {m : MO} {t : RT} {x y : HC} (s : St w0 A w) (h : t.wpq F (St w0 A) env (brKq F (St w0 A) x y Q) []) : (HC.brq m t x y).wp F Q env w := .inl ⟨St w0 A, s.drew, h⟩
theorem effq_ldc {a : Addr} {n : Nat} {v : Value} {K : Value → Prop} (hc : ∀ w, C w → w.cell? a = some v) (hk : K v) : EffQ P C (.ld false n) [.pointer (some a)] K := by
  refine ⟨v, fun w hw _ => ?_, hk⟩
  have := hc w hw
  have hr : (ldS false n (.pointer (some a))).run P w = .ok v w := by simp [ldS, Instr.sureAddr, this]
  simp only [EO.sem, valS, Sem.run_bind, hr, Result.andThen_ok, Sem.run_pure]
  exact ⟨rfl, rfl⟩
end
end Go.HL

namespace Go.HL
set_option linter.unusedSimpArgs false
set_option linter.unusedVariables false
section
variable {P : Program} {K : Value → World → Prop} {w w0 : World} {F : Asn}
theorem eff_ldcs {b off m : Nat} {vs : List Value} (hc : ∀ j u, vs[j]? = some u → w.cell? ⟨b, off + j, none⟩ = some u) (hl : vs.length = m) (hk : K (.agg vs.toArray) w) :
    EffW P (.ld true m) [.pointer (some ⟨b, off, none⟩)] K w := by
  intro _
  refine upon_val (w' := w) ?_ hk
  have := run_loadCells_list (P := P) w ⟨b, off, none⟩ vs (by
    intro j v hj
    rw [addr_add]; exact hc j v hj)
  rw [hl] at this
  simp [ldS, Instr.sureAddr, this]
def Row (w0 : World) (A : Asn) (v : Value) (n size : Nat) (xs : List Value) : Prop :=
  xs.length = n * size ∧ ∃ a cap, v = .slice a n cap ∧ n ≤ cap ∧
    (n = 0 ∨ ∃ g o, a = some ⟨g, o, none⟩ ∧ ∀ w, St w0 A w → ∀ j u, xs[j]? = some u → w.cell? ⟨g, o + j, none⟩ = some u)
theorem Row.mono {A B : Asn} {v : Value} {n size : Nat} {xs : List Value} (h : Row w0 A v n size xs) (hs : ∀ w, St w0 B w → St w0 A w) : Row w0 B v n size xs := by
  obtain ⟨hl, a, cap, rfl, hn, h⟩ := h
  refine ⟨hl, a, cap, rfl, hn, ?_⟩
  rcases h with h | ⟨g, o, rfl, hc⟩
  · exact .inl h
  · exact .inr ⟨g, o, rfl, fun w s => hc w (hs w s)⟩
theorem Row.val {A : Asn} {v : Value} {n size : Nat} {xs : List Value} (h : Row w0 A v n size xs) : ∃ a cap, v = .slice a n cap := by
  obtain ⟨_, a, cap, rfl, _⟩ := h
  exact ⟨_, _, rfl⟩
theorem Row.at {A : Asn} {v : Value} {n size : Nat} {xs : List Value} (h : Row w0 A v n size xs) (hn : 0 < n) :
    ∃ g o cap, v = .slice (some ⟨g, o, none⟩) n cap ∧ ∀ w, St w0 A w → ∀ j u, xs[j]? = some u → w.cell? ⟨g, o + j, none⟩ = some u := by
  obtain ⟨_, a, cap, rfl, _, h | ⟨g, o, rfl, hc⟩⟩ := h
  · omega
  · exact ⟨g, o, cap, rfl, hc⟩
theorem row_own {A : Asn} {e size n : Nat} {v : Value} {xs : List Value} (s : St w0 (A * own e size v n xs) w) : Row w0 (A * own e size v n xs) v n size xs := by
  refine ⟨s.own.1, ?_⟩
  rcases s.own_cell with ⟨_, rfl⟩ | ⟨g, cap, rfl, hn, _⟩
  · obtain ⟨a, cap, h, hn, _⟩ := s.own_val
    cases h
    exact ⟨none, 0, rfl, Nat.le_refl _, .inl rfl⟩
  · refine ⟨some ⟨g, 0, none⟩, cap, rfl, hn, .inr ⟨g, 0, rfl, fun w' s' j u hu => ?_⟩⟩
    rcases s'.own_cell with ⟨_, h⟩ | ⟨g', cap', h, _, hc⟩
    · cases h
    · cases h
      rw [Nat.zero_add]
      exact hc j u hu
theorem eff_stC {e size n g cap j : Nat} {u : Value} {xs : List Value} (s : St w0 (F * HL.own e size (.slice (some ⟨g, 0, none⟩) n cap) n xs) w) (hj : j < xs.length) (h1 : u.oneCell' = true)
    (hk : ∀ w', St w0 (F * HL.own e size (.slice (some ⟨g, 0, none⟩) n cap) n (xs.set j u)) w' → K undef w') : EffW P (.st 1) [.pointer (some ⟨g, j, none⟩), u] K w := by
  rcases s.own.2 with ⟨h, _⟩ | ⟨g', cap', cur, h, hn, hm, hc, ht, s'⟩
  · cases h
  · cases h
    have hl : xs.length = n * size := s.own.1
    have : n * size ≤ cap * size := Nat.mul_le_mul_right _ hn
    refine eff_st1 s' h1 (by omega) fun w' s2 => hk w' (s2.own_mk' hn hm (by simpa using hc) ?_)
    rw [Array.toList_setIfInBounds, List.take_set, ht]
end
section
variable {α : Type}
theorem flat_length (f : α → List Value) (c : Nat) (hf : ∀ a, (f a).length = c) : ∀ l : List α, (l.flatMap f).length = l.length * c
  | [] => by simp
  | a :: l => by rw [List.flatMap_cons, List.length_append, hf, flat_length f c hf l, List.length_cons, Nat.add_mul]; omega
theorem flat_drop (f : α → List Value) (c : Nat) (hf : ∀ a, (f a).length = c) : ∀ (l : List α) (i : Nat), (l.flatMap f).drop (i * c) = (l.drop i).flatMap f
  | l, 0 => by simp
  | [], i + 1 => by simp
  | a :: l, i + 1 => by
    rw [List.flatMap_cons, List.drop_succ_cons, ← flat_drop f c hf l i, Nat.add_mul, Nat.one_mul, Nat.add_comm, ← List.drop_drop, ← hf a, List.drop_left]
theorem flat_row (f : α → List Value) (c : Nat) (hf : ∀ a, (f a).length = c) (l : List α) (i : Nat) (h : i < l.length) : ((l.flatMap f).drop (i * c)).take c = f l[i] := by
  rw [flat_drop f c hf, List.drop_eq_getElem_cons h, List.flatMap_cons, ← hf l[i], List.take_left]
theorem flat_get (f : α → List Value) (c : Nat) (hf : ∀ a, (f a).length = c) (l : List α) (i k : Nat) (h : i < l.length) (hk : k < c) : (l.flatMap f)[i * c + k]? = (f l[i])[k]? := by
  rw [← flat_row f c hf l i h, List.getElem?_take, if_pos hk, List.getElem?_drop]
theorem flat_set (f : α → List Value) (c : Nat) (hf : ∀ a, (f a).length = c) (x : α) : ∀ (l : List α) (i : Nat) (h : i < l.length), (l.flatMap f).take (i * c) ++ f x ++ (l.flatMap f).drop (i * c + c) = (l.set i x).flatMap f
  | a :: l, 0, _ => by
    rw [Nat.zero_mul, Nat.zero_add, List.take_zero, List.nil_append, List.set_cons_zero, List.flatMap_cons, List.flatMap_cons, ← hf a, List.drop_left]
  | a :: l, i + 1, h => by
    have ih := flat_set f c hf x l i (by simpa using h)
    have e1 : (i + 1) * c = c + i * c := by rw [Nat.add_mul]; omega
    have e2 : (i + 1) * c + c = c + (i * c + c) := by omega
    rw [List.set_cons_succ, List.flatMap_cons, List.flatMap_cons, ← ih, e2, e1, ← hf a, List.take_length_add_append, ← List.drop_drop, List.drop_left, List.append_assoc, List.append_assoc, hf a, List.append_assoc]
end
theorem foldl_set : ∀ (vs : List Value) (o : Nat) (c : List Value), o + vs.length ≤ c.length →
    ((vs.zipIdx o).foldl (fun (cs : Array Value) x => cs.setIfInBounds x.2 x.1) c.toArray) = (c.take o ++ vs ++ c.drop (o + vs.length)).toArray
  | [], o, c, _ => by simp
  | v :: vs, o, c, h => by
    simp only [List.length_cons] at h
    rw [List.zipIdx_cons, List.foldl_cons]
    have e : c.toArray.setIfInBounds o v = (c.set o v).toArray := by simp
    simp only [e]
    rw [foldl_set vs (o + 1) (c.set o v) (by rw [List.length_set]; omega)]
    congr 1
    have hlt : o < c.length := by omega
    rw [List.set_eq_take_append_cons_drop, if_pos hlt]
    have hl : (c.take o).length = o := by simp; omega
    have t1 : (c.take o ++ v :: c.drop (o + 1)).take (o + 1) = c.take o ++ [v] := by
      rw [List.take_append, hl, List.take_take, Nat.min_eq_right (by omega), show o + 1 - o = 1 by omega]; rfl
    have t2 : (c.take o ++ v :: c.drop (o + 1)).drop (o + 1 + vs.length) = c.drop (o + (vs.length + 1)) := by
      rw [List.drop_append, hl, List.drop_of_length_le (by rw [hl]; omega), show o + 1 + vs.length - o = vs.length + 1 by omega, List.drop_succ_cons, List.drop_drop, List.nil_append]
      congr 1; omega
    rw [t1, t2]
    simp
theorem fill1 (z : Array Value) (size : Nat) (v : Value) (hv : v.cells.size = size) : Instr.fill (fun i => some (i * size, size)) ((Array.range (1 * size)).map fun i => z[i % z.size]!) [(0, v)] = some v.cells := by
  have hf := foldl_set v.cells.toList 0 ((Array.range (1 * size)).map fun i => z[i % z.size]!).toList (by simp [hv])
  simp only [Instr.fill, Nat.zero_mul, Nat.zero_add, hv]
  rw [if_neg (by simp)]
  congr 1
  have e : v.cells.zipIdx = (v.cells.toList.zipIdx 0).toArray := by
    apply Array.ext'
    simp
  rw [e, List.size_toArray, List.foldl_toArray']
  · rw [Array.toArray_toList] at hf
    refine hf.trans ?_
    have hd : List.drop (0 + v.cells.toList.length) ((Array.range (1 * size)).map fun i => z[i % z.size]!).toList = [] := List.drop_of_length_le (by simp [hv])
    rw [hd]
    simp
  · rfl
theorem eff_bslV {P : Program} {K : Value → World → Prop} {w w0 : World} {F : Asn} {e size : Nat} {z : Array Value} {v : Value} (s : St w0 F w) (hv : v.cells.size = size)
    (hk : ∀ b w', St w0 (F * pt b (.cells v.cells e (0, 0))) w' → K (.slice (some ⟨b, 0, none⟩) 1 1) w') : EffW P (.bsl e 1 size z [0]) [v] K w :=
  eff_bsl s (fill1 z size v hv) hk
theorem eff_bsl0 {P : Program} {K : Value → World → Prop} {w w0 : World} {F : Asn} {e size : Nat} {z : Array Value} (s : St w0 F w)
    (hk : ∀ v w', St w0 (F * own e size v 0 []) w' → K v w') : EffW P (.bsl e 0 size z []) [] K w :=
  eff_bsl (cells := #[]) s (by simp [Instr.fill]) fun b w' s' => hk _ w' (s'.own_mk (Nat.le_refl 0) (Nat.zero_le _) (by simp) (by simp))
@[simp] theorem cells_agg (c : Array Value) : (Value.agg c).cells = c := rfl
theorem rv_cellA {P : Program} {env : List Value} {i n b off : Nat} {vs : List Value} {r : List RV} {K : List Value → World → Prop} {w : World} (he : env.getD i undef = .pointer (some ⟨b, off, none⟩))
    (hc : ∀ j u, vs[j]? = some u → w.cell? ⟨b, off + j, none⟩ = some u) (hl : vs.length = n) (hk : rvW P env r (fun us w => K (.agg vs.toArray :: us) w) w) : rvW P env (.cell i true n :: r) K w := by
  have := run_loadCells_list (P := P) w ⟨b, off, none⟩ vs (by
    intro j v hj
    rw [addr_add]; exact hc j v hj)
  rw [hl] at this
  show UponW P (valS (ldS true n (env.getD i undef))) _ w
  rw [he]
  refine upon_val (w' := w) (v := .agg vs.toArray) ?_ ⟨rfl, hk⟩
  simp [ldS, Instr.sureAddr, this]
theorem St.row_cells {w0 w : World} {F : Asn} {b : Nat} {vs : List Value} {t : TypeId} {f : Nat × Nat} (s : St w0 (F * pt b (.cells vs.toArray t f)) w) : ∀ j u, vs[j]? = some u → w.cell? ⟨b, 0 + j, none⟩ = some u := by
  intro j u hu
  rw [cell_of s.look, Nat.zero_add]
  simpa using hu
instance : Std.Associative (α := Asn) (· * ·) := ⟨sep_assoc⟩
instance : Std.Commutative (α := Asn) (· * ·) := ⟨sep_comm⟩
theorem St.to {w0 w : World} {A B : Asn} (s : St w0 A w) (h : A = B) : St w0 B w := h ▸ s
theorem St.cut {w0 w : World} {A B : Asn} (C : Asn) (s : St w0 A w) (h : A = B * C) : St w0 B w := (s.to h).drop
end Go.HL
