/-
  Plain laws of texts as units: what a unit is by the document, and by the model's decoder. No condition.
-/
import Derived.Test.YtliofpihaemglaaEngC
namespace Go.HL.Nm
open Go.HL
set_option maxRecDepth 4000
set_option linter.unusedSimpArgs false
set_option linter.unusedVariables false

def tailF : List UInt8 → Nat → Int → Option Int
  | _, 0, v => some v
  | [], _ + 1, _ => none
  | b :: r, n + 1, v => if (b.toNat : Int) < 128 ∨ 191 < (b.toNat : Int) then none else tailF r n (v * 64 + b.toNat - 128)
def chkF (b : Int) (r : List UInt8) (v : Int) (n : Nat) (least : Int) : Int × Nat :=
  match tailF r n v with
  | some v => if v < least ∨ 1114111 < v ∨ (55296 ≤ v ∧ v ≤ 57343) then (2097152 + b, 1) else (v, 1 + n)
  | none => (2097152 + b, 1)
/-- the unit at a text's head, and how many bytes it has -/
def oneF : List UInt8 → Int × Nat
  | [] => (0, 1)
  | c :: r =>
    if (c.toNat : Int) < 128 then ((c.toNat : Int), 1)
    else if 192 ≤ (c.toNat : Int) ∧ (c.toNat : Int) < 224 then chkF c.toNat r (c.toNat - 192) 1 128
    else if 224 ≤ (c.toNat : Int) ∧ (c.toNat : Int) < 240 then chkF c.toNat r (c.toNat - 224) 2 2048
    else if 240 ≤ (c.toNat : Int) ∧ (c.toNat : Int) < 248 then chkF c.toNat r (c.toNat - 240) 3 65536
    else (2097152 + c.toNat, 1)

theorem oneF_cons (c : UInt8) (r : List UInt8) : oneF (c :: r) =
    if (c.toNat : Int) < 128 then ((c.toNat : Int), 1)
    else if 192 ≤ (c.toNat : Int) ∧ (c.toNat : Int) < 224 then chkF c.toNat r (c.toNat - 192) 1 128
    else if 224 ≤ (c.toNat : Int) ∧ (c.toNat : Int) < 240 then chkF c.toNat r (c.toNat - 224) 2 2048
    else if 240 ≤ (c.toNat : Int) ∧ (c.toNat : Int) < 248 then chkF c.toNat r (c.toNat - 240) 3 65536
    else (2097152 + c.toNat, 1) := rfl
theorem tailF_bd (n : Nat) : ∀ (r : List UInt8) (v u : Int), 0 ≤ v → tailF r n v = some u → 0 ≤ u ∧ n ≤ r.length := by
  induction n with
  | zero => intro r v u hv h; cases r <;> simp only [tailF, Option.some.injEq] at h <;> subst h <;> exact ⟨hv, Nat.zero_le _⟩
  | succ n ih =>
    intro r v u hv h
    cases r with
    | nil => simp only [tailF] at h; cases h
    | cons b r =>
      simp only [tailF] at h
      split at h
      · cases h
      · have := ih r _ u (by have := b.toNat_lt; omega) h
        simp only [List.length_cons]; omega
theorem chkF_bd (b : Int) (r : List UInt8) (v : Int) (n : Nat) (least : Int) (hb : 0 ≤ b ∧ b < 256) (hv : 0 ≤ v) :
    0 ≤ (chkF b r v n least).1 ∧ (chkF b r v n least).1 < 2097408 ∧ 1 ≤ (chkF b r v n least).2 ∧ (chkF b r v n least).2 ≤ 1 + r.length := by
  unfold chkF
  split
  · rename_i u hu
    have := tailF_bd n r v u hv hu
    split
    · simp only; omega
    · simp only; omega
  · simp only; omega
theorem oneF_bd {l : List UInt8} (h : l ≠ []) : 0 ≤ (oneF l).1 ∧ (oneF l).1 < 2097408 ∧ 1 ≤ (oneF l).2 ∧ (oneF l).2 ≤ l.length := by
  cases l with
  | nil => exact absurd rfl h
  | cons c r =>
    have hc := c.toNat_lt
    unfold oneF
    simp only [List.length_cons]
    split
    · simp only; omega
    split
    · have := chkF_bd c.toNat r (c.toNat - 192) 1 128 (by omega) (by omega); omega
    split
    · have := chkF_bd c.toNat r (c.toNat - 224) 2 2048 (by omega) (by omega); omega
    split
    · have := chkF_bd c.toNat r (c.toNat - 240) 3 65536 (by omega) (by omega); omega
    · simp only; omega

theorem get_mk (l : List UInt8) (i : Nat) : (mk l).get! i = l.getD i 0 := by
  simp only [mk, ByteArray.get!, List.getD_eq_getElem?_getD]
  simp
  rfl
/-- the model's decoder, over lists -/
def decL (d : List UInt8) : Nat × Nat :=
  let at' (k : Nat) : Nat := (d.getD k 0).toNat
  let cont (k : Nat) : Bool := k < d.length && at' k / 64 == 2
  let b0 := at' 0
  if b0 < 0x80 then (b0, 1)
  else if b0 / 32 == 6 && cont 1 then
    let c := (b0 % 32) * 64 + at' 1 % 64
    if c ≥ 0x80 then (c, 2) else (65533, 1)
  else if b0 / 16 == 14 && cont 1 && cont 2 then
    let c := (b0 % 16) * 4096 + (at' 1 % 64) * 64 + at' 2 % 64
    if c ≥ 0x800 && Utf8.valid c then (c, 3) else (65533, 1)
  else if b0 / 8 == 30 && cont 1 && cont 2 && cont 3 then
    let c := (b0 % 8) * 262144 + (at' 1 % 64) * 4096 + (at' 2 % 64) * 64 + at' 3 % 64
    if c ≥ 0x10000 && Utf8.valid c then (c, 4) else (65533, 1)
  else (65533, 1)
theorem decode_decL (l : List UInt8) (i : Nat) : Utf8.decode (mk l) i = decL (l.drop i) := by
  have e : ∀ k, (l.drop i).getD k 0 = l.getD (i + k) 0 := by intro k; simp [List.getD_eq_getElem?_getD, List.getElem?_drop]
  have e2 : ∀ k, decide (i + k < (mk l).size) = decide (k < (l.drop i).length) := by intro k; simp; omega
  unfold Utf8.decode decL
  simp only [get_mk, e, e2, Utf8.runeError]

def runeOf (u : Int) : Nat := if 2097152 ≤ u then 65533 else u.toNat

theorem valid_iff (c : Nat) : Utf8.valid (c : Int) = decide (¬ (1114111 < c ∨ (55296 ≤ c ∧ c ≤ 57343))) := by
  rw [Bool.eq_iff_iff]
  simp only [Utf8.valid, Bool.or_eq_true, Bool.and_eq_true, decide_eq_true_eq]
  omega

/-- three kinds of head bytes -/
theorem one2 (b b1 : Nat) (hb : 192 ≤ b ∧ b < 224) (h1 : 128 ≤ b1 ∧ b1 ≤ 191) : ((b : Int) - 192) * 64 + b1 - 128 = (((b % 32) * 64 + b1 % 64 : Nat) : Int) := by omega
theorem one3 (b b1 b2 : Nat) (hb : 224 ≤ b ∧ b < 240) (h1 : 128 ≤ b1 ∧ b1 ≤ 191) (h2 : 128 ≤ b2 ∧ b2 ≤ 191) :
    (((b : Int) - 224) * 64 + b1 - 128) * 64 + b2 - 128 = (((b % 16) * 4096 + (b1 % 64) * 64 + b2 % 64 : Nat) : Int) := by omega
theorem one4 (b b1 b2 b3 : Nat) (hb : 240 ≤ b ∧ b < 248) (h1 : 128 ≤ b1 ∧ b1 ≤ 191) (h2 : 128 ≤ b2 ∧ b2 ≤ 191) (h3 : 128 ≤ b3 ∧ b3 ≤ 191) :
    ((((b : Int) - 240) * 64 + b1 - 128) * 64 + b2 - 128) * 64 + b3 - 128 = (((b % 8) * 262144 + (b1 % 64) * 4096 + (b2 % 64) * 64 + b3 % 64 : Nat) : Int) := by omega

/-- the tail of so many bytes, as the decoder looks at them -/
def contAt (r : List UInt8) (k : Nat) : Bool := decide (k < r.length) && (r.getD k 0).toNat / 64 == 2
theorem tailF_cons (r : List UInt8) (n : Nat) (v : Int) : tailF r (n + 1) v = if contAt r 0 = true then tailF r.tail n (v * 64 + (r.getD 0 0).toNat - 128) else none := by
  cases r with
  | nil => simp [tailF, contAt]
  | cons b r =>
    have hb := b.toNat_lt
    simp only [tailF, contAt, List.length_cons, List.getD_cons_zero, List.tail_cons]
    by_cases h : (b.toNat : Int) < 128 ∨ 191 < (b.toNat : Int)
    · rw [if_pos h, if_neg]; simp; omega
    · rw [if_neg h, if_pos]; simp; omega
theorem contAt_tail (r : List UInt8) (k : Nat) : contAt r.tail k = contAt r (k + 1) := by
  cases r <;> simp [contAt] <;> rfl
theorem getD_tail (r : List UInt8) (k : Nat) : r.tail.getD k 0 = r.getD (k + 1) 0 := by cases r <;> simp
theorem cont_bd {r : List UInt8} {k : Nat} (h : contAt r k = true) : 128 ≤ (r.getD k 0).toNat ∧ (r.getD k 0).toNat ≤ 191 := by
  simp only [contAt, Bool.and_eq_true, beq_iff_eq] at h
  omega
theorem tailF_zero (r : List UInt8) (v : Int) : tailF r 0 v = some v := by cases r <;> rfl
theorem decL_oneF (d : List UInt8) (h : d ≠ []) : decL d = (runeOf (oneF d).1, (oneF d).2) := by
  cases d with
  | nil => exact absurd rfl h
  | cons c r =>
    have hc := c.toNat_lt
    have hcont : ∀ k, (decide (k + 1 < (c :: r).length) && ((c :: r).getD (k + 1) 0).toNat / 64 == 2) = contAt r k := by
      intro k; simp [contAt]
    have e0 := hcont 0; have e1 := hcont 1; have e2 := hcont 2
    simp only [Nat.zero_add, Nat.reduceAdd] at e0 e1 e2
    have g0 : (c :: r).getD 0 0 = c := rfl
    have g1 : (c :: r).getD 1 0 = r.getD 0 0 := rfl
    have g2 : (c :: r).getD 2 0 = r.getD 1 0 := rfl
    have g3 : (c :: r).getD 3 0 = r.getD 2 0 := rfl
    unfold decL oneF
    simp only [e0, e1, e2, g0]
    by_cases h0 : c.toNat < 128
    · have hI : (c.toNat : Int) < 128 := by omega
      have hn : ¬ (2097152 : Int) ≤ (c.toNat : Int) := by omega
      rw [if_pos h0, if_pos hI]
      simp only [runeOf]
      rw [if_neg hn]; simp
    have hI : ¬ (c.toNat : Int) < 128 := by omega
    rw [if_neg h0, if_neg hI]
    have hbad : runeOf (2097152 + (c.toNat : Int)) = 65533 := by unfold runeOf; rw [if_pos (by omega)]
    have hgood : ∀ n : Nat, n ≤ 1114111 → runeOf (n : Int) = n := by intro n hn; unfold runeOf; rw [if_neg (show ¬ (2097152 : Int) ≤ (n : Int) by omega)]; simp
    by_cases k2 : 192 ≤ (c.toNat : Int) ∧ (c.toNat : Int) < 224
    · have t1 : (c.toNat / 32 == 6) = true := by simp; omega
      have t2 : (c.toNat / 16 == 14) = false := by simp; omega
      have t3 : (c.toNat / 8 == 30) = false := by simp; omega
      rw [if_pos k2]
      simp only [t1, t2, t3, Bool.true_and, Bool.false_and, Bool.false_eq_true, if_false]
      unfold chkF
      rw [tailF_cons, tailF_zero]
      cases hc0 : contAt r 0
      · simp [hbad]
      · have b1 := cont_bd hc0
        simp only [if_true]
        rw [one2 c.toNat (r.getD 0 0).toNat (by omega) b1]
        rw [g1]
        generalize hv : (c.toNat % 32) * 64 + (r.getD 0 0).toNat % 64 = v
        have hv2 : v < 2048 := by omega
        by_cases hl : v ≥ 128
        · have q : ¬ ((v : Int) < 128 ∨ 1114111 < (v : Int) ∨ (55296 ≤ (v : Int) ∧ (v : Int) ≤ 57343)) := by omega
          rw [if_pos hl, if_neg q]
          simp only [hgood v (by omega)]
        · have q : ((v : Int) < 128 ∨ 1114111 < (v : Int) ∨ (55296 ≤ (v : Int) ∧ (v : Int) ≤ 57343)) := by omega
          rw [if_neg hl, if_pos q]
          simp only [hbad]
    rw [if_neg k2]
    have t1 : (c.toNat / 32 == 6) = false := by simp; omega
    by_cases k3 : 224 ≤ (c.toNat : Int) ∧ (c.toNat : Int) < 240
    · have t2 : (c.toNat / 16 == 14) = true := by simp; omega
      have t3 : (c.toNat / 8 == 30) = false := by simp; omega
      rw [if_pos k3]
      simp only [t1, t2, t3, Bool.true_and, Bool.false_and, Bool.false_eq_true, if_false]
      unfold chkF
      rw [tailF_cons]
      cases hc0 : contAt r 0
      · simp [hbad]
      · have b1 := cont_bd hc0
        simp only [if_true]
        rw [tailF_cons, contAt_tail, tailF_zero, getD_tail]
        cases hc1 : contAt r 1
        · simp [hbad]
        · have b2 := cont_bd hc1
          simp only [Bool.and_self, if_true, Nat.zero_add, hc1]
          rw [one3 c.toNat (r.getD 0 0).toNat (r.getD 1 0).toNat (by omega) b1 b2]
          rw [g1, g2]
          generalize hv : (c.toNat % 16) * 4096 + ((r.getD 0 0).toNat % 64) * 64 + (r.getD 1 0).toNat % 64 = v
          rw [valid_iff]
          by_cases hl : 2048 ≤ v ∧ ¬ (1114111 < v ∨ (55296 ≤ v ∧ v ≤ 57343))
          · have q : ¬ ((v : Int) < 2048 ∨ 1114111 < (v : Int) ∨ (55296 ≤ (v : Int) ∧ (v : Int) ≤ 57343)) := by omega
            have q2 : (decide (v ≥ 2048) && decide (¬ (1114111 < v ∨ (55296 ≤ v ∧ v ≤ 57343)))) = true := by simp only [Bool.and_eq_true, decide_eq_true_eq]; exact ⟨hl.1, hl.2⟩
            rw [if_pos q2, if_neg q]
            simp only [hgood v (by omega)]
          · have q : ((v : Int) < 2048 ∨ 1114111 < (v : Int) ∨ (55296 ≤ (v : Int) ∧ (v : Int) ≤ 57343)) := by omega
            have q2 : ¬ (decide (v ≥ 2048) && decide (¬ (1114111 < v ∨ (55296 ≤ v ∧ v ≤ 57343)))) = true := by simp only [Bool.and_eq_true, decide_eq_true_eq]; exact hl
            rw [if_neg q2, if_pos q]
            simp only [hbad]
    rw [if_neg k3]
    have t2 : (c.toNat / 16 == 14) = false := by simp; omega
    by_cases k4 : 240 ≤ (c.toNat : Int) ∧ (c.toNat : Int) < 248
    · have t3 : (c.toNat / 8 == 30) = true := by simp; omega
      rw [if_pos k4]
      simp only [t1, t2, t3, Bool.true_and, Bool.false_and, Bool.false_eq_true, if_false]
      unfold chkF
      rw [tailF_cons]
      cases hc0 : contAt r 0
      · simp [hbad]
      · have b1 := cont_bd hc0
        simp only [if_true]
        rw [tailF_cons, contAt_tail, getD_tail]
        cases hc1 : contAt r 1
        · simp [hbad]
        · have b2 := cont_bd hc1
          simp only [Bool.and_self, if_true, Nat.zero_add, hc1]
          rw [tailF_cons, contAt_tail, contAt_tail, tailF_zero, getD_tail, getD_tail]
          cases hc2 : contAt r 2
          · simp [hbad]
          · have b3 := cont_bd hc2
            simp only [Bool.and_self, if_true, Nat.zero_add, Nat.reduceAdd, hc2]
            rw [one4 c.toNat (r.getD 0 0).toNat (r.getD 1 0).toNat (r.getD 2 0).toNat (by omega) b1 b2 b3]
            rw [g1, g2, g3]
            generalize hv : (c.toNat % 8) * 262144 + ((r.getD 0 0).toNat % 64) * 4096 + ((r.getD 1 0).toNat % 64) * 64 + (r.getD 2 0).toNat % 64 = v
            rw [valid_iff]
            by_cases hl : 65536 ≤ v ∧ ¬ (1114111 < v ∨ (55296 ≤ v ∧ v ≤ 57343))
            · have q : ¬ ((v : Int) < 65536 ∨ 1114111 < (v : Int) ∨ (55296 ≤ (v : Int) ∧ (v : Int) ≤ 57343)) := by omega
              have q2 : (decide (v ≥ 65536) && decide (¬ (1114111 < v ∨ (55296 ≤ v ∧ v ≤ 57343)))) = true := by simp only [Bool.and_eq_true, decide_eq_true_eq]; exact ⟨hl.1, hl.2⟩
              rw [if_pos q2, if_neg q]
              simp only [hgood v (by omega)]
            · have q : ((v : Int) < 65536 ∨ 1114111 < (v : Int) ∨ (55296 ≤ (v : Int) ∧ (v : Int) ≤ 57343)) := by omega
              have q2 : ¬ (decide (v ≥ 65536) && decide (¬ (1114111 < v ∨ (55296 ≤ v ∧ v ≤ 57343)))) = true := by simp only [Bool.and_eq_true, decide_eq_true_eq]; exact hl
              rw [if_neg q2, if_pos q]
              simp only [hbad]
    rw [if_neg k4]
    have t3 : (c.toNat / 8 == 30) = false := by simp; omega
    simp only [t1, t2, t3, Bool.false_and, Bool.false_eq_true, if_false, hbad]

/-- the units of a text, each with its width -/
def unitsN : Nat → List UInt8 → List (Int × Nat)
  | 0, _ => []
  | _ + 1, [] => []
  | n + 1, c :: r => oneF (c :: r) :: unitsN n ((c :: r).drop (oneF (c :: r)).2)
def units (l : List UInt8) : List (Int × Nat) := unitsN l.length l
theorem unitsN_nil (n : Nat) : unitsN n [] = [] := by cases n <;> rfl
theorem unitsN_eq (n : Nat) : ∀ l : List UInt8, l.length ≤ n → unitsN n l = unitsN l.length l := by
  induction n using Nat.strongRecOn with
  | _ n ih =>
    intro l hl
    cases l with
    | nil => simp [unitsN_nil]
    | cons c r =>
      have hb := oneF_bd (l := c :: r) (by simp)
      cases n with
      | zero => simp at hl
      | succ n =>
        simp only [List.length_cons, unitsN, List.cons.injEq, true_and] at hl hb ⊢
        have hd : ((c :: r).drop (oneF (c :: r)).2).length ≤ r.length := by simp only [List.length_drop, List.length_cons]; omega
        rw [ih n (by omega) _ (by omega)]
        by_cases hn : r.length < n + 1
        · rw [ih r.length hn _ hd]
        · omega
theorem units_nil : units [] = [] := rfl
theorem units_cons {l : List UInt8} (h : l ≠ []) : units l = oneF l :: units (l.drop (oneF l).2) := by
  cases l with
  | nil => exact absurd rfl h
  | cons c r =>
    have hb := oneF_bd (l := c :: r) (by simp)
    have hd : ((c :: r).drop (oneF (c :: r)).2).length ≤ r.length := by simp only [List.length_drop, List.length_cons]; omega
    show unitsN (r.length + 1) (c :: r) = _
    simp only [unitsN, units]
    rw [unitsN_eq r.length _ hd]
theorem units_len (l : List UInt8) : (units l).length ≤ l.length := by
  unfold units
  generalize hn : l.length = n
  induction n using Nat.strongRecOn generalizing l with
  | _ n ih =>
    cases l with
    | nil => subst hn; simp [unitsN]
    | cons c r =>
      have hb := oneF_bd (l := c :: r) (by simp)
      simp only [List.length_cons] at hn hb
      subst hn
      simp only [unitsN, List.length_cons]
      have hd : ((c :: r).drop (oneF (c :: r)).2).length ≤ r.length := by simp only [List.length_drop, List.length_cons]; omega
      rw [unitsN_eq r.length _ hd]
      have := ih _ (show ((c :: r).drop (oneF (c :: r)).2).length < r.length + 1 by omega) _ rfl
      omega

/-- the places at which units begin -/
def starts : Nat → List (Int × Nat) → List Nat
  | _, [] => []
  | p, u :: r => p :: starts (p + u.2) r
def sumW : List (Int × Nat) → Nat
  | [] => 0
  | u :: r => u.2 + sumW r
theorem starts_append (a b : List (Int × Nat)) : ∀ p, starts p (a ++ b) = starts p a ++ starts (p + sumW a) b := by
  induction a with
  | nil => intro p; simp [starts, sumW]
  | cons u a ih => intro p; simp [starts, sumW, ih, Nat.add_assoc]
theorem sumW_append (a b : List (Int × Nat)) : sumW (a ++ b) = sumW a + sumW b := by
  induction a with
  | nil => simp [sumW]
  | cons u a ih => simp [sumW, ih, Nat.add_assoc]
theorem starts_length (a : List (Int × Nat)) : ∀ p, (starts p a).length = a.length := by
  induction a with
  | nil => intro p; rfl
  | cons u a ih => intro p; simp [starts, ih]
theorem starts_get : ∀ (p : Nat) (a : List (Int × Nat)) (m : Nat), m < a.length → (starts p a)[m]? = some (p + sumW (a.take m))
  | p, [], m, h => by simp at h
  | p, u :: a, 0, h => by simp [starts, sumW]
  | p, u :: a, m + 1, h => by
    simp only [starts, List.getElem?_cons_succ, List.take_succ_cons, sumW]
    rw [starts_get (p + u.2) a m (by simpa using h)]
    simp [Nat.add_assoc]
/-- one unit on -/
theorem units_step {l : List UInt8} {done : List (Int × Nat)} {i : Nat} (h : units l = done ++ units (l.drop i)) (hi : i < l.length) :
    units l = (done ++ [oneF (l.drop i)]) ++ units (l.drop (i + (oneF (l.drop i)).2)) := by
  rw [h, units_cons (l := l.drop i) (by simp; omega), List.drop_drop]
  simp
theorem oneF_le {l : List UInt8} {i : Nat} (hi : i < l.length) : i + (oneF (l.drop i)).2 ≤ l.length ∧ 1 ≤ (oneF (l.drop i)).2 := by
  have := oneF_bd (l := l.drop i) (by simp; omega)
  simp only [List.length_drop] at this
  omega
theorem sumW_units (l : List UInt8) : sumW (units l) = l.length := by
  unfold units
  generalize hn : l.length = n
  induction n using Nat.strongRecOn generalizing l with
  | _ n ih =>
    cases l with
    | nil => subst hn; simp [unitsN, sumW]
    | cons c r =>
      have hb := oneF_bd (l := c :: r) (by simp)
      simp only [List.length_cons] at hn hb
      subst hn
      simp only [unitsN, sumW]
      have hd : ((c :: r).drop (oneF (c :: r)).2).length ≤ r.length := by simp only [List.length_drop, List.length_cons]; omega
      rw [unitsN_eq r.length _ hd]
      have := ih _ (show ((c :: r).drop (oneF (c :: r)).2).length < r.length + 1 by omega) _ rfl
      rw [this]
      simp only [List.length_drop, List.length_cons]; omega

theorem chkF_or (b : Int) (r : List UInt8) (v : Int) (n : Nat) (least : Int) : chkF b r v n least = (2097152 + b, 1) ∨
    ∃ u, tailF r n v = some u ∧ least ≤ u ∧ u ≤ 1114111 ∧ ¬ (55296 ≤ u ∧ u ≤ 57343) ∧ chkF b r v n least = (u, 1 + n) := by
  unfold chkF
  cases tailF r n v with
  | none => exact .inl rfl
  | some u =>
    by_cases h : u < least ∨ 1114111 < u ∨ (55296 ≤ u ∧ u ≤ 57343)
    · exact .inl (by simp only [if_pos h])
    · exact .inr ⟨u, rfl, by omega, by omega, by omega, by simp only [if_neg h]⟩
theorem tailF_lt : ∀ (n : Nat) (r : List UInt8) (v u M : Int), v < M → tailF r n v = some u → u < M * 64 ^ n := by
  intro n
  induction n with
  | zero => intro r v u M hv h; rw [tailF_zero] at h; cases h; simpa using hv
  | succ n ih =>
    intro r v u M hv h
    rw [tailF_cons] at h
    split at h
    · rename_i hc
      have hb := cont_bd hc
      have := ih _ _ u (M * 64) (by omega) h
      rw [Int.pow_succ]
      have e : M * (64 ^ n * 64) = M * 64 * 64 ^ n := by rw [Int.mul_assoc, Int.mul_comm 64]
      omega
    · cases h
theorem oneF_bad (c : UInt8) (r : List UInt8) (h : 2097152 ≤ (oneF (c :: r)).1) : (oneF (c :: r)).1 = 2097152 + c.toNat := by
  have hc := c.toNat_lt
  rw [oneF_cons] at h ⊢
  have key : ∀ v n least, 2097152 ≤ (chkF c.toNat r v n least).1 → (chkF c.toNat r v n least).1 = 2097152 + c.toNat := by
    intro v n least hh
    rcases chkF_or c.toNat r v n least with e | ⟨u, _, _, h3, _, e⟩
    · rw [e]
    · rw [e] at hh; simp only at hh; omega
  split at h
  · simp only at h; omega
  rename_i h1
  split at h
  · rename_i h2; rw [if_neg h1, if_pos h2]; exact key _ _ _ h
  rename_i h2
  split at h
  · rename_i h3; rw [if_neg h1, if_neg h2, if_pos h3]; exact key _ _ _ h
  rename_i h3
  split at h
  · rename_i h4; rw [if_neg h1, if_neg h2, if_neg h3, if_pos h4]; exact key _ _ _ h
  rename_i h4
  rw [if_neg h1, if_neg h2, if_neg h3, if_neg h4]
theorem oneF_fffd (d : List UInt8) (hd : d ≠ []) : (oneF d).1 = 65533 ↔ [239, 191, 189].isPrefixOf d = true := by
  constructor
  · intro h
    cases d with
    | nil => exact absurd rfl hd
    | cons c r =>
      have hc := c.toNat_lt
      rw [oneF_cons] at h
      split at h
      · simp only at h; omega
      split at h
      · rcases chkF_or c.toNat r (c.toNat - 192) 1 128 with e | ⟨u, h1, h2, h3, h4, e⟩
        · rw [e] at h; simp only at h; omega
        · have := tailF_lt 1 r _ u 32 (by omega) h1
          rw [e] at h; simp only at h; omega
      split at h
      · rcases chkF_or c.toNat r (c.toNat - 224) 2 2048 with e | ⟨u, h1, h2, h3, h4, e⟩
        · rw [e] at h; simp only at h; omega
        · rw [e] at h; simp only at h; subst h
          rw [tailF_cons] at h1
          split at h1
          · rename_i c0
            rw [tailF_cons, tailF_zero] at h1
            split at h1
            · rename_i c1
              have b0 := cont_bd c0
              have b1 := cont_bd c1
              simp only [Option.some.injEq] at h1
              cases r with
              | nil => simp [contAt] at c0
              | cons x r =>
                cases r with
                | nil => simp [contAt] at c1
                | cons y r =>
                  simp only [List.getD_cons_zero, List.tail_cons] at b0 b1 h1
                  have e1 : c.toNat = 239 ∧ x.toNat = 191 ∧ y.toNat = 189 := by omega
                  have f1 : c = 239 := UInt8.toNat_inj.1 e1.1
                  have f2 : x = 191 := UInt8.toNat_inj.1 e1.2.1
                  have f3 : y = 189 := UInt8.toNat_inj.1 e1.2.2
                  subst f1; subst f2; subst f3
                  simp
            · cases h1
          · cases h1
      split at h
      · rcases chkF_or c.toNat r (c.toNat - 240) 3 65536 with e | ⟨u, h1, h2, h3, h4, e⟩
        · rw [e] at h; simp only at h; omega
        · rw [e] at h; simp only at h; omega
      · simp only at h; omega
  · intro h
    rw [List.isPrefixOf_iff_prefix] at h
    obtain ⟨t, rfl⟩ := h
    show (oneF (239 :: 191 :: 189 :: t)).1 = 65533
    rw [oneF_cons]
    simp [chkF, tailF]
/-- what the decoder tells, and the bytes, give the unit -/
theorem unit_of {d : List UInt8} (hd : d ≠ []) : (if runeOf (oneF d).1 = 65533 ∧ [239, 191, 189].isPrefixOf d = false then 2097152 + ((d.headD 0).toNat : Int) else (runeOf (oneF d).1 : Int)) = (oneF d).1 := by
  have hb := oneF_bd hd
  by_cases h : 2097152 ≤ (oneF d).1
  · have hp : [239, 191, 189].isPrefixOf d = false := by
      cases hh : [239, 191, 189].isPrefixOf d with
      | false => rfl
      | true => have := (oneF_fffd d hd).2 hh; omega
    rw [if_pos ⟨by unfold runeOf; rw [if_pos h], hp⟩]
    cases d with
    | nil => exact absurd rfl hd
    | cons c r => rw [oneF_bad c r h]; rfl
  · have hr : (runeOf (oneF d).1 : Int) = (oneF d).1 := by unfold runeOf; rw [if_neg h]; omega
    rw [if_neg]
    · exact hr
    · rintro ⟨h1, h2⟩
      have : (oneF d).1 = 65533 := by omega
      rw [(oneF_fffd d hd).1 this] at h2
      cases h2
end Go.HL.Nm
