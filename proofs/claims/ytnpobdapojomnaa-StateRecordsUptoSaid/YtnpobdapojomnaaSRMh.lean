/-
  What the claim leans on, part 8 of 13. Conditions: as each theorem says.
-/
import Derived.Test.YtnpobdapojomnaaSRMg
import Derived.MapKept
namespace Go.HL
set_option maxRecDepth 4000
set_option linter.unusedSimpArgs false
set_option linter.unusedVariables false
section
variable {P : Program} {F0 : PF P} {F : Asn} {K : Value → World → Prop} {w w0 : World}
def entF : List (List UInt8) → Nat → List MapEntry
  | [], _ => []
  | x :: r, i => ⟨.string (mk x), .int .i64 (i : Int), i⟩ :: entF r (i + 1)
def mapE (ks : List (List UInt8)) : Array MapEntry := (entF ks 0).toArray
def lookK (k : List UInt8) : List (List UInt8) → Nat → Option Nat
  | [], _ => none
  | x :: r, i => if k = x then some i else lookK k r (i + 1)
def askN (k : List UInt8) (ks : List (List UInt8)) : Int := ((lookK k ks 0).getD 0 : Nat)
def askB (k : List UInt8) (ks : List (List UInt8)) : Bool := (lookK k ks 0).isSome
abbrev askK (k : List UInt8) (ks : List (List UInt8)) : Value := .tuple #[.int .i64 (askN k ks), .bool (askB k ks)]
structure MapT (P : Program) (t kt ke : TypeId) : Prop where
  ty : P.underlying t = some (.map kt ke)
  key : P.underlying kt = some .string
  zero : (P.info? ke).bind (·.zero) = some (.int .i64 0)
end
end Go.HL

namespace Go.HL
set_option maxRecDepth 4000
set_option linter.unusedSimpArgs false
set_option linter.unusedVariables false
section
variable {P : Program}
inductive PV where
  | int (k : IntKind) (a : Int)
  | str (b : List UInt8)
  | bool (b : Bool)
deriving DecidableEq
inductive PK where
  | int (k : IntKind)
  | str
  | bool
deriving DecidableEq
def PV.val : PV → Value
  | .int k a => .int k a
  | .str b => .string (mk b)
  | .bool b => .bool b
def PV.kind : PV → PK
  | .int k _ => .int k
  | .str _ => .str
  | .bool _ => .bool
def PK.of : PK → TypeDesc → Bool
  | .int _, .int _ => true
  | .str, .string => true
  | .bool, .bool => true
  | _, _ => false
def primFields (P : Program) : List Field → List PK → Nat → Bool
  | [], [], _ => true
  | f :: fs, k :: ks, o => (f.name != "_") && (f.offset == o) && (match P.underlying f.type with | some d => k.of d | none => false) && primFields P fs ks (o + 1)
  | _, _, _ => false
def holdsP (xs : Array Value) (o : Nat) (as_ : List PV) : Prop := ∀ j u, as_[j]? = some u → xs[o + j]? = some u.val
structure PrimStruct (P : Program) (t : TypeId) (ks : List PK) : Prop where
  und : P.underlying t = some (.struct (P.fieldsOf t))
  stood : P.stoodInHeld t = false
  guard : P.eqGuardType P.depth t = false
  prims : primFields P (P.fieldsOf t).toList ks 0 = true
variable {K : Value → World → Prop} {w w0 : World} {A : Asn} {C : World → Prop}
end
end Go.HL

namespace Go.HL
set_option maxRecDepth 4000
set_option linter.unusedSimpArgs false
set_option linter.unusedVariables false
theorem foldl_off (o : Nat) : ∀ (vs : List Value) (j : Nat) (c : Array Value), (vs.zipIdx j).foldl (fun (cs : Array Value) x => cs.setIfInBounds (o + x.2) x.1) c = (vs.zipIdx (o + j)).foldl (fun (cs : Array Value) x => cs.setIfInBounds x.2 x.1) c
  | [], _, _ => rfl
  | v :: vs, j, c => by
    rw [List.zipIdx_cons, List.zipIdx_cons, List.foldl_cons, List.foldl_cons, foldl_off o vs (j + 1)]
    rfl
theorem fillN (size : Nat) : ∀ (vs : List Value) (k : Nat) (c : List Value), (∀ v ∈ vs, v.cells.size = size) → (k + vs.length) * size ≤ c.length →
    Instr.fill (fun i => some (i * size, size)) c.toArray ((List.range' k vs.length).zip vs) = some (c.take (k * size) ++ vs.flatMap (fun v => v.cells.toList) ++ c.drop ((k + vs.length) * size)).toArray
  | [], k, c, _, _ => by simp [Instr.fill]
  | v :: vs, k, c, hv, hc => by
    have h0 : v.cells.size = size := hv v (List.mem_cons_self ..)
    have hle : (k + 1 + vs.length) * size ≤ c.length := by
      have : k + (v :: vs).length = k + 1 + vs.length := by simp; omega
      rw [this] at hc; exact hc
    have hk1 : (k + 1) * size = k * size + size := Nat.succ_mul k size
    have hadd : (k + 1 + vs.length) * size = k * size + size + vs.length * size := by rw [Nat.add_mul, hk1]
    rw [List.length_cons, List.range'_succ, List.zip_cons_cons]
    simp only [Instr.fill, h0]
    rw [if_neg (by simp; omega)]
    have hsz : v.cells.toList.length = size := by rw [Array.length_toList, h0]
    have hf : v.cells.zipIdx.foldl (fun (cs : Array Value) (x : Value × Nat) => cs.setIfInBounds (k * size + x.2) x.1) c.toArray = (c.take (k * size) ++ v.cells.toList ++ c.drop (k * size + size)).toArray := by
      have e : v.cells.zipIdx = (v.cells.toList.zipIdx 0).toArray := by
        apply Array.ext'
        simp
      rw [e, List.foldl_toArray']
      · rw [foldl_off, Nat.add_zero, foldl_set v.cells.toList (k * size) c (by rw [hsz]; omega), hsz]
      · rfl
    rw [hf]
    have ih := fillN size vs (k + 1) (c.take (k * size) ++ v.cells.toList ++ c.drop (k * size + size)) (fun u hu => hv u (List.mem_cons_of_mem _ hu)) (by
      simp only [List.length_append, List.length_take, List.length_drop, hsz]; omega)
    rw [ih]
    congr 2
    have l1 : (c.take (k * size)).length = k * size := by rw [List.length_take]; omega
    have l2 : (c.take (k * size) ++ v.cells.toList).length = (k + 1) * size := by rw [List.length_append, l1, hsz, hk1]
    have t1 : (c.take (k * size) ++ v.cells.toList ++ c.drop (k * size + size)).take ((k + 1) * size) = c.take (k * size) ++ v.cells.toList := by
      rw [← l2]; exact List.take_left
    have t2 : (c.take (k * size) ++ v.cells.toList ++ c.drop (k * size + size)).drop ((k + 1 + vs.length) * size) = c.drop ((k + (vs.length + 1)) * size) := by
      have e2 : (k + (vs.length + 1)) * size = (k + 1 + vs.length) * size := by congr 1; omega
      rw [List.drop_append, l2, List.drop_of_length_le (by rw [l2, hadd, hk1]; omega), List.nil_append, List.drop_drop, e2]
      congr 1
      rw [hadd, hk1]; omega
    rw [t1, t2]
    simp [List.flatMap_cons, List.append_assoc]
theorem eff_bslN {P : Program} {K : Value → World → Prop} {w w0 : World} {F : Asn} {e size n : Nat} {z : Array Value} {vs : List Value} {ix : List Nat} (s : St w0 F w) (hv : ∀ v ∈ vs, v.cells.size = size) (hn : vs.length = n) (hix : ix = List.range' 0 n) (hm : n ≤ maxLen)
    (hk : ∀ v w', St w0 (F * own e size v n (vs.flatMap fun v => v.cells.toList)) w' → K v w') : EffW P (.bsl e n size z ix) vs K w := by
  subst hix hn
  have hl : ((Array.range (vs.length * size)).map fun i => z[i % z.size]!).size = vs.length * size := by simp
  have hfl : (vs.flatMap fun v => v.cells.toList).length = vs.length * size := by
    clear hl s hk hm
    induction vs with
    | nil => simp
    | cons v vs ih =>
      rw [List.flatMap_cons, List.length_append, ih (fun u hu => hv u (List.mem_cons_of_mem _ hu)), Array.length_toList, hv v (List.mem_cons_self ..), List.length_cons, Nat.succ_mul]; omega
  refine eff_bsl (cells := (vs.flatMap fun v => v.cells.toList).toArray) s ?_ fun b w' s' => hk _ w' (s'.own_mk (Nat.le_refl _) hm (by rw [List.size_toArray, hfl]) (by rw [← hfl]; exact List.take_length))
  have := fillN size vs 0 ((Array.range (vs.length * size)).map fun i => z[i % z.size]!).toList hv (by simp)
  rw [Array.toArray_toList] at this
  refine this.trans ?_
  rw [Nat.zero_mul, List.take_zero, List.nil_append, Nat.zero_add, List.drop_of_length_le (by rw [Array.length_toList, hl]; exact Nat.le_refl _), List.append_nil]
theorem eff_bslO {P : Program} {K : Value → World → Prop} {w w0 : World} {F : Asn} {e n : Nat} {z : Array Value} {vs : List Value} {ix : List Nat} (s : St w0 F w) (hv : ∀ v ∈ vs, v.oneCell' = true) (hn : vs.length = n) (hix : ix = List.range' 0 n) (hm : n ≤ maxLen)
    (hk : ∀ v w', St w0 (F * own e 1 v n vs) w' → K v w') : EffW P (.bsl e n 1 z ix) vs K w := by
  have hc : ∀ v ∈ vs, v.cells = #[v] := fun v h => by
    have := hv v h
    cases v <;> first | rfl | (simp [Value.oneCell'] at this)
  refine eff_bslN s (fun v h => by rw [hc v h]; rfl) hn hix hm fun v w' s' => hk v w' ?_
  have e : (vs.flatMap fun v => v.cells.toList) = vs := by
    clear s hk hn hix hm s' hv
    induction vs with
    | nil => rfl
    | cons v vs ih => rw [List.flatMap_cons, hc v (List.mem_cons_self ..), ih fun u hu => hc u (List.mem_cons_of_mem _ hu)]; rfl
  rw [e] at s'
  exact s'
end Go.HL
