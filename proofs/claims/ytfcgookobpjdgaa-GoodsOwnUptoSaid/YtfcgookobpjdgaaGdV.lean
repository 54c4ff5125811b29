/-
  Goods: a pair of goods, the program's and the document's, or nil ones: what both answer. Conditions: items that stand right.
-/
import Derived.Test.YtfcgookobpjdgaaGdU
namespace Go.HL.Gd
open Go.HL Go.Proofs
set_option maxRecDepth 4000
set_option linter.unusedSimpArgs false
set_option linter.unusedVariables false
/-- a pair of goods: where they lie, their limit, their items -/
structure Pr where
  p : Nat
  q : Nat
  lim : Int
  its : List It
abbrev Slot := Option Pr
def gp : Slot → Value
  | none => .pointer none
  | some x => .pointer (some ⟨x.p, 0, none⟩)
def mp : Slot → Value
  | none => .pointer none
  | some x => .pointer (some ⟨x.q, 0, none⟩)
def slotA : Slot → Asn
  | none => emp
  | some x => gds x.p x.lim x.its * rgs x.q x.lim x.its
def limS : Slot → Int
  | none => 0
  | some x => x.lim
def itsS : Slot → List It
  | none => []
  | some x => x.its
def slotOK : Slot → Prop
  | none => True
  | some x => GI x.lim x.its
def getS (s : Slot) (n : Int) : It × Int := match s with
  | none => (⟨0, 0, 0, 0⟩, 1)
  | some x => getF x.its n
theorem slot_none (A : Asn) : A * slotA none = A := sep_emp A
theorem oLimit (t : Slot) (w0 w : World) (A : Asn) (ht : slotOK t) (s : St w0 (A * slotA t) w) :
    CallW Try.prog 18 [gp t] (fun r w' => r = .int .i64 (limS t) ∧ St w0 (A * slotA t) w') w := by
  cases t with
  | none =>
    rw [slot_none] at s
    refine (Limit_nil  w0 w A s).mono ?_
    rintro r w' ⟨rfl, s'⟩
    exact ⟨rfl, by rwa [slot_none]⟩
  | some x =>
    have hg : GI x.lim x.its := ht
    have hlen := hg.len
    have hlim := hg.lim
    refine (Limit_spec x.p x.lim x.its  w0 w (A * rgs x.q x.lim x.its)  (s.to (by simp only [slotA]; ac_rfl))).mono ?_
    rintro r w' ⟨rfl, s'⟩
    exact ⟨rfl, s'.to (by simp only [slotA]; ac_rfl)⟩
theorem oLen (t : Slot) (w0 w : World) (A : Asn) (ht : slotOK t) (s : St w0 (A * slotA t) w) :
    CallW Try.prog 30 [gp t] (fun r w' => r = .int .i64 (((itsS t).length : Int)) ∧ St w0 (A * slotA t) w') w := by
  cases t with
  | none =>
    rw [slot_none] at s
    refine (Len_nil  w0 w A s).mono ?_
    rintro r w' ⟨rfl, s'⟩
    exact ⟨rfl, by rwa [slot_none]⟩
  | some x =>
    have hg : GI x.lim x.its := ht
    have hlen := hg.len
    have hlim := hg.lim
    refine (Len_spec x.p x.lim x.its  w0 w (A * rgs x.q x.lim x.its)  (s.to (by simp only [slotA]; ac_rfl))).mono ?_
    rintro r w' ⟨rfl, s'⟩
    exact ⟨rfl, s'.to (by simp only [slotA]; ac_rfl)⟩
theorem oRows (t : Slot) (w0 w : World) (A : Asn) (ht : slotOK t) (s : St w0 (A * slotA t) w) :
    CallW Try.prog 11 [gp t] (fun r w' => St w0 (A * slotA t * own 44 4 r (itsS t).length (flat (itsS t))) w') w := by
  cases t with
  | none =>
    rw [slot_none] at s
    refine (Rows_nil  w0 w A s).mono ?_
    intro r w' s'
    rw [slot_none]; exact s'
  | some x =>
    have hg : GI x.lim x.its := ht
    have hlen := hg.len
    have hlim := hg.lim
    refine (Rows_spec x.p x.lim x.its  w0 w (A * rgs x.q x.lim x.its) (by omega) (s.to (by simp only [slotA]; ac_rfl))).mono ?_
    intro r w' s'
    exact s'.to (by simp only [slotA, itsS]; ac_rfl)
theorem oGet (t : Slot) (n : Int) (w0 w : World) (A : Asn) (ht : slotOK t) (s : St w0 (A * slotA t) w) :
    CallW Try.prog 32 [gp t, .int .i64 n] (fun r w' => r = .tuple #[.agg (getS t n).1.cs.toArray, .int .i64 (getS t n).2] ∧ St w0 (A * slotA t) w') w := by
  cases t with
  | none =>
    rw [slot_none] at s
    refine (Get_nil n w0 w A s).mono ?_
    rintro r w' ⟨rfl, s'⟩
    exact ⟨rfl, by rwa [slot_none]⟩
  | some x =>
    have hg : GI x.lim x.its := ht
    have hlen := hg.len
    have hlim := hg.lim
    refine (Get_spec x.p x.lim x.its n w0 w (A * rgs x.q x.lim x.its) (by omega) (s.to (by simp only [slotA]; ac_rfl))).mono ?_
    rintro r w' ⟨rfl, s'⟩
    exact ⟨rfl, s'.to (by simp only [slotA]; ac_rfl)⟩
theorem oOf (t : Slot) (n : Int) (w0 w : World) (A : Asn) (ht : slotOK t) (s : St w0 (A * slotA t) w) :
    CallW Try.prog 19 [gp t, .int .i64 n] (fun r w' => St w0 (A * slotA t * own 3 1 r (ofF (itsS t) n).length (ints (ofF (itsS t) n))) w') w := by
  cases t with
  | none =>
    rw [slot_none] at s
    refine (Of_nil n w0 w A s).mono ?_
    intro r w' s'
    rw [slot_none]; exact s'
  | some x =>
    have hg : GI x.lim x.its := ht
    have hlen := hg.len
    have hlim := hg.lim
    refine (Of_spec x.p x.lim x.its n w0 w (A * rgs x.q x.lim x.its) (by omega) (s.to (by simp only [slotA]; ac_rfl))).mono ?_
    intro r w' s'
    exact s'.to (by simp only [slotA, itsS]; ac_rfl)
theorem oIn (t : Slot) (n : Int) (w0 w : World) (A : Asn) (ht : slotOK t) (s : St w0 (A * slotA t) w) :
    CallW Try.prog 20 [gp t, .int .i64 n] (fun r w' => St w0 (A * slotA t * own 3 1 r (inF (itsS t) n).length (ints (inF (itsS t) n))) w') w := by
  cases t with
  | none =>
    rw [slot_none] at s
    refine (In_nil n w0 w A s).mono ?_
    intro r w' s'
    rw [slot_none]; exact s'
  | some x =>
    have hg : GI x.lim x.its := ht
    have hlen := hg.len
    have hlim := hg.lim
    refine (In_spec x.p x.lim x.its n w0 w (A * rgs x.q x.lim x.its) (by omega) (s.to (by simp only [slotA]; ac_rfl))).mono ?_
    intro r w' s'
    exact s'.to (by simp only [slotA, itsS]; ac_rfl)
theorem oKinds (t : Slot) (n : Int) (w0 w : World) (A : Asn) (ht : slotOK t) (s : St w0 (A * slotA t) w) :
    CallW Try.prog 31 [gp t, .int .i64 n] (fun r w' => r = .agg (ints (tally ((itsS t).filter (ofP n)))).toArray ∧ St w0 (A * slotA t) w') w := by
  cases t with
  | none =>
    rw [slot_none] at s
    refine (Kinds_nil n w0 w A s).mono ?_
    rintro r w' ⟨rfl, s'⟩
    exact ⟨rfl, by rwa [slot_none]⟩
  | some x =>
    have hg : GI x.lim x.its := ht
    have hlen := hg.len
    have hlim := hg.lim
    refine (Kinds_spec x.p x.lim x.its n w0 w (A * rgs x.q x.lim x.its) hg.toWF (by omega) (s.to (by simp only [slotA]; ac_rfl))).mono ?_
    rintro r w' ⟨rfl, s'⟩
    exact ⟨rfl, s'.to (by simp only [slotA]; ac_rfl)⟩
theorem orLimit (t : Slot) (w0 w : World) (A : Asn) (ht : slotOK t) (s : St w0 (A * slotA t) w) :
    CallW Try.prog 46 [mp t] (fun r w' => r = .int .i64 (limS t) ∧ St w0 (A * slotA t) w') w := by
  cases t with
  | none =>
    rw [slot_none] at s
    refine (rLimit_nil  w0 w A s).mono ?_
    rintro r w' ⟨rfl, s'⟩
    exact ⟨rfl, by rwa [slot_none]⟩
  | some x =>
    have hg : GI x.lim x.its := ht
    have hlen := hg.len
    have hlim := hg.lim
    refine (rLimit_spec x.q x.lim x.its  w0 w (A * gds x.p x.lim x.its)  (s.to (by simp only [slotA]; ac_rfl))).mono ?_
    rintro r w' ⟨rfl, s'⟩
    exact ⟨rfl, s'.to (by simp only [slotA]; ac_rfl)⟩
theorem orRows (t : Slot) (w0 w : World) (A : Asn) (ht : slotOK t) (s : St w0 (A * slotA t) w) :
    CallW Try.prog 47 [mp t] (fun r w' => St w0 (A * slotA t * own 44 4 r (itsS t).length (flat (itsS t))) w') w := by
  cases t with
  | none =>
    rw [slot_none] at s
    refine (rRows_nil  w0 w A s).mono ?_
    intro r w' s'
    rw [slot_none]; exact s'
  | some x =>
    have hg : GI x.lim x.its := ht
    have hlen := hg.len
    have hlim := hg.lim
    refine (rRows_spec x.q x.lim x.its  w0 w (A * gds x.p x.lim x.its) (by omega) (s.to (by simp only [slotA]; ac_rfl))).mono ?_
    intro r w' s'
    exact s'.to (by simp only [slotA, itsS]; ac_rfl)
theorem orGet (t : Slot) (n : Int) (w0 w : World) (A : Asn) (ht : slotOK t) (s : St w0 (A * slotA t) w) :
    CallW Try.prog 48 [mp t, .int .i64 n] (fun r w' => r = .tuple #[.agg (getS t n).1.cs.toArray, .int .i64 (getS t n).2] ∧ St w0 (A * slotA t) w') w := by
  cases t with
  | none =>
    rw [slot_none] at s
    refine (rGet_nil n w0 w A s).mono ?_
    rintro r w' ⟨rfl, s'⟩
    exact ⟨rfl, by rwa [slot_none]⟩
  | some x =>
    have hg : GI x.lim x.its := ht
    have hlen := hg.len
    have hlim := hg.lim
    refine (rGet_spec x.q x.lim x.its n w0 w (A * gds x.p x.lim x.its) hg.toWF (by omega) (s.to (by simp only [slotA]; ac_rfl))).mono ?_
    rintro r w' ⟨rfl, s'⟩
    exact ⟨rfl, s'.to (by simp only [slotA]; ac_rfl)⟩
theorem orOf (t : Slot) (n : Int) (w0 w : World) (A : Asn) (ht : slotOK t) (s : St w0 (A * slotA t) w) :
    CallW Try.prog 49 [mp t, .int .i64 n] (fun r w' => St w0 (A * slotA t * own 3 1 r (ofF (itsS t) n).length (ints (ofF (itsS t) n))) w') w := by
  cases t with
  | none =>
    rw [slot_none] at s
    refine (rOf_nil n w0 w A s).mono ?_
    intro r w' s'
    rw [slot_none]; exact s'
  | some x =>
    have hg : GI x.lim x.its := ht
    have hlen := hg.len
    have hlim := hg.lim
    refine (rOf_spec x.q x.lim x.its n w0 w (A * gds x.p x.lim x.its) hg (s.to (by simp only [slotA]; ac_rfl))).mono ?_
    intro r w' s'
    exact s'.to (by simp only [slotA, itsS]; ac_rfl)
theorem orIn (t : Slot) (n : Int) (w0 w : World) (A : Asn) (ht : slotOK t) (s : St w0 (A * slotA t) w) :
    CallW Try.prog 50 [mp t, .int .i64 n] (fun r w' => St w0 (A * slotA t * own 3 1 r (inF (itsS t) n).length (ints (inF (itsS t) n))) w') w := by
  cases t with
  | none =>
    rw [slot_none] at s
    refine (rIn_nil n w0 w A s).mono ?_
    intro r w' s'
    rw [slot_none]; exact s'
  | some x =>
    have hg : GI x.lim x.its := ht
    have hlen := hg.len
    have hlim := hg.lim
    refine (rIn_spec x.q x.lim x.its n w0 w (A * gds x.p x.lim x.its) hg (s.to (by simp only [slotA]; ac_rfl))).mono ?_
    intro r w' s'
    exact s'.to (by simp only [slotA, itsS]; ac_rfl)
theorem orKinds (t : Slot) (n : Int) (w0 w : World) (A : Asn) (ht : slotOK t) (s : St w0 (A * slotA t) w) :
    CallW Try.prog 51 [mp t, .int .i64 n] (fun r w' => r = .agg (ints (tally ((itsS t).filter (ofP n)))).toArray ∧ St w0 (A * slotA t) w') w := by
  cases t with
  | none =>
    rw [slot_none] at s
    refine (rKinds_nil n w0 w A s).mono ?_
    rintro r w' ⟨rfl, s'⟩
    exact ⟨rfl, by rwa [slot_none]⟩
  | some x =>
    have hg : GI x.lim x.its := ht
    have hlen := hg.len
    have hlim := hg.lim
    refine (rKinds_spec x.q x.lim x.its n w0 w (A * gds x.p x.lim x.its) hg (s.to (by simp only [slotA]; ac_rfl))).mono ?_
    rintro r w' ⟨rfl, s'⟩
    exact ⟨rfl, s'.to (by simp only [slotA]; ac_rfl)⟩
end Go.HL.Gd
