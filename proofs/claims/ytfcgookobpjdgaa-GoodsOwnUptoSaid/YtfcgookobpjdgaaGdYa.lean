/-
  Goods: the two halves of a pair, what each act does to each. Conditions: items that stand right.
-/
import Derived.Test.YtfcgookobpjdgaaGdX
namespace Go.HL.Gd
open Go.HL Go.Proofs
set_option maxRecDepth 4000
set_option linter.unusedSimpArgs false
set_option linter.unusedVariables false
def gO : Slot → List It → Asn
  | none, _ => emp
  | some x, its => gds x.p x.lim its
def rO : Slot → List It → Asn
  | none, _ => emp
  | some x, its => rgs x.q x.lim its
def setS (t : Slot) (its : List It) : Slot := t.map fun x => ⟨x.p, x.q, x.lim, its⟩
def copyS (t : Slot) (p q : Nat) : Slot := t.map fun x => ⟨p, q, x.lim, x.its⟩
theorem slot_two (t : Slot) : slotA t = gO t (itsS t) * rO t (itsS t) := by
  cases t with
  | none => exact (sep_emp emp).symm
  | some x => rfl
theorem slot_set (t : Slot) (its : List It) : slotA (setS t its) = gO t its * rO t its := by
  cases t with
  | none => exact (sep_emp emp).symm
  | some x => rfl
theorem gp_set (t : Slot) (its : List It) : gp (setS t its) = gp t := by cases t <;> rfl
theorem mp_set (t : Slot) (its : List It) : mp (setS t its) = mp t := by cases t <;> rfl
theorem slot_copy (t : Slot) (p q : Nat) : slotA (copyS t p q) = gO (copyS t p q) (itsS t) * rO (copyS t p q) (itsS t) := by
  cases t with
  | none => exact (sep_emp emp).symm
  | some x => rfl
theorem copy_gp (t : Slot) (p q q' : Nat) : gp (copyS t p q) = gp (copyS t p q') := by cases t <;> rfl
theorem copy_mp (t : Slot) (p p' q : Nat) : mp (copyS t p q) = mp (copyS t p' q) := by cases t <;> rfl
theorem copy_gO (t : Slot) (p q q' : Nat) : gO (copyS t p q) = gO (copyS t p q') := by cases t <;> rfl
theorem copy_rO (t : Slot) (p p' q : Nat) : rO (copyS t p q) = rO (copyS t p' q) := by cases t <;> rfl
theorem copy_ok {t : Slot} (p q : Nat) (h : slotOK t) : slotOK (copyS t p q) := by cases t with
  | none => trivial
  | some x => exact h
theorem gp_nil (t : Slot) (p q : Nat) : (gp (copyS t p q) = .pointer none ↔ t = none) := by cases t <;> simp [gp, copyS]
def makeS (t : Slot) (k a : Int) : Int × Int × List It := match t with
  | none => (0, 1, [])
  | some x => makeF x.lim x.its k a
theorem make_ok {t : Slot} (h : slotOK t) (k a : Int) : slotOK (setS t (makeS t k a).2.2) := by
  cases t with
  | none => trivial
  | some x => have := gi_act (lim := x.lim) (its := x.its) h ⟨1, k, a⟩; simp [actF] at this; exact this
theorem hMake (t : Slot) (k a : Int) (w0 w : World) (A : Asn) (ht : slotOK t) (s : St w0 (A * gO t (itsS t)) w) :
    CallW Try.prog 26 [gp t, .int .i64 k, .int .i64 a] (fun r w' => r = .tuple #[.int .i64 (makeS t k a).1, .int .i64 (makeS t k a).2.1] ∧ St w0 (A * gO t (makeS t k a).2.2) w') w := by
  cases t with
  | none => exact Make_nil k a w0 w _ s
  | some x => exact Make_spec x.p x.lim x.its k a w0 w A (GI.lim ht) s
theorem hrMake (t : Slot) (k a : Int) (w0 w : World) (A : Asn) (ht : slotOK t) (s : St w0 (A * rO t (itsS t)) w) :
    CallW Try.prog 40 [mp t, .int .i64 k, .int .i64 a] (fun r w' => r = .tuple #[.int .i64 (makeS t k a).1, .int .i64 (makeS t k a).2.1] ∧ St w0 (A * rO t (makeS t k a).2.2) w') w := by
  cases t with
  | none => exact rMake_nil k a w0 w _ s
  | some x => exact rMake_spec x.q x.lim x.its k a w0 w A ht s
def moveS (t : Slot) (k a : Int) : Int × List It := match t with
  | none => (1, [])
  | some x => moveF x.its k a
theorem move_ok {t : Slot} (h : slotOK t) (k a : Int) : slotOK (setS t (moveS t k a).2) := by
  cases t with
  | none => trivial
  | some x => have := gi_act (lim := x.lim) (its := x.its) h ⟨2, k, a⟩; simp [actF] at this; exact this
theorem hMove (t : Slot) (k a : Int) (w0 w : World) (A : Asn) (ht : slotOK t) (s : St w0 (A * gO t (itsS t)) w) :
    CallW Try.prog 29 [gp t, .int .i64 k, .int .i64 a] (fun r w' => r = .int .i64 (moveS t k a).1 ∧ St w0 (A * gO t (moveS t k a).2) w') w := by
  cases t with
  | none => exact Move_nil k a w0 w _ s
  | some x =>
    have hg : GI x.lim x.its := ht
    have h1 := hg.len
    have h2 := hg.lim
    exact Move_spec x.p x.lim x.its k a w0 w A (by omega) s
theorem hrMove (t : Slot) (k a : Int) (w0 w : World) (A : Asn) (ht : slotOK t) (s : St w0 (A * rO t (itsS t)) w) :
    CallW Try.prog 41 [mp t, .int .i64 k, .int .i64 a] (fun r w' => r = .int .i64 (moveS t k a).1 ∧ St w0 (A * rO t (moveS t k a).2) w') w := by
  cases t with
  | none => exact rMove_nil k a w0 w _ s
  | some x => exact rMove_spec x.q x.lim x.its k a w0 w A ht s
def holdS (t : Slot) (k a : Int) : Int × List It := match t with
  | none => (1, [])
  | some x => holdF x.its k a
theorem hold_ok {t : Slot} (h : slotOK t) (k a : Int) : slotOK (setS t (holdS t k a).2) := by
  cases t with
  | none => trivial
  | some x => have := gi_act (lim := x.lim) (its := x.its) h ⟨3, k, a⟩; simp [actF] at this; exact this
theorem hHold (t : Slot) (k a : Int) (w0 w : World) (A : Asn) (ht : slotOK t) (s : St w0 (A * gO t (itsS t)) w) :
    CallW Try.prog 27 [gp t, .int .i64 k, .int .i64 a] (fun r w' => r = .int .i64 (holdS t k a).1 ∧ St w0 (A * gO t (holdS t k a).2) w') w := by
  cases t with
  | none => exact Hold_nil k a w0 w _ s
  | some x =>
    have hg : GI x.lim x.its := ht
    have h1 := hg.len
    have h2 := hg.lim
    exact Hold_spec x.p x.lim x.its k a w0 w A (by omega) s
theorem hrHold (t : Slot) (k a : Int) (w0 w : World) (A : Asn) (ht : slotOK t) (s : St w0 (A * rO t (itsS t)) w) :
    CallW Try.prog 42 [mp t, .int .i64 k, .int .i64 a] (fun r w' => r = .int .i64 (holdS t k a).1 ∧ St w0 (A * rO t (holdS t k a).2) w') w := by
  cases t with
  | none => exact rHold_nil k a w0 w _ s
  | some x => exact rHold_spec x.q x.lim x.its k a w0 w A ht s
def freeS (t : Slot) (k a : Int) : Int × List It := match t with
  | none => (1, [])
  | some x => freeF x.its k a
theorem free_ok {t : Slot} (h : slotOK t) (k a : Int) : slotOK (setS t (freeS t k a).2) := by
  cases t with
  | none => trivial
  | some x => have := gi_act (lim := x.lim) (its := x.its) h ⟨4, k, a⟩; simp [actF] at this; exact this
theorem hFree (t : Slot) (k a : Int) (w0 w : World) (A : Asn) (ht : slotOK t) (s : St w0 (A * gO t (itsS t)) w) :
    CallW Try.prog 28 [gp t, .int .i64 k, .int .i64 a] (fun r w' => r = .int .i64 (freeS t k a).1 ∧ St w0 (A * gO t (freeS t k a).2) w') w := by
  cases t with
  | none => exact Free_nil k a w0 w _ s
  | some x =>
    have hg : GI x.lim x.its := ht
    have h1 := hg.len
    have h2 := hg.lim
    exact Free_spec x.p x.lim x.its k a w0 w A (by omega) s
theorem hrFree (t : Slot) (k a : Int) (w0 w : World) (A : Asn) (ht : slotOK t) (s : St w0 (A * rO t (itsS t)) w) :
    CallW Try.prog 43 [mp t, .int .i64 k, .int .i64 a] (fun r w' => r = .int .i64 (freeS t k a).1 ∧ St w0 (A * rO t (freeS t k a).2) w') w := by
  cases t with
  | none => exact rFree_nil k a w0 w _ s
  | some x => exact rFree_spec x.q x.lim x.its k a w0 w A ht s
theorem hCopy (t : Slot) (w0 w : World) (A : Asn) (ht : slotOK t) (s : St w0 (A * gO t (itsS t)) w) :
    CallW Try.prog 16 [gp t] (fun r w' => ∃ p, r = gp (copyS t p 0) ∧ St w0 (A * gO t (itsS t) * gO (copyS t p 0) (itsS t)) w') w := by
  cases t with
  | none =>
    refine (Copy_nil w0 w _ s).mono ?_
    rintro r w' ⟨rfl, s'⟩
    exact ⟨0, rfl, s'.to (sep_emp _).symm⟩
  | some x =>
    have hg : GI x.lim x.its := ht
    have h1 := hg.len
    have h2 := hg.lim
    refine (Copy_spec x.p x.lim x.its w0 w A (by omega) s).mono ?_
    rintro r w' ⟨q, rfl, s'⟩
    exact ⟨q, rfl, s'⟩
theorem hrCopy (t : Slot) (w0 w : World) (A : Asn) (ht : slotOK t) (s : St w0 (A * rO t (itsS t)) w) :
    CallW Try.prog 44 [mp t] (fun r w' => ∃ q, r = mp (copyS t 0 q) ∧ St w0 (A * rO t (itsS t) * rO (copyS t 0 q) (itsS t)) w') w := by
  cases t with
  | none =>
    refine (rCopy_nil w0 w _ s).mono ?_
    rintro r w' ⟨rfl, s'⟩
    exact ⟨0, rfl, s'.to (sep_emp _).symm⟩
  | some x =>
    have hg : GI x.lim x.its := ht
    have h1 := hg.len
    have h2 := hg.lim
    refine (rCopy_spec x.q x.lim x.its w0 w A (by omega) s).mono ?_
    rintro r w' ⟨q, rfl, s'⟩
    exact ⟨q, rfl, s'⟩
theorem desk_put (dd : Nat) {T : Desk} {k : Nat} (hT : deskOK T) (hk : k < 4) {its : List It} (ht : slotOK (setS (T k) its)) :
    deskOK (upd T k (setS (T k) its)) ∧ deskA dd (upd T k (setS (T k) its)) = pt dd (.cells (deskC T) 58 (0, 0)) * restA T k * (gO (T k) its * rO (T k) its) := by
  have hok : deskOK (upd T k (setS (T k) its)) := by
    refine ⟨?_, fun j => ?_⟩
    · unfold upd
      split
      · rename_i h; rw [← h, hT.1]; rfl
      · exact hT.1
    · unfold upd
      split
      · exact ht
      · exact hT.2 j
  refine ⟨hok, ?_⟩
  have hu : (upd T k (setS (T k) its)) k = setS (T k) its := by simp [upd]
  have hr : restA (upd T k (setS (T k) its)) k = restA T k := by rw [rest_upd T k _ hk]; split <;> simp_all
  have hc : deskC (upd T k (setS (T k) its)) = deskC T := by
    have : k = 0 ∨ k = 1 ∨ k = 2 ∨ k = 3 := by omega
    rcases this with rfl | rfl | rfl | rfl <;> simp [deskC, upd, gp_set, mp_set]
  rw [desk_at dd _ hok.1 hk, hu, hr, hc, slot_set]
/-- two changes of a draw region -/
def cls (v1 v2 : Value) (S0 S1 S2 : World → Prop) : List Value → World → Prop
  | [], w => S0 w
  | [r], w => r = v1 ∧ S1 w
  | [r, q], w => r = v1 ∧ q = v2 ∧ S2 w
  | _, _ => False
theorem cls_ld {v1 v2 : Value} {S0 S1 S2 : World → Prop} {R : World → Prop} {vs : List Value} (hv : vs.length < 2) (h0 : ∀ w, S0 w → R w) (h1 : ∀ w, S1 w → R w) :
    ∀ vs' w, era 2 vs' = era 2 vs → cls v1 v2 S0 S1 S2 vs' w → R w := by
  intro vs' w he hw
  match vs', hw with
  | [], hw => exact h0 w hw
  | [_], ⟨_, hw⟩ => exact h1 w hw
  | [_, _], hw => simp [era] at he; omega
end Go.HL.Gd
