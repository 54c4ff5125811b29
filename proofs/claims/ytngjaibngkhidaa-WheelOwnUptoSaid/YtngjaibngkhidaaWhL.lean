/-
  Wheel: Advance, whole. Conditions: so many timers at most.
-/
import Derived.Test.YtngjaibngkhidaaWhK
namespace Go.HL.Wh
open Go.HL Go.Proofs
set_option maxRecDepth 4000
set_option linter.unusedSimpArgs false
set_option linter.unusedVariables false
theorem rest_same {now : Nat} {ts : List Tm} (h : plOK now ts) : restT now ts = ts ∧ dueT now ts = [] ∧ movedT now ts = [] := by
  have hg : ∀ t ∈ ts, hgT t now = t := fun t ht => by
    obtain ⟨p1, p2⟩ := h.pl t ht
    exact hgT_same p1.symm p2.symm
  refine ⟨?_, ?_, ?_⟩
  · unfold restT
    rw [List.filter_eq_self.2 (fun t ht => by simpa using h.ah t ht)]
    exact (List.map_congr_left (g := id) hg).trans (List.map_id _)
  · exact List.filter_eq_nil_iff.2 fun t ht => by have := h.ah t ht; simp; omega
  · exact List.filter_eq_nil_iff.2 fun t ht => by have := (h.pl t ht).1; simp [movB, this]
theorem Advance_spec (p now mv : Nat) (ts : List Tm) (to : Int) (w0 w : World) (A : Asn) {K : Value → World → Prop} (hpl : plOK now ts) (hnow : now ≤ 1099511627776) (hlen : ts.length ≤ 65536) (hmv : mv ≤ 2305843009213693952)
    (s : St w0 (A * whl p now mv ts) w)
    (hk : ∀ r w', (if now ≤ to ∧ to ≤ 1099511627776 then ∃ v, r = .tuple #[v, .int .i64 0] ∧ St w0 (A * whl p to.toNat (mv + (movedT to.toNat ts).length) (restT to.toNat ts) * outs v (sortT ((dueT to.toNat ts).map tmr))) w' else r = .tuple #[.slice none 0 0, .int .i64 90] ∧ St w0 (A * whl p now mv ts) w') → K r w') :
    CallW Try.prog 14 [.pointer (some ⟨p, 0, none⟩), .int .i64 to] K w := by
  refine callW_of_lift l14_ok (by simp [l14]) ?_
  simp [l14]
  obtain ⟨am, aes, ac, Y, hok, t1⟩ := wopen s
  refine eff_ldc (v := .int .i64 now) (t1.row_cells 0 _ rfl) ?_
  simp
  refine cndI (fun c2 => ?_) (fun c2 => ?_)
  · simp at c2
    simp
    refine hk _ _ ?_
    rw [if_neg (by omega)]
    exact ⟨rfl, s⟩
  simp at c2
  obtain ⟨to, rfl⟩ : ∃ a : Nat, to = a := ⟨to.toNat, by omega⟩
  have hc : (now : Int) ≤ to ∧ (to : Int) ≤ 1099511627776 := by omega
  simp only [if_pos hc, Int.toNat_natCast] at hk
  simp
  refine eff_ldc (v := .int .i64 now) (t1.row_cells 0 _ rfl) ?_
  simp
  refine cndI (fun c3 => ?_) (fun c3 => ?_)
  · simp at c3
    have c3 : to = now := by omega
    subst c3
    simp
    obtain ⟨r1, r2, r3⟩ := rest_same hpl
    rw [r1, r2, r3] at hk
    refine hk _ _ ⟨_, rfl, ?_⟩
    rw [show sortT (List.map tmr []) = [] by simp [sortT]]
    exact s.own_nil 32 2
  simp at c3
  have hlt : now < to := by omega
  simp
  refine eff_ldc (v := .int .i64 now) (t1.row_cells 0 _ rfl) ?_
  simp
  refine ⟨⟨by omega, by omega⟩, ?_⟩
  obtain ⟨top, last, htl⟩ : ∃ top last, lvF to now = (top, last) := ⟨_, _, rfl⟩
  rw [htl]
  simp
  refine eff_st1 t1 rfl (by simp [wcs_len]) ?_
  intro w2 s2
  have e : (wcs now mv am Y).toArray.setIfInBounds 0 (.int .i64 to) = (wcs to mv am Y).toArray := by
    simp [wcs]
  rw [e] at s2
  have hp : advP now to mv ts := ⟨hpl, hlt, by omega, hlen, hmv⟩
  have hD0 : ∀ t : Tm, vD 0 0 t = false := fun t => by simp [vD]
  have e1 : curT to (vD 0 0) ts = ts := by
    unfold curT
    rw [List.filter_eq_self.2 (fun t ht => by simp [hD0])]
    exact (List.map_congr_left (g := id) fun t ht => by simp [hD0]).trans (List.map_id _)
  have e2 : outT to (vD 0 0) ts = [] := List.filter_eq_nil_iff.2 fun t ht => by simp [hD0]
  have e3 : movT to (vD 0 0) ts = [] := List.filter_eq_nil_iff.2 fun t ht => by simp [hD0]
  have s3 : St w0 (A * advA p to mv ts (vD 0 0) (.slice none 0 0)) w2 := by
    refine advclose (os := []) (by rw [e2]; exact List.Perm.refl _) ?_
    rw [e1, e3]
    have s4 := wclose hok s2
    rw [show outs (.slice none 0 0) [] = own 32 2 (.slice none 0 0) 0 [] from rfl]
    exact (s4.own_nil 32 2).to (by show A * whl p to mv ts * _ = A * _ * whl p to mv ts; ac_rfl)
  simp
  have hbd := lvF_bd to now
  rw [htl] at hbd
  obtain ⟨ht4, hl64, h40⟩ := hbd
  simp only at ht4 hl64 h40
  refine loopI (fun env w' => ∃ (l : Nat) (v y8 y9 y10 y11 y12 : Value), env = [.pointer (some ⟨p, 0, none⟩), .int .i64 to, .slice none 0 0, .int .i64 0, .int .i64 top, .int .i64 last, v, .int .i64 l, y8, y9, y10, y11, y12] ∧ l ≤ top + 1 ∧ St w0 (A * advA p to mv ts (endD top last l) v) w') (fun env _ => top + 1 - slotN env 7)
    ⟨0, _, _, _, _, _, _, rfl, by omega, by rw [show endD top last 0 = vD 0 0 from rfl]; exact s3⟩ ?_
  rintro LQ env w' ⟨l, v, y8, y9, y10, y11, y12, rfl, hl, s'⟩ hN hE hR
  simp
  refine cndI (fun h => ?_) (fun h => ?_)
  · simp at h
    show HC.wp U2 (.block 2 h14_24) _ _ _
    refine level_part p now to mv ts w0 w' A l top last v _ _ y8 y9 y10 y11 y12 hp htl (by omega) ?_ fun v' z8 z9 z10 z11 z12 w3 s4 => ?_
    · rw [show endD top last l = vD l 0 from if_pos (by omega)] at s'; exact s'
    show HC.wp U2 h14_2 LQ _ _
    simp
    try simp (disch := omega) only [wrap64]
    exact hN _ _ ⟨l + 1, v', z8, z9, z10, z11, z12, by simp, by omega, s4⟩ (by simp [slotN]; omega)
  · simp at h
    simp
    refine hE _ _ _ ?_
    simp
    have hl2 : l = top + 1 := by omega
    subst hl2
    have hvis : ∀ t ∈ ts, endD top last (top + 1) t = true ↔ visF now to (t.l, t.s) := by
      intro t ht
      unfold endD visF
      rw [if_neg (by omega), htl]
      simp only [vD, Bool.or_eq_true, Bool.and_eq_true, decide_eq_true_eq]
      omega
    obtain ⟨q1, q2, q3⟩ := end_cur hpl hlt hvis
    obtain ⟨os, hos, s5⟩ := advopen s'
    rw [q1, q3] at s5
    rw [q2] at hos
    have hol : os.length ≤ 65536 := by
      have h1 := hos.length_eq
      rw [List.length_map] at h1
      have h2 : (dueT to ts).length ≤ ts.length := List.length_filter_le _ _
      omega
    rw [show outs v os = own 32 2 v os.length (os.flatMap encT) from rfl] at s5
    refine eff_call (sort_spec os (by omega) w0 w' (A * whl p to (mv + (movedT to ts).length) (restT to ts)) (s5.to (by ac_rfl)) fun r w6 s6 => ?_)
    simp
    refine hk _ _ ⟨v, rfl, ?_⟩
    have e4 : outs v (sortT ((dueT to ts).map tmr)) = own 32 2 v os.length ((sortT os).flatMap encT) := by
      rw [← sortT_congr hos]
      show own _ 2 v (sortT os).length _ = _
      rw [sortT_len]
    rw [e4]
    exact s6
end Go.HL.Wh
