/-
  Wheel: time goes on; one slot. Conditions: so many timers at most.
-/
import Derived.Test.YtngjaibngkhidaaWhH
namespace Go.HL.Wh
open Go.HL Go.Proofs
set_option maxRecDepth 4000
set_option linter.unusedSimpArgs false
set_option linter.unusedVariables false
def seenN (w : World) (b : Nat) : Nat := match w.heap[b]? with
  | some (.mapIter _ _ seen _) => seen.size
  | _ => 0
theorem count_add {ts : List Tm} {D : Tm → Bool} {t : Tm} (ht : t ∈ ts) (hD : D t = false) : (ts.filter fun u => !addD D t u).length + 1 ≤ (ts.filter fun u => !D u).length := by
  have e : (ts.filter fun u => !addD D t u) = (ts.filter fun u => !D u).filter fun u => !decide (u.n = t.n) := by
    rw [List.filter_filter]
    refine List.filter_congr fun u _ => ?_
    simp [addD, Bool.and_comm]
  rw [e]
  refine Nat.lt_of_le_of_ne (List.length_filter_le _ _) fun h => ?_
  have h2 := (List.length_filter_eq_length_iff.1 h) t (List.mem_filter.2 ⟨ht, by simp [hD]⟩)
  simp at h2
theorem en_eq {es : List En} {c : Nat} (h : okE es c) {e e' : En} (he : e ∈ es) (he' : e' ∈ es) : e'.b = e.b ↔ e'.k = e.k := by
  have inj : ∀ (f : En → Int) (es : List En), (es.map f).Nodup → e ∈ es → e' ∈ es → f e' = f e → e' = e := by
    intro f es
    induction es with
    | nil => intro _ h; cases h
    | cons x r ih =>
      intro hn h1 h2 hf
      rw [List.map_cons, List.nodup_cons] at hn
      rcases List.mem_cons.1 h1 with h1 | h1 <;> rcases List.mem_cons.1 h2 with h2 | h2
      · rw [h1, h2]
      · exact absurd (List.mem_map.2 ⟨e', h2, by rw [hf, h1]⟩) hn.1
      · exact absurd (List.mem_map.2 ⟨e, h1, by rw [← hf, h2]⟩) hn.1
      · exact ih hn.2 h1 h2 hf
  constructor
  · intro hb
    have hbn : (es.map fun e => (e.b : Int)).Nodup := by
      have := h.bn
      rw [List.nodup_iff_pairwise_ne, List.pairwise_map] at *
      exact this.imp fun h g => h (Int.ofNat.inj g)
    rw [inj (fun e => (e.b : Int)) es hbn he he' (by simp [hb])]
  · intro hk
    rw [inj (·.k) es h.kn he he' hk]
theorem mem_del {es : List En} {c : Nat} (h : okE es c) {n : Int} {e : En} (he : e ∈ delI es n) : e ∈ es ∧ e.k ≠ n := by
  rw [delI_eq h.kn] at he
  obtain ⟨h1, h2⟩ := List.mem_filter.1 he
  exact ⟨h1, of_decide_eq_true h2⟩
/-- so far in this slot -/
structure slI (to : Nat) (ts : List Tm) (l n : Nat) (D : Tm → Bool) (sn : List Int) (seen : Array Nat) (es : List En) (aes : List En) (ac : Nat) (Y : Dk) (os : List (Int × Int)) : Prop where
  hD : ∀ t ∈ ts, D t = (vD l n t || (decide (tmQ t = l * 64 + n) && decide (t.n ∈ sn)))
  ok : wOK (curT to D ts) aes ac Y
  hs : ∀ e ∈ es, e.b ∈ seen ↔ e.k ∈ sn
  hp : os.Perm ((outT to D ts).map tmr)
  hc : (ts.filter fun u => !D u).length + seen.size ≤ ts.length
section
variable {to : Nat} {ts : List Tm} {l n : Nat} {D : Tm → Bool} {sn : List Int} {seen : Array Nat} {es aes : List En} {ac : Nat} {Y : Dk} {os : List (Int × Int)}
theorem slI.nD (h : slI to ts l n D sn seen es aes ac Y os) (hn : (ts.map (·.n)).Nodup) {u : Tm} (hu : u ∈ ts) (hq : tmQ u = l * 64 + n) : ∀ t ∈ ts, addD D u t = (vD l n t || (decide (tmQ t = l * 64 + n) && decide (t.n ∈ u.n :: sn))) := by
  intro t ht
  by_cases e : t.n = u.n
  · have := num_inj hn ht hu e
    subst this
    simp [addD, hq]
  · simp [addD, h.hD t ht, e]
theorem slI.nS (h : slI to ts l n D sn seen es aes ac Y os) {c : Nat} (hes : okE es c) {e : En} (he : e ∈ es) {u : Tm} (hk : e.k = u.n) : ∀ e' ∈ es, e'.b ∈ seen.push e.b ↔ e'.k ∈ u.n :: sn := by
  intro e' he'
  rw [Array.mem_push, List.mem_cons, h.hs e' he', en_eq hes he he', hk]
  exact Or.comm
theorem slI.due (h : slI to ts l n D sn seen es aes ac Y os) (hn : (ts.map (·.n)).Nodup) {c : Nat} (hes : okE es c) {e : En} (he : e ∈ es) {u : Tm} (hk : e.k = u.n) (hu : u ∈ ts) (hDu : D u = false) (hq : tmQ u = l * 64 + n) (hd : u.a ≤ to) :
    slI to ts l n (addD D u) (u.n :: sn) (seen.push e.b) (delI es u.n) (delI aes u.n) ac (upF Y (tmQ u) (dlX (Y (tmQ u)) u.n)) (os ++ [tmr u]) ∧ movT to (addD D u) ts = movT to D ts := by
  refine ⟨⟨h.nD hn hu hq, ?_, fun e' he' => ?_, ?_, ?_⟩, ?_⟩
  · rw [cur_due hn hu hd]
    exact h.ok.drop (cur_mem hu hDu)
  · exact h.nS hes he hk e' (mem_del hes he').1
  · have := filt_add (fun u => decide (u.a ≤ to)) hn hu hDu (by simpa using hd)
    refine (List.perm_append_comm.trans ?_).trans (this.map tmr).symm
    exact h.hp.cons _
  · have := count_add hu hDu
    have := h.hc
    rw [Array.size_push]; omega
  · refine filt_not (movB to) hn hu ?_
    have : ¬ to < u.a := by omega
    simp [movB, this]
theorem slI.out_same (h : slI to ts l n D sn seen es aes ac Y os) (hn : (ts.map (·.n)).Nodup) {u : Tm} (hu : u ∈ ts) (hd : to < u.a) : os.Perm ((outT to (addD D u) ts).map tmr) := by
  have : outT to (addD D u) ts = outT to D ts := filt_not (fun u => decide (u.a ≤ to)) hn hu (by simp; omega)
  rw [this]; exact h.hp
theorem slI.mov (h : slI to ts l n D sn seen es aes ac Y os) (hn : (ts.map (·.n)).Nodup) {c : Nat} (hes : okE es c) {e : En} (he : e ∈ es) {u : Tm} (hk : e.k = u.n) (hu : u ∈ ts) (hDu : D u = false) (hq : tmQ u = l * 64 + n) (hd : to < u.a) (hne : tmQ (hgT u to) ≠ tmQ u) (hlv : (lvF u.a to).1 ≠ u.l) (m : Nat) :
    slI to ts l n (addD D u) (u.n :: sn) (seen.push e.b) (delI es u.n) aes ac (upF (upF Y (tmQ u) (dlX (Y (tmQ u)) u.n)) (tmQ (hgT u to)) (hgX m (Y (tmQ (hgT u to))) u)) os ∧ (movT to (addD D u) ts).length = (movT to D ts).length + 1 := by
  refine ⟨⟨h.nD hn hu hq, ?_, fun e' he' => ?_, h.out_same hn hu hd, ?_⟩, ?_⟩
  · rw [cur_mov hn hu hd]
    exact h.ok.move (t' := hgT u to) (cur_mem hu hDu) rfl rfl (hgT_ok u to) hne m
  · exact h.nS hes he hk e' (mem_del hes he').1
  · have := count_add hu hDu
    have := h.hc
    rw [Array.size_push]; omega
  · have := (filt_add (movB to) hn hu hDu (by simp [movB, hd, hlv])).length_eq
    rw [List.length_cons] at this
    exact this
theorem slI.same (h : slI to ts l n D sn seen es aes ac Y os) (hn : (ts.map (·.n)).Nodup) {c : Nat} (hes : okE es c) {e : En} (he : e ∈ es) {u : Tm} (hk : e.k = u.n) (hu : u ∈ ts) (hDu : D u = false) (hq : tmQ u = l * 64 + n) (hd : to < u.a) (hg : hgT u to = u) :
    slI to ts l n (addD D u) (u.n :: sn) (seen.push e.b) es aes ac Y os ∧ movT to (addD D u) ts = movT to D ts ∧ curT to (addD D u) ts = curT to D ts := by
  have hcur := cur_same (D := D) hn hu hd hg
  refine ⟨⟨h.nD hn hu hq, by rw [hcur]; exact h.ok, fun e' he' => h.nS hes he hk e' he', h.out_same hn hu hd, ?_⟩, ?_, hcur⟩
  · have := count_add hu hDu
    have := h.hc
    rw [Array.size_push]; omega
  · refine filt_not (movB to) hn hu ?_
    have : (lvF u.a to).1 = u.l := congrArg Tm.l hg
    simp [movB, this]
theorem slI.done (h : slI to ts l n D sn seen es aes ac Y os) {now : Nat} (hp : plOK now ts) (hn : n < 64) (hq : l * 64 + n < 257) (hY : slE (Y (l * 64 + n)) = es) (hall : ∀ e ∈ es, e.b ∈ seen) : ∀ t ∈ ts, D t = vD l (n + 1) t := by
  refine next_place hp hn h.hD fun t ht htq => ?_
  cases hD : D t with
  | true => rfl
  | false =>
    have hc := cur_mem (to := to) ht hD
    have h1 := ((h.ok.sl _ hq).mem t.n (tp t)).2 ⟨t, hc, rfl, htq, rfl⟩
    rw [hY] at h1
    obtain ⟨e, he, hk, _⟩ := getI_mem h1
    have := (h.hs e he).1 (hall e he)
    have hd := h.hD t ht
    rw [hk] at this
    rw [hD] at hd
    simp [htq, this] at hd
end
/-- what Advance has so far -/
def advA (p to mv0 : Nat) (ts : List Tm) (D : Tm → Bool) (v : Value) : Asn := fun h => ∃ os : List (Int × Int), os.Perm ((outT to D ts).map tmr) ∧ (outs v os * whl p to (mv0 + (movT to D ts).length) (curT to D ts)) h
theorem advopen {w0 w : World} {A : Asn} {p to mv0 : Nat} {ts : List Tm} {D : Tm → Bool} {v : Value} (s : St w0 (A * advA p to mv0 ts D v) w) : ∃ os, os.Perm ((outT to D ts).map tmr) ∧ St w0 (A * outs v os * whl p to (mv0 + (movT to D ts).length) (curT to D ts)) w := by
  obtain ⟨g, h1, h2, h3, d, e, a, os, hp, b⟩ := s.holds
  have s' : St w0 (A * (outs v os * whl p to (mv0 + (movT to D ts).length) (curT to D ts))) w := s.of ⟨g, h1, h2, h3, d, e, a, b⟩
  exact ⟨os, hp, s'.to (by ac_rfl)⟩
theorem advclose {w0 w : World} {A : Asn} {p to mv0 : Nat} {ts : List Tm} {D : Tm → Bool} {v : Value} {os : List (Int × Int)} (hp : os.Perm ((outT to D ts).map tmr)) (s : St w0 (A * outs v os * whl p to (mv0 + (movT to D ts).length) (curT to D ts)) w) : St w0 (A * advA p to mv0 ts D v) w := by
  have s' : St w0 (A * (outs v os * whl p to (mv0 + (movT to D ts).length) (curT to D ts))) w := s.to (by ac_rfl)
  exact s'.mono (sep_mono (fun _ h => h) fun g hg => ⟨os, hp, hg⟩)
theorem adv_congr {p to mv0 : Nat} {ts : List Tm} {D D' : Tm → Bool} {v : Value} (h : ∀ t ∈ ts, D t = D' t) : advA p to mv0 ts D v = advA p to mv0 ts D' v := by
  unfold advA
  rw [cur_congr h, out_congr h, mov_congr h]
end Go.HL.Wh
