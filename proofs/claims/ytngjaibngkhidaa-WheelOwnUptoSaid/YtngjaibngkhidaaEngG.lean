/-
  The engine, seventh part: append that keeps the old slice in sight; products of assertions by index. No condition.
-/
import Derived.Test.YtngjaibngkhidaaEngF
namespace Go.HL
set_option linter.unusedSimpArgs false
set_option linter.unusedVariables false
section
variable {P : Program} {K : Value → World → Prop} {w w0 : World} {F : Asn}
theorem eff_app2 {t ty e size bytes : Nat} {z v : Value} {n m c : Nat} {xs news : List Value} {a : Addr} (s : St w0 (F * own e size v n xs) w)
    (hl : news.length = m * size) (hx : ∀ j u, news[j]? = some u → w.cell? (a.add j) = some u) (h1 : ∀ u ∈ news, u.oneCell' = true)
    (hsz : 0 < size) (hz : z.cells.size = size) (hm : 0 < m) (hmax : n + m ≤ maxLen) (hb : (n + m) * bytes ≤ 140737488355328)
    (hin : ∀ g cap w', v = .slice (some ⟨g, 0, none⟩) n cap → St w0 (F * own e size (.slice (some ⟨g, 0, none⟩) (n + m) cap) (n + m) (xs ++ news)) w' → K (.slice (some ⟨g, 0, none⟩) (n + m) cap) w')
    (hnew : ∀ v' w', St w0 (F * own e size v n xs * own e size v' (n + m) (xs ++ news)) w' → K v' w') : EffW P (.app t ty e size bytes z) [v, .slice (some a) m c] K w := by
  rintro ⟨ht, i, hi, hiz, rfl, rfl⟩
  have hsmall : n + m ≤ 9223372036854775807 := by simp only [maxLen] at hmax; omega
  have grown : ∀ old, old < n + m → xs.length = n * i.size →
      St w0 (F * own e i.size v n xs * HL.own e i.size (.slice (some ⟨w.heap.size, 0, none⟩) (n + m) (grownCap w (n + m) old e)) (n + m) (xs ++ news))
        (w.drew.alloc (.cells (xs.toArray ++ news.toArray ++ Builtin.zeroCells z.cells (grownCap w (n + m) old e - (n + m))) e)) := by
    intro old ho hxl
    have hge := grownCap_ge w (n + m) old e
    refine St.own_mk (s.drew.alloc (by rfl)) hge (grownCap_le_maxLen w (n + m) old e hmax) ?_ ?_
    · simp only [Array.size_append, List.size_toArray, size_zeroCells, hz, hxl, hl, ← Nat.add_mul]
      congr 1; omega
    · simp only [Array.toList_append, List.append_assoc]
      rw [← List.append_assoc, Nat.add_mul, ← hxl, ← hl, ← List.length_append]
      exact List.take_left
  obtain ⟨hxl, hc⟩ := s.own
  rcases hc with ⟨rfl, rfl, rfl, s'⟩ | ⟨g, cap, cur, rfl, hnc, hcm, hcs, htake, s'⟩
  · have hr := run_append_nil (P := P) w t ty e i z ht hi hiz a m c news hl hx (by omega) (by omega) (by have hb := hb; simp only [Nat.zero_add] at hb; omega)
    have hgr := grown 0 (by omega) (by simp)
    simp only [Nat.zero_add, List.nil_append, Array.empty_append] at hgr hnew
    exact upon_val hr (hnew _ _ hgr)
  · by_cases hroom : n + m ≤ cap
    · have hfit : n * i.size + news.length ≤ cur.size := by rw [hl, ← Nat.add_mul]; exact Nat.le_trans (Nat.mul_le_mul_right _ hroom) hcs
      have hr := run_append_room (P := P) w t ty e i ht hi g n cap cur s'.look a m c news hl hx h1 hroom hfit
      refine upon_val hr (hin _ _ _ rfl ((splice_turn (off := n * i.size) (vs := news) s').own_mk' hroom hcm ?_ ?_))
      · simp only [List.size_toArray, List.length_append, List.length_take, List.length_drop, Array.length_toList]
        omega
      · rw [htake, Nat.add_mul, ← hxl, ← hl, ← List.length_append]
        exact List.take_left
    · have holds : ∀ j u, xs[j]? = some u → w.cell? ((⟨g, 0, none⟩ : Addr).add j) = some u := by
        intro j u hu
        rcases s.own_cell with ⟨rfl, h⟩ | ⟨g', cap', h, _, hh⟩
        · simp at hu
        · cases h; rw [addr_add, Nat.zero_add]; exact hh j u hu
      have hr := run_append_grow (P := P) w t ty e i z ht hi hiz ⟨g, 0, none⟩ n cap xs hxl holds a m c news hl hx (by omega) (by omega) (growslice_fits (by omega) hb)
      exact upon_val hr (hnew _ _ (grown cap (by omega) hxl))
/-- a slice and what it was gone on with: the same memory, or two rows -/
def grw (e size : Nat) (v v' : Value) (n m : Nat) (xs ys : List Value) : Asn := fun h =>
  (∃ g cap, v = .slice (some ⟨g, 0, none⟩) n cap ∧ v' = .slice (some ⟨g, 0, none⟩) (n + m) cap ∧ xs.length = n * size ∧ own e size v' (n + m) (xs ++ ys) h) ∨
  (own e size v n xs * own e size v' (n + m) (xs ++ ys)) h
theorem St.grw {e size : Nat} {v v' : Value} {n m : Nat} {xs ys : List Value} (s : St w0 (F * HL.grw e size v v' n m xs ys) w) :
    (∃ g cap, v = .slice (some ⟨g, 0, none⟩) n cap ∧ v' = .slice (some ⟨g, 0, none⟩) (n + m) cap ∧ xs.length = n * size ∧ St w0 (F * HL.own e size v' (n + m) (xs ++ ys)) w) ∨
    St w0 (F * (HL.own e size v n xs * HL.own e size v' (n + m) (xs ++ ys))) w := by
  obtain ⟨g, h1, h2, h3, d, e', a, b⟩ := s.holds
  rcases b with ⟨g', cap, k1, k2, k3, k4⟩ | k
  · exact .inl ⟨g', cap, k1, k2, k3, s.of ⟨g, h1, h2, h3, d, e', a, k4⟩⟩
  · exact .inr (s.of ⟨g, h1, h2, h3, d, e', a, k⟩)
theorem grw_start {e size : Nat} {v : Value} {n : Nat} {xs : List Value} (s : St w0 (F * own e size v n xs) w) : St w0 (F * HL.grw e size v v n 0 xs []) w := by
  rcases s.own with ⟨hl, ⟨rfl, rfl, rfl, s'⟩ | ⟨g, cap, cur, rfl, h1, h2, h3, h4, s'⟩⟩
  · refine (s'.own_nil e size).own_nil e size |>.to (by ac_rfl) |>.mono (sep_mono (fun _ h => h) fun h hh => .inr (by simpa using hh))
  · exact s.mono (sep_mono (fun _ h => h) fun h hh => .inl ⟨g, cap, rfl, rfl, hl, by simpa using hh⟩)
theorem own_less {e size g n m cap : Nat} {xs ys : List Value} (hl : xs.length = n * size) {h : _} (hh : own e size (.slice (some ⟨g, 0, none⟩) (n + m) cap) (n + m) (xs ++ ys) h) : own e size (.slice (some ⟨g, 0, none⟩) n cap) n xs h := by
  refine ⟨hl, .inr ?_⟩
  rcases hh.2 with ⟨h1, _⟩ | ⟨g', cap', cur, h1, h2, h3, h4, h5, h6⟩
  · cases h1
  · cases h1
    refine ⟨g, cap, cur, rfl, by omega, h3, h4, ?_, h6⟩
    have : (cur.toList.take ((n + m) * size)).take (n * size) = (xs ++ ys).take (n * size) := by rw [h5]
    rw [List.take_take, Nat.min_eq_left (Nat.mul_le_mul_right _ (by omega)), ← hl, List.take_left] at this
    rw [← hl]; exact this
theorem eff_appG {t ty e size bytes : Nat} {z v v' : Value} {n m k c : Nat} {xs ys news : List Value} {a : Addr} (s : St w0 (F * HL.grw e size v v' n m xs ys) w)
    (hl : news.length = k * size) (hx : ∀ j u, news[j]? = some u → w.cell? (a.add j) = some u) (h1 : ∀ u ∈ news, u.oneCell' = true)
    (hsz : 0 < size) (hz : z.cells.size = size) (hm : 0 < k) (hmax : n + m + k ≤ maxLen) (hb : (n + m + k) * bytes ≤ 140737488355328)
    (hk : ∀ v'' w', St w0 (F * HL.grw e size v v'' n (m + k) xs (ys ++ news)) w' → K v'' w') : EffW P (.app t ty e size bytes z) [v', .slice (some a) k c] K w := by
  rcases s.grw with ⟨g, cap, rfl, rfl, hlx, s'⟩ | s'
  · refine eff_app2 s' hl hx h1 hsz hz hm hmax hb (fun g' cap' w' h s2 => ?_) (fun v'' w' s2 => ?_)
    · cases h
      rw [Nat.add_assoc] at s2 ⊢
      rw [List.append_assoc] at s2
      exact hk _ _ (s2.mono (sep_mono (fun _ h => h) fun h hh => .inl ⟨g, cap, rfl, rfl, hlx, hh⟩))
    · rw [Nat.add_assoc, List.append_assoc] at s2
      have s3 : St w0 (F * (own e size (.slice (some ⟨g, 0, none⟩) (n + m) cap) (n + m) (xs ++ ys) * own e size v'' (n + (m + k)) (xs ++ (ys ++ news)))) w' := s2.to (by ac_rfl)
      exact hk _ _ (s3.mono (sep_mono (fun _ h => h) fun h hh => .inr (sep_mono (fun h hh => own_less hlx hh) (fun _ h => h) h hh)))
  · have s3 : St w0 (F * own e size v n xs * own e size v' (n + m) (xs ++ ys)) w := s'.to (by ac_rfl)
    refine eff_app s3 hl hx h1 hsz hz hmax hb (fun v'' w' s2 => ?_)
    rw [Nat.add_assoc, List.append_assoc] at s2
    have s4 : St w0 (F * (own e size v n xs * own e size v'' (n + (m + k)) (xs ++ (ys ++ news)))) w' := s2.to (by ac_rfl)
    exact hk _ _ (s4.mono (sep_mono (fun _ h => h) fun h hh => .inr hh))
theorem grw_old {e size : Nat} {v v' : Value} {n m : Nat} {xs ys : List Value} (s : St w0 (F * HL.grw e size v v' n m xs ys) w) : ∃ X, St w0 (X * own e size v n xs) w := by
  rcases s.grw with ⟨g, cap, rfl, rfl, hlx, s'⟩ | s'
  · exact ⟨F, s'.mono (sep_mono (fun _ h => h) fun h hh => own_less hlx hh)⟩
  · exact ⟨F * own e size v' (n + m) (xs ++ ys), s'.to (by ac_rfl)⟩
theorem grw_new {e size : Nat} {v v' : Value} {n m : Nat} {xs ys : List Value} (s : St w0 (F * HL.grw e size v v' n m xs ys) w) : ∃ X, St w0 (X * own e size v' (n + m) (xs ++ ys)) w := by
  rcases s.grw with ⟨g, cap, rfl, rfl, hlx, s'⟩ | s'
  · exact ⟨F, s'⟩
  · exact ⟨F * own e size v n xs, s'.to (by ac_rfl)⟩
end
/-- a product by index -/
def prodA (f : Nat → Asn) : Nat → Asn
  | 0 => emp
  | n + 1 => prodA f n * f n
theorem prodA_congr {f g : Nat → Asn} : ∀ {n : Nat}, (∀ j, j < n → f j = g j) → prodA f n = prodA g n
  | 0, _ => rfl
  | n + 1, h => by
    show prodA f n * f n = prodA g n * g n
    rw [prodA_congr fun j hj => h j (by omega), h n (by omega)]
theorem emp_sep (A : Asn) : emp * A = A := by
  have : emp * A = A * emp := by ac_rfl
  rw [this, sep_emp]
theorem prodA_at {f : Nat → Asn} {i : Nat} : ∀ {n : Nat}, i < n → prodA f n = prodA (fun j => if j = i then emp else f j) n * f i
  | n + 1, h => by
    show prodA f n * f n = prodA (fun j => if j = i then emp else f j) n * (if n = i then emp else f n) * f i
    by_cases e : n = i
    · subst e
      rw [if_pos rfl, sep_emp, prodA_congr (f := fun j => if j = n then emp else f j) (g := f) fun j hj => if_neg (by omega)]
    · rw [if_neg e, prodA_at (f := f) (by omega : i < n)]; ac_rfl
section
variable {α : Type}
def bigA (F : Nat → α → Asn) (Y : Nat → α) (n : Nat) : Asn := prodA (fun j => F j (Y j)) n
def bigH (F : Nat → α → Asn) (Y : Nat → α) (i n : Nat) : Asn := prodA (fun j => if j = i then emp else F j (Y j)) n
def upF (Y : Nat → α) (i : Nat) (y : α) : Nat → α := fun j => if j = i then y else Y j
theorem big_at {F : Nat → α → Asn} {Y : Nat → α} {i n : Nat} (h : i < n) : bigA F Y n = bigH F Y i n * F i (Y i) := prodA_at h
theorem big_set {F : Nat → α → Asn} {Y : Nat → α} {i n : Nat} (h : i < n) (y : α) : bigA F (upF Y i y) n = bigH F Y i n * F i y := by
  rw [big_at h]
  have e : upF Y i y i = y := if_pos rfl
  rw [e]
  congr 1
  exact prodA_congr fun j hj => by
    by_cases e : j = i
    · rw [if_pos e, if_pos e]
    · rw [if_neg e, if_neg e]; simp only [upF, if_neg e]
theorem upF_at (Y : Nat → α) (i : Nat) (y : α) : upF Y i y i = y := if_pos rfl
theorem upF_ne (Y : Nat → α) {i j : Nat} (y : α) (h : j ≠ i) : upF Y i y j = Y j := if_neg h
theorem big_congr {β : Type} {F : Nat → α → Asn} {G : Nat → β → Asn} {Y : Nat → α} {Z : Nat → β} {n : Nat} (h : ∀ j, j < n → F j (Y j) = G j (Z j)) : bigA F Y n = bigA G Z n := prodA_congr h
end
end Go.HL
