/-
  Goods: Kinds. Conditions: items that stand right.
-/
import Derived.Test.YtfcgookobpjdgaaGdC
namespace Go.HL.Gd
open Go.HL Go.Proofs
set_option maxRecDepth 4000
set_option linter.unusedSimpArgs false
set_option linter.unusedVariables false
/-- items that stand right -/
structure WF (its : List It) : Prop where
  num : ∀ (i : Nat) (h : i < its.length), its[i].num = i + 1
  kind : ∀ x ∈ its, 0 ≤ x.kind ∧ x.kind < 16
def ofP (a : Int) (x : It) : Bool := !decide (0 < x.con) && decide (x.acc = a)
def tally (l : List It) : List Int := (List.range 16).map fun (k : Nat) => ((l.filter fun x => decide (x.kind = (k : Int))).length : Int)
theorem tally_len (l : List It) : (tally l).length = 16 := by simp [tally]
theorem tally_at (l : List It) (k : Nat) (h : k < 16) : (tally l)[k]? = some ((l.filter fun x => decide (x.kind = (k : Int))).length : Int) := by
  simp [tally, h]
theorem tally_snoc (l : List It) (x : It) (k : Nat) (hk : k < 16) (hx : x.kind = (k : Int)) : tally (l ++ [x]) = (tally l).set k (((l.filter fun x => decide (x.kind = (k : Int))).length : Int) + 1) := by
  apply List.ext_getElem?
  intro j
  by_cases hj : j < 16
  · rw [tally_at _ _ hj]
    by_cases e : j = k
    · subst e
      rw [List.getElem?_set_self (by rw [tally_len]; exact hj)]
      simp [hx]
    · rw [List.getElem?_set_ne (by omega), tally_at _ _ hj]
      have : ¬ x.kind = (j : Int) := by omega
      simp [this]
  · rw [List.getElem?_eq_none (by rw [tally_len]; omega), List.getElem?_eq_none (by rw [List.length_set, tally_len]; omega)]
theorem Kinds_spec (p : Nat) (lim : Int) (its : List It) (a : Int) (w0 w : World) (A : Asn) (hwf : WF its) (hl : its.length ≤ 1048576) (s : St w0 (A * gds p lim its) w) :
    CallW Try.prog 31 [.pointer (some ⟨p, 0, none⟩), .int .i64 a]
      (fun r w' => r = .agg (ints (tally (its.filter (ofP a)))).toArray ∧ St w0 (A * gds p lim its) w') w := by
  refine callW_of_lift l31_ok (by simp [l31]) ?_
  simp [l31]
  refine eff_new s ?_
  intro b w1 s1
  simp
  refine eff_call ((Of_spec p lim its a w0 w1 (A * pt b _) hl (s1.to (by ac_rfl))).mono ?_)
  intro r w2 s2
  obtain ⟨ra, rcap, rfl, _⟩ := s2.own_val
  simp
  have hL : ∀ (i : Nat) (h : i < (its.filter (ofP a)).length), ∃ (k : Nat) (hk : k < its.length), (its.filter (ofP a))[i] = its[k] ∧ (its.filter (ofP a))[i].num = k + 1 := by
    intro i h
    have hm := (List.mem_filter.1 (List.getElem_mem h)).1
    obtain ⟨k, hk, e⟩ := List.getElem_of_mem hm
    exact ⟨k, hk, e.symm, by rw [← e]; exact hwf.num k hk⟩
  have hof : ofF its a = (its.filter (ofP a)).map It.num := rfl
  have hlen : (ofF its a).length = (its.filter (ofP a)).length := by rw [hof, List.length_map]
  have hle := List.length_filter_le (ofP a) its
  refine loopI (fun env w' => ∃ (i : Nat) (o : Value), env = [.pointer (some ⟨p, 0, none⟩), .int .i64 a, .pointer (some ⟨b, 0, none⟩), o, .slice ra (ofF its a).length rcap, .int .i64 (ofF its a).length, .int .i64 i] ∧ i ≤ (ofF its a).length ∧
      St w0 (A * gds p lim its * own 3 1 (.slice ra (ofF its a).length rcap) (ofF its a).length (ints (ofF its a)) * pt b (.cells (ints (tally ((its.filter (ofP a)).take i))).toArray 74 (0, 0))) w')
    (fun env _ => (ofF its a).length - slotN env 6) ⟨0, _, rfl, by omega, ?_⟩ ?_
  · have e : (ints (tally [])).toArray = #[.int .i64 0, .int .i64 0, .int .i64 0, .int .i64 0, .int .i64 0, .int .i64 0, .int .i64 0, .int .i64 0, .int .i64 0, .int .i64 0, .int .i64 0, .int .i64 0, .int .i64 0, .int .i64 0, .int .i64 0, .int .i64 0] := by rfl
    refine s2.to ?_
    simp only [List.take_zero, cells_agg, e]
    ac_rfl
  rintro LQ env w' ⟨i, o, rfl, hi, s'⟩ hN hE hR
  simp
  refine cndI (fun h => ?_) (fun h => ?_)
  · simp at h
    have h' : i < (its.filter (ofP a)).length := by omega
    obtain ⟨k, hk, ek, nk⟩ := hL i h'
    obtain ⟨g, cap', hv, _, hc⟩ := s'.swap.own_at (by omega)
    cases hv
    simp [h]
    refine eff_ldc (v := .int .i64 ((k : Int) + 1)) (hc i _ (by rw [hof]; simp [ints, h', nk])) ?_
    simp
    obtain ⟨v, s3⟩ := gopen (s'.to (B := A * own 3 1 (.slice (some ⟨g, 0, none⟩) (ofF its a).length rcap) (ofF its a).length (ints (ofF its a)) * pt b (.cells (ints (tally ((its.filter (ofP a)).take i))).toArray 74 (0, 0)) * gds p lim its) (by ac_rfl))
    obtain ⟨g2, cap2, rfl, _, hc2⟩ := s3.own_at (by omega)
    refine eff_ldc (v := .slice (some ⟨g2, 0, none⟩) its.length cap2) (by rw [cell_of s3.swap.look]; rfl) ?_
    have hw : IntKind.i64.wrap (k : Int) = k := wrap64 (by omega) (by omega)
    simp [hw, hk]
    refine eff_ldc (v := .int .i64 its[k].kind) (hc2 _ _ (flat_at hk 1 _ rfl)) ?_
    obtain ⟨k0, k1⟩ := hwf.kind its[k] (List.getElem_mem hk)
    obtain ⟨n, hn⟩ : ∃ n : Nat, its[k].kind = n := ⟨its[k].kind.toNat, by omega⟩
    have hn16 : n < 16 := by omega
    have hn16i : (n : Int) < 16 := by omega
    rw [hn]
    simp [hn16i]
    have hcount := List.length_filter_le (fun x : It => decide (x.kind = (n : Int))) ((its.filter (ofP a)).take i)
    simp only [List.length_take] at hcount
    refine eff_ldc (a := ⟨b, n, none⟩) (v := .int .i64 ((((its.filter (ofP a)).take i).filter fun x => decide (x.kind = (n : Int))).length : Int)) (by rw [cell_of s3.drop.drop.look]; simp [ints, tally_at _ _ hn16]) ?_
    simp [hn16i]
    have hww : IntKind.i64.wrap (((((its.filter (ofP a)).take i).filter fun x => decide (x.kind = (n : Int))).length : Int) + 1) = ((((its.filter (ofP a)).take i).filter fun x => decide (x.kind = (n : Int))).length : Int) + 1 := wrap64 (by omega) (by omega)
    rw [hww]
    have s4 := s3.to (B := A * own 3 1 (.slice (some ⟨g, 0, none⟩) (ofF its a).length rcap) (ofF its a).length (ints (ofF its a)) * pt p (.cells #[.int .i64 lim, .slice (some ⟨g2, 0, none⟩) its.length cap2] 71 (0, 0)) * own 73 4 (.slice (some ⟨g2, 0, none⟩) its.length cap2) its.length (flat its) * pt b (.cells (ints (tally ((its.filter (ofP a)).take i))).toArray 74 (0, 0))) (by ac_rfl)
    refine eff_st1 s4 rfl (by simp [ints, tally_len, hn16]) ?_
    intro w4 s5
    simp
    try simp (disch := omega) only [wrap64]
    refine hN _ _ ⟨i + 1, _, by simp; exact rfl, by omega, ?_⟩ (by simp [slotN]; omega)
    have ht : (its.filter (ofP a)).take (i + 1) = (its.filter (ofP a)).take i ++ [its[k]] := by rw [List.take_succ_eq_append_getElem h', ek]
    rw [ht, tally_snoc _ _ n hn16 hn]
    refine (gclose (A := A * own 3 1 (.slice (some ⟨g, 0, none⟩) (ofF its a).length rcap) (ofF its a).length (ints (ofF its a)) * pt b (.cells (ints ((tally ((its.filter (ofP a)).take i)).set n (((((its.filter (ofP a)).take i).filter fun x => decide (x.kind = (n : Int))).length : Int) + 1))).toArray 74 (0, 0))) (lim := lim) (p := p) (its := its) (v := .slice (some ⟨g2, 0, none⟩) its.length cap2) (s5.to ?_)).to (by ac_rfl)
    simp only [ints, List.setIfInBounds_toArray, List.map_set]
    ac_rfl
  · simp at h
    simp
    refine hE _ _ _ ?_
    simp
    have : i = (its.filter (ofP a)).length := by omega
    subst this
    rw [List.take_length] at s'
    refine eff_ldcs (vs := ints (tally (its.filter (ofP a)))) (off := 0) s'.row_cells (by simp [ints, tally_len]) ?_
    simp
    refine eff_stA (vs := ints (tally (its.filter (ofP a)))) s' (by simp) (by simp [ints, tally_len]) (ints_one _) (by simp [ints, tally_len]) ?_
    intro w4 s4
    simp
    have hz : (ints (tally (its.filter (ofP a)))).drop 16 = [] := List.drop_of_length_le (by simp [ints, tally_len])
    have s5 : St w0 (A * gds p lim its * own 3 1 (.slice ra (ofF its a).length rcap) (ofF its a).length (ints (ofF its a)) * pt b (.cells (ints (tally (its.filter (ofP a)))).toArray 74 (0, 0))) w4 := by simpa [hz] using s4
    refine rv_cellA (vs := ints (tally (its.filter (ofP a)))) rfl s5.row_cells (by simp [ints, tally_len]) ?_
    simp
    exact s5.drop.drop
end Go.HL.Gd
