/-
  Look of bazaarref04 and of name. Conditions: texts within the bound.
-/
import Derived.Test.YtliofpihaemglaaNmM
namespace Go.HL.Nm
open Go.HL Go.Proofs
set_option maxRecDepth 4000
set_option linter.unusedSimpArgs false
set_option linter.unusedVariables false
/-- the first i turned -/
def half (f : Int → Int) : Nat → List Int → List Int
  | _, [] => []
  | 0, a :: l => a :: l
  | i + 1, a :: l => f a :: half f i l
theorem half_zero (f : Int → Int) (l : List Int) : half f 0 l = l := by cases l <;> rfl
theorem half_all (f : Int → Int) : ∀ l : List Int, half f l.length l = l.map f
  | [] => rfl
  | a :: l => by simp [half, half_all f l]
theorem half_len (f : Int → Int) : ∀ (i : Nat) (l : List Int), (half f i l).length = l.length
  | i, [] => by cases i <;> rfl
  | 0, a :: l => rfl
  | i + 1, a :: l => by simp [half, half_len f i l]
theorem half_set (f : Int → Int) : ∀ (i : Nat) (l : List Int) (h : i < l.length), (half f i l).set i (f l[i]) = half f (i + 1) l
  | i, [], h => by simp at h
  | 0, a :: l, _ => by simp [half, half_zero]
  | i + 1, a :: l, h => by
    have := half_set f i l (by simpa using h)
    simp [half, this]
theorem half_at (f : Int → Int) : ∀ (i : Nat) (l : List Int) (h : i < l.length), (half f i l)[i]? = some l[i]
  | i, [], h => by simp at h
  | 0, a :: l, _ => by simp [half]
  | i + 1, a :: l, h => by
    have := half_at f i l (by simpa using h)
    simp [half, this]
theorem ints_set (l : List Int) (i : Nat) (x : Int) : (ints l).set i (.int .i64 x) = ints (l.set i x) := by simp [ints, List.map_set]
theorem ints32_set (l : List Int) (i : Nat) (x : Int) : (ints32 l).set i (.int .i32 x) = ints32 (l.set i x) := by simp [ints32, List.map_set]
theorem ints_at {l : List Int} {i : Nat} {x : Int} (h : l[i]? = some x) : (ints l)[i]? = some (.int .i64 x) := by simp [ints, h]
theorem ints32_at {l : List Int} {i : Nat} {x : Int} (h : l[i]? = some x) : (ints32 l)[i]? = some (.int .i32 x) := by simp [ints32, h]
theorem pairF_two (a b : Int) (r : List Int) : pairF (a :: b :: r) = if a = 114 ∧ b = 110 then 109 :: pairF r else if a = 118 ∧ b = 118 then 119 :: pairF r else a :: pairF (b :: r) := by
  by_cases h1 : a = 114 ∧ b = 110
  · obtain ⟨rfl, rfl⟩ := h1; simp [pairF]
  · by_cases h2 : a = 118 ∧ b = 118
    · obtain ⟨rfl, rfl⟩ := h2; simp [pairF]
    · rw [if_neg h1, if_neg h2, pairF]
      · intro r' e1 e2; cases e2; exact h1 ⟨e1, rfl⟩
      · intro r' e1 e2; cases e2; exact h2 ⟨e1, rfl⟩
theorem pairF_one (a : Int) : pairF [a] = [a] := by
  rw [pairF]
  · rfl
  · intro r' e1 e2; cases e2
  · intro r' e1 e2; cases e2
theorem splice1 (l : List Value) (k : Nat) (x : Value) (h : k < l.length) : l.take (k * 1) ++ [x] ++ l.drop (k * 1 + [x].length) = l.set k x := by
  rw [Nat.mul_one, List.set_eq_take_append_cons_drop, if_pos h]; simp
theorem take_set1 (l : List Value) (d : List Int) (k : Nat) (x : Int) (h : l.take d.length = ints32 d) (hk : d.length < l.length) : (l.set d.length (.int .i32 x)).take (d ++ [x]).length = ints32 (d ++ [x]) := by
  rw [List.length_append, List.length_singleton, List.take_succ_eq_append_getElem (by simpa using hk), List.take_set_of_le (Nat.le_refl _), h]
  simp [ints32]
theorem rLook_spec (l : List UInt8) (w0 w : World) (A : Asn) (hl : l.length ≤ 1048576) (s : St w0 A w) :
    CallW Try.prog 86 [.string (mk l)] (fun r w' => r = .string (mk (encAll (lookF l))) ∧ St w0 A w') w := by
  have hfl := folded_len l
  have hfo := folded_ok l
  unfold lookF
  refine callW_of_lift l86_ok (by simp [l86]) ?_
  simp [l86]
  refine eff_call ((rfolded_spec l w0 w A hl s).mono ?_)
  intro v w1 s1
  generalize foldedF l = us at *
  obtain ⟨a1, c1, rfl, hc1, hn1⟩ := s1.own_val
  simp
  refine loopI (fun env w' => ∃ (i : Nat), env = [.string (mk l), .string (mk []), .slice a1 us.length c1, .int .i64 i, undef, undef, undef] ∧ i ≤ us.length ∧
      St w0 (A * own 3 1 (.slice a1 us.length c1) us.length (ints (half looksF i us))) w')
    (fun env _ => us.length - slotN env 3) ⟨0, rfl, by omega, by rw [half_zero]; exact s1⟩ ?_
  rintro LQ env w' ⟨i, rfl, hi, s'⟩ hN hE hR
  simp
  refine cndI (fun h => ?_) (fun h => ?_)
  · simp at h
    obtain ⟨g1, c1', e1, _, hcell⟩ := s'.own_at (by omega)
    cases e1
    simp
    refine ⟨h, eff_ldc (hcell i _ (ints_at (half_at looksF i us h))) ?_⟩
    simp
    refine ⟨h, ?_⟩
    refine eff_stO s' h rfl ?_
    intro w2 s2
    rw [ints_set, half_set looksF i us h] at s2
    simp
    try simp (disch := omega) only [wrap64]
    exact hN _ _ ⟨i + 1, by simp, h, s2⟩ (by simp [slotN]; omega)
  simp at h
  simp
  refine hE _ _ _ ?_
  simp
  have : i = us.length := by omega
  subst this
  rw [half_all] at s'
  clear hN hE hR s1 hn1 s
  have hok : ∀ u ∈ us.map looksF, okU u := by
    intro u hu
    obtain ⟨x, hx, rfl⟩ := List.mem_map.1 hu
    exact okU_looksF (hfo x hx)
  have hml : (us.map looksF).length = us.length := by simp
  generalize us.map looksF = ls at *
  refine loopI (fun env w' => ∃ (i : Nat) (done : List Int) (v x : Value), env = [.string (mk l), .string (mk []), .slice a1 us.length c1, .int .i64 us.length, v, .int .i64 i, x] ∧ i ≤ us.length ∧ done.length ≤ i ∧ (∀ u ∈ done, okU u) ∧
      pairF ls = done ++ pairF (ls.drop i) ∧
      St w0 (A * own 3 1 (.slice a1 us.length c1) us.length (ints ls) * own 3 1 v done.length (ints done)) w')
    (fun env _ => us.length - slotN env 5) ⟨0, [], _, _, rfl, by omega, by simp, by simp, by simp, by simpa [ints] using s'.own_nil 3 1⟩ ?_
  rintro LQ env w2 ⟨i, done, v, x, rfl, hi, hdl, hdo, hp, s2⟩ hN hE hR
  simp
  refine cndI (fun h => ?_) (fun h => ?_)
  · simp at h
    obtain ⟨g1, c1', e1, _, hcell⟩ := s2.swap.own_at (by omega)
    cases e1
    have hw : IntKind.i64.wrap ((i : Int) + 1) = (i : Int) + 1 := wrap64 (by omega) (by omega)
    have hla : ls[i]? = some ls[i] := by simp [hml, h]
    have hca := hcell i _ (ints_at hla)
    have hda : ls.drop i = ls[i] :: ls.drop (i + 1) := List.drop_eq_getElem_cons (by omega)
    have hoa := hok ls[i] (List.getElem_mem (by omega))
    generalize ls[i] = a at *
    by_cases h2 : i + 1 < us.length
    · have h2' : (i : Int) + 1 < us.length := by omega
      have htn : ((i : Int) + 1).toNat = i + 1 := by omega
      have hge : (0 : Int) ≤ (i : Int) + 1 := by omega
      have hlb : ls[i + 1]? = some ls[i + 1] := by simp [hml, h2]
      have hcb := hcell (i + 1) _ (ints_at hlb)
      have hdb : ls.drop (i + 1) = ls[i + 1] :: ls.drop (i + 2) := List.drop_eq_getElem_cons (by omega)
      generalize ls[i + 1] = b at *
      by_cases hA : a = 114
      · subst hA
        by_cases hB : b = 110
        · subst hB
          simp [hw, h2', h]
          refine eff_ldc hca ?_
          simp [hw, h2', h, htn, hge]
          refine eff_ldc hcb ?_
          simp [hw, h2', h]
          refine eff_ldc hca ?_
          simp
          refine eff_bsl1 s2 rfl ?_
          intro b3 w3 s3
          simp
          refine eff_app (n := done.length) (m := 1) (news := [.int .i64 109]) s3.swap rfl s3.cells_look (by simp [Value.oneCell']) (by decide) rfl (by unfold maxLen; omega) (by omega) ?_
          intro v' w4 s4
          simp
          try simp (disch := omega) only [wrap64]
          try simp
          refine hN _ _ ⟨i + 2, done ++ [109], v', _, by simp; constructor <;> first | rfl | omega, by omega, by simp; omega, ?_, ?_, by simpa [ints] using s4.swap.drop⟩ (by simp [slotN]; omega)
          · intro u hu
            rcases List.mem_append.1 hu with hu | hu
            · exact hdo u hu
            · have : u = 109 := by simpa using hu
              rw [this]; exact .inl (by omega)
          · rw [hp, hda]; rw [hdb, pairF_two]; simp
        · simp [hw, h2', h]
          refine eff_ldc hca ?_
          simp [hw, h2', h, htn, hge]
          refine eff_ldc hcb ?_
          simp [hw, h2', h, hB]
          refine eff_ldc hca ?_
          simp [h]
          refine eff_ldc hca ?_
          simp
          refine eff_bsl1 s2 rfl ?_
          intro b3 w3 s3
          simp
          refine eff_app (n := done.length) (m := 1) (news := [.int .i64 114]) s3.swap rfl s3.cells_look (by simp [Value.oneCell']) (by decide) rfl (by unfold maxLen; omega) (by omega) ?_
          intro v' w4 s4
          simp
          try simp (disch := omega) only [wrap64]
          try simp
          refine hN _ _ ⟨i + 1, done ++ [114], v', _, by simp; constructor <;> first | rfl | omega, by omega, by simp; omega, ?_, ?_, by simpa [ints] using s4.swap.drop⟩ (by simp [slotN]; omega)
          · intro u hu
            rcases List.mem_append.1 hu with hu | hu
            · exact hdo u hu
            · have : u = 114 := by simpa using hu
              rw [this]; exact .inl (by omega)
          · rw [hp, hda]; rw [hdb, pairF_two]; simp [hB]
      · by_cases hA2 : a = 118
        · subst hA2
          by_cases hB : b = 118
          · subst hB
            simp [hw, h2', h]
            refine eff_ldc hca ?_
            simp [hw, h2', h]
            refine eff_ldc hca ?_
            simp [hw, h2', h, htn, hge]
            refine eff_ldc hcb ?_
            simp
            refine eff_bsl1 s2 rfl ?_
            intro b3 w3 s3
            simp
            refine eff_app (n := done.length) (m := 1) (news := [.int .i64 119]) s3.swap rfl s3.cells_look (by simp [Value.oneCell']) (by decide) rfl (by unfold maxLen; omega) (by omega) ?_
            intro v' w4 s4
            simp
            try simp (disch := omega) only [wrap64]
            try simp
            refine hN _ _ ⟨i + 2, done ++ [119], v', _, by simp; constructor <;> first | rfl | omega, by omega, by simp; omega, ?_, ?_, by simpa [ints] using s4.swap.drop⟩ (by simp [slotN]; omega)
            · intro u hu
              rcases List.mem_append.1 hu with hu | hu
              · exact hdo u hu
              · have : u = 119 := by simpa using hu
                rw [this]; exact .inl (by omega)
            · rw [hp, hda]; rw [hdb, pairF_two]; simp
          · simp [hw, h2', h]
            refine eff_ldc hca ?_
            simp [hw, h2', h]
            refine eff_ldc hca ?_
            simp [hw, h2', h, htn, hge]
            refine eff_ldc hcb ?_
            simp [h, hB]
            refine eff_ldc hca ?_
            simp
            refine eff_bsl1 s2 rfl ?_
            intro b3 w3 s3
            simp
            refine eff_app (n := done.length) (m := 1) (news := [.int .i64 118]) s3.swap rfl s3.cells_look (by simp [Value.oneCell']) (by decide) rfl (by unfold maxLen; omega) (by omega) ?_
            intro v' w4 s4
            simp
            try simp (disch := omega) only [wrap64]
            try simp
            refine hN _ _ ⟨i + 1, done ++ [118], v', _, by simp; constructor <;> first | rfl | omega, by omega, by simp; omega, ?_, ?_, by simpa [ints] using s4.swap.drop⟩ (by simp [slotN]; omega)
            · intro u hu
              rcases List.mem_append.1 hu with hu | hu
              · exact hdo u hu
              · have : u = 118 := by simpa using hu
                rw [this]; exact .inl (by omega)
            · rw [hp, hda]; rw [hdb, pairF_two]; simp [hB]
        · simp [hw, h2', h]
          refine eff_ldc hca ?_
          simp [hw, h2', h, hA]
          refine eff_ldc hca ?_
          simp [h, hA2]
          refine eff_ldc hca ?_
          simp
          refine eff_bsl1 s2 rfl ?_
          intro b3 w3 s3
          simp
          refine eff_app (n := done.length) (m := 1) (news := [.int .i64 a]) s3.swap rfl s3.cells_look (by simp [Value.oneCell']) (by decide) rfl (by unfold maxLen; omega) (by omega) ?_
          intro v' w4 s4
          simp
          try simp (disch := omega) only [wrap64]
          try simp
          refine hN _ _ ⟨i + 1, done ++ [a], v', _, by simp; constructor <;> first | rfl | omega, by omega, by simp; omega, ?_, ?_, by simpa [ints] using s4.swap.drop⟩ (by simp [slotN]; omega)
          · intro u hu
            rcases List.mem_append.1 hu with hu | hu
            · exact hdo u hu
            · have : u = a := by simpa using hu
              rw [this]; exact hoa
          · rw [hp, hda]; rw [hdb, pairF_two]; simp [hA, hA2]
    · have h2' : ¬ ((i : Int) + 1 < us.length) := by omega
      have hdn : ls.drop (i + 1) = [] := List.drop_eq_nil_of_le (by omega)
      simp [hw, h2', h]
      refine eff_ldc hca ?_
      simp
      refine eff_bsl1 s2 rfl ?_
      intro b3 w3 s3
      simp
      refine eff_app (n := done.length) (m := 1) (news := [.int .i64 a]) s3.swap rfl s3.cells_look (by simp [Value.oneCell']) (by decide) rfl (by unfold maxLen; omega) (by omega) ?_
      intro v' w4 s4
      simp
      try simp (disch := omega) only [wrap64]
      try simp
      refine hN _ _ ⟨i + 1, done ++ [a], v', _, by simp; constructor <;> first | rfl | omega, by omega, by simp; omega, ?_, ?_, by simpa [ints] using s4.swap.drop⟩ (by simp [slotN]; omega)
      · intro u hu
        rcases List.mem_append.1 hu with hu | hu
        · exact hdo u hu
        · have : u = a := by simpa using hu
          rw [this]; exact hoa
      · rw [hp, hda]; rw [hdn, pairF_one]; simp [pairF]
  · simp at h
    simp
    refine hE _ _ _ ?_
    simp
    have : i = us.length := by omega
    subst this
    rw [← hml, List.drop_length] at hp
    simp [pairF] at hp
    rw [hp]
    refine eff_call ((rtext_spec _ v w0 _ _ (by omega) hdo s2).mono ?_)
    rintro r w3 ⟨rfl, s3⟩
    simp
    exact s3.drop.drop
theorem Look_spec (l : List UInt8) (w0 w : World) (A : Asn) (hl : l.length ≤ 1048576) (s : St w0 A w) :
    CallW Try.prog 51 [.string (mk l)] (fun r w' => r = .string (mk (encAll (lookF l))) ∧ St w0 A w') w := by
  have hfl := folded_len l
  have hfo := folded_ok l
  unfold lookF
  refine callW_of_lift l51_ok (by simp [l51]) ?_
  simp [l51]
  refine eff_call ((folded_spec l w0 w A hl s).mono ?_)
  intro v w1 s1
  generalize foldedF l = us at *
  obtain ⟨a1, c1, rfl, hc1, hn1⟩ := s1.own_val
  simp
  refine loopI (fun env w' => ∃ (i : Nat) (x y : Value), env = [.string (mk l), .string (mk []), .slice a1 us.length c1, x, y, undef, undef, undef, .slice a1 us.length c1, .int .i64 us.length, .int .i64 i] ∧ i ≤ us.length ∧
      St w0 (A * own 21 1 (.slice a1 us.length c1) us.length (ints32 (half looksF i us))) w')
    (fun env _ => us.length - slotN env 10) ⟨0, _, _, rfl, by omega, by rw [half_zero]; exact s1⟩ ?_
  rintro LQ env w' ⟨i, x, y, rfl, hi, s'⟩ hN hE hR
  simp
  refine cndI (fun h => ?_) (fun h => ?_)
  · simp at h
    obtain ⟨g1, c1', e1, _, hcell⟩ := s'.own_at (by omega)
    cases e1
    simp
    refine ⟨h, eff_ldc (hcell i _ (ints32_at (half_at looksF i us h))) ?_⟩
    simp
    refine eff_call ((seen_spec _ w0 _ _ s').mono ?_)
    rintro r w2 ⟨rfl, s2⟩
    simp
    refine ⟨h, ?_⟩
    refine eff_stO s2 h rfl ?_
    intro w3 s3
    rw [ints32_set, half_set looksF i us h] at s3
    simp
    try simp (disch := omega) only [wrap64]
    exact hN _ _ ⟨i + 1, _, _, by simp; exact ⟨rfl, rfl⟩, h, s3⟩ (by simp [slotN]; omega)
  simp at h
  simp
  refine hE _ _ _ ?_
  simp
  have : i = us.length := by omega
  subst this
  rw [half_all] at s'
  clear hN hE hR s1 hn1 s
  have hok : ∀ u ∈ us.map looksF, okU u := by
    intro u hu
    obtain ⟨x, hx, rfl⟩ := List.mem_map.1 hu
    exact okU_looksF (hfo x hx)
  have hml : (us.map looksF).length = us.length := by simp
  generalize us.map looksF = ls at *
  rcases s'.own.2 with ⟨h, hn, hx, s2⟩ | ⟨g, cap, cur, h, hn, hm, hcs, ht, s2⟩
  · obtain ⟨h1, h2, h3⟩ : a1 = none ∧ us.length = 0 ∧ c1 = 0 := by simpa using h
    subst h1 h3
    have : us = [] := List.eq_nil_of_length_eq_zero h2
    subst this
    have : ls = [] := List.eq_nil_of_length_eq_zero (by simpa using hml)
    subst this
    simp
    refine loopI (fun env w'' => ∃ o, env = [.string (mk l), .string (mk []), .slice none 0 0, x, y, .slice none 0 0, .int .i64 0, o, .slice none 0 0, .int .i64 0, .int .i64 0] ∧ w'' = w') (fun _ _ => 0) ⟨_, rfl, rfl⟩ ?_
    rintro LQ env w2 ⟨o, rfl, rfl⟩ hN hE hR
    simp
    refine hE _ _ _ ?_
    simp
    refine eff_call ((text_spec [] (.slice none 0 0) w0 _ A (by simp) (by simp) (by simpa [ints32] using s2.own_nil 21 1)).mono ?_)
    rintro r w3 ⟨rfl, s3⟩
    simp [pairF]
    exact s3.drop
  obtain ⟨h1, h2⟩ : a1 = some ⟨g, 0, none⟩ ∧ c1 = cap := by simpa using h
  subst h1 h2
  simp
  rw [Nat.mul_one] at hcs ht
  refine loopI (fun env w' => ∃ (i : Nat) (done : List Int) (o x y : Value) (cur : Array Value), env = [.string (mk l), .string (mk []), .slice (some ⟨g, 0, none⟩) us.length c1, x, y, .slice (some ⟨g, 0, none⟩) done.length c1, .int .i64 i, o, .slice (some ⟨g, 0, none⟩) us.length c1, .int .i64 us.length, .int .i64 us.length] ∧ i ≤ us.length ∧ done.length ≤ i ∧ (∀ u ∈ done, okU u) ∧
      pairF ls = done ++ pairF (ls.drop i) ∧ c1 * 1 ≤ cur.size ∧ cur.toList.take done.length = ints32 done ∧ (∀ j u, i ≤ j → ls[j]? = some u → cur[j]? = some (.int .i32 u)) ∧
      St w0 (A * pt g (.cells cur 21 (0, 0))) w')
    (fun env _ => us.length - slotN env 6) ⟨0, [], _, x, y, cur, rfl, by omega, by simp, by simp, by simp, by simpa using hcs, by simp [ints32], ?_, s2⟩ ?_
  · intro j u _ hu
    have hj : (ints32 ls)[j]? = some (.int .i32 u) := ints32_at hu
    rw [← ht, List.getElem?_take] at hj
    split at hj
    · simpa using hj
    · cases hj
  clear ht hcs s2 s'
  rintro LQ env w2 ⟨i, done, o, x, y, cur, rfl, hi, hdl, hdo, hp, hcs, hdt, hcur, s2⟩ hN hE hR
  simp
  refine cndI (fun h => ?_) (fun h => ?_)
  · simp at h
    have hw : IntKind.i64.wrap ((i : Int) + 1) = (i : Int) + 1 := wrap64 (by omega) (by omega)
    have hla : ls[i]? = some ls[i] := by simp [hml, h]
    have hca : w2.cell? ⟨g, i, none⟩ = some (.int .i32 ls[i]) := by rw [cell_of s2.look]; exact hcur i _ (Nat.le_refl _) hla
    have hda : ls.drop i = ls[i] :: ls.drop (i + 1) := List.drop_eq_getElem_cons (by omega)
    have hoa := hok ls[i] (List.getElem_mem (by omega))
    generalize ls[i] = a at *
    simp
    refine ⟨h, eff_ldc hca ?_⟩
    by_cases h2 : i + 1 < us.length
    · have h2' : (i : Int) + 1 < us.length := by omega
      have htn : ((i : Int) + 1).toNat = i + 1 := by omega
      have hge : (0 : Int) ≤ (i : Int) + 1 := by omega
      have hlb : ls[i + 1]? = some ls[i + 1] := by simp [hml, h2]
      have hcb : w2.cell? ⟨g, i + 1, none⟩ = some (.int .i32 ls[i + 1]) := by rw [cell_of s2.look]; exact hcur (i + 1) _ (by omega) hlb
      have hdb : ls.drop (i + 1) = ls[i + 1] :: ls.drop (i + 2) := List.drop_eq_getElem_cons (by omega)
      generalize ls[i + 1] = b at *
      by_cases hA : a = 114
      · subst hA
        by_cases hB : b = 110
        · subst hB
          simp [hw, h2', h, htn, hge]
          refine eff_ldc hcb ?_
          simp [hw, h2', h]
          refine eff_bsl1 s2 rfl ?_
          intro b3 w4 s3
          simp
          refine eff_app_room (g := g) (n := done.length) (m := 1) (cap := c1) (news := [.int .i32 109]) s3.swap rfl s3.cells_look (by simp [Value.oneCell']) (by omega) hcs ?_
          intro w5 s4
          rw [splice1 cur.toList done.length (.int .i32 109) (by have hcl : cur.toList.length = cur.size := Array.length_toList; omega)] at s4
          simp
          try simp (disch := omega) only [wrap64]
          try simp
          refine hN _ _ ⟨i + 2, done ++ [109], _, _, _, (cur.toList.set done.length (.int .i32 109)).toArray, by simp; first | exact ⟨rfl, rfl, by omega, rfl⟩ | exact ⟨rfl, rfl, rfl⟩ | trace_state, by omega, by simp; omega, ?_, ?_, by simpa using hcs, by simpa using take_set1 cur.toList done 0 _ hdt (by have hcl : cur.toList.length = cur.size := Array.length_toList; omega), ?_, s4.swap.drop⟩ (by simp [slotN]; omega)
          · intro u hu
            rcases List.mem_append.1 hu with hu | hu
            · exact hdo u hu
            · have : u = 109 := by simpa using hu
              rw [this]; exact .inl (by omega)
          · rw [hp, hda]; rw [hdb, pairF_two]; simp
          · intro j u hj hu
            have := hcur j u (by omega) hu
            rw [← Array.getElem?_toList] at this ⊢
            simp only [List.getElem?_set]
            rw [if_neg (by omega)]
            exact this
        · simp [hw, h2', h, htn, hge]
          refine eff_ldc hcb ?_
          simp [hw, h2', h, hB]
          refine eff_bsl1 s2 rfl ?_
          intro b3 w4 s3
          simp
          refine eff_app_room (g := g) (n := done.length) (m := 1) (cap := c1) (news := [.int .i32 114]) s3.swap rfl s3.cells_look (by simp [Value.oneCell']) (by omega) hcs ?_
          intro w5 s4
          rw [splice1 cur.toList done.length (.int .i32 114) (by have hcl : cur.toList.length = cur.size := Array.length_toList; omega)] at s4
          simp
          try simp (disch := omega) only [wrap64]
          try simp
          refine hN _ _ ⟨i + 1, done ++ [114], _, _, _, (cur.toList.set done.length (.int .i32 114)).toArray, by simp; first | exact ⟨rfl, rfl, by omega, rfl⟩ | exact ⟨rfl, rfl, rfl⟩ | trace_state, by omega, by simp; omega, ?_, ?_, by simpa using hcs, by simpa using take_set1 cur.toList done 0 _ hdt (by have hcl : cur.toList.length = cur.size := Array.length_toList; omega), ?_, s4.swap.drop⟩ (by simp [slotN]; omega)
          · intro u hu
            rcases List.mem_append.1 hu with hu | hu
            · exact hdo u hu
            · have : u = 114 := by simpa using hu
              rw [this]; exact .inl (by omega)
          · rw [hp, hda]; rw [hdb, pairF_two]; simp [hB]
          · intro j u hj hu
            have := hcur j u (by omega) hu
            rw [← Array.getElem?_toList] at this ⊢
            simp only [List.getElem?_set]
            rw [if_neg (by omega)]
            exact this
      · by_cases hA2 : a = 118
        · subst hA2
          by_cases hB : b = 118
          · subst hB
            simp [hw, h2', h, htn, hge]
            refine eff_ldc hcb ?_
            simp [hw, h2', h]
            refine eff_bsl1 s2 rfl ?_
            intro b3 w4 s3
            simp
            refine eff_app_room (g := g) (n := done.length) (m := 1) (cap := c1) (news := [.int .i32 119]) s3.swap rfl s3.cells_look (by simp [Value.oneCell']) (by omega) hcs ?_
            intro w5 s4
            rw [splice1 cur.toList done.length (.int .i32 119) (by have hcl : cur.toList.length = cur.size := Array.length_toList; omega)] at s4
            simp
            try simp (disch := omega) only [wrap64]
            try simp
            refine hN _ _ ⟨i + 2, done ++ [119], _, _, _, (cur.toList.set done.length (.int .i32 119)).toArray, by simp; first | exact ⟨rfl, rfl, by omega, rfl⟩ | exact ⟨rfl, rfl, rfl⟩ | trace_state, by omega, by simp; omega, ?_, ?_, by simpa using hcs, by simpa using take_set1 cur.toList done 0 _ hdt (by have hcl : cur.toList.length = cur.size := Array.length_toList; omega), ?_, s4.swap.drop⟩ (by simp [slotN]; omega)
            · intro u hu
              rcases List.mem_append.1 hu with hu | hu
              · exact hdo u hu
              · have : u = 119 := by simpa using hu
                rw [this]; exact .inl (by omega)
            · rw [hp, hda]; rw [hdb, pairF_two]; simp
            · intro j u hj hu
              have := hcur j u (by omega) hu
              rw [← Array.getElem?_toList] at this ⊢
              simp only [List.getElem?_set]
              rw [if_neg (by omega)]
              exact this
          · simp [hw, h2', h, htn, hge]
            refine eff_ldc hcb ?_
            simp [hw, h2', h, hB]
            refine eff_bsl1 s2 rfl ?_
            intro b3 w4 s3
            simp
            refine eff_app_room (g := g) (n := done.length) (m := 1) (cap := c1) (news := [.int .i32 118]) s3.swap rfl s3.cells_look (by simp [Value.oneCell']) (by omega) hcs ?_
            intro w5 s4
            rw [splice1 cur.toList done.length (.int .i32 118) (by have hcl : cur.toList.length = cur.size := Array.length_toList; omega)] at s4
            simp
            try simp (disch := omega) only [wrap64]
            try simp
            refine hN _ _ ⟨i + 1, done ++ [118], _, _, _, (cur.toList.set done.length (.int .i32 118)).toArray, by simp; first | exact ⟨rfl, rfl, by omega, rfl⟩ | exact ⟨rfl, rfl, rfl⟩ | trace_state, by omega, by simp; omega, ?_, ?_, by simpa using hcs, by simpa using take_set1 cur.toList done 0 _ hdt (by have hcl : cur.toList.length = cur.size := Array.length_toList; omega), ?_, s4.swap.drop⟩ (by simp [slotN]; omega)
            · intro u hu
              rcases List.mem_append.1 hu with hu | hu
              · exact hdo u hu
              · have : u = 118 := by simpa using hu
                rw [this]; exact .inl (by omega)
            · rw [hp, hda]; rw [hdb, pairF_two]; simp [hB]
            · intro j u hj hu
              have := hcur j u (by omega) hu
              rw [← Array.getElem?_toList] at this ⊢
              simp only [List.getElem?_set]
              rw [if_neg (by omega)]
              exact this
        · simp [hw, h2', h, hA, hA2]
          refine eff_bsl1 s2 rfl ?_
          intro b3 w4 s3
          simp
          refine eff_app_room (g := g) (n := done.length) (m := 1) (cap := c1) (news := [.int .i32 a]) s3.swap rfl s3.cells_look (by simp [Value.oneCell']) (by omega) hcs ?_
          intro w5 s4
          rw [splice1 cur.toList done.length (.int .i32 a) (by have hcl : cur.toList.length = cur.size := Array.length_toList; omega)] at s4
          simp
          try simp (disch := omega) only [wrap64]
          try simp
          refine hN _ _ ⟨i + 1, done ++ [a], _, _, _, (cur.toList.set done.length (.int .i32 a)).toArray, by simp; first | exact ⟨rfl, rfl, by omega, rfl⟩ | exact ⟨rfl, rfl, rfl⟩ | trace_state, by omega, by simp; omega, ?_, ?_, by simpa using hcs, by simpa using take_set1 cur.toList done 0 _ hdt (by have hcl : cur.toList.length = cur.size := Array.length_toList; omega), ?_, s4.swap.drop⟩ (by simp [slotN]; omega)
          · intro u hu
            rcases List.mem_append.1 hu with hu | hu
            · exact hdo u hu
            · have : u = a := by simpa using hu
              rw [this]; exact hoa
          · rw [hp, hda]; rw [hdb, pairF_two]; simp [hA, hA2]
          · intro j u hj hu
            have := hcur j u (by omega) hu
            rw [← Array.getElem?_toList] at this ⊢
            simp only [List.getElem?_set]
            rw [if_neg (by omega)]
            exact this
    · have h2' : ¬ ((i : Int) + 1 < us.length) := by omega
      have hdn : ls.drop (i + 1) = [] := List.drop_eq_nil_of_le (by omega)
      simp [hw, h2', h]
      refine eff_bsl1 s2 rfl ?_
      intro b3 w4 s3
      simp
      refine eff_app_room (g := g) (n := done.length) (m := 1) (cap := c1) (news := [.int .i32 a]) s3.swap rfl s3.cells_look (by simp [Value.oneCell']) (by omega) hcs ?_
      intro w5 s4
      rw [splice1 cur.toList done.length (.int .i32 a) (by have hcl : cur.toList.length = cur.size := Array.length_toList; omega)] at s4
      simp
      try simp (disch := omega) only [wrap64]
      try simp
      refine hN _ _ ⟨i + 1, done ++ [a], _, _, _, (cur.toList.set done.length (.int .i32 a)).toArray, by simp; first | exact ⟨rfl, rfl, by omega, rfl⟩ | exact ⟨rfl, rfl, rfl⟩ | trace_state, by omega, by simp; omega, ?_, ?_, by simpa using hcs, by simpa using take_set1 cur.toList done 0 _ hdt (by have hcl : cur.toList.length = cur.size := Array.length_toList; omega), ?_, s4.swap.drop⟩ (by simp [slotN]; omega)
      · intro u hu
        rcases List.mem_append.1 hu with hu | hu
        · exact hdo u hu
        · have : u = a := by simpa using hu
          rw [this]; exact hoa
      · rw [hp, hda]; rw [hdn, pairF_one]; simp [pairF]
      · intro j u hj hu
        have := hcur j u (by omega) hu
        rw [← Array.getElem?_toList] at this ⊢
        simp only [List.getElem?_set]
        rw [if_neg (by omega)]
        exact this
  · simp at h
    simp
    refine hE _ _ _ ?_
    simp
    have : i = us.length := by omega
    subst this
    rw [← hml, List.drop_length] at hp
    simp [pairF] at hp
    rw [hp]
    refine eff_call ((text_spec done _ w0 _ A (by omega) hdo (s2.own_mk' (n := done.length) (by omega) hm hcs (by rw [Nat.mul_one]; exact hdt))).mono ?_)
    rintro r w3 ⟨rfl, s3⟩
    simp
    exact s3.drop
end Go.HL.Nm
