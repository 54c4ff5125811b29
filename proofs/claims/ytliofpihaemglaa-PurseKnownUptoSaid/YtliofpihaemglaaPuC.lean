/-
  Purse: Pay, Take, Put, Get. Conditions: coins within bounds.
-/
import Derived.Test.YtliofpihaemglaaPuB
namespace Go.HL.Pu
open Go.HL Go.HL.Nm Go.Proofs
set_option maxRecDepth 4000
set_option linter.unusedSimpArgs false
set_option linter.unusedVariables false
theorem eff_max {P : Program} {K : Value → World → Prop} {w : World} {ats : Array TypeId} {ty : TypeId} {cs : Array Bool} {k : IntKind} {a b : Int} (hk : K (.int k (if b > a then b else a)) w) : EffW P (.bi .max ats ty cs) [.int k a, .int k b] K w := by
  intro _
  show UponW P (valS (Builtin.max_ ats ty #[.int k a, .int k b])) K w
  refine upon_val (v := .int k (if b > a then b else a)) (w' := w) ?_ hk
  simp [Builtin.max_, Builtin.max2]
theorem coin_bd {P : Ps} (hP : Bd P) {i : Nat} (h : i < P.rows.length) : 0 ≤ coin P.rows i ∧ coin P.rows i ≤ 4611686018427387904 := hP.coins i h
theorem coin_set {l : List Ac} {i j : Nat} (h : i < l.length) (c : Int) : coin (setC l i c) j = if j = i then c else coin l j := by
  unfold coin setC
  by_cases e : j = i
  · subst e; simp [h]
  · rw [if_neg e]
    simp [List.getElem?_set_ne (Ne.symm e)]
/-- a change of one account's coins -/
theorem st_coin {w0 w : World} {A : Asn} {p m g cap i : Nat} {P : Ps} {c : Int} {l : List Ac} (hi : i < l.length)
    (s : St w0 (A * own 66 2 (.slice (some ⟨g, 0, none⟩) l.length cap) l.length (flat l)) w) {K : Value → World → Prop}
    (hk : ∀ w', St w0 (A * own 66 2 (.slice (some ⟨g, 0, none⟩) (setC l i c).length cap) (setC l i c).length (flat (setC l i c))) w' → K undef w') :
    EffW Try.prog (.st 1) [.pointer (some ⟨g, i * 2 + 1, none⟩), .int .u64 c] K w := by
  have hfl := flat_len l
  refine eff_stC (u := .int .u64 c) s (by omega) rfl ?_
  intro w3 s4
  rw [setC_at hi] at s4
  refine hk w3 ?_
  rw [setC_len]
  exact s4
def payF (P : Ps) (a b c : Int) : Int × Ps :=
  if accE P.rows a = 0 ∧ accE P.rows b = 0 then
    if a = b then (234, P) else if c = 0 then (2, P) else if coin P.rows a.toNat < c then (143, P)
    else (0, { P with rows := setC (setC P.rows a.toNat (coin P.rows a.toNat - c)) b.toNat (coin P.rows b.toNat + c) })
  else (142, P)
theorem Pay_spec (p : Nat) (P : Ps) (a b c : Int) (w0 w : World) (A : Asn) (hP : Bd P) (hc : 0 ≤ c ∧ c < 18446744073709551616) (s : St w0 (A * pur p P) w) :
    CallW Try.prog 64 [.pointer (some ⟨p, 0, none⟩), .int .i64 a, .int .i64 b, .int .u64 c] (fun r w' => r = .int .i64 (payF P a b c).1 ∧ St w0 (A * pur p (payF P a b c).2) w') w := by
  refine callW_of_lift l64_ok (by simp [l64]) ?_
  simp [l64]
  have hlen := hP.len
  refine eff_call ((account_spec p P a w0 w A s).mono ?_)
  rintro r w1 ⟨rfl, s⟩
  simp
  refine eff_call ((account_spec p P b w0 w1 A s).mono ?_)
  rintro r w2 ⟨rfl, s⟩
  simp
  refine eff_max ?_
  simp
  have hor1 := accE_or P.rows a
  have hor2 := accE_or P.rows b
  by_cases hab : accE P.rows a = 0 ∧ accE P.rows b = 0
  · obtain ⟨ha, hb⟩ := hab
    obtain ⟨i, rfl, hi⟩ := acc_in ha
    obtain ⟨j, rfl, hj⟩ := acc_in hb
    simp [ha, hb]
    refine cndI (fun h => ?_) (fun h => ?_)
    · simp at h
      simp [payF, ha, hb, h]
      exact s
    simp at h
    simp
    refine cndI (fun h1 => ?_) (fun h1 => ?_)
    · simp at h1
      simp [payF, ha, hb, h, h1]
      exact s
    simp at h1
    simp
    obtain ⟨m, v, s1⟩ := popen s
    clear s
    obtain ⟨g, gcap, hv, hcap, hcell⟩ := s1.own_at (by omega)
    subst hv
    refine eff_ldc (v := .slice (some ⟨g, 0, none⟩) P.rows.length gcap) (by rw [cell_of s1.drop.drop.look]; rfl) ?_
    simp [hi]
    have hci := coin_bd hP hi
    have hcj := coin_bd hP hj
    refine eff_ldc (v := .int .u64 (coin P.rows i)) (by rw [hcell _ _ (flat_coins hi), coin_at hi]) ?_
    simp
    refine eff_call ((take_spec (coin P.rows i) c w2 (by omega) hc).mono ?_)
    rintro r w3 ⟨rfl, rfl⟩
    simp
    refine cndI (fun h2 => ?_) (fun h2 => ?_)
    · simp at h2
      simp [payF, ha, hb, h, h1, h2]
      exact pclose s1
    simp at h2
    simp [h2]
    refine eff_ldc (v := .slice (some ⟨g, 0, none⟩) P.rows.length gcap) (by rw [cell_of s1.drop.drop.look]; rfl) ?_
    simp [hi]
    rw [if_neg (by omega)]
    refine st_coin (p := p) (m := m) (P := P) hi s1 ?_
    intro w4 s2
    simp
    refine eff_ldc (v := .slice (some ⟨g, 0, none⟩) P.rows.length gcap) (by rw [cell_of s2.drop.drop.look]; rfl) ?_
    simp [hj]
    obtain ⟨g', gcap', hv, _, hcell2⟩ := s2.own_at (by rw [setC_len]; omega)
    cases hv
    have hj2 : j < (setC P.rows i (coin P.rows i - c)).length := by rw [setC_len]; exact hj
    refine eff_ldc (v := .int .u64 (coin P.rows j)) (by rw [hcell2 _ _ (flat_coins hj2), ← coin_at hj2, coin_set hi, if_neg (by omega)]) ?_
    simp [hj]
    try simp (disch := omega) only [wrapu64]
    refine st_coin (p := p) (m := m) (P := P) hj2 s2 ?_
    intro w5 s3
    simp [payF, ha, hb, h, h1]
    rw [if_neg (by omega)]
    refine ⟨rfl, pclose (m := m) (v := .slice (some ⟨g, 0, none⟩) P.rows.length gcap) ?_⟩
    rw [mpt, keys_setC, keys_setC, setC_len, setC_len]
    rw [setC_len, setC_len] at s3
    exact s3
  · have hmax : (if accE P.rows b > accE P.rows a then accE P.rows b else accE P.rows a) = 142 := by
      rcases hor1 with h1 | h1 <;> rcases hor2 with h2 | h2 <;> simp [h1, h2] at hab ⊢
    simp only [gt_iff_lt] at hmax
    simp [hmax]
    simp [payF, hab]
    exact s
def takeF (P : Ps) (n c : Int) : Int × Ps :=
  if accE P.rows n = 0 then
    if coin P.rows n.toNat < c then (143, P)
    else (0, { P with held := P.held + c, rows := setC P.rows n.toNat (coin P.rows n.toNat - c) })
  else (142, P)
theorem Take_spec (p : Nat) (P : Ps) (n c : Int) (w0 w : World) (A : Asn) (hP : Bd P) (hc : 0 ≤ c ∧ c < 18446744073709551616) (s : St w0 (A * pur p P) w) :
    CallW Try.prog 34 [.pointer (some ⟨p, 0, none⟩), .int .i64 n, .int .u64 c] (fun r w' => r = .int .i64 (takeF P n c).1 ∧ St w0 (A * pur p (takeF P n c).2) w') w := by
  refine callW_of_lift l34_ok (by simp [l34]) ?_
  simp [l34]
  have hlen := hP.len
  have hh := hP.held
  refine eff_call ((account_spec p P n w0 w A s).mono ?_)
  rintro r w1 ⟨rfl, s⟩
  simp
  refine cndI (fun h => ?_) (fun h => ?_)
  · simp at h
    have h142 := (accE_or P.rows n).resolve_left h
    simp [takeF, h142]
    exact s
  simp at h
  obtain ⟨i, rfl, hi⟩ := acc_in h
  simp
  obtain ⟨m, v, s1⟩ := popen s
  clear s
  obtain ⟨g, gcap, hv, hcap, hcell⟩ := s1.own_at (by omega)
  subst hv
  refine eff_ldc (v := .slice (some ⟨g, 0, none⟩) P.rows.length gcap) (by rw [cell_of s1.drop.drop.look]; rfl) ?_
  simp [hi]
  have hci := coin_bd hP hi
  refine eff_ldc (v := .int .u64 (coin P.rows i)) (by rw [hcell _ _ (flat_coins hi), coin_at hi]) ?_
  simp
  refine eff_call ((take_spec (coin P.rows i) c w1 (by omega) hc).mono ?_)
  rintro r w3 ⟨rfl, rfl⟩
  simp
  refine cndI (fun h2 => ?_) (fun h2 => ?_)
  · simp at h2
    simp [takeF, h, h2]
    exact pclose s1
  simp at h2
  simp [h2]
  refine eff_ldc (v := .slice (some ⟨g, 0, none⟩) P.rows.length gcap) (by rw [cell_of s1.drop.drop.look]; rfl) ?_
  simp [hi]
  rw [if_neg (by omega)]
  refine st_coin (p := p) (m := m) (P := P) hi s1 ?_
  intro w4 s2
  simp
  refine eff_ldc (v := .int .u64 P.held) (by rw [cell_of s2.drop.drop.look]; rfl) ?_
  simp
  try simp (disch := omega) only [wrapu64]
  refine eff_st1 (s2.to (B := A * mpt m P.rows * own 66 2 (.slice (some ⟨g, 0, none⟩) (setC P.rows i (coin P.rows i - c)).length gcap) (setC P.rows i (coin P.rows i - c)).length (flat (setC P.rows i (coin P.rows i - c))) * pt4 p P m (.slice (some ⟨g, 0, none⟩) P.rows.length gcap)) (by ac_rfl)) rfl (by simp) ?_
  intro w5 s3
  simp at s3
  simp [takeF, h]
  rw [if_neg (by omega)]
  refine ⟨rfl, pclose (m := m) (v := .slice (some ⟨g, 0, none⟩) P.rows.length gcap) ?_⟩
  rw [mpt, keys_setC]
  rw [setC_len] at s3 ⊢
  exact s3.to (by ac_rfl)
def putF (P : Ps) (n c : Int) : Int × Ps :=
  if accE P.rows n = 0 then
    if P.held < c then (143, P)
    else (0, { P with held := P.held - c, rows := setC P.rows n.toNat (coin P.rows n.toNat + c) })
  else (142, P)
theorem Put_spec (p : Nat) (P : Ps) (n c : Int) (w0 w : World) (A : Asn) (hP : Bd P) (hc : 0 ≤ c ∧ c < 18446744073709551616) (s : St w0 (A * pur p P) w) :
    CallW Try.prog 35 [.pointer (some ⟨p, 0, none⟩), .int .i64 n, .int .u64 c] (fun r w' => r = .int .i64 (putF P n c).1 ∧ St w0 (A * pur p (putF P n c).2) w') w := by
  refine callW_of_lift l35_ok (by simp [l35]) ?_
  simp [l35]
  have hlen := hP.len
  have hh := hP.held
  refine eff_call ((account_spec p P n w0 w A s).mono ?_)
  rintro r w1 ⟨rfl, s⟩
  simp
  refine cndI (fun h => ?_) (fun h => ?_)
  · simp at h
    have h142 := (accE_or P.rows n).resolve_left h
    simp [putF, h142]
    exact s
  simp at h
  obtain ⟨i, rfl, hi⟩ := acc_in h
  simp
  obtain ⟨m, v, s1⟩ := popen s
  clear s
  have hci := coin_bd hP hi
  refine eff_ldc (v := .int .u64 P.held) (by rw [cell_of s1.drop.drop.look]; rfl) ?_
  simp
  refine eff_call ((take_spec P.held c w1 (by omega) hc).mono ?_)
  rintro r w3 ⟨rfl, rfl⟩
  simp
  refine cndI (fun h2 => ?_) (fun h2 => ?_)
  · simp at h2
    simp [putF, h, h2]
    exact pclose s1
  simp at h2
  simp [h2]
  rw [if_neg (by omega)]
  refine eff_st1 (s1.to (B := A * mpt m P.rows * own 66 2 v P.rows.length (flat P.rows) * pt4 p P m v) (by ac_rfl)) rfl (by simp) ?_
  intro w4 s2
  simp at s2
  simp
  obtain ⟨g, gcap, hv, hcap, hcell⟩ := s1.own_at (by omega)
  subst hv
  refine eff_ldc (v := .slice (some ⟨g, 0, none⟩) P.rows.length gcap) (by rw [cell_of s2.look]; rfl) ?_
  simp [hi]
  have s3 := s2.to (B := A * mpt m P.rows * pt4 p { P with held := P.held - c } m (.slice (some ⟨g, 0, none⟩) P.rows.length gcap) * own 66 2 (.slice (some ⟨g, 0, none⟩) P.rows.length gcap) P.rows.length (flat P.rows)) (by ac_rfl)
  obtain ⟨g', cap', hv, _, hcell⟩ := s3.own_at (by omega)
  cases hv
  refine eff_ldc (v := .int .u64 (coin P.rows i)) (by rw [hcell _ _ (flat_coins hi), coin_at hi]) ?_
  simp [hi]
  try simp (disch := omega) only [wrapu64]
  refine st_coin (p := p) (m := m) (P := P) hi s3 ?_
  intro w5 s4
  simp [putF, h, h2]
  rw [if_neg (by omega)]
  refine ⟨rfl, pclose (m := m) (v := .slice (some ⟨g, 0, none⟩) P.rows.length gcap) ?_⟩
  rw [mpt, keys_setC]
  rw [setC_len] at s4 ⊢
  exact s4.to (by ac_rfl)
def getF (P : Ps) (n : Int) : Ac × Int := if accE P.rows n = 0 then (P.rows.getD n.toNat ⟨[], 0⟩, 0) else (⟨[], 0⟩, 142)
theorem Get_spec (p : Nat) (P : Ps) (n : Int) (w0 w : World) (A : Asn) (hP : P.rows.length ≤ 64) (s : St w0 (A * pur p P) w) :
    CallW Try.prog 36 [.pointer (some ⟨p, 0, none⟩), .int .i64 n] (fun r w' => r = .tuple #[.agg (getF P n).1.cs.toArray, .int .i64 (getF P n).2] ∧ St w0 (A * pur p P) w') w := by
  refine callW_of_lift l36_ok (by simp [l36]) ?_
  simp [l36]
  refine eff_new s ?_
  intro b w1 s1
  simp
  refine eff_call ((account_spec p P n w0 w1 (A * pt b (.cells (Ac.cs ⟨[], 0⟩).toArray 66 (0, 0))) (s1.to (by ac_rfl))).mono ?_)
  rintro r w2 ⟨rfl, s2⟩
  simp
  have s2' := s2.swap
  refine cndI (fun h => ?_) (fun h => ?_)
  · simp at h
    simp [getF, h, Instr.fill, Value.cells]
    refine eff_stA (vs := Ac.cs ⟨[], 0⟩) s2' rfl rfl (cs_one _) (by simp [Ac.cs]) ?_
    intro w3 s3
    simp
    have s4 : St w0 (A * pur p P * pt b (.cells (Ac.cs ⟨[], 0⟩).toArray 66 (0, 0))) w3 := by simpa [Ac.cs] using s3
    refine rv_cellA (vs := Ac.cs ⟨[], 0⟩) rfl s4.row_cells rfl ?_
    simp
    refine ⟨?_, s4.drop⟩
    exact (accE_or P.rows n).resolve_left h
  simp at h
  simp
  obtain ⟨i, rfl, hi⟩ := acc_in h
  obtain ⟨m, v, s3⟩ := popen s2
  obtain ⟨g, gcap, hv, hcap, hcell⟩ := s3.own_at (by omega)
  subst hv
  refine eff_ldc (v := .slice (some ⟨g, 0, none⟩) P.rows.length gcap) (by rw [cell_of s3.drop.drop.look]; rfl) ?_
  simp [hi]
  refine eff_ldcs (vs := P.rows[i].cs) (fun j u hu => hcell _ _ (flat_at hi j u hu)) rfl ?_
  simp
  have hg : getF P (i : Int) = (P.rows[i], 0) := by simp [getF, h, hi]
  refine eff_stA (vs := P.rows[i].cs) s2' rfl rfl (cs_one _) (by simp [Ac.cs]) ?_
  intro w3 s3
  simp [hg]
  have s4 : St w0 (A * pur p P * pt b (.cells P.rows[i].cs.toArray 66 (0, 0))) w3 := by simpa [Ac.cs] using s3
  refine rv_cellA (vs := P.rows[i].cs) rfl s4.row_cells rfl ?_
  simp
  exact s4.drop
end Go.HL.Pu
