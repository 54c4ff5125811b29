/-
  Wheel: memory of its own: the middle. No condition.
-/
import Derived.Test.YtngjaibngkhidaaWhOb
namespace Go.HL.Wh
open Go.HL Go.Proofs
set_option maxRecDepth 4000
set_option linter.unusedSimpArgs false
set_option linter.unusedVariables false
def fR (R : Nat → Value) (j : Nat) (ys : List (Int × Int)) : Asn := own 32 2 (R j) ys.length (flat ys)
def fL (L : Nat → Value) (j : Nat) (zs : List Int) : Asn := own 3 1 (L j) zs.length (ints zs)
def rowsA (R : Nat → Value) (Y : Nat → List (Int × Int)) : Asn := bigA (fR R) Y 6
def listsA (L : Nat → Value) (Z : Nat → List Int) : Asn := bigA (fL L) Z 5
theorem rows_one (R : Nat → Value) (Y : Nat → List (Int × Int)) {i : Nat} (h : i < 6) : rowsA R Y = bigH (fR R) Y i 6 * fR R i (Y i) := big_at h
theorem lists_one (L : Nat → Value) (Z : Nat → List Int) {i : Nat} (h : i < 5) : listsA L Z = bigH (fL L) Z i 5 * fL L i (Z i) := big_at h
theorem rows_row {R : Nat → Value} {Y : Nat → List (Int × Int)} {i : Nat} (h : i < 6) {w0 w : World} {A B : Asn} (s : St w0 A w) (e : A = B * rowsA R Y) : Row w0 A (R i) (Y i).length 2 ((Y i).flatMap encT) :=
  row_in (e := 32) (B := B * bigH (fR R) Y i 6) s (by rw [e, rows_one R Y h, sep_assoc]; rfl)
theorem lists_row {L : Nat → Value} {Z : Nat → List Int} {i : Nat} (h : i < 5) {w0 w : World} {A B : Asn} (s : St w0 A w) (e : A = B * listsA L Z) : Row w0 A (L i) (Z i).length 1 ((Z i).map (Value.int .i64)) :=
  row_in (e := 3) (B := B * bigH (fL L) Z i 5) s (by rw [e, lists_one L Z h, sep_assoc]; rfl)
def oneO (S : World → Prop) : List Value → World → Prop
  | [], w => S w
  | [r], w => r = .bool true ∧ S w
  | _, _ => False
def midO (S S2 : World → Prop) : List Value → World → Prop
  | [], w => S w
  | [r], w => r = .bool true ∧ S w
  | [_, r], w => r = .bool true ∧ S w
  | [_, _, r], w => r = .bool true ∧ S2 w
  | _, _ => False
set_option maxHeartbeats 1000000 in
theorem own_mid (p q c T T2 nw m1 m2 m3 : Nat) (R L W W2 : Nat → Value) (Y : Nat → List (Int × Int)) (Z : Nat → List Int) (ts us cs : List Tm) (w0 w : World) (A A0 : Asn) (x0 x1 x4 x5 x7 x9 x11 x12 x13 x14 x15 x16 x17 x18 x19 x20 x21 : Value) (hA : ∀ w, St w0 A w → St w0 A0 w)
    (ha : plOK T ts) (hla : ts.length ≤ 65536) (hlc : cs.length ≤ 65536)
    (y2 : Y 2 = sortT (ts.map tmr)) (y5 : Y 5 = sortT (cs.map tmr)) (z0 : Z 0 = ldF T (ts.map tmr) 0) (y01 : Y 0 = Y 1) (y24 : Y 2 = Y 4) (hYl : ∀ j, (Y j).length ≤ 65536) (hZl : ∀ j, (Z j).length ≤ 64)
    (h14 : Row w0 A x14 6 1 ((List.range 6).map R)) (h15 : Row w0 A x15 5 1 ((List.range 5).map L)) (h16 : Row w0 A x16 6 1 ((List.range 6).map W)) (h17 : Row w0 A x17 5 1 ((List.range 5).map W2))
    (hW : ∀ j, j < 6 → Row w0 A (W j) (Y j).length 2 (flat (Y j))) (hW2 : ∀ j, j < 5 → Row w0 A (W2 j) (Z j).length 1 (ints (Z j)))
    (s : St w0 (A * whl p T m1 ts * whl q T2 m2 us * whl c nw m3 cs * rowsA R Y * listsA L Z) w) :
    h4_2.wp U2 (QO w0 A0) [x0, x1, .int .i64 T, .bool false, x4, x5, .pointer (some ⟨p, 0, none⟩), x7, .pointer (some ⟨q, 0, none⟩), x9, .pointer (some ⟨c, 0, none⟩), x11, x12, x13, x14, x15, x16, x17, x18, x19, x20, x21] w := by
  obtain ⟨g, o, cap, rfl, hc⟩ := h16.at (by omega)
  have lY0 := hYl 0
  have lY2 := hYl 2
  have hZm : ∀ j, (Z j).length ≤ 1048576 := fun j => by have := hZl j; omega
  have hYm : ∀ j, (Y j).length ≤ 1048576 := fun j => by have := hYl j; omega
  obtain ⟨B, hB⟩ : ∃ B, A * whl p T m1 ts * whl q T2 m2 us * whl c nw m3 cs * rowsA R Y * listsA L Z = B := ⟨_, rfl⟩
  have toA : ∀ w, St w0 B w → St w0 A w := fun w s => by rw [← hB] at s; exact s.drop.drop.drop.drop.drop
  rw [hB] at s
  simp
  refine brmI (midO (St w0 B) (St w0 (A * whl p T m1 ts * whl q T2 m2 us * whl c nw m3 cs))) s.drew ?_
  simp
  have look : ∀ (j : Nat), j < 6 → ∀ (vs vs' : List Value) (w : World), vs.length < 3 → era 3 vs' = era 3 vs → midO (St w0 B) (St w0 (A * whl p T m1 ts * whl q T2 m2 us * whl c nw m3 cs)) vs' w → w.cell? ⟨g, o + j, none⟩ = some (W j) := by
    intro j hj vs vs' w hv he hw
    match vs', hw with
    | [], hw => exact hc w (toA w hw) j _ (range_at hj)
    | [_], hw => exact hc w (toA w hw.2) j _ (range_at hj)
    | [_, _], hw => exact hc w (toA w hw.2) j _ (range_at hj)
    | [_, _, _], hw => simp [era] at he; omega
  refine effm_ldc (v := W 0) (fun vs' w he hw => look 0 (by omega) [] vs' w (by simp) he hw) ?_
  simp
  refine effm_ldc (v := W 1) (fun vs' w he hw => look 1 (by omega) [] vs' w (by simp) he hw) ?_
  simp
  have r0 := hW 0 (by decide)
  have r1 := hW 1 (by decide)
  have r2 := hW 2 (by decide)
  have r4 := hW 4 (by decide)
  rw [← y01] at r1
  rw [← y24] at r4
  refine effm_mv rfl (fun w s => eff_call ((same_spec (Y 0) (Y 0) (W 0) (W 1) w0 w B (by omega) (r0.mono toA) (r1.mono toA) s).mono fun r w' h => ?_)) (fun b1 h1 => ?_)
  · obtain ⟨rfl, h⟩ := h; exact ⟨by simp, h⟩
  obtain ⟨_, rfl, _⟩ := h1
  simp
  refine effm_ldc (v := W 2) (fun vs' w he hw => look 2 (by omega) [_] vs' w (by simp) he hw) ?_
  simp
  refine effm_ldc (v := W 4) (fun vs' w he hw => look 4 (by omega) [_] vs' w (by simp) he hw) ?_
  simp
  refine effm_mv rfl (fun w s => eff_call ((same_spec (Y 2) (Y 2) (W 2) (W 4) w0 w B (by omega) (r2.mono toA) (r4.mono toA) s.2).mono fun r w' h => ?_)) (fun b2 h2 => ?_)
  · obtain ⟨rfl, h⟩ := h; exact ⟨by simp, h⟩
  obtain ⟨_, rfl, _⟩ := h2
  simp
  have eR : rowsA R Y = bigA (fun j ys => own 32 2 (R j) (Y j).length (flat ys)) Y 6 := big_congr fun j _ => rfl
  have eL : listsA L Z = bigA (fun j zs => own 3 1 (L j) (Z j).length (ints zs)) Z 5 := big_congr fun j _ => rfl
  refine effm_mv rfl (fun w s => eff_call ((apart_spec R L Y Z 6 5 x14 x15 w0 w (A * whl p T m1 ts * whl q T2 m2 us * whl c nw m3 cs) (by omega) (by omega) hYm hZm (h14.mono fun w s => s.drop.drop.drop) (h15.mono fun w s => s.drop.drop.drop) (St.to s.2 (by rw [← hB, eR, eL]))).mono fun r w' h => ?_)) (fun b3 h3 => ?_)
  · exact h
  obtain ⟨_, rfl, _⟩ := h3
  simp
  intro w9 h9
  have key := own_last p q c T T2 nw m1 m2 m3 W W2 Y Z ts us cs w0 w9 A A0 x0 x1 x4 x5 x7 x9 x11 x12 x13 x14 x15 (.slice (some ⟨g, o, none⟩) 6 cap) x17 x18 x19 x20 x21 hA ha hla hlc y2 y5 z0 h16 h17 hW hW2 h9.2
  simpa using key
set_option maxHeartbeats 1000000 in
theorem own_lists (p q c T T2 nw m1 m2 m3 : Nat) (R L W W2 : Nat → Value) (Y : Nat → List (Int × Int)) (Z : Nat → List Int) (ts us cs : List Tm) (w0 w : World) (A A0 : Asn) (x0 x1 x4 x5 x7 x9 x11 x12 x13 x14 x15 x16 x17 x18 x19 x20 x21 : Value) (hA : ∀ w, St w0 A w → St w0 A0 w)
    (ha : plOK T ts) (hla : ts.length ≤ 65536) (hlc : cs.length ≤ 65536)
    (y2 : Y 2 = sortT (ts.map tmr)) (y5 : Y 5 = sortT (cs.map tmr)) (z0 : Z 0 = ldF T (ts.map tmr) 0) (y01 : Y 0 = Y 1) (y24 : Y 2 = Y 4) (hYl : ∀ j, (Y j).length ≤ 65536) (hZl : ∀ j, (Z j).length ≤ 64)
    (h14 : Row w0 A x14 6 1 ((List.range 6).map R)) (h15 : Row w0 A x15 5 1 ((List.range 5).map L)) (h16 : Row w0 A x16 6 1 ((List.range 6).map W)) (h17 : Row w0 A x17 5 1 ((List.range 5).map W2))
    (hW : ∀ j, j < 6 → Row w0 A (W j) (Y j).length 2 (flat (Y j))) (hW2 : ∀ j, j < 5 → Row w0 A (W2 j) (Z j).length 1 (ints (Z j)))
    (s : St w0 (A * whl p T m1 ts * whl q T2 m2 us * whl c nw m3 cs * rowsA R Y * listsA L Z) w) :
    h4_10.wp U2 (QO w0 A0) [x0, x1, .int .i64 T, .bool false, x4, x5, .pointer (some ⟨p, 0, none⟩), x7, .pointer (some ⟨q, 0, none⟩), x9, .pointer (some ⟨c, 0, none⟩), x11, x12, x13, x14, x15, x16, x17, x18, x19, x20, x21] w := by
  obtain ⟨g, o, cap, rfl, hc⟩ := h15.at (by omega)
  obtain ⟨g2, o2, cap2, rfl, hc2⟩ := h17.at (by omega)
  obtain ⟨B, hB⟩ : ∃ B, A * whl p T m1 ts * whl q T2 m2 us * whl c nw m3 cs * rowsA R Y * listsA L Z = B := ⟨_, rfl⟩
  have toA : ∀ w, St w0 B w → St w0 A w := fun w s => by rw [← hB] at s; exact s.drop.drop.drop.drop.drop
  rw [hB] at s
  simp
  refine loopI (fun env w' => ∃ (i : Nat), env = [x0, x1, .int .i64 T, .bool false, x4, x5, .pointer (some ⟨p, 0, none⟩), x7, .pointer (some ⟨q, 0, none⟩), x9, .pointer (some ⟨c, 0, none⟩), x11, x12, x13, x14, .slice (some ⟨g, o, none⟩) 5 cap, x16, .slice (some ⟨g2, o2, none⟩) 5 cap2, x18, x19, x20, .int .i64 i] ∧ i ≤ 5 ∧ St w0 B w')
    (fun env _ => 5 - slotN env 21) ⟨0, rfl, by omega, s⟩ ?_
  clear s
  rintro LQ env w' ⟨i, rfl, hi, s⟩ hN hE hR
  simp
  refine cndI (fun h => ?_) (fun h => ?_)
  · have h0 := h
    simp at h0
    have h : i < 5 := by omega
    have hzl := hZl i
    simp
    refine brmI (oneO (St w0 B)) s.drew ?_
    simp [h0]
    refine effm_ldc (v := L i) (fun vs' w he hw => ?_) ?_
    · match vs', hw with
      | [], hw => exact hc w (toA w hw) i _ (range_at h)
      | [_], hw => simp [era] at he
    simp [h0]
    refine effm_ldc (v := W2 i) (fun vs' w he hw => ?_) ?_
    · match vs', hw with
      | [], hw => exact hc2 w (toA w hw) i _ (range_at h)
      | [_], hw => simp [era] at he
    simp
    refine effm_mv rfl (fun w s => eff_call ((ints_spec (Z i) (Z i) (L i) (W2 i) w0 w B (by omega) (lists_row h s (B := A * whl p T m1 ts * whl q T2 m2 us * whl c nw m3 cs * rowsA R Y) hB.symm) ((hW2 i h).mono toA) s).mono fun r w' h => ?_)) (fun r1 h1 => ?_)
    · obtain ⟨rfl, h⟩ := h; exact ⟨by simp, h⟩
    obtain ⟨_, rfl, _⟩ := h1
    simp
    intro w9 h9
    try simp (disch := omega) only [wrap64]
    exact hN _ _ ⟨i + 1, by simp, by omega, h9.2⟩ (by simp [slotN]; omega)
  simp at h
  simp
  refine hE _ _ _ ?_
  simp
  rw [← hB] at s
  have key := own_mid p q c T T2 nw m1 m2 m3 R L W W2 Y Z ts us cs w0 w' A A0 x0 x1 x4 x5 x7 x9 x11 x12 x13 x14 (.slice (some ⟨g, o, none⟩) 5 cap) x16 (.slice (some ⟨g2, o2, none⟩) 5 cap2) x18 x19 x20 (.int .i64 i) hA ha hla hlc y2 y5 z0 y01 y24 hYl hZl h14 h15 h16 h17 hW hW2 s
  simpa using key
set_option maxHeartbeats 1000000 in
theorem own_rows (p q c T T2 nw m1 m2 m3 : Nat) (R L W W2 : Nat → Value) (Y : Nat → List (Int × Int)) (Z : Nat → List Int) (ts us cs : List Tm) (w0 w : World) (A A0 : Asn) (x0 x1 x4 x5 x7 x9 x11 x12 x13 x14 x15 x16 x17 x18 x19 x20 x21 : Value) (hA : ∀ w, St w0 A w → St w0 A0 w)
    (ha : plOK T ts) (hla : ts.length ≤ 65536) (hlc : cs.length ≤ 65536)
    (y2 : Y 2 = sortT (ts.map tmr)) (y5 : Y 5 = sortT (cs.map tmr)) (z0 : Z 0 = ldF T (ts.map tmr) 0) (y01 : Y 0 = Y 1) (y24 : Y 2 = Y 4) (hYl : ∀ j, (Y j).length ≤ 65536) (hZl : ∀ j, (Z j).length ≤ 64)
    (h14 : Row w0 A x14 6 1 ((List.range 6).map R)) (h15 : Row w0 A x15 5 1 ((List.range 5).map L)) (h16 : Row w0 A x16 6 1 ((List.range 6).map W)) (h17 : Row w0 A x17 5 1 ((List.range 5).map W2))
    (hW : ∀ j, j < 6 → Row w0 A (W j) (Y j).length 2 (flat (Y j))) (hW2 : ∀ j, j < 5 → Row w0 A (W2 j) (Z j).length 1 (ints (Z j)))
    (s : St w0 (A * whl p T m1 ts * whl q T2 m2 us * whl c nw m3 cs * rowsA R Y * listsA L Z) w) :
    h4_18.wp U2 (QO w0 A0) [x0, x1, .int .i64 T, .bool false, x4, x5, .pointer (some ⟨p, 0, none⟩), x7, .pointer (some ⟨q, 0, none⟩), x9, .pointer (some ⟨c, 0, none⟩), x11, x12, x13, x14, x15, x16, x17, x18, x19, x20, x21] w := by
  obtain ⟨g, o, cap, rfl, hc⟩ := h14.at (by omega)
  obtain ⟨g2, o2, cap2, rfl, hc2⟩ := h16.at (by omega)
  obtain ⟨B, hB⟩ : ∃ B, A * whl p T m1 ts * whl q T2 m2 us * whl c nw m3 cs * rowsA R Y * listsA L Z = B := ⟨_, rfl⟩
  have toA : ∀ w, St w0 B w → St w0 A w := fun w s => by rw [← hB] at s; exact s.drop.drop.drop.drop.drop
  rw [hB] at s
  simp
  refine loopI (fun env w' => ∃ (i : Nat), env = [x0, x1, .int .i64 T, .bool false, x4, x5, .pointer (some ⟨p, 0, none⟩), x7, .pointer (some ⟨q, 0, none⟩), x9, .pointer (some ⟨c, 0, none⟩), x11, x12, x13, .slice (some ⟨g, o, none⟩) 6 cap, x15, .slice (some ⟨g2, o2, none⟩) 6 cap2, x17, x18, x19, .int .i64 i, x21] ∧ i ≤ 6 ∧ St w0 B w')
    (fun env _ => 6 - slotN env 20) ⟨0, rfl, by omega, s⟩ ?_
  clear s
  rintro LQ env w' ⟨i, rfl, hi, s⟩ hN hE hR
  simp
  refine cndI (fun h => ?_) (fun h => ?_)
  · have h0 := h
    simp at h0
    have h : i < 6 := by omega
    have hyl := hYl i
    simp
    refine brmI (oneO (St w0 B)) s.drew ?_
    simp [h0]
    refine effm_ldc (v := R i) (fun vs' w he hw => ?_) ?_
    · match vs', hw with
      | [], hw => exact hc w (toA w hw) i _ (range_at h)
      | [_], hw => simp [era] at he
    simp [h0]
    refine effm_ldc (v := W i) (fun vs' w he hw => ?_) ?_
    · match vs', hw with
      | [], hw => exact hc2 w (toA w hw) i _ (range_at h)
      | [_], hw => simp [era] at he
    simp
    refine effm_mv rfl (fun w s => eff_call ((same_spec (Y i) (Y i) (R i) (W i) w0 w B (by omega) (rows_row h s (B := A * whl p T m1 ts * whl q T2 m2 us * whl c nw m3 cs * listsA L Z) (by rw [← hB]; ac_rfl)) ((hW i h).mono toA) s).mono fun r w' h => ?_)) (fun r1 h1 => ?_)
    · obtain ⟨rfl, h⟩ := h; exact ⟨by simp, h⟩
    obtain ⟨_, rfl, _⟩ := h1
    simp
    intro w9 h9
    try simp (disch := omega) only [wrap64]
    exact hN _ _ ⟨i + 1, by simp, by omega, h9.2⟩ (by simp [slotN]; omega)
  simp at h
  simp
  refine hE _ _ _ ?_
  simp
  rw [← hB] at s
  have key := own_lists p q c T T2 nw m1 m2 m3 R L W W2 Y Z ts us cs w0 w' A A0 x0 x1 x4 x5 x7 x9 x11 x12 x13 (.slice (some ⟨g, o, none⟩) 6 cap) x15 (.slice (some ⟨g2, o2, none⟩) 6 cap2) x17 x18 x19 (.int .i64 i) x21 hA ha hla hlc y2 y5 z0 y01 y24 hYl hZl h14 h15 h16 h17 hW hW2 s
  simpa using key
set_option maxHeartbeats 1000000 in
theorem own_adv (p q c T nw m1 m2 m3 : Nat) (R L W W2 : Nat → Value) (Y : Nat → List (Int × Int)) (Z : Nat → List Int) (ts us cs : List Tm) (w0 w : World) (A A0 : Asn) (x0 x1 x4 x5 x7 x9 x11 x12 x13 x14 x15 x16 x17 x18 x19 x20 x21 : Value) (hA : ∀ w, St w0 A w → St w0 A0 w)
    (ha : plOK T ts) (hla : ts.length ≤ 65536) (hlc : cs.length ≤ 65536)
    (y2 : Y 2 = sortT (ts.map tmr)) (y5 : Y 5 = sortT (cs.map tmr)) (z0 : Z 0 = ldF T (ts.map tmr) 0) (y01 : Y 0 = Y 1) (y24 : Y 2 = Y 4) (hYl : ∀ j, (Y j).length ≤ 65536) (hZl : ∀ j, (Z j).length ≤ 64)
    (hb : plOK T us) (hlb : us.length ≤ 65536) (hT : T ≤ 1099243192320) (hm2 : m2 ≤ 2305843009213693952)
    (h14 : Row w0 A x14 6 1 ((List.range 6).map R)) (h15 : Row w0 A x15 5 1 ((List.range 5).map L)) (h16 : Row w0 A x16 6 1 ((List.range 6).map W)) (h17 : Row w0 A x17 5 1 ((List.range 5).map W2))
    (hW : ∀ j, j < 6 → Row w0 A (W j) (Y j).length 2 (flat (Y j))) (hW2 : ∀ j, j < 5 → Row w0 A (W2 j) (Z j).length 1 (ints (Z j)))
    (s : St w0 (A * whl p T m1 ts * whl q T m2 us * whl c nw m3 cs * rowsA R Y * listsA L Z) w) :
    h4_19.wp U2 (QO w0 A0) [x0, x1, .int .i64 T, .bool false, x4, x5, .pointer (some ⟨p, 0, none⟩), x7, .pointer (some ⟨q, 0, none⟩), x9, .pointer (some ⟨c, 0, none⟩), x11, x12, x13, x14, x15, x16, x17, x18, x19, x20, x21] w := by
  simp
  try simp (disch := omega) only [wrap64]
  refine eff_call (Advance_spec q T m2 us ((T : Int) + 268435456) w0 w (A * whl p T m1 ts * whl c nw m3 cs * rowsA R Y * listsA L Z) hb (by omega) hlb (by omega) (s.to (by ac_rfl)) fun r w1 h1 => ?_)
  rw [if_pos (by omega)] at h1
  obtain ⟨v, rfl, s1⟩ := h1
  obtain ⟨T2, hT2⟩ : ∃ T2 : Nat, ((T : Int) + 268435456).toNat = T2 := ⟨_, rfl⟩
  rw [hT2] at s1
  obtain ⟨us', hus⟩ : ∃ us', restT T2 us = us' := ⟨_, rfl⟩
  obtain ⟨D, hD⟩ : ∃ D, sortT ((dueT T2 us).map tmr) = D := ⟨_, rfl⟩
  obtain ⟨m4, hm4⟩ : ∃ m4, m2 + (movedT T2 us).length = m4 := ⟨_, rfl⟩
  rw [hus, hD, hm4] at s1
  have s1 : St w0 (A * whl p T m1 ts * whl q T2 m4 us' * whl c nw m3 cs * rowsA R Y * listsA L Z) w1 := St.cut (outs v D) s1 (by ac_rfl)
  simp
  have key := own_rows p q c T T2 nw m1 m4 m3 R L W W2 Y Z ts us' cs w0 w1 A A0 x0 x1 x4 x5 x7 x9 x11 x12 x13 x14 x15 x16 x17 x18 x19 x20 x21 hA ha hla hlc y2 y5 z0 y01 y24 hYl hZl h14 h15 h16 h17 hW hW2 s1
  simpa using key
def ownO (Z : Nat → List Int) (j : Nat) : Option Value → Asn
  | none => emp
  | some v => own 3 1 v (Z j).length (ints (Z j))
theorem own_none (Z : Nat → List Int) : ∀ n, bigA (ownO Z) (fun _ => none) n = emp
  | 0 => rfl
  | n + 1 => by
    show bigA (ownO Z) (fun _ => none) n * emp = emp
    rw [own_none Z n, sep_emp]
def ownT (Y : Nat → List (Int × Int)) (j : Nat) : Option Value → Asn
  | none => emp
  | some v => own 32 2 v (Y j).length (flat (Y j))
theorem own_noneT (Y : Nat → List (Int × Int)) : ∀ n, bigA (ownT Y) (fun _ => none) n = emp
  | 0 => rfl
  | n + 1 => by
    show bigA (ownT Y) (fun _ => none) n * emp = emp
    rw [own_noneT Y n, sep_emp]
set_option maxHeartbeats 1000000 in
theorem own_loaded (p q c T nw m1 m2 m3 : Nat) (R L W : Nat → Value) (Y : Nat → List (Int × Int)) (Z : Nat → List Int) (ts us cs : List Tm) (w0 w : World) (A A0 : Asn) (x0 x1 x4 x5 x7 x9 x11 x12 x13 x14 x15 x16 x18 x19 x20 x21 : Value) (hA : ∀ w, St w0 A w → St w0 A0 w)
    (ha : plOK T ts) (hla : ts.length ≤ 65536) (hlc : cs.length ≤ 65536)
    (y2 : Y 2 = sortT (ts.map tmr)) (y5 : Y 5 = sortT (cs.map tmr)) (z0 : Z 0 = ldF T (ts.map tmr) 0) (y01 : Y 0 = Y 1) (y24 : Y 2 = Y 4) (hYl : ∀ j, (Y j).length ≤ 65536) (hZl : ∀ j, (Z j).length ≤ 64)
    (hb : plOK T us) (hlb : us.length ≤ 65536) (hT : T ≤ 1099243192320) (hm2 : m2 ≤ 2305843009213693952)
    (h14 : Row w0 A x14 6 1 ((List.range 6).map R)) (h15 : Row w0 A x15 5 1 ((List.range 5).map L)) (h16 : Row w0 A x16 6 1 ((List.range 6).map W))
    (hW : ∀ j, j < 6 → Row w0 A (W j) (Y j).length 2 (flat (Y j)))
    (s : St w0 (A * whl p T m1 ts * whl q T m2 us * whl c nw m3 cs * rowsA R Y * listsA L Z) w) :
    h4_26.wp U2 (QO w0 A0) [x0, x1, .int .i64 T, .bool false, x4, x5, .pointer (some ⟨p, 0, none⟩), x7, .pointer (some ⟨q, 0, none⟩), x9, .pointer (some ⟨c, 0, none⟩), x11, x12, x13, x14, x15, x16, .slice none 0 0, x18, x19, x20, x21] w := by
  obtain ⟨g, o, cap, rfl, hc⟩ := h15.at (by omega)
  obtain ⟨B, hB⟩ : ∃ B, A * whl p T m1 ts * whl q T m2 us * whl c nw m3 cs * rowsA R Y = B := ⟨_, rfl⟩
  have toA : ∀ w, St w0 B w → St w0 A w := fun w s => by rw [← hB] at s; exact s.drop.drop.drop.drop
  rw [hB] at s
  have s1 : St w0 (B * listsA L Z * bigA (ownO Z) (fun _ => none) 5) w := by rw [own_none, sep_emp]; exact s
  simp
  refine loopI (fun env w' => ∃ (i : Nat) (G : Nat → Option Value) (lv : Value), env = [x0, x1, .int .i64 T, .bool false, x4, x5, .pointer (some ⟨p, 0, none⟩), x7, .pointer (some ⟨q, 0, none⟩), x9, .pointer (some ⟨c, 0, none⟩), x11, x12, x13, x14, .slice (some ⟨g, o, none⟩) 5 cap, x16, lv, x18, .int .i64 i, x20, x21] ∧ i ≤ 5 ∧
      (∀ j, j < i → ∃ g, G j = some g) ∧ (∀ j, i ≤ j → G j = none) ∧ St w0 (B * listsA L Z * bigA (ownO Z) G 5 * own 47 1 lv i ((List.range i).map fun j => gv (G j))) w')
    (fun env _ => 5 - slotN env 19) ⟨0, fun _ => none, _, rfl, by omega, fun j hj => by omega, fun _ _ => rfl, s1.own_nil _ _⟩ ?_
  clear s s1
  rintro LQ env w' ⟨i, G, lv, rfl, hi, hG1, hG2, s⟩ hN hE hR
  simp
  refine cndI (fun h => ?_) (fun h => ?_)
  · have h0 := h
    simp at h0
    have h : i < 5 := by omega
    simp
    refine eff_bsl0 s ?_
    intro x0' w1 s1
    simp [h0]
    refine eff_ldc (hc w1 (toA w1 s1.drop.drop.drop.drop) i _ (range_at h)) ?_
    simp
    have hzl := hZl i
    refine eff_appR s1 (row_in (e := 3) (B := B * bigH (fL L) Z i 5 * bigA (ownO Z) G 5 * own 47 1 lv i ((List.range i).map fun j => gv (G j)) * own 3 1 x0' 0 []) s1 (by rw [lists_one L Z h]; unfold fL; ac_rfl)) (fun u hu => by simp only [ints, List.mem_map] at hu; obtain ⟨y, _, rfl⟩ := hu; rfl) (by decide) rfl (by unfold maxLen; omega) (by omega) ?_
    intro x1' w2 s2
    have s2 : St w0 (B * listsA L Z * bigA (ownO Z) G 5 * own 47 1 lv i ((List.range i).map fun j => gv (G j)) * own 3 1 x1' (Z i).length (ints (Z i))) w2 := by simpa using s2
    obtain ⟨xa, xc, hx1, _⟩ := s2.own_val
    simp
    refine eff_bsl1 s2 (by rw [hx1]; rfl) ?_
    intro b w3 s3
    simp
    have s3' := s3.to (B := B * listsA L Z * bigA (ownO Z) G 5 * own 3 1 x1' (Z i).length (ints (Z i)) * pt b (.cells #[x1'] 47 (0, 0)) * own 47 1 lv i ((List.range i).map fun j => gv (G j))) (by ac_rfl)
    refine eff_app (m := 1) (news := [x1']) s3' rfl s3.cells_look (by rw [hx1]; simp [Value.oneCell']) (by decide) rfl (by unfold maxLen; omega) (by omega) ?_
    intro lv2 w4 s4
    rw [gv_succ] at s4
    simp
    try simp (disch := omega) only [wrap64]
    refine hN _ _ ⟨i + 1, upF G i (some x1'), lv2, by simp, by omega, fun j hj => ?_, fun j hj => ?_, ?_⟩ (by simp [slotN]; omega)
    · by_cases e : j = i
      · subst e; exact ⟨_, upF_at _ _ _⟩
      · rw [upF_ne _ _ e]; exact hG1 j (by omega)
    · rw [upF_ne _ _ (by omega)]; exact hG2 j (by omega)
    · rw [big_set h]
      rw [big_at h, hG2 i (Nat.le_refl i)] at s4
      simp only [ownO, sep_emp] at s4 ⊢
      exact St.cut (pt b (.cells #[x1'] 47 (0, 0))) s4 (by ac_rfl)
  simp at h
  simp
  refine hE _ _ _ ?_
  simp
  have hi6 : i = 5 := by omega
  subst hi6
  rw [← hB] at s
  obtain ⟨A1, hA1⟩ : ∃ A1, A * bigA (ownO Z) G 5 * own 47 1 lv 5 ((List.range 5).map fun j => gv (G j)) = A1 := ⟨_, rfl⟩
  have s3 := s.to (B := A1 * whl p T m1 ts * whl q T m2 us * whl c nw m3 cs * rowsA R Y * listsA L Z) (by rw [← hA1]; ac_rfl)
  have s4 : St w0 (A * bigA (ownO Z) G 5 * own 47 1 lv 5 ((List.range 5).map fun j => gv (G j))) w' := by rw [hA1]; exact s3.drop.drop.drop.drop.drop
  have dn : ∀ w, St w0 A1 w → St w0 A w := fun w s => by rw [← hA1] at s; exact s.drop.drop
  have hWs : ∀ j, j < 5 → Row w0 A1 (gv (G j)) (Z j).length 1 (ints (Z j)) := fun j hj => by
    rw [← hA1]
    obtain ⟨y, hy⟩ := hG1 j hj
    refine row_in (e := 3) (B := A * bigH (ownO Z) G j 5 * own 47 1 lv 5 ((List.range 5).map fun j => gv (G j))) s4 ?_
    rw [big_at hj, hy]
    simp only [ownO, gv, Option.getD_some]
    ac_rfl
  have h17 : Row w0 A1 lv 5 1 ((List.range 5).map fun j => gv (G j)) := by rw [← hA1]; exact row_own s4
  have key := own_adv p q c T nw m1 m2 m3 R L W (fun j => gv (G j)) Y Z ts us cs w0 w' A1 A0 x0 x1 x4 x5 x7 x9 x11 x12 x13 x14 (.slice (some ⟨g, o, none⟩) 5 cap) x16 lv x18 (.int .i64 (5 : Nat)) x20 x21 (fun w s => hA w (dn w s)) ha hla hlc y2 y5 z0 y01 y24 hYl hZl hb hlb hT hm2 (h14.mono dn) (h15.mono dn) (h16.mono dn) h17 (fun j hj => (hW j hj).mono dn) hWs s3
  simpa using key
set_option maxHeartbeats 1000000 in
theorem own_want (p q c T nw m1 m2 m3 : Nat) (R L : Nat → Value) (Y : Nat → List (Int × Int)) (Z : Nat → List Int) (ts us cs : List Tm) (w0 w : World) (A A0 : Asn) (x0 x1 x4 x5 x7 x9 x11 x12 x13 x14 x15 x18 x19 x20 x21 : Value) (hA : ∀ w, St w0 A w → St w0 A0 w)
    (ha : plOK T ts) (hla : ts.length ≤ 65536) (hlc : cs.length ≤ 65536)
    (y2 : Y 2 = sortT (ts.map tmr)) (y5 : Y 5 = sortT (cs.map tmr)) (z0 : Z 0 = ldF T (ts.map tmr) 0) (y01 : Y 0 = Y 1) (y24 : Y 2 = Y 4) (hYl : ∀ j, (Y j).length ≤ 65536) (hZl : ∀ j, (Z j).length ≤ 64)
    (hb : plOK T us) (hlb : us.length ≤ 65536) (hT : T ≤ 1099243192320) (hm2 : m2 ≤ 2305843009213693952)
    (h14 : Row w0 A x14 6 1 ((List.range 6).map R)) (h15 : Row w0 A x15 5 1 ((List.range 5).map L))
    (s : St w0 (A * whl p T m1 ts * whl q T m2 us * whl c nw m3 cs * rowsA R Y * listsA L Z) w) :
    h4_33.wp U2 (QO w0 A0) [x0, x1, .int .i64 T, .bool false, x4, x5, .pointer (some ⟨p, 0, none⟩), x7, .pointer (some ⟨q, 0, none⟩), x9, .pointer (some ⟨c, 0, none⟩), x11, x12, x13, x14, x15, .slice none 0 0, .slice none 0 0, x18, x19, x20, x21] w := by
  obtain ⟨g, o, cap, rfl, hc⟩ := h14.at (by omega)
  obtain ⟨B, hB⟩ : ∃ B, A * whl p T m1 ts * whl q T m2 us * whl c nw m3 cs * listsA L Z = B := ⟨_, rfl⟩
  have toA : ∀ w, St w0 B w → St w0 A w := fun w s => by rw [← hB] at s; exact s.drop.drop.drop.drop
  have s1 : St w0 (B * rowsA R Y * bigA (ownT Y) (fun _ => none) 6) w := by rw [own_noneT, sep_emp, ← hB]; exact s.to (by ac_rfl)
  simp
  refine loopI (fun env w' => ∃ (i : Nat) (G : Nat → Option Value) (lv : Value), env = [x0, x1, .int .i64 T, .bool false, x4, x5, .pointer (some ⟨p, 0, none⟩), x7, .pointer (some ⟨q, 0, none⟩), x9, .pointer (some ⟨c, 0, none⟩), x11, x12, x13, .slice (some ⟨g, o, none⟩) 6 cap, x15, lv, .slice none 0 0, .int .i64 i, x19, x20, x21] ∧ i ≤ 6 ∧
      (∀ j, j < i → ∃ g, G j = some g) ∧ (∀ j, i ≤ j → G j = none) ∧ St w0 (B * rowsA R Y * bigA (ownT Y) G 6 * own 38 1 lv i ((List.range i).map fun j => gv (G j))) w')
    (fun env _ => 6 - slotN env 18) ⟨0, fun _ => none, _, rfl, by omega, fun j hj => by omega, fun _ _ => rfl, s1.own_nil _ _⟩ ?_
  clear s s1
  rintro LQ env w' ⟨i, G, lv, rfl, hi, hG1, hG2, s⟩ hN hE hR
  simp
  refine cndI (fun h => ?_) (fun h => ?_)
  · have h0 := h
    simp at h0
    have h : i < 6 := by omega
    simp
    refine eff_bsl0 s ?_
    intro x0' w1 s1
    simp [h0]
    refine eff_ldc (hc w1 (toA w1 s1.drop.drop.drop.drop) i _ (range_at h)) ?_
    simp
    have hyl := hYl i
    refine eff_appR s1 (row_in (e := 32) (B := B * bigH (fR R) Y i 6 * bigA (ownT Y) G 6 * own 38 1 lv i ((List.range i).map fun j => gv (G j)) * own 32 2 x0' 0 []) s1 (by rw [rows_one R Y h]; unfold fR; ac_rfl)) (fun u hu => by obtain ⟨x, _, hx⟩ := List.mem_flatMap.1 hu; exact encT_one x u hx) (by decide) rfl (by unfold maxLen; omega) (by omega) ?_
    intro x1' w2 s2
    have s2 : St w0 (B * rowsA R Y * bigA (ownT Y) G 6 * own 38 1 lv i ((List.range i).map fun j => gv (G j)) * own 32 2 x1' (Y i).length (flat (Y i))) w2 := by simpa using s2
    obtain ⟨xa, xc, hx1, _⟩ := s2.own_val
    simp
    refine eff_bsl1 s2 (by rw [hx1]; rfl) ?_
    intro b w3 s3
    simp
    have s3' := s3.to (B := B * rowsA R Y * bigA (ownT Y) G 6 * own 32 2 x1' (Y i).length (flat (Y i)) * pt b (.cells #[x1'] 38 (0, 0)) * own 38 1 lv i ((List.range i).map fun j => gv (G j))) (by ac_rfl)
    refine eff_app (m := 1) (news := [x1']) s3' rfl s3.cells_look (by rw [hx1]; simp [Value.oneCell']) (by decide) rfl (by unfold maxLen; omega) (by omega) ?_
    intro lv2 w4 s4
    rw [gv_succ] at s4
    simp
    try simp (disch := omega) only [wrap64]
    refine hN _ _ ⟨i + 1, upF G i (some x1'), lv2, by simp, by omega, fun j hj => ?_, fun j hj => ?_, ?_⟩ (by simp [slotN]; omega)
    · by_cases e : j = i
      · subst e; exact ⟨_, upF_at _ _ _⟩
      · rw [upF_ne _ _ e]; exact hG1 j (by omega)
    · rw [upF_ne _ _ (by omega)]; exact hG2 j (by omega)
    · rw [big_set h]
      rw [big_at h, hG2 i (Nat.le_refl i)] at s4
      simp only [ownT, sep_emp] at s4 ⊢
      exact St.cut (pt b (.cells #[x1'] 38 (0, 0))) s4 (by ac_rfl)
  simp at h
  simp
  refine hE _ _ _ ?_
  simp
  have hi6 : i = 6 := by omega
  subst hi6
  rw [← hB] at s
  obtain ⟨A1, hA1⟩ : ∃ A1, A * bigA (ownT Y) G 6 * own 38 1 lv 6 ((List.range 6).map fun j => gv (G j)) = A1 := ⟨_, rfl⟩
  have s3 := s.to (B := A1 * whl p T m1 ts * whl q T m2 us * whl c nw m3 cs * rowsA R Y * listsA L Z) (by rw [← hA1]; ac_rfl)
  have s4 : St w0 (A * bigA (ownT Y) G 6 * own 38 1 lv 6 ((List.range 6).map fun j => gv (G j))) w' := by rw [hA1]; exact s3.drop.drop.drop.drop.drop
  have dn : ∀ w, St w0 A1 w → St w0 A w := fun w s => by rw [← hA1] at s; exact s.drop.drop
  have hWs : ∀ j, j < 6 → Row w0 A1 (gv (G j)) (Y j).length 2 (flat (Y j)) := fun j hj => by
    rw [← hA1]
    obtain ⟨y, hy⟩ := hG1 j hj
    refine row_in (e := 32) (B := A * bigH (ownT Y) G j 6 * own 38 1 lv 6 ((List.range 6).map fun j => gv (G j))) s4 ?_
    rw [big_at hj, hy]
    simp only [ownT, gv, Option.getD_some]
    ac_rfl
  have h16 : Row w0 A1 lv 6 1 ((List.range 6).map fun j => gv (G j)) := by rw [← hA1]; exact row_own s4
  have key := own_loaded p q c T nw m1 m2 m3 R L (fun j => gv (G j)) Y Z ts us cs w0 w' A1 A0 x0 x1 x4 x5 x7 x9 x11 x12 x13 (.slice (some ⟨g, o, none⟩) 6 cap) x15 lv (.int .i64 (6 : Nat)) x19 x20 x21 (fun w s => hA w (dn w s)) ha hla hlc y2 y5 z0 y01 y24 hYl hZl hb hlb hT hm2 (h14.mono dn) (h15.mono dn) h16 hWs s3
  simpa using key
end Go.HL.Wh
