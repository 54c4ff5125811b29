/-
  What the claim leans on, part 10 of 13. Conditions: as each theorem says.
-/
import Derived.Test.YtnpobdapojomnaaSRMi
import Derived.Lib.ConvBytes
namespace Go.HL.Tl
open Go.HL Go.Proofs
set_option maxRecDepth 4000
set_option linter.unusedSimpArgs false
set_option linter.unusedVariables false

def h63_0 : HC := (.seq (.reg (.eff (.call 85) (.cons (.inp 0) .nil) (.eff (.call 84) (.cons (.bv 0) .nil) (.done [(1, (.bv 1))] none)))) .ret)
@[simp] theorem h63_0_wp : type_of% (@wpH h63_0 _ h63_0.eq_1) := wpH h63_0.eq_1
def h63_1 : HC := (.seq (.reg (.done [(1, (.cst (.slice none 0 0)))] none)) .ret)
@[simp] theorem h63_1_wp : type_of% (@wpH h63_1 _ h63_1.eq_1) := wpH h63_1.eq_1
def h63_2 : HC := (.seq (.br (.chk none .lenL (.cons (.inp 0) .nil) (.chk none (.bin .eql) (.cons (.op .lenL (.cons (.inp 0) .nil)) (.cons (.cst (.int .i64 0)) .nil)) (.done [] (some (.op (.bin .eql) (.cons (.op .lenL (.cons (.inp 0) .nil)) (.cons (.cst (.int .i64 0)) .nil))))))) h63_1 .skip) h63_0)
@[simp] theorem h63_2_wp : type_of% (@wpH h63_2 _ h63_2.eq_1) := wpH h63_2.eq_1
def l63 : Lifted := ⟨[0, 2], 9, [.slot 1], (.seq (.reg (.done [(1, (.cst (.slice none 0 0)))] none)) h63_2)⟩
theorem l63_ok : liftFn T0 63 400 = some l63 := by kernel_rfl

def h57_0 : HC := (.seq (.reg (.eff (.app 31 31 5 1 1 (.int .u8 0)) (.cons (.inp 2) (.cons (.inp 0) .nil)) (.done [(1, (.bv 0))] none))) .ret)
@[simp] theorem h57_0_wp : type_of% (@wpH h57_0 _ h57_0.eq_1) := wpH h57_0.eq_1
def h57_1 : HC := (.seq (.reg (.done [(2, (.cst (.slice none 0 0)))] none)) h57_0)
@[simp] theorem h57_1_wp : type_of% (@wpH h57_1 _ h57_1.eq_1) := wpH h57_1.eq_1
def l57 : Lifted := ⟨[0, 2, 3], 7, [.slot 1], (.seq (.reg (.done [(1, (.cst (.slice none 0 0)))] none)) h57_1)⟩
theorem l57_ok : liftFn T0 57 400 = some l57 := by kernel_rfl

def h84_0 : HC := (.seq (.reg (.chk none .lenL (.cons (.inp 0) .nil) (.chk none .lenL (.cons (.inp 0) .nil) (.chk none (.slL 1 false true true) (.cons (.inp 0) (.cons (.op .lenL (.cons (.inp 0) .nil)) (.cons (.op .lenL (.cons (.inp 0) .nil)) .nil))) (.done [(1, (.op (.slL 1 false true true) (.cons (.inp 0) (.cons (.op .lenL (.cons (.inp 0) .nil)) (.cons (.op .lenL (.cons (.inp 0) .nil)) .nil)))))] none))))) .ret)
@[simp] theorem h84_0_wp : type_of% (@wpH h84_0 _ h84_0.eq_1) := wpH h84_0.eq_1
def l84 : Lifted := ⟨[0, 2], 9, [.slot 1], (.seq (.reg (.done [(1, (.cst (.slice none 0 0)))] none)) h84_0)⟩
theorem l84_ok : liftFn T0 84 400 = some l84 := by kernel_rfl

def h85_0 : HC := (.seq (.reg (.eff (.bsl 5 0 1 #[] []) .nil (.eff (.app 31 31 5 1 1 (.int .u8 0)) (.cons (.bv 0) (.cons (.inp 0) .nil)) (.done [(1, (.bv 1))] none)))) .ret)
@[simp] theorem h85_0_wp : type_of% (@wpH h85_0 _ h85_0.eq_1) := wpH h85_0.eq_1
def h85_1 : HC := (.seq (.reg (.done [(1, (.cst (.slice none 0 0)))] none)) .ret)
@[simp] theorem h85_1_wp : type_of% (@wpH h85_1 _ h85_1.eq_1) := wpH h85_1.eq_1
def h85_2 : HC := (.seq (.br (.chk none (.eqNil false (.slice 5) (.slice none 0 0)) (.cons (.inp 0) .nil) (.done [] (some (.op (.eqNil false (.slice 5) (.slice none 0 0)) (.cons (.inp 0) .nil))))) h85_1 .skip) h85_0)
@[simp] theorem h85_2_wp : type_of% (@wpH h85_2 _ h85_2.eq_1) := wpH h85_2.eq_1
def l85 : Lifted := ⟨[0, 2], 8, [.slot 1], (.seq (.reg (.done [(1, (.cst (.slice none 0 0)))] none)) h85_2)⟩
theorem l85_ok : liftFn T0 85 400 = some l85 := by kernel_rfl

def h83_0 : HC := (.seq (.reg (.eff (.app 31 31 5 1 1 (.int .u8 0)) (.cons (.inp 0) (.cons (.inp 2) .nil)) (.done [(3, (.bv 0))] none))) .ret)
@[simp] theorem h83_0_wp : type_of% (@wpH h83_0 _ h83_0.eq_1) := wpH h83_0.eq_1
def h83_1 : HC := (.seq (.reg (.chk none .lenL (.cons (.inp 2) .nil) (.chk none (.convI .u64) (.cons (.op .lenL (.cons (.inp 2) .nil)) .nil) (.eff (.call 62) (.cons (.op (.convI .u64) (.cons (.op .lenL (.cons (.inp 2) .nil)) .nil)) .nil) (.eff (.app 31 31 5 1 1 (.int .u8 0)) (.cons (.inp 0) (.cons (.bv 0) .nil)) (.done [(0, (.bv 1))] none)))))) h83_0)
@[simp] theorem h83_1_wp : type_of% (@wpH h83_1 _ h83_1.eq_1) := wpH h83_1.eq_1
def h83_2 : HC := (.seq (.reg (.chk none (.convI .u8) (.cons (.inp 1) .nil) (.eff (.bsl 5 1 1 #[(.int .u8 0)] [0]) (.cons (.op (.convI .u8) (.cons (.inp 1) .nil)) .nil) (.eff (.app 31 31 5 1 1 (.int .u8 0)) (.cons (.inp 0) (.cons (.bv 0) .nil)) (.done [(0, (.bv 1))] none))))) h83_1)
@[simp] theorem h83_2_wp : type_of% (@wpH h83_2 _ h83_2.eq_1) := wpH h83_2.eq_1
def l83 : Lifted := ⟨[0, 1, 2, 6], 21, [.slot 3], (.seq (.reg (.done [(3, (.cst (.slice none 0 0)))] none)) h83_2)⟩
theorem l83_ok : liftFn T0 83 400 = some l83 := by kernel_rfl

def h80_0 : HC := (.seq (.reg (.eff (.app 31 31 5 1 1 (.int .u8 0)) (.cons (.inp 3) (.cons (.inp 1) .nil)) (.done [(2, (.bv 0))] none))) .ret)
@[simp] theorem h80_0_wp : type_of% (@wpH h80_0 _ h80_0.eq_1) := wpH h80_0.eq_1
def h80_1 : HC := (.seq (.reg (.chk none .lenL (.cons (.inp 1) .nil) (.chk none (.convI .u64) (.cons (.op .lenL (.cons (.inp 1) .nil)) .nil) (.eff (.call 56) (.cons (.op (.convI .u64) (.cons (.op .lenL (.cons (.inp 1) .nil)) .nil)) .nil) (.eff (.app 31 31 5 1 1 (.int .u8 0)) (.cons (.inp 3) (.cons (.bv 0) .nil)) (.done [(3, (.bv 1))] none)))))) h80_0)
@[simp] theorem h80_1_wp : type_of% (@wpH h80_1 _ h80_1.eq_1) := wpH h80_1.eq_1
def h80_2 : HC := (.seq (.reg (.chk none (.convI .u8) (.cons (.inp 0) .nil) (.eff (.bsl 5 1 1 #[(.int .u8 0)] [0]) (.cons (.op (.convI .u8) (.cons (.inp 0) .nil)) .nil) (.done [(3, (.bv 0))] none)))) h80_1)
@[simp] theorem h80_2_wp : type_of% (@wpH h80_2 _ h80_2.eq_1) := wpH h80_2.eq_1
def l80 : Lifted := ⟨[0, 1, 4, 5], 18, [.slot 2], (.seq (.reg (.done [(2, (.cst (.slice none 0 0)))] none)) h80_2)⟩
theorem l80_ok : liftFn T0 80 400 = some l80 := by kernel_rfl
abbrev byA (v : Value) (bs : List UInt8) : Asn := own 5 1 v bs.length (bytesV bs)
abbrev BR (w0 : World) (A : Asn) (v : Value) (bs : List UInt8) : Prop := Row w0 A v bs.length 1 (bytesV bs)
def fieldL (tag : Nat) (v : List UInt8) : List UInt8 := UInt8.ofNat tag :: (shortL v.length ++ v)
theorem fieldL_len (tag : Nat) (v : List UInt8) : (fieldL tag v).length = 1 + (shortL v.length).length + v.length := by simp [fieldL]; omega
theorem byA_nil {w0 w : World} {A : Asn} (s : St w0 A w) : St w0 (A * byA (.slice none 0 0) []) w := s.own_nil 5 1
theorem by_of {w0 w : World} {A : Asn} {v : Value} {n : Nat} {xs : List Value} {b : List UInt8} (s : St w0 (A * own 5 1 v n xs) w) (h1 : n = b.length) (h2 : xs = bytesV b) : St w0 (A * byA v b) w := by
  subst h1 h2; exact s
theorem by_row {w0 w : World} {A : Asn} {v : Value} {bs : List UInt8} (s : St w0 (A * byA v bs) w) : BR w0 (A * byA v bs) v bs := row_own s
theorem Copied_spec (bs : List UInt8) (v : Value) (w0 w : World) (A : Asn) (hl : bs.length ≤ 35184372088832) (h : BR w0 A v bs) (s : St w0 A w) :
    CallW Try.prog 57 [v] (fun r w' => St w0 (A * byA r bs) w') w := by
  obtain ⟨a, cap, rfl⟩ := h.val
  refine callW_of_lift l57_ok (by simp [l57]) ?_
  simp [l57]
  refine eff_appR (byA_nil s) (h.mono fun w s => s.drop) (bytesV_one _) (by decide) rfl (by simp; unfold maxLen; omega) (by simp; omega) fun v2 w2 s2 => ?_
  simp
  exact by_of s2 (by simp) (by simp [bytesV])
theorem Clip_spec (bs : List UInt8) (v : Value) (w0 w : World) (A : Asn) (hl : bs.length ≤ 35184372088832) (s : St w0 (A * byA v bs) w) :
    CallW Try.prog 84 [v] (fun r w' => St w0 (A * byA r bs) w') w := by
  obtain ⟨a, cap, rfl, hcap, hz⟩ := s.own_val
  refine callW_of_lift l84_ok (by simp [l84]) ?_
  simp [l84, add_zero]
  exact ⟨hcap, clip_own s⟩
theorem Clone_spec (bs : List UInt8) (v : Value) (w0 w : World) (A : Asn) (hl : bs.length ≤ 35184372088832) (h : BR w0 A v bs) (s : St w0 A w) :
    CallW Try.prog 85 [v] (fun r w' => St w0 (A * byA r bs) w') w := by
  obtain ⟨a, cap, rfl⟩ := h.val
  refine callW_of_lift l85_ok (by simp [l85]) ?_
  simp [l85]
  refine cndI (fun hc => ?_) (fun hc => ?_)
  · simp at hc
    subst hc
    simp
    have e : bs = [] := by
      obtain ⟨_, _, _, hv, _, hz⟩ := h
      cases hv
      rcases hz with hz | ⟨_, _, hz, _⟩
      · exact List.eq_nil_of_length_eq_zero hz
      · cases hz
    subst e
    exact byA_nil s
  simp at hc
  simp
  refine eff_bsl0 s fun v1 w1 s1 => ?_
  simp
  refine eff_appR s1 (h.mono fun w s => s.drop) (bytesV_one _) (by decide) rfl (by simp; unfold maxLen; omega) (by simp; omega) fun v2 w2 s2 => ?_
  simp
  exact by_of s2 (by simp) (by simp)
theorem own_spec (bs : List UInt8) (v : Value) (w0 w : World) (A : Asn) (hl : bs.length ≤ 35184372088832) (h : BR w0 A v bs) (s : St w0 A w) :
    CallW Try.prog 63 [v] (fun r w' => St w0 (A * byA r bs) w') w := by
  obtain ⟨a, cap, rfl⟩ := h.val
  refine callW_of_lift l63_ok (by simp [l63]) ?_
  simp [l63]
  refine cndI (fun hc => ?_) (fun hc => ?_)
  · simp at hc
    simp
    subst hc
    exact byA_nil s
  simp at hc
  simp
  refine eff_call ((Clone_spec bs (.slice a bs.length cap) w0 w A hl h s).mono ?_)
  intro r w1 s1
  simp
  refine eff_call ((Clip_spec bs r w0 w1 A hl s1).mono ?_)
  intro r w2 s2
  simp
  exact s2
theorem field_spec (b bs : List UInt8) (v vb : Value) (tag : Int) (w0 w : World) (A : Asn) (ht : 0 ≤ tag ∧ tag < 256) (hb : b.length ≤ 35184372088832) (hl : bs.length ≤ 35184372088832) (h : BR w0 A v bs) (s : St w0 (A * byA vb b) w) :
    CallW Try.prog 83 [vb, .int .i64 tag, v] (fun r w' => St w0 (A * byA r (b ++ fieldL tag.toNat bs)) w') w := by
  obtain ⟨a, cap, rfl⟩ := h.val
  refine callW_of_lift l83_ok (by simp [l83]) ?_
  simp [l83]
  rw [u8_small _ (by omega)]
  refine eff_bsl1 s rfl fun c w2 s2 => ?_
  simp
  rw [byteI ht] at s2
  refine eff_app (m := 1) (news := bytesV [UInt8.ofNat tag.toNat]) s2.swap rfl (by simpa using s2.cells_look) (bytesV_one _) (by decide) rfl (by unfold maxLen; omega) (by omega) fun v3 w3 s3 => ?_
  simp
  rw [u64_small _ (by omega)]
  have s3 : St w0 (A * byA v3 (b ++ [UInt8.ofNat tag.toNat])) w3 := by
    have := s3.swap.drop
    simpa [byA, bytesV_app] using this
  have hs := shortL_len bs.length
  refine eff_call ((Short_spec bs.length w0 w3 _ (by omega) s3).mono ?_)
  intro r w4 s4
  simp at s4 ⊢
  have r4 : Row w0 (A * byA v3 (b ++ [UInt8.ofNat tag.toNat]) * byA r (shortL bs.length)) r (shortL bs.length).length 1 (bytesV (shortL bs.length)) := row_own s4
  refine eff_appR s4.swap (r4.mono fun w s => s.swap) (bytesV_one _) (by decide) rfl (by simp; unfold maxLen; omega) (by simp; omega) fun v5 w5 s5 => ?_
  simp
  refine eff_appR s5 (h.mono fun w s => s.drop.drop) (bytesV_one _) (by decide) rfl (by simp; unfold maxLen; omega) (by simp; omega) fun v6 w6 s6 => ?_
  simp
  have e : b ++ fieldL tag.toNat bs = b ++ [UInt8.ofNat tag.toNat] ++ shortL bs.length ++ bs := by simp [fieldL]
  rw [e]
  exact by_of s6.swap.drop (by simp; try omega) (by simp [bytesV])
theorem form_spec (bs : List UInt8) (v : Value) (tag : Int) (w0 w : World) (A : Asn) (ht : 0 ≤ tag ∧ tag < 256) (hl : bs.length ≤ 35184372088832) (h : BR w0 A v bs) (s : St w0 A w) :
    CallW Try.prog 80 [.int .i64 tag, v] (fun r w' => St w0 (A * byA r (fieldL tag.toNat bs)) w') w := by
  obtain ⟨a, cap, rfl⟩ := h.val
  refine callW_of_lift l80_ok (by simp [l80]) ?_
  simp [l80]
  rw [u8_small _ (by omega)]
  refine eff_bsl1 s rfl fun c w2 s2 => ?_
  simp
  rw [byteI ht] at s2
  rw [u64_small _ (by omega)]
  have s3 : St w0 (A * byA (.slice (some ⟨c, 0, none⟩) 1 1) [UInt8.ofNat tag.toNat]) w2 := s2.own_mk (Nat.le_refl 1) (by decide) (by simp [bytesV]) (by simp [bytesV])
  have hs := shortL_len bs.length
  refine eff_call ((rShort_spec bs.length w0 w2 _ (by omega) s3).mono ?_)
  intro r w4 s4
  simp at s4 ⊢
  have r4 : Row w0 (A * byA (.slice (some ⟨c, 0, none⟩) 1 1) [UInt8.ofNat tag.toNat] * byA r (shortL bs.length)) r (shortL bs.length).length 1 (bytesV (shortL bs.length)) := row_own s4
  refine eff_appR s4.swap (r4.mono fun w s => s.swap) (bytesV_one _) (by decide) rfl (by simp; unfold maxLen; omega) (by simp; omega) fun v5 w5 s5 => ?_
  simp
  refine eff_appR s5 (h.mono fun w s => s.drop.drop) (bytesV_one _) (by decide) rfl (by simp; unfold maxLen; omega) (by simp; omega) fun v6 w6 s6 => ?_
  simp
  have e : fieldL tag.toNat bs = [UInt8.ofNat tag.toNat] ++ shortL bs.length ++ bs := by simp [fieldL]
  rw [e]
  exact by_of s6.swap.drop (by simp; try omega) (by simp [bytesV])
def seenA (v : Value) (bs : List UInt8) : Asn := fun h => ∃ g c t f cap, v = .slice (some ⟨g, 0, none⟩) bs.length cap ∧ bs.length ≤ cap ∧ c.toList.take bs.length = bytesV bs ∧ pt g (.cells c t f) h
theorem seen_open {w0 w : World} {A : Asn} {v : Value} {bs : List UInt8} (s : St w0 (A * seenA v bs) w) : ∃ g c t f cap, v = .slice (some ⟨g, 0, none⟩) bs.length cap ∧ bs.length ≤ cap ∧ c.toList.take bs.length = bytesV bs ∧ St w0 (A * pt g (.cells c t f)) w := by
  obtain ⟨h, h1, h2, h3, d, e, a, g, c, t, f, cap, hv, hc, ht, b⟩ := s.holds
  exact ⟨g, c, t, f, cap, hv, hc, ht, s.of ⟨h, h1, h2, h3, d, e, a, b⟩⟩
theorem seen_row {w0 w : World} {A : Asn} {v : Value} {bs : List UInt8} (s : St w0 (A * seenA v bs) w) : BR w0 (A * seenA v bs) v bs := by
  obtain ⟨g, c, t, f, cap, rfl, hc, _, _⟩ := seen_open s
  refine ⟨by simp [bytesV_len], _, _, rfl, hc, .inr ⟨g, 0, rfl, fun w s j u hu => ?_⟩⟩
  obtain ⟨g', c', t', f', cap', hv, _, ht, s'⟩ := seen_open s
  cases hv
  rw [Nat.zero_add, cell_of s'.look, ← Array.getElem?_toList]
  rw [← ht, List.getElem?_take] at hu
  split at hu
  · exact hu
  · cases hu
theorem St.more1 {w0 w w' : World} {F : Asn} {o : Obj} (s : St w0 F w) (hn : w'.heap[w.heap.size]? = some o) (ho : ∀ b, b < w.heap.size → w'.heap[b]? = w.heap[b]?) (hz : w.heap.size ≤ w'.heap.size)
    (hos : w'.os = w.os) (hout : w'.output = w.output) (hrun : w'.tape = w.tape ∧ w.drawn ≤ w'.drawn) : St w0 (F * pt w.heap.size o) w' := by
  refine ⟨hos.trans s.os, hout.trans s.out, Nat.le_trans s.size hz, ⟨hrun.1.trans s.ran.1, Nat.le_trans s.ran.2 hrun.2⟩, ?_⟩
  obtain ⟨g, h1, h2⟩ := s.holds
  have lt : ∀ b o', g b = some o' → b < w.heap.size := fun b o' h => by
    have h3 : w.heap[b]? = some o' := h1 _ _ h
    exact (Array.getElem?_eq_some_iff.1 h3).1
  have hgn : g w.heap.size = none := by
    cases hh : g w.heap.size with
    | none => rfl
    | some o' => exact absurd (lt _ _ hh) (Nat.lt_irrefl _)
  refine ⟨Hp.un g (fun b => if b = w.heap.size then some o else none), fun b o' hb => ?_, g, _, fun b => ?_, rfl, h2, ?_, ?_⟩
  · show w'.heap[b]? = some o'
    simp only [Hp.un] at hb
    cases hg : g b with
    | none =>
      rw [hg] at hb
      by_cases e : b = w.heap.size
      · subst e; simp only [if_true] at hb; rw [hn]; exact hb
      · simp only [e, if_false] at hb; cases hb
    | some o'' =>
      rw [hg] at hb; cases hb
      rw [ho b (lt _ _ hg)]
      exact h1 _ _ hg
  · by_cases e : b = w.heap.size
    · subst e; exact .inl hgn
    · right; simp [e]
  · simp
  · intro c hc; simp [hc]
theorem eff_s2b {P : Program} {K : Value → World → Prop} {w0 w : World} {F : Asn} {src dst e : Nat} {u : TypeDesc} {bs : List UInt8} (hs : P.underlying src = some u) (hd : P.underlying dst = some (.slice e)) (he : P.underlying e = some (.int .u8)) (hl : bs.length ≤ 35184372088832) (s : St w0 F w)
    (hk : ∀ v w', St w0 (F * seenA v bs) w' → K v w') : EffW P (.cnv src dst) [.string (mk bs)] K w := by
  intro _
  have hn : (mk bs).size = bs.length := by show bs.toArray.size = bs.length; exact List.size_toArray
  have hge := grownCap_ge w (mk bs).size 0 e
  refine upon_val (w' := Lib.bytesWorld w e (mk bs)) (Lib.run_convert_string_bytes w src dst e (mk bs) hs hd he) (hk _ _ ?_)
  have s1 := St.more1 (w' := Lib.bytesWorld w e (mk bs)) s (Lib.bytesWorld_at_new w e (mk bs)) (fun b hb => Lib.bytesWorld_at_old w e (mk bs) b hb) (by rw [Lib.bytesWorld_size]; omega) rfl rfl ⟨rfl, Nat.le_succ _⟩
  refine s1.mono (sep_mono (fun _ h => h) fun h hh => ⟨_, _, _, _, _, by rw [hn], by rw [← hn]; exact hge, ?_, hh⟩)
  have e1 : (Lib.bytesCells w e (mk bs)).toList = bytesV bs ++ List.replicate (grownCap w (mk bs).size 0 e - (mk bs).size) (.int .u8 0) := by
    have e0 : (mk bs).data.toList = bs := by show bs.toArray.toList = bs; simp
    simp only [Lib.bytesCells, Array.toList_append, Array.toList_map, Array.toList_replicate, e0, bytesV]
  rw [e1]
  exact List.take_left' (bytesV_len bs)
end Go.HL.Tl

namespace Go.HL.Tl
open Go.HL Go.Proofs
set_option maxRecDepth 4000
set_option linter.unusedSimpArgs false
set_option linter.unusedVariables false
structure Wr where
  b : List UInt8
  last : Int
  e : Int
structure Wr.ok (W : Wr) : Prop where
  last : 0 ≤ W.last
  len : W.b.length ≤ 1048576
def Wr.new : Wr := ⟨[], 0, 0⟩
theorem Wr.new_ok : Wr.new.ok := ⟨Int.le_refl 0, by decide⟩
def putF (W : Wr) (tag : Int) (v : List UInt8) : Wr :=
  if W.e ≠ 0 ∨ v = [] then W
  else if tag ≤ W.last ∨ 255 < tag then { W with e := 21 }
  else if 1048576 < W.b.length + (fieldL tag.toNat v).length then { W with e := 3 }
  else ⟨W.b ++ fieldL tag.toNat v, tag, 0⟩
theorem put_ok {W : Wr} (h : W.ok) (tag : Int) (v : List UInt8) : (putF W tag v).ok := by
  unfold putF
  have h1 := h.last
  have h2 := h.len
  split
  · exact h
  split
  · exact ⟨h1, h2⟩
  split
  · exact ⟨h1, h2⟩
  · rename_i a b c
    exact ⟨by simp only; omega, by simp only [List.length_append]; omega⟩
abbrev wpt (t p : Nat) (v : Value) (W : Wr) : Asn := pt p (.cells #[v, .int .i64 W.last, .int .i64 W.e] t (0, 0))
def wrA (t p : Nat) (W : Wr) : Asn := fun h => ∃ v, (wpt t p v W * byA v W.b) h
theorem wopen {w0 w : World} {A : Asn} {t p : Nat} {W : Wr} (h : St w0 (A * wrA t p W) w) : ∃ v, St w0 (A * wpt t p v W * byA v W.b) w := by
  obtain ⟨g, h1, h2, h3, d, e, a, v, b⟩ := h.holds
  exact ⟨v, by rw [sep_assoc]; exact h.of ⟨g, h1, h2, h3, d, e, a, b⟩⟩
theorem wclose {w0 w : World} {A : Asn} {t p : Nat} {v : Value} {W : Wr} (h : St w0 (A * wpt t p v W * byA v W.b) w) : St w0 (A * wrA t p W) w := by
  rw [sep_assoc] at h
  exact h.mono (sep_mono (fun _ h => h) fun h hh => ⟨v, hh⟩)
theorem wclose' {w0 w : World} {A : Asn} {t p : Nat} {v : Value} {W : Wr} (h : St w0 (A * byA v W.b * wpt t p v W) w) : St w0 (A * wrA t p W) w := wclose h.swap

def h55_0 : HC := (.reg (.chk none .chkp (.cons (.inp 0) .nil) (.chk none (.fld 1) (.cons (.op .chkp (.cons (.inp 0) .nil)) .nil) (.eff (.st 1) (.cons (.op (.fld 1) (.cons (.op .chkp (.cons (.inp 0) .nil)) .nil)) (.cons (.inp 1) .nil)) (.done [] none)))))
@[simp] theorem h55_0_wp : type_of% (@wpH h55_0 _ h55_0.eq_1) := wpH h55_0.eq_1
def h55_1 : HC := (.seq (.reg (.chk none .chkp (.cons (.inp 0) .nil) (.chk none (.fld 0) (.cons (.op .chkp (.cons (.inp 0) .nil)) .nil) (.eff (.ld false 1) (.cons (.op (.fld 0) (.cons (.op .chkp (.cons (.inp 0) .nil)) .nil)) .nil) (.eff (.app 31 31 5 1 1 (.int .u8 0)) (.cons (.bv 0) (.cons (.inp 3) .nil)) (.chk none .chkp (.cons (.inp 0) .nil) (.chk none (.fld 0) (.cons (.op .chkp (.cons (.inp 0) .nil)) .nil) (.eff (.st 1) (.cons (.op (.fld 0) (.cons (.op .chkp (.cons (.inp 0) .nil)) .nil)) (.cons (.bv 1) .nil)) (.done [] none))))))))) h55_0)
@[simp] theorem h55_1_wp : type_of% (@wpH h55_1 _ h55_1.eq_1) := wpH h55_1.eq_1
def h55_2 : HC := (.seq (.reg (.chk none .chkp (.cons (.inp 0) .nil) (.chk none (.fld 2) (.cons (.op .chkp (.cons (.inp 0) .nil)) .nil) (.eff (.st 1) (.cons (.op (.fld 2) (.cons (.op .chkp (.cons (.inp 0) .nil)) .nil)) (.cons (.cst (.int .i64 3)) .nil)) (.done [] none))))) .ret)
@[simp] theorem h55_2_wp : type_of% (@wpH h55_2 _ h55_2.eq_1) := wpH h55_2.eq_1
def h55_3 : HC := (.seq (.br (.chk none .chkp (.cons (.inp 0) .nil) (.chk none (.fld 0) (.cons (.op .chkp (.cons (.inp 0) .nil)) .nil) (.eff (.ld false 1) (.cons (.op (.fld 0) (.cons (.op .chkp (.cons (.inp 0) .nil)) .nil)) .nil) (.chk none .lenL (.cons (.bv 0) .nil) (.chk none .lenL (.cons (.inp 3) .nil) (.chk none (.bin .add) (.cons (.op .lenL (.cons (.bv 0) .nil)) (.cons (.op .lenL (.cons (.inp 3) .nil)) .nil)) (.chk none (.bin .gtr) (.cons (.op (.bin .add) (.cons (.op .lenL (.cons (.bv 0) .nil)) (.cons (.op .lenL (.cons (.inp 3) .nil)) .nil))) (.cons (.cst (.int .i64 1048576)) .nil)) (.done [] (some (.op (.bin .gtr) (.cons (.op (.bin .add) (.cons (.op .lenL (.cons (.bv 0) .nil)) (.cons (.op .lenL (.cons (.inp 3) .nil)) .nil))) (.cons (.cst (.int .i64 1048576)) .nil)))))))))))) h55_2 .skip) h55_1)
@[simp] theorem h55_3_wp : type_of% (@wpH h55_3 _ h55_3.eq_1) := wpH h55_3.eq_1
def h55_4 : HC := (.seq (.reg (.eff (.call 80) (.cons (.inp 1) (.cons (.inp 2) .nil)) (.done [(3, (.bv 0))] none))) h55_3)
@[simp] theorem h55_4_wp : type_of% (@wpH h55_4 _ h55_4.eq_1) := wpH h55_4.eq_1
def h55_5 : HC := (.seq (.reg (.chk none .chkp (.cons (.inp 0) .nil) (.chk none (.fld 2) (.cons (.op .chkp (.cons (.inp 0) .nil)) .nil) (.eff (.st 1) (.cons (.op (.fld 2) (.cons (.op .chkp (.cons (.inp 0) .nil)) .nil)) (.cons (.cst (.int .i64 21)) .nil)) (.done [] none))))) .ret)
@[simp] theorem h55_5_wp : type_of% (@wpH h55_5 _ h55_5.eq_1) := wpH h55_5.eq_1
def h55_6 : HC := (.seq (.br (.chk none (.bin .lss) (.cons (.inp 1) (.cons (.cst (.int .i64 1)) .nil)) (.bnd (.op (.bin .lss) (.cons (.inp 1) (.cons (.cst (.int .i64 1)) .nil))) (.chk (some ((.bv 0), false)) (.bin .gtr) (.cons (.inp 1) (.cons (.cst (.int .i64 255)) .nil)) (.isb none (.bv 0) (.bnd (.ite (.bv 0) true (.cst (.bool true)) (.op (.bin .gtr) (.cons (.inp 1) (.cons (.cst (.int .i64 255)) .nil)))) (.chk (some ((.bv 1), false)) .chkp (.cons (.inp 0) .nil) (.chk (some ((.bv 1), false)) (.fld 1) (.cons (.op .chkp (.cons (.inp 0) .nil)) .nil) (.ite (.bv 1) false (.eff (.ld false 1) (.cons (.ite (.bv 1) false (.op (.fld 1) (.cons (.op .chkp (.cons (.inp 0) .nil)) .nil)) (.cst (.tuple #[]))) .nil) (.chk none (.bin .leq) (.cons (.ite (.bv 1) false (.inp 1) (.cst (.tuple #[]))) (.cons (.bv 2) .nil)) (.isb none (.bv 1) (.done [] (some (.op (.bin .leq) (.cons (.ite (.bv 1) false (.inp 1) (.cst (.tuple #[]))) (.cons (.bv 2) .nil)))))))) (.isb none (.bv 1) (.done [] (some (.cst (.bool true))))))))))))) h55_5 .skip) h55_4)
@[simp] theorem h55_6_wp : type_of% (@wpH h55_6 _ h55_6.eq_1) := wpH h55_6.eq_1
def l55 : Lifted := ⟨[0, 1, 2, 6], 66, [], (.seq (.br (.chk none (.eqNil false (.pointer 52) (.pointer none)) (.cons (.inp 0) .nil) (.bnd (.op (.eqNil false (.pointer 52) (.pointer none)) (.cons (.inp 0) .nil)) (.chk (some ((.bv 0), false)) .chkp (.cons (.inp 0) .nil) (.chk (some ((.bv 0), false)) (.fld 2) (.cons (.op .chkp (.cons (.inp 0) .nil)) .nil) (.ite (.bv 0) false (.eff (.ld false 1) (.cons (.ite (.bv 0) false (.op (.fld 2) (.cons (.op .chkp (.cons (.inp 0) .nil)) .nil)) (.cst (.tuple #[]))) .nil) (.chk none (.bin .neq) (.cons (.bv 1) (.cons (.cst (.int .i64 0)) .nil)) (.isb none (.bv 0) (.bnd (.op (.bin .neq) (.cons (.bv 1) (.cons (.cst (.int .i64 0)) .nil))) (.chk (some ((.bv 2), false)) .lenL (.cons (.inp 2) .nil) (.chk (some ((.bv 2), false)) (.bin .eql) (.cons (.op .lenL (.cons (.inp 2) .nil)) (.cons (.cst (.int .i64 0)) .nil)) (.isb none (.bv 2) (.done [] (some (.ite (.bv 2) true (.cst (.bool true)) (.op (.bin .eql) (.cons (.op .lenL (.cons (.inp 2) .nil)) (.cons (.cst (.int .i64 0)) .nil))))))))))))) (.isb none (.bv 0) (.isb none (.cst (.bool true)) (.done [] (some (.cst (.bool true))))))))))) .ret .skip) h55_6)⟩
theorem l55_ok : liftFn T0 55 400 = some l55 := by kernel_rfl

def h61_0 : HC := (.reg (.chk none .chkp (.cons (.inp 0) .nil) (.chk none (.fld 0) (.cons (.op .chkp (.cons (.inp 0) .nil)) .nil) (.eff (.ld false 1) (.cons (.op (.fld 0) (.cons (.op .chkp (.cons (.inp 0) .nil)) .nil)) .nil) (.eff (.call 83) (.cons (.bv 0) (.cons (.inp 1) (.cons (.inp 2) .nil))) (.chk none .chkp (.cons (.inp 0) .nil) (.chk none (.fld 0) (.cons (.op .chkp (.cons (.inp 0) .nil)) .nil) (.eff (.st 1) (.cons (.op (.fld 0) (.cons (.op .chkp (.cons (.inp 0) .nil)) .nil)) (.cons (.bv 1) .nil)) (.chk none .chkp (.cons (.inp 0) .nil) (.chk none (.fld 1) (.cons (.op .chkp (.cons (.inp 0) .nil)) .nil) (.eff (.st 1) (.cons (.op (.fld 1) (.cons (.op .chkp (.cons (.inp 0) .nil)) .nil)) (.cons (.inp 1) .nil)) (.done [] none))))))))))))
@[simp] theorem h61_0_wp : type_of% (@wpH h61_0 _ h61_0.eq_1) := wpH h61_0.eq_1
def h61_1 : HC := (.seq (.reg (.chk none .chkp (.cons (.inp 0) .nil) (.chk none (.fld 2) (.cons (.op .chkp (.cons (.inp 0) .nil)) .nil) (.eff (.st 1) (.cons (.op (.fld 2) (.cons (.op .chkp (.cons (.inp 0) .nil)) .nil)) (.cons (.cst (.int .i64 3)) .nil)) (.done [] none))))) .ret)
@[simp] theorem h61_1_wp : type_of% (@wpH h61_1 _ h61_1.eq_1) := wpH h61_1.eq_1
def r61_0 : RT := (.chk none .lenL (.cons (.bv 0) .nil) (.chk none (.bin .add) (.cons (.op .lenL (.cons (.bv 0) .nil)) (.cons (.cst (.int .i64 1)) .nil)) (.chk none .lenL (.cons (.inp 2) .nil) (.chk none (.convI .u64) (.cons (.op .lenL (.cons (.inp 2) .nil)) .nil) (.eff (.call 62) (.cons (.op (.convI .u64) (.cons (.op .lenL (.cons (.inp 2) .nil)) .nil)) .nil) (.chk none .lenL (.cons (.bv 1) .nil) (.chk none (.bin .add) (.cons (.op (.bin .add) (.cons (.op .lenL (.cons (.bv 0) .nil)) (.cons (.cst (.int .i64 1)) .nil))) (.cons (.op .lenL (.cons (.bv 1) .nil)) .nil)) (.chk none .lenL (.cons (.inp 2) .nil) (.chk none (.bin .add) (.cons (.op (.bin .add) (.cons (.op (.bin .add) (.cons (.op .lenL (.cons (.bv 0) .nil)) (.cons (.cst (.int .i64 1)) .nil))) (.cons (.op .lenL (.cons (.bv 1) .nil)) .nil))) (.cons (.op .lenL (.cons (.inp 2) .nil)) .nil)) (.chk none (.bin .gtr) (.cons (.op (.bin .add) (.cons (.op (.bin .add) (.cons (.op (.bin .add) (.cons (.op .lenL (.cons (.bv 0) .nil)) (.cons (.cst (.int .i64 1)) .nil))) (.cons (.op .lenL (.cons (.bv 1) .nil)) .nil))) (.cons (.op .lenL (.cons (.inp 2) .nil)) .nil))) (.cons (.cst (.int .i64 1048576)) .nil)) (.done [] (some (.op (.bin .gtr) (.cons (.op (.bin .add) (.cons (.op (.bin .add) (.cons (.op (.bin .add) (.cons (.op .lenL (.cons (.bv 0) .nil)) (.cons (.cst (.int .i64 1)) .nil))) (.cons (.op .lenL (.cons (.bv 1) .nil)) .nil))) (.cons (.op .lenL (.cons (.inp 2) .nil)) .nil))) (.cons (.cst (.int .i64 1048576)) .nil)))))))))))))))
@[simp] theorem r61_0_wp : type_of% (@wpR r61_0 _ r61_0.eq_1) := wpR r61_0.eq_1
@[simp] theorem r61_0_wpq : type_of% (@wpRq r61_0 _ r61_0.eq_1) := wpRq r61_0.eq_1
@[simp] theorem r61_0_wpm : type_of% (@wpRm r61_0 _ r61_0.eq_1) := wpRm r61_0.eq_1
def h61_2 : HC := (.seq (.brq (some 2) (.chk none .chkp (.cons (.inp 0) .nil) (.chk none (.fld 0) (.cons (.op .chkp (.cons (.inp 0) .nil)) .nil) (.eff (.ld false 1) (.cons (.op (.fld 0) (.cons (.op .chkp (.cons (.inp 0) .nil)) .nil)) .nil) r61_0))) h61_1 .skip) h61_0)
@[simp] theorem h61_2_wp : type_of% (@wpH h61_2 _ h61_2.eq_1) := wpH h61_2.eq_1
def h61_3 : HC := (.seq (.reg (.chk none .chkp (.cons (.inp 0) .nil) (.chk none (.fld 2) (.cons (.op .chkp (.cons (.inp 0) .nil)) .nil) (.eff (.st 1) (.cons (.op (.fld 2) (.cons (.op .chkp (.cons (.inp 0) .nil)) .nil)) (.cons (.cst (.int .i64 21)) .nil)) (.done [] none))))) .ret)
@[simp] theorem h61_3_wp : type_of% (@wpH h61_3 _ h61_3.eq_1) := wpH h61_3.eq_1
def h61_4 : HC := (.seq (.br (.chk none .chkp (.cons (.inp 0) .nil) (.chk none (.fld 1) (.cons (.op .chkp (.cons (.inp 0) .nil)) .nil) (.eff (.ld false 1) (.cons (.op (.fld 1) (.cons (.op .chkp (.cons (.inp 0) .nil)) .nil)) .nil) (.chk none (.bin .leq) (.cons (.inp 1) (.cons (.bv 0) .nil)) (.bnd (.op (.bin .leq) (.cons (.inp 1) (.cons (.bv 0) .nil))) (.chk (some ((.bv 1), false)) (.bin .gtr) (.cons (.inp 1) (.cons (.cst (.int .i64 255)) .nil)) (.isb none (.bv 1) (.done [] (some (.ite (.bv 1) true (.cst (.bool true)) (.op (.bin .gtr) (.cons (.inp 1) (.cons (.cst (.int .i64 255)) .nil))))))))))))) h61_3 .skip) h61_2)
@[simp] theorem h61_4_wp : type_of% (@wpH h61_4 _ h61_4.eq_1) := wpH h61_4.eq_1
def l61 : Lifted := ⟨[0, 1, 2], 66, [], (.seq (.br (.chk none (.eqNil false (.pointer 64) (.pointer none)) (.cons (.inp 0) .nil) (.bnd (.op (.eqNil false (.pointer 64) (.pointer none)) (.cons (.inp 0) .nil)) (.chk (some ((.bv 0), false)) .chkp (.cons (.inp 0) .nil) (.chk (some ((.bv 0), false)) (.fld 2) (.cons (.op .chkp (.cons (.inp 0) .nil)) .nil) (.ite (.bv 0) false (.eff (.ld false 1) (.cons (.ite (.bv 0) false (.op (.fld 2) (.cons (.op .chkp (.cons (.inp 0) .nil)) .nil)) (.cst (.tuple #[]))) .nil) (.chk none (.bin .neq) (.cons (.bv 1) (.cons (.cst (.int .i64 0)) .nil)) (.isb none (.bv 0) (.bnd (.op (.bin .neq) (.cons (.bv 1) (.cons (.cst (.int .i64 0)) .nil))) (.chk (some ((.bv 2), false)) .lenL (.cons (.inp 2) .nil) (.chk (some ((.bv 2), false)) (.bin .eql) (.cons (.op .lenL (.cons (.inp 2) .nil)) (.cons (.cst (.int .i64 0)) .nil)) (.isb none (.bv 2) (.done [] (some (.ite (.bv 2) true (.cst (.bool true)) (.op (.bin .eql) (.cons (.op .lenL (.cons (.inp 2) .nil)) (.cons (.cst (.int .i64 0)) .nil))))))))))))) (.isb none (.bv 0) (.isb none (.cst (.bool true)) (.done [] (some (.cst (.bool true))))))))))) .ret .skip) h61_4)⟩
theorem l61_ok : liftFn T0 61 400 = some l61 := by kernel_rfl
theorem rput_spec (p : Nat) (W : Wr) (tag : Int) (bs : List UInt8) (v : Value) (w0 w : World) (A : Asn) (hW : W.ok) (hl : bs.length ≤ 35184372088832) (h : BR w0 A v bs) (s : St w0 (A * wrA 52 p W) w) :
    CallW Try.prog 55 [.pointer (some ⟨p, 0, none⟩), .int .i64 tag, v] (fun r w' => St w0 (A * wrA 52 p (putF W tag bs)) w') w := by
  have h1 := hW.last
  have h2 := hW.len
  obtain ⟨a, cap, rfl⟩ := h.val
  obtain ⟨vb, s1⟩ := wopen s
  obtain ⟨ba, bcap, rfl, hbc, _⟩ := s1.own_val
  refine callW_of_lift l55_ok (by simp [l55]) ?_
  simp [l55]
  refine eff_ldc (v := .int .i64 W.e) ((cell_of s1.drop.look).trans rfl) ?_
  simp
  refine ⟨by omega, ?_⟩
  refine cndI (fun c1 => ?_) (fun c1 => ?_)
  · simp at c1
    simp
    have e : putF W tag bs = W := by unfold putF; rw [if_pos c1]
    rw [e]
    exact s
  simp at c1
  simp
  have bad : (tag ≤ W.last ∨ 255 < tag) → putF W tag bs = { W with e := 21 } := fun h => by
    unfold putF; rw [if_neg (by simp [c1]), if_pos h]
  have long : ¬ (tag ≤ W.last ∨ 255 < tag) → 1048576 < W.b.length + (fieldL tag.toNat bs).length → putF W tag bs = { W with e := 3 } := fun h h2 => by
    unfold putF; rw [if_neg (by simp [c1]), if_neg h, if_pos h2]
  have good : ¬ (tag ≤ W.last ∨ 255 < tag) → ¬ 1048576 < W.b.length + (fieldL tag.toNat bs).length → putF W tag bs = ⟨W.b ++ fieldL tag.toNat bs, tag, 0⟩ := fun h h2 => by
    unfold putF; rw [if_neg (by simp [c1]), if_neg h, if_neg h2]
  have hfl := fieldL_len tag.toNat bs
  have hsl := shortL_len bs.length
  have isbad : tag ≤ W.last ∨ 255 < tag → ∀ w, St w0 (A * wpt 52 p (.slice ba W.b.length bcap) W * byA (.slice ba W.b.length bcap) W.b) w →
      ∀ K : Value → World → Prop, (∀ w', St w0 (A * wrA 52 p (putF W tag bs)) w' → K undef w') → EffW Try.prog (.st 1) [.pointer (some ⟨p, 2, none⟩), .int .i64 21] K w := fun hb w s K hK => by
    refine eff_st1 s.swap rfl (by simp) fun w2 s2 => hK w2 ?_
    rw [bad hb]
    simp at s2
    exact wclose' (W := { W with e := 21 }) s2
  by_cases k1 : tag < 1
  · simp [k1]
    exact isbad (.inl (by omega)) _ s1 _ fun w' h => by simpa using h
  by_cases k2 : 255 < tag
  · simp [k1, k2]
    exact isbad (.inr k2) _ s1 _ fun w' h => by simpa using h
  simp [k1, k2]
  refine eff_ldc (v := .int .i64 W.last) ((cell_of s1.drop.look).trans rfl) ?_
  simp
  refine cndI (fun c2 => ?_) (fun c2 => ?_)
  · simp at c2
    simp
    exact isbad (.inl c2) _ s1 _ fun w' h => by simpa using h
  simp at c2
  simp
  have c2' : ¬ (tag ≤ W.last ∨ 255 < tag) := by omega
  refine eff_call ((form_spec bs _ tag w0 w _ (by omega) hl (h.mono fun w s => s.drop.drop) s1).mono ?_)
  intro r w2 s2
  obtain ⟨fa, fcap, rfl, _, _⟩ := s2.own_val
  simp
  refine eff_ldc (v := .slice ba W.b.length bcap) ((cell_of s2.drop.drop.look).trans rfl) ?_
  have w1 : IntKind.i64.wrap ((W.b.length : Int) + (fieldL tag.toNat bs).length) = (W.b.length : Int) + (fieldL tag.toNat bs).length := wrap64 (by omega) (by omega)
  simp [w1]
  refine cndI (fun c3 => ?_) (fun c3 => ?_)
  · simp at c3
    simp
    refine eff_st1 s2.drop.swap rfl (by simp) fun w5 s6 => ?_
    simp at s6 ⊢
    rw [long c2' (by omega)]
    exact wclose' (W := { W with e := 3 }) s6
  simp at c3
  simp
  rw [good c2' (by omega)]
  refine eff_ldc (v := .slice ba W.b.length bcap) ((cell_of s2.drop.drop.look).trans rfl) ?_
  simp
  have r2 : BR w0 (A * wpt 52 p (.slice ba W.b.length bcap) W * byA (.slice ba W.b.length bcap) W.b * byA (.slice fa (fieldL tag.toNat bs).length fcap) (fieldL tag.toNat bs)) (.slice fa (fieldL tag.toNat bs).length fcap) (fieldL tag.toNat bs) := row_own s2
  refine eff_appR s2.swap (r2.mono fun w s => s.swap) (bytesV_one _) (by decide) rfl (by unfold maxLen; omega) (by omega) fun v3 w3 s3 => ?_
  have s3 := by_of (b := W.b ++ fieldL tag.toNat bs) s3 (by simp) (by simp [bytesV])
  obtain ⟨na, ncap, rfl, _, _⟩ := s3.own_val
  simp
  have s4 : St w0 (A * byA (.slice na (W.b ++ fieldL tag.toNat bs).length ncap) (W.b ++ fieldL tag.toNat bs) * wpt 52 p (.slice ba W.b.length bcap) W) w3 := s3.cut (byA (.slice fa (fieldL tag.toNat bs).length fcap) (fieldL tag.toNat bs)) (by ac_rfl)
  refine eff_st1 s4 (by simp [Value.oneCell']) (by simp) fun w6 s7 => ?_
  simp at s7 ⊢
  refine eff_st1 s7 rfl (by simp) fun w7 s8 => ?_
  simp at s8 ⊢
  rw [c1.1] at s8
  exact wclose' (W := ⟨W.b ++ fieldL tag.toNat bs, tag, 0⟩) (by simpa using s8)
theorem put_spec (p : Nat) (W : Wr) (tag : Int) (bs : List UInt8) (v : Value) (w0 w : World) (A : Asn) (hW : W.ok) (hl : bs.length ≤ 35184372088832) (h : BR w0 A v bs) (s : St w0 (A * wrA 64 p W) w) :
    CallW Try.prog 61 [.pointer (some ⟨p, 0, none⟩), .int .i64 tag, v] (fun r w' => St w0 (A * wrA 64 p (putF W tag bs)) w') w := by
  have h1 := hW.last
  have h2 := hW.len
  obtain ⟨a, cap, rfl⟩ := h.val
  obtain ⟨vb, s1⟩ := wopen s
  obtain ⟨ba, bcap, rfl, hbc, _⟩ := s1.own_val
  refine callW_of_lift l61_ok (by simp [l61]) ?_
  simp [l61]
  refine eff_ldc (v := .int .i64 W.e) ((cell_of s1.drop.look).trans rfl) ?_
  simp
  refine ⟨by omega, ?_⟩
  refine cndI (fun c1 => ?_) (fun c1 => ?_)
  · simp at c1
    simp
    have e : putF W tag bs = W := by unfold putF; rw [if_pos c1]
    rw [e]
    exact s
  simp at c1
  simp
  have bad : (tag ≤ W.last ∨ 255 < tag) → putF W tag bs = { W with e := 21 } := fun h => by
    unfold putF; rw [if_neg (by simp [c1]), if_pos h]
  have long : ¬ (tag ≤ W.last ∨ 255 < tag) → 1048576 < W.b.length + (fieldL tag.toNat bs).length → putF W tag bs = { W with e := 3 } := fun h h2 => by
    unfold putF; rw [if_neg (by simp [c1]), if_neg h, if_pos h2]
  have good : ¬ (tag ≤ W.last ∨ 255 < tag) → ¬ 1048576 < W.b.length + (fieldL tag.toNat bs).length → putF W tag bs = ⟨W.b ++ fieldL tag.toNat bs, tag, 0⟩ := fun h h2 => by
    unfold putF; rw [if_neg (by simp [c1]), if_neg h, if_neg h2]
  have hfl := fieldL_len tag.toNat bs
  have hsl := shortL_len bs.length
  refine eff_ldc (v := .int .i64 W.last) ((cell_of s1.drop.look).trans rfl) ?_
  simp
  refine cndI (fun c2 => ?_) (fun c2 => ?_)
  · simp at c2
    simp
    refine eff_st1 s1.swap rfl (by simp) fun w2 s2 => ?_
    simp at s2 ⊢
    rw [bad c2]
    exact wclose' (W := { W with e := 21 }) s2
  simp at c2
  simp
  have c2' : ¬ (tag ≤ W.last ∨ 255 < tag) := by omega
  obtain ⟨D, hD⟩ : ∃ D, A * wpt 64 p (.slice ba W.b.length bcap) W * byA (.slice ba W.b.length bcap) W.b = D := ⟨_, rfl⟩
  rw [hD] at s1
  have lk : ∀ {Z : Asn} {w : World}, St w0 (D * Z) w → w.cell? ⟨p, 0, none⟩ = some (.slice ba W.b.length bcap) := fun h => by
    have h := h.drop; rw [← hD] at h; exact (cell_of h.drop.look).trans rfl
  refine brmI (fun vs w => match vs with
    | [] => St w0 (D * emp) w
    | [r] => St w0 (D * byA r (shortL bs.length)) w
    | _ => False) (by rw [sep_emp]; exact s1.drew) ?_
  simp
  refine effm_ldc (v := .slice ba W.b.length bcap) (fun vs' w he hw => ?_) ?_
  · match vs', hw with
    | [], hw => exact lk hw
    | [_], hw => exact lk hw
  simp
  rw [u64_small _ (by omega)]
  refine effm_mv rfl (fun w hw => eff_call ((Short_spec bs.length w0 w (D * emp) (by omega) hw).mono fun r w' h => ?_)) (fun r hr => ?_)
  · simp only [List.nil_append]; rw [sep_emp] at h; exact h
  obtain ⟨w9, hr⟩ := hr
  obtain ⟨ra, rcap, rfl, _, _⟩ := St.own_val hr
  have w1 : IntKind.i64.wrap ((W.b.length : Int) + 1) = (W.b.length : Int) + 1 := wrap64 (by omega) (by omega)
  have w2 : IntKind.i64.wrap ((W.b.length : Int) + 1 + (shortL bs.length).length) = (W.b.length : Int) + 1 + (shortL bs.length).length := wrap64 (by omega) (by omega)
  have w3 : IntKind.i64.wrap ((W.b.length : Int) + 1 + (shortL bs.length).length + bs.length) = (W.b.length : Int) + 1 + (shortL bs.length).length + bs.length := wrap64 (by omega) (by omega)
  simp [w1, w2, w3]
  intro w4 s4
  refine cndI (fun c3 => ?_) (fun c3 => ?_)
  · simp at c3
    simp
    have s5 : St w0 (A * byA (.slice ba W.b.length bcap) W.b * wpt 64 p (.slice ba W.b.length bcap) W) w4 := by
      have := St.drop s4; rw [← hD] at this; exact this.swap
    refine eff_st1 s5 rfl (by simp) fun w5 s6 => ?_
    simp at s6 ⊢
    rw [long c2' (by omega)]
    exact wclose' (W := { W with e := 3 }) s6
  simp at c3
  simp
  rw [good c2' (by omega)]
  have s5 : St w0 (A * wpt 64 p (.slice ba W.b.length bcap) W * byA (.slice ba W.b.length bcap) W.b) w4 := by
    have := St.drop s4; rw [← hD] at this; exact this
  refine eff_ldc (v := .slice ba W.b.length bcap) ((cell_of s5.drop.look).trans rfl) ?_
  simp
  refine eff_call ((field_spec W.b bs _ _ tag w0 w4 _ (by omega) (by omega) hl (h.mono fun w s => s.drop) s5).mono ?_)
  intro r w5 s6
  obtain ⟨na, ncap, rfl, _, _⟩ := s6.own_val
  simp
  refine eff_st1 s6.swap rfl (by simp) fun w6 s7 => ?_
  simp at s7 ⊢
  refine eff_st1 s7 rfl (by simp) fun w7 s8 => ?_
  simp at s8 ⊢
  rw [c1.1] at s8
  exact wclose' (W := ⟨W.b ++ fieldL tag.toNat bs, tag, 0⟩) (by simpa using s8)
end Go.HL.Tl

namespace Go.HL.Tl
open Go.HL Go.Proofs
set_option maxRecDepth 4000
set_option linter.unusedSimpArgs false
set_option linter.unusedVariables false

def h29_0 : HC := (.reg (.eff (.call 62) (.cons (.inp 2) .nil) (.eff (.call 61) (.cons (.inp 0) (.cons (.inp 1) (.cons (.bv 0) .nil))) (.done [] none))))
@[simp] theorem h29_0_wp : type_of% (@wpH h29_0 _ h29_0.eq_1) := wpH h29_0.eq_1
def l29 : Lifted := ⟨[0, 1, 2], 13, [], (.br (.chk none (.bin .neq) (.cons (.inp 2) (.cons (.cst (.int .u64 0)) .nil)) (.done [] (some (.op (.bin .neq) (.cons (.inp 2) (.cons (.cst (.int .u64 0)) .nil)))))) h29_0 .skip)⟩
theorem l29_ok : liftFn T0 29 400 = some l29 := by kernel_rfl

def l28 : Lifted := ⟨[0, 1, 2], 11, [], (.reg (.eff (.cnv 9 31) (.cons (.inp 2) .nil) (.eff (.call 61) (.cons (.inp 0) (.cons (.inp 1) (.cons (.bv 0) .nil))) (.done [] none))))⟩
theorem l28_ok : liftFn T0 28 400 = some l28 := by kernel_rfl

def h30_0 : HC := (.reg (.eff (.call 61) (.cons (.inp 0) (.cons (.inp 1) (.cons (.inp 3) .nil))) (.done [] none)))
@[simp] theorem h30_0_wp : type_of% (@wpH h30_0 _ h30_0.eq_1) := wpH h30_0.eq_1
def h30_1 : HC := (.seq (.reg (.chk none .chkp (.cons (.inp 0) .nil) (.chk none (.fld 2) (.cons (.op .chkp (.cons (.inp 0) .nil)) .nil) (.eff (.st 1) (.cons (.op (.fld 2) (.cons (.op .chkp (.cons (.inp 0) .nil)) .nil)) (.cons (.inp 4) .nil)) (.done [] none))))) .ret)
@[simp] theorem h30_1_wp : type_of% (@wpH h30_1 _ h30_1.eq_1) := wpH h30_1.eq_1
def h30_2 : HC := (.seq (.br (.chk none (.bin .neq) (.cons (.inp 4) (.cons (.cst (.int .i64 0)) .nil)) (.done [] (some (.op (.bin .neq) (.cons (.inp 4) (.cons (.cst (.int .i64 0)) .nil)))))) h30_1 .skip) h30_0)
@[simp] theorem h30_2_wp : type_of% (@wpH h30_2 _ h30_2.eq_1) := wpH h30_2.eq_1
def h30_3 : HC := (.seq (.reg (.eff (.call 32) (.cons (.inp 2) .nil) (.chk none (.ext 0) (.cons (.bv 0) .nil) (.chk none (.ext 1) (.cons (.bv 0) .nil) (.done [(3, (.op (.ext 0) (.cons (.bv 0) .nil))), (4, (.op (.ext 1) (.cons (.bv 0) .nil)))] none))))) h30_2)
@[simp] theorem h30_3_wp : type_of% (@wpH h30_3 _ h30_3.eq_1) := wpH h30_3.eq_1
def l30 : Lifted := ⟨[0, 1, 2, 6, 7], 32, [], (.seq (.br (.chk none (.eqNil false (.pointer 64) (.pointer none)) (.cons (.inp 0) .nil) (.bnd (.op (.eqNil false (.pointer 64) (.pointer none)) (.cons (.inp 0) .nil)) (.chk (some ((.bv 0), false)) .chkp (.cons (.inp 0) .nil) (.chk (some ((.bv 0), false)) (.fld 2) (.cons (.op .chkp (.cons (.inp 0) .nil)) .nil) (.ite (.bv 0) false (.eff (.ld false 1) (.cons (.ite (.bv 0) false (.op (.fld 2) (.cons (.op .chkp (.cons (.inp 0) .nil)) .nil)) (.cst (.tuple #[]))) .nil) (.chk none (.bin .neq) (.cons (.bv 1) (.cons (.cst (.int .i64 0)) .nil)) (.isb none (.bv 0) (.done [] (some (.op (.bin .neq) (.cons (.bv 1) (.cons (.cst (.int .i64 0)) .nil)))))))) (.isb none (.bv 0) (.done [] (some (.cst (.bool true)))))))))) .ret .skip) h30_3)⟩
theorem l30_ok : liftFn T0 30 400 = some l30 := by kernel_rfl

def h32_0 : HC := (.seq (.reg (.chk none .chkp (.cons (.inp 0) .nil) (.chk none (.fld 0) (.cons (.op .chkp (.cons (.inp 0) .nil)) .nil) (.eff (.ld false 1) (.cons (.op (.fld 0) (.cons (.op .chkp (.cons (.inp 0) .nil)) .nil)) .nil) (.eff (.call 63) (.cons (.bv 0) .nil) (.done [(1, (.bv 1)), (2, (.cst (.int .i64 0)))] none)))))) .ret)
@[simp] theorem h32_0_wp : type_of% (@wpH h32_0 _ h32_0.eq_1) := wpH h32_0.eq_1
def h32_1 : HC := (.seq (.regq (some 0) (.chk none .chkp (.cons (.inp 0) .nil) (.chk none (.fld 2) (.cons (.op .chkp (.cons (.inp 0) .nil)) .nil) (.eff (.ld false 1) (.cons (.op (.fld 2) (.cons (.op .chkp (.cons (.inp 0) .nil)) .nil)) .nil) (.done [(1, (.cst (.slice none 0 0))), (2, (.bv 0))] none))))) .ret)
@[simp] theorem h32_1_wp : type_of% (@wpH h32_1 _ h32_1.eq_1) := wpH h32_1.eq_1
def h32_2 : HC := (.seq (.br (.chk none .chkp (.cons (.inp 0) .nil) (.chk none (.fld 2) (.cons (.op .chkp (.cons (.inp 0) .nil)) .nil) (.eff (.ld false 1) (.cons (.op (.fld 2) (.cons (.op .chkp (.cons (.inp 0) .nil)) .nil)) .nil) (.chk none (.bin .neq) (.cons (.bv 0) (.cons (.cst (.int .i64 0)) .nil)) (.done [] (some (.op (.bin .neq) (.cons (.bv 0) (.cons (.cst (.int .i64 0)) .nil))))))))) h32_1 .skip) h32_0)
@[simp] theorem h32_2_wp : type_of% (@wpH h32_2 _ h32_2.eq_1) := wpH h32_2.eq_1
def h32_3 : HC := (.seq (.reg (.done [(1, (.cst (.slice none 0 0))), (2, (.cst (.int .i64 1)))] none)) .ret)
@[simp] theorem h32_3_wp : type_of% (@wpH h32_3 _ h32_3.eq_1) := wpH h32_3.eq_1
def h32_4 : HC := (.seq (.br (.chk none (.eqNil false (.pointer 64) (.pointer none)) (.cons (.inp 0) .nil) (.done [] (some (.op (.eqNil false (.pointer 64) (.pointer none)) (.cons (.inp 0) .nil))))) h32_3 .skip) h32_2)
@[simp] theorem h32_4_wp : type_of% (@wpH h32_4 _ h32_4.eq_1) := wpH h32_4.eq_1
def l32 : Lifted := ⟨[0, 2, 3], 20, [.slot 1, .slot 2], (.seq (.reg (.done [(1, (.cst (.slice none 0 0))), (2, (.cst (.int .i64 0)))] none)) h32_4)⟩
theorem l32_ok : liftFn T0 32 400 = some l32 := by kernel_rfl

def h20_0 : HC := (.reg (.eff (.call 56) (.cons (.inp 2) .nil) (.eff (.call 55) (.cons (.inp 0) (.cons (.inp 1) (.cons (.bv 0) .nil))) (.done [] none))))
@[simp] theorem h20_0_wp : type_of% (@wpH h20_0 _ h20_0.eq_1) := wpH h20_0.eq_1
def l20 : Lifted := ⟨[0, 1, 2], 13, [], (.br (.chk none (.bin .gtr) (.cons (.inp 2) (.cons (.cst (.int .u64 0)) .nil)) (.done [] (some (.op (.bin .gtr) (.cons (.inp 2) (.cons (.cst (.int .u64 0)) .nil)))))) h20_0 .skip)⟩
theorem l20_ok : liftFn T0 20 400 = some l20 := by kernel_rfl

def l19 : Lifted := ⟨[0, 1, 2], 11, [], (.reg (.eff (.cnv 9 31) (.cons (.inp 2) .nil) (.eff (.call 55) (.cons (.inp 0) (.cons (.inp 1) (.cons (.bv 0) .nil))) (.done [] none))))⟩
theorem l19_ok : liftFn T0 19 400 = some l19 := by kernel_rfl

def h21_0 : HC := (.reg (.chk none .chkp (.cons (.inp 2) .nil) (.chk none (.fld 0) (.cons (.op .chkp (.cons (.inp 2) .nil)) .nil) (.eff (.ld false 1) (.cons (.op (.fld 0) (.cons (.op .chkp (.cons (.inp 2) .nil)) .nil)) .nil) (.eff (.call 57) (.cons (.bv 0) .nil) (.eff (.call 55) (.cons (.inp 0) (.cons (.inp 1) (.cons (.bv 1) .nil))) (.done [] none)))))))
@[simp] theorem h21_0_wp : type_of% (@wpH h21_0 _ h21_0.eq_1) := wpH h21_0.eq_1
def h21_1 : HC := (.seq (.reg (.chk none .chkp (.cons (.inp 2) .nil) (.chk none (.fld 2) (.cons (.op .chkp (.cons (.inp 2) .nil)) .nil) (.eff (.ld false 1) (.cons (.op (.fld 2) (.cons (.op .chkp (.cons (.inp 2) .nil)) .nil)) .nil) (.chk none .chkp (.cons (.inp 0) .nil) (.chk none (.fld 2) (.cons (.op .chkp (.cons (.inp 0) .nil)) .nil) (.eff (.st 1) (.cons (.op (.fld 2) (.cons (.op .chkp (.cons (.inp 0) .nil)) .nil)) (.cons (.bv 0) .nil)) (.done [] none)))))))) .ret)
@[simp] theorem h21_1_wp : type_of% (@wpH h21_1 _ h21_1.eq_1) := wpH h21_1.eq_1
def h21_2 : HC := (.seq (.br (.chk none .chkp (.cons (.inp 2) .nil) (.chk none (.fld 2) (.cons (.op .chkp (.cons (.inp 2) .nil)) .nil) (.eff (.ld false 1) (.cons (.op (.fld 2) (.cons (.op .chkp (.cons (.inp 2) .nil)) .nil)) .nil) (.chk none (.bin .neq) (.cons (.bv 0) (.cons (.cst (.int .i64 0)) .nil)) (.done [] (some (.op (.bin .neq) (.cons (.bv 0) (.cons (.cst (.int .i64 0)) .nil))))))))) h21_1 .skip) h21_0)
@[simp] theorem h21_2_wp : type_of% (@wpH h21_2 _ h21_2.eq_1) := wpH h21_2.eq_1
def h21_3 : HC := (.seq (.reg (.chk none .chkp (.cons (.inp 0) .nil) (.chk none (.fld 2) (.cons (.op .chkp (.cons (.inp 0) .nil)) .nil) (.eff (.st 1) (.cons (.op (.fld 2) (.cons (.op .chkp (.cons (.inp 0) .nil)) .nil)) (.cons (.cst (.int .i64 1)) .nil)) (.done [] none))))) .ret)
@[simp] theorem h21_3_wp : type_of% (@wpH h21_3 _ h21_3.eq_1) := wpH h21_3.eq_1
def h21_4 : HC := (.seq (.br (.chk none (.eqNil false (.pointer 52) (.pointer none)) (.cons (.inp 2) .nil) (.done [] (some (.op (.eqNil false (.pointer 52) (.pointer none)) (.cons (.inp 2) .nil))))) h21_3 .skip) h21_2)
@[simp] theorem h21_4_wp : type_of% (@wpH h21_4 _ h21_4.eq_1) := wpH h21_4.eq_1
def l21 : Lifted := ⟨[0, 1, 2], 40, [], (.seq (.br (.chk none (.eqNil false (.pointer 52) (.pointer none)) (.cons (.inp 0) .nil) (.bnd (.op (.eqNil false (.pointer 52) (.pointer none)) (.cons (.inp 0) .nil)) (.chk (some ((.bv 0), false)) .chkp (.cons (.inp 0) .nil) (.chk (some ((.bv 0), false)) (.fld 2) (.cons (.op .chkp (.cons (.inp 0) .nil)) .nil) (.ite (.bv 0) false (.eff (.ld false 1) (.cons (.ite (.bv 0) false (.op (.fld 2) (.cons (.op .chkp (.cons (.inp 0) .nil)) .nil)) (.cst (.tuple #[]))) .nil) (.chk none (.bin .neq) (.cons (.bv 1) (.cons (.cst (.int .i64 0)) .nil)) (.isb none (.bv 0) (.done [] (some (.op (.bin .neq) (.cons (.bv 1) (.cons (.cst (.int .i64 0)) .nil)))))))) (.isb none (.bv 0) (.done [] (some (.cst (.bool true)))))))))) .ret .skip) h21_4)⟩
theorem l21_ok : liftFn T0 21 400 = some l21 := by kernel_rfl

def h24_0 : HC := (.seq (.reg (.chk none .chkp (.cons (.inp 0) .nil) (.chk none (.fld 0) (.cons (.op .chkp (.cons (.inp 0) .nil)) .nil) (.eff (.ld false 1) (.cons (.op (.fld 0) (.cons (.op .chkp (.cons (.inp 0) .nil)) .nil)) .nil) (.eff (.call 57) (.cons (.bv 0) .nil) (.done [(1, (.bv 1)), (2, (.cst (.int .i64 0)))] none)))))) .ret)
@[simp] theorem h24_0_wp : type_of% (@wpH h24_0 _ h24_0.eq_1) := wpH h24_0.eq_1
def h24_1 : HC := (.seq (.regq (some 0) (.chk none .chkp (.cons (.inp 0) .nil) (.chk none (.fld 2) (.cons (.op .chkp (.cons (.inp 0) .nil)) .nil) (.eff (.ld false 1) (.cons (.op (.fld 2) (.cons (.op .chkp (.cons (.inp 0) .nil)) .nil)) .nil) (.done [(1, (.cst (.slice none 0 0))), (2, (.bv 0))] none))))) .ret)
@[simp] theorem h24_1_wp : type_of% (@wpH h24_1 _ h24_1.eq_1) := wpH h24_1.eq_1
def h24_2 : HC := (.seq (.br (.chk none .chkp (.cons (.inp 0) .nil) (.chk none (.fld 2) (.cons (.op .chkp (.cons (.inp 0) .nil)) .nil) (.eff (.ld false 1) (.cons (.op (.fld 2) (.cons (.op .chkp (.cons (.inp 0) .nil)) .nil)) .nil) (.chk none (.bin .neq) (.cons (.bv 0) (.cons (.cst (.int .i64 0)) .nil)) (.done [] (some (.op (.bin .neq) (.cons (.bv 0) (.cons (.cst (.int .i64 0)) .nil))))))))) h24_1 .skip) h24_0)
@[simp] theorem h24_2_wp : type_of% (@wpH h24_2 _ h24_2.eq_1) := wpH h24_2.eq_1
def h24_3 : HC := (.seq (.reg (.done [(1, (.cst (.slice none 0 0))), (2, (.cst (.int .i64 1)))] none)) .ret)
@[simp] theorem h24_3_wp : type_of% (@wpH h24_3 _ h24_3.eq_1) := wpH h24_3.eq_1
def h24_4 : HC := (.seq (.br (.chk none (.eqNil false (.pointer 52) (.pointer none)) (.cons (.inp 0) .nil) (.done [] (some (.op (.eqNil false (.pointer 52) (.pointer none)) (.cons (.inp 0) .nil))))) h24_3 .skip) h24_2)
@[simp] theorem h24_4_wp : type_of% (@wpH h24_4 _ h24_4.eq_1) := wpH h24_4.eq_1
def l24 : Lifted := ⟨[0, 2, 3], 20, [.slot 1, .slot 2], (.seq (.reg (.done [(1, (.cst (.slice none 0 0))), (2, (.cst (.int .i64 0)))] none)) h24_4)⟩
theorem l24_ok : liftFn T0 24 400 = some l24 := by kernel_rfl
def numW (W : Wr) (tag n : Int) : Wr := if n = 0 then W else putF W tag (shortL n.toNat)
theorem num_ok {W : Wr} (h : W.ok) (tag n : Int) : (numW W tag n).ok := by
  unfold numW; split
  · exact h
  · exact put_ok h _ _
theorem Number_spec (p : Nat) (W : Wr) (tag n : Int) (w0 w : World) (A : Asn) (hW : W.ok) (hn : 0 ≤ n ∧ n < 18446744073709551616) (s : St w0 (A * wrA 64 p W) w) :
    CallW Try.prog 29 [.pointer (some ⟨p, 0, none⟩), .int .i64 tag, .int .u64 n] (fun r w' => St w0 (A * wrA 64 p (numW W tag n)) w') w := by
  refine callW_of_lift l29_ok (by simp [l29]) ?_
  simp [l29]
  refine cndI (fun c => ?_) (fun c => ?_)
  · simp at c
    simp
    refine eff_call ((Short_spec n w0 w _ hn s).mono fun r w1 s1 => ?_)
    simp
    have hs := shortL_len n.toNat
    refine eff_call ((put_spec p W tag (shortL n.toNat) r w0 w1 (A * byA r (shortL n.toNat)) hW (by omega) (by_row s1.swap.drop) s1.swap).mono fun r2 w2 s2 => ?_)
    simp
    have e : numW W tag n = putF W tag (shortL n.toNat) := if_neg c
    rw [e]
    exact s2.swap.drop
  · simp at c
    simp
    have e : numW W tag n = W := if_pos c
    rw [e]
    exact s
theorem rNumber_spec (p : Nat) (W : Wr) (tag n : Int) (w0 w : World) (A : Asn) (hW : W.ok) (hn : 0 ≤ n ∧ n < 18446744073709551616) (s : St w0 (A * wrA 52 p W) w) :
    CallW Try.prog 20 [.pointer (some ⟨p, 0, none⟩), .int .i64 tag, .int .u64 n] (fun r w' => St w0 (A * wrA 52 p (numW W tag n)) w') w := by
  refine callW_of_lift l20_ok (by simp [l20]) ?_
  simp [l20]
  refine cndI (fun c => ?_) (fun c => ?_)
  · simp at c
    simp
    refine eff_call ((rShort_spec n w0 w _ hn s).mono fun r w1 s1 => ?_)
    simp
    have hs := shortL_len n.toNat
    refine eff_call ((rput_spec p W tag (shortL n.toNat) r w0 w1 (A * byA r (shortL n.toNat)) hW (by omega) (by_row s1.swap.drop) s1.swap).mono fun r2 w2 s2 => ?_)
    simp
    have e : numW W tag n = putF W tag (shortL n.toNat) := if_neg (by omega)
    rw [e]
    exact s2.swap.drop
  · simp at c
    simp
    have e : numW W tag n = W := if_pos (by omega)
    rw [e]
    exact s
theorem Text_spec (p : Nat) (W : Wr) (tag : Int) (bs : List UInt8) (w0 w : World) (A : Asn) (hW : W.ok) (hl : bs.length ≤ 35184372088832) (s : St w0 (A * wrA 64 p W) w) :
    CallW Try.prog 28 [.pointer (some ⟨p, 0, none⟩), .int .i64 tag, .string (mk bs)] (fun r w' => St w0 (A * wrA 64 p (putF W tag bs)) w') w := by
  refine callW_of_lift l28_ok (by simp [l28]) ?_
  simp [l28]
  refine eff_s2b Try.underlying9 Try.underlying31 Try.underlying5 hl s fun v w1 s1 => ?_
  simp
  refine eff_call ((put_spec p W tag bs v w0 w1 (A * seenA v bs) hW hl (seen_row s1.swap.drop) s1.swap).mono fun r2 w2 s2 => ?_)
  simp
  exact s2.swap.drop
theorem rText_spec (p : Nat) (W : Wr) (tag : Int) (bs : List UInt8) (w0 w : World) (A : Asn) (hW : W.ok) (hl : bs.length ≤ 35184372088832) (s : St w0 (A * wrA 52 p W) w) :
    CallW Try.prog 19 [.pointer (some ⟨p, 0, none⟩), .int .i64 tag, .string (mk bs)] (fun r w' => St w0 (A * wrA 52 p (putF W tag bs)) w') w := by
  refine callW_of_lift l19_ok (by simp [l19]) ?_
  simp [l19]
  refine eff_s2b Try.underlying9 Try.underlying31 Try.underlying5 hl s fun v w1 s1 => ?_
  simp
  refine eff_call ((rput_spec p W tag bs v w0 w1 (A * seenA v bs) hW hl (seen_row s1.swap.drop) s1.swap).mono fun r2 w2 s2 => ?_)
  simp
  exact s2.swap.drop
theorem Form_spec (p : Nat) (W : Wr) (w0 w : World) (A : Asn) (hW : W.ok) (s : St w0 (A * wrA 64 p W) w) :
    CallW Try.prog 32 [.pointer (some ⟨p, 0, none⟩)] (fun r w' => (W.e ≠ 0 ∧ r = .tuple #[.slice none 0 0, .int .i64 W.e] ∧ St w0 (A * wrA 64 p W) w') ∨
      (W.e = 0 ∧ ∃ v, r = .tuple #[v, .int .i64 0] ∧ St w0 (A * wrA 64 p W * byA v W.b) w')) w := by
  have h2 := hW.len
  obtain ⟨vb, s1⟩ := wopen s
  refine callW_of_lift l32_ok (by simp [l32]) ?_
  simp [l32]
  refine eff_ldc (v := .int .i64 W.e) ((cell_of s1.drop.look).trans rfl) ?_
  simp
  refine cndI (fun c => ?_) (fun c => ?_)
  · simp at c
    simp
    refine regqI s1 ?_
    simp
    refine effq_ldc (v := .int .i64 W.e) (fun w s => (cell_of s.drop.look).trans rfl) ?_
    simp
    intro w2 s2
    exact .inl ⟨c, wclose s2⟩
  · simp at c
    simp
    refine eff_ldc (v := vb) ((cell_of s1.drop.look).trans rfl) ?_
    simp
    refine eff_call ((own_spec W.b vb w0 w _ (by omega) (by_row s1) s1).mono fun r w2 s2 => ?_)
    simp [c]
    exact (wclose (s2.to (B := A * byA r W.b * wpt 64 p vb W * byA vb W.b) (by ac_rfl))).swap
theorem rForm_spec (p : Nat) (W : Wr) (w0 w : World) (A : Asn) (hW : W.ok) (s : St w0 (A * wrA 52 p W) w) :
    CallW Try.prog 24 [.pointer (some ⟨p, 0, none⟩)] (fun r w' => (W.e ≠ 0 ∧ r = .tuple #[.slice none 0 0, .int .i64 W.e] ∧ St w0 (A * wrA 52 p W) w') ∨
      (W.e = 0 ∧ ∃ v, r = .tuple #[v, .int .i64 0] ∧ St w0 (A * wrA 52 p W * byA v W.b) w')) w := by
  have h2 := hW.len
  obtain ⟨vb, s1⟩ := wopen s
  refine callW_of_lift l24_ok (by simp [l24]) ?_
  simp [l24]
  refine eff_ldc (v := .int .i64 W.e) ((cell_of s1.drop.look).trans rfl) ?_
  simp
  refine cndI (fun c => ?_) (fun c => ?_)
  · simp at c
    simp
    refine regqI s1 ?_
    simp
    refine effq_ldc (v := .int .i64 W.e) (fun w s => (cell_of s.drop.look).trans rfl) ?_
    simp
    intro w2 s2
    exact .inl ⟨c, wclose s2⟩
  · simp at c
    simp
    refine eff_ldc (v := vb) ((cell_of s1.drop.look).trans rfl) ?_
    simp
    refine eff_call ((Copied_spec W.b vb w0 w _ (by omega) (by_row s1) s1).mono fun r w2 s2 => ?_)
    simp [c]
    exact (wclose (s2.to (B := A * byA r W.b * wpt 52 p vb W * byA vb W.b) (by ac_rfl))).swap
def recW (W : Wr) (tag : Int) (V : Wr) : Wr := if W.e ≠ 0 then W else if V.e ≠ 0 then { W with e := V.e } else putF W tag V.b
theorem rec_ok {W : Wr} (h : W.ok) (tag : Int) (V : Wr) : (recW W tag V).ok := by
  unfold recW; split
  · exact h
  split
  · exact ⟨h.last, h.len⟩
  · exact put_ok h _ _
theorem Record_spec (p q : Nat) (W V : Wr) (tag : Int) (w0 w : World) (A : Asn) (hW : W.ok) (hV : V.ok) (s : St w0 (A * wrA 64 q V * wrA 64 p W) w) :
    CallW Try.prog 30 [.pointer (some ⟨p, 0, none⟩), .int .i64 tag, .pointer (some ⟨q, 0, none⟩)] (fun r w' => St w0 (A * wrA 64 q V * wrA 64 p (recW W tag V)) w') w := by
  have h2 := hV.len
  obtain ⟨vb, s1⟩ := wopen s
  refine callW_of_lift l30_ok (by simp [l30]) ?_
  simp [l30]
  refine eff_ldc (v := .int .i64 W.e) ((cell_of s1.drop.look).trans rfl) ?_
  simp
  refine cndI (fun c => ?_) (fun c => ?_)
  · simp at c
    simp
    have e : recW W tag V = W := if_pos c
    rw [e]
    exact s
  simp at c
  simp
  refine eff_call ((Form_spec q V w0 w (A * wrA 64 p W) hV s.swap).mono ?_)
  rintro r w2 (⟨hv, rfl, s2⟩ | ⟨hv, v, rfl, s2⟩)
  · simp [hv]
    obtain ⟨vb, s3⟩ := wopen s2.swap
    refine eff_st1 s3.swap rfl (by simp) fun w3 s4 => ?_
    simp at s4 ⊢
    have e : recW W tag V = { W with e := V.e } := by unfold recW; rw [if_neg (by simp [c]), if_pos hv]
    rw [e]
    exact wclose' (W := { W with e := V.e }) s4
  · obtain ⟨va, vc, rfl, _, _⟩ := s2.own_val
    simp
    have e : recW W tag V = putF W tag V.b := by unfold recW; rw [if_neg (by simp [c]), if_neg (by simp [hv])]
    rw [e]
    refine eff_call ((put_spec p W tag V.b _ w0 w2 (A * wrA 64 q V * byA (.slice va V.b.length vc) V.b) hW (by omega) (by_row (s2.cut (wrA 64 p W) (by ac_rfl))) (s2.to (by ac_rfl))).mono fun r2 w3 s3 => ?_)
    simp
    exact s3.swap.drop
theorem rRecord_spec (p q : Nat) (W V : Wr) (tag : Int) (w0 w : World) (A : Asn) (hW : W.ok) (hV : V.ok) (s : St w0 (A * wrA 52 q V * wrA 52 p W) w) :
    CallW Try.prog 21 [.pointer (some ⟨p, 0, none⟩), .int .i64 tag, .pointer (some ⟨q, 0, none⟩)] (fun r w' => St w0 (A * wrA 52 q V * wrA 52 p (recW W tag V)) w') w := by
  have h2 := hV.len
  obtain ⟨vb, s1⟩ := wopen s
  refine callW_of_lift l21_ok (by simp [l21]) ?_
  simp [l21]
  refine eff_ldc (v := .int .i64 W.e) ((cell_of s1.drop.look).trans rfl) ?_
  simp
  refine cndI (fun c => ?_) (fun c => ?_)
  · simp at c
    simp
    have e : recW W tag V = W := if_pos c
    rw [e]
    exact s
  simp at c
  simp
  obtain ⟨vq, s2⟩ := wopen (s1.to (B := A * wpt 52 p vb W * byA vb W.b * wrA 52 q V) (by ac_rfl))
  refine eff_ldc (v := .int .i64 V.e) ((cell_of s2.drop.look).trans rfl) ?_
  simp
  refine cndI (fun hv => ?_) (fun hv => ?_)
  · simp at hv
    simp
    refine eff_ldc (v := .int .i64 V.e) ((cell_of s2.drop.look).trans rfl) ?_
    simp
    refine eff_st1 (s1.swap) rfl (by simp) fun w3 s4 => ?_
    simp at s4 ⊢
    have e : recW W tag V = { W with e := V.e } := by unfold recW; rw [if_neg (by simp [c]), if_pos hv]
    rw [e]
    exact wclose' (W := { W with e := V.e }) s4
  · simp at hv
    simp
    have e : recW W tag V = putF W tag V.b := by unfold recW; rw [if_neg (by simp [c]), if_neg (by simp [hv])]
    rw [e]
    refine eff_ldc (v := vq) ((cell_of s2.drop.look).trans rfl) ?_
    simp
    refine eff_call ((Copied_spec V.b vq w0 w _ (by omega) (by_row s2) s2).mono fun r w3 s3 => ?_)
    simp
    have s4 : St w0 (A * wrA 52 q V * byA r V.b * wrA 52 p W) w3 := by
      have a1 := wclose (s3.to (B := A * wpt 52 p vb W * byA vb W.b * byA r V.b * wpt 52 q vq V * byA vq V.b) (by ac_rfl))
      exact wclose (a1.to (B := A * wrA 52 q V * byA r V.b * wpt 52 p vb W * byA vb W.b) (by ac_rfl))
    refine eff_call ((rput_spec p W tag V.b r w0 w3 (A * wrA 52 q V * byA r V.b) hW (by omega) (by_row s4.drop) s4).mono fun r2 w5 s5 => ?_)
    simp
    exact s5.swap.drop
end Go.HL.Tl

namespace Go.HL.Tl
open Go.HL Go.Proofs
set_option maxRecDepth 4000
set_option linter.unusedSimpArgs false
set_option linter.unusedVariables false

def l60 : Lifted := ⟨[0, 1, 2], 11, [], (.reg (.eff (.call 82) (.cons (.inp 2) .nil) (.eff (.call 61) (.cons (.inp 0) (.cons (.inp 1) (.cons (.bv 0) .nil))) (.done [] none))))⟩
theorem l60_ok : liftFn T0 60 400 = some l60 := by kernel_rfl

def l58 : Lifted := ⟨[0, 1, 2], 11, [], (.reg (.eff (.call 81) (.cons (.inp 2) .nil) (.eff (.call 55) (.cons (.inp 0) (.cons (.inp 1) (.cons (.bv 0) .nil))) (.done [] none))))⟩
theorem l58_ok : liftFn T0 58 400 = some l58 := by kernel_rfl

def h82_0 : HC := (.seq (.reg (.eff (.call 63) (.cons (.inp 2) .nil) (.done [(1, (.bv 0))] none))) .ret)
@[simp] theorem h82_0_wp : type_of% (@wpH h82_0 _ h82_0.eq_1) := wpH h82_0.eq_1
def h82_1 : HC := (.reg (.chk none (.bin .add) (.cons (.inp 6) (.cons (.cst (.int .i64 1)) .nil)) (.done [(6, (.op (.bin .add) (.cons (.inp 6) (.cons (.cst (.int .i64 1)) .nil))))] none)))
@[simp] theorem h82_1_wp : type_of% (@wpH h82_1 _ h82_1.eq_1) := wpH h82_1.eq_1
def h82_2 : HC := (.reg (.eff (.app 31 31 5 1 1 (.int .u8 0)) (.cons (.inp 2) (.cons (.inp 3) .nil)) (.done [(2, (.bv 0))] none)))
@[simp] theorem h82_2_wp : type_of% (@wpH h82_2 _ h82_2.eq_1) := wpH h82_2.eq_1
def h82_3 : HC := (.seq (.reg (.chk none .lenL (.cons (.inp 3) .nil) (.chk none (.convI .u64) (.cons (.op .lenL (.cons (.inp 3) .nil)) .nil) (.eff (.call 62) (.cons (.op (.convI .u64) (.cons (.op .lenL (.cons (.inp 3) .nil)) .nil)) .nil) (.eff (.app 31 31 5 1 1 (.int .u8 0)) (.cons (.inp 2) (.cons (.bv 0) .nil)) (.done [(2, (.bv 1))] none)))))) h82_2)
@[simp] theorem h82_3_wp : type_of% (@wpH h82_3 _ h82_3.eq_1) := wpH h82_3.eq_1
def h82_4 : HC := (.seq (.reg (.chk none (.idxL 1) (.cons (.inp 4) (.cons (.inp 6) .nil)) (.eff (.ld false 1) (.cons (.op (.idxL 1) (.cons (.inp 4) (.cons (.inp 6) .nil))) .nil) (.done [(3, (.bv 0))] none)))) h82_3)
@[simp] theorem h82_4_wp : type_of% (@wpH h82_4 _ h82_4.eq_1) := wpH h82_4.eq_1
def h82_5 : HC := (.seq (.block 1 h82_4) h82_1)
@[simp] theorem h82_5_wp : type_of% (@wpH h82_5 _ h82_5.eq_1) := wpH h82_5.eq_1
def h82_6 : HC := (.seq (.br (.chk none (.bin .lss) (.cons (.inp 6) (.cons (.inp 5) .nil)) (.done [] (some (.op (.bin .lss) (.cons (.inp 6) (.cons (.inp 5) .nil)))))) .skip (.exit 0)) h82_5)
@[simp] theorem h82_6_wp : type_of% (@wpH h82_6 _ h82_6.eq_1) := wpH h82_6.eq_1
def h82_7 : HC := (.loop h82_6)
@[simp] theorem h82_7_wp : type_of% (@wpH h82_7 _ h82_7.eq_1) := wpH h82_7.eq_1
def h82_8 : HC := (.seq (.block 0 h82_7) h82_0)
@[simp] theorem h82_8_wp : type_of% (@wpH h82_8 _ h82_8.eq_1) := wpH h82_8.eq_1
def h82_9 : HC := (.seq (.reg (.chk none .lenL (.cons (.inp 0) .nil) (.done [(4, (.inp 0)), (5, (.op .lenL (.cons (.inp 0) .nil))), (6, (.cst (.int .i64 0)))] none))) h82_8)
@[simp] theorem h82_9_wp : type_of% (@wpH h82_9 _ h82_9.eq_1) := wpH h82_9.eq_1
def h82_10 : HC := (.seq (.reg (.done [(2, (.cst (.slice none 0 0)))] none)) h82_9)
@[simp] theorem h82_10_wp : type_of% (@wpH h82_10 _ h82_10.eq_1) := wpH h82_10.eq_1
def l82 : Lifted := ⟨[0, 2, 3, 5, 6, 7, 8], 24, [.slot 1], (.seq (.reg (.done [(1, (.cst (.slice none 0 0)))] none)) h82_10)⟩
theorem l82_ok : liftFn T0 82 400 = some l82 := by kernel_rfl

def h81_0 : HC := (.seq (.reg (.done [(1, (.inp 2))] none)) .ret)
@[simp] theorem h81_0_wp : type_of% (@wpH h81_0 _ h81_0.eq_1) := wpH h81_0.eq_1
def h81_1 : HC := (.reg (.chk none (.bin .add) (.cons (.inp 3) (.cons (.cst (.int .i64 1)) .nil)) (.done [(3, (.op (.bin .add) (.cons (.inp 3) (.cons (.cst (.int .i64 1)) .nil))))] none)))
@[simp] theorem h81_1_wp : type_of% (@wpH h81_1 _ h81_1.eq_1) := wpH h81_1.eq_1
def h81_2 : HC := (.reg (.chk none (.idxL 1) (.cons (.inp 0) (.cons (.inp 3) .nil)) (.eff (.ld false 1) (.cons (.op (.idxL 1) (.cons (.inp 0) (.cons (.inp 3) .nil))) .nil) (.eff (.app 31 31 5 1 1 (.int .u8 0)) (.cons (.inp 2) (.cons (.bv 0) .nil)) (.done [(2, (.bv 1))] none)))))
@[simp] theorem h81_2_wp : type_of% (@wpH h81_2 _ h81_2.eq_1) := wpH h81_2.eq_1
def h81_3 : HC := (.seq (.reg (.chk none (.idxL 1) (.cons (.inp 0) (.cons (.inp 3) .nil)) (.eff (.ld false 1) (.cons (.op (.idxL 1) (.cons (.inp 0) (.cons (.inp 3) .nil))) .nil) (.chk none .lenL (.cons (.bv 0) .nil) (.chk none (.convI .u64) (.cons (.op .lenL (.cons (.bv 0) .nil)) .nil) (.eff (.call 56) (.cons (.op (.convI .u64) (.cons (.op .lenL (.cons (.bv 0) .nil)) .nil)) .nil) (.eff (.app 31 31 5 1 1 (.int .u8 0)) (.cons (.inp 2) (.cons (.bv 1) .nil)) (.done [(2, (.bv 2))] none)))))))) h81_2)
@[simp] theorem h81_3_wp : type_of% (@wpH h81_3 _ h81_3.eq_1) := wpH h81_3.eq_1
def h81_4 : HC := (.seq (.block 1 h81_3) h81_1)
@[simp] theorem h81_4_wp : type_of% (@wpH h81_4 _ h81_4.eq_1) := wpH h81_4.eq_1
def h81_5 : HC := (.seq (.br (.chk none .lenL (.cons (.inp 0) .nil) (.chk none (.bin .lss) (.cons (.inp 3) (.cons (.op .lenL (.cons (.inp 0) .nil)) .nil)) (.done [] (some (.op (.bin .lss) (.cons (.inp 3) (.cons (.op .lenL (.cons (.inp 0) .nil)) .nil))))))) .skip (.exit 0)) h81_4)
@[simp] theorem h81_5_wp : type_of% (@wpH h81_5 _ h81_5.eq_1) := wpH h81_5.eq_1
def h81_6 : HC := (.loop h81_5)
@[simp] theorem h81_6_wp : type_of% (@wpH h81_6 _ h81_6.eq_1) := wpH h81_6.eq_1
def h81_7 : HC := (.seq (.block 0 h81_6) h81_0)
@[simp] theorem h81_7_wp : type_of% (@wpH h81_7 _ h81_7.eq_1) := wpH h81_7.eq_1
def h81_8 : HC := (.seq (.reg (.done [(3, (.cst (.int .i64 0)))] none)) h81_7)
@[simp] theorem h81_8_wp : type_of% (@wpH h81_8 _ h81_8.eq_1) := wpH h81_8.eq_1
def h81_9 : HC := (.seq (.reg (.done [(2, (.cst (.slice none 0 0)))] none)) h81_8)
@[simp] theorem h81_9_wp : type_of% (@wpH h81_9 _ h81_9.eq_1) := wpH h81_9.eq_1
def l81 : Lifted := ⟨[0, 2, 3, 4], 27, [.slot 1], (.seq (.reg (.done [(1, (.cst (.slice none 0 0)))] none)) h81_9)⟩
theorem l81_ok : liftFn T0 81 400 = some l81 := by kernel_rfl
def bss : List Value → List (List UInt8) → Asn
  | [], [] => emp
  | v :: vs, l :: L => byA v l * bss vs L
  | _, _ => fun _ => False
theorem bss_cons (v : Value) (l : List UInt8) (vs : List Value) (L : List (List UInt8)) : bss (v :: vs) (l :: L) = byA v l * bss vs L := rfl
theorem emp_sep (A : Asn) : emp * A = A := (sep_comm emp A).trans (sep_emp A)
theorem bss_snoc (v : Value) (l : List UInt8) : ∀ (vs : List Value) (L : List (List UInt8)), vs.length = L.length → bss (vs ++ [v]) (L ++ [l]) = bss vs L * byA v l := by
  intro vs
  induction vs with
  | nil =>
    intro L h
    cases L with
    | nil => exact (sep_emp _).trans (emp_sep _).symm
    | cons _ _ => simp at h
  | cons u vs ih =>
    intro L h
    cases L with
    | nil => simp at h
    | cons m L =>
      have e := ih L (by simpa using h)
      have h1 : bss (u :: vs ++ [v]) (m :: L ++ [l]) = byA u m * bss (vs ++ [v]) (L ++ [l]) := rfl
      rw [h1, e, bss_cons, sep_assoc]
theorem bss_at : ∀ (vs : List Value) (L : List (List UInt8)) (i : Nat) (h1 : i < vs.length) (h2 : i < L.length), ∃ R, bss vs L = R * byA vs[i] L[i] := by
  intro vs
  induction vs with
  | nil => intro L i h1; simp at h1
  | cons v vs ih =>
    intro L i h1 h2
    cases L with
    | nil => simp at h2
    | cons l L =>
      cases i with
      | zero => exact ⟨bss vs L, sep_comm _ _⟩
      | succ i =>
        obtain ⟨R, hR⟩ := ih L i (by simpa using h1) (by simpa using h2)
        refine ⟨byA v l * R, ?_⟩
        have h3 : (v :: vs)[i + 1] = vs[i]'(by simpa using h1) := rfl
        have h4 : (l :: L)[i + 1] = L[i]'(by simpa using h2) := rfl
        rw [bss_cons, hR, h3, h4, sep_assoc]
theorem bss_row {w0 w : World} {A : Asn} {vs : List Value} {L : List (List UInt8)} {i : Nat} (h1 : i < vs.length) (h2 : i < L.length) (s : St w0 (A * bss vs L) w) : BR w0 (A * bss vs L) vs[i] L[i] := by
  obtain ⟨R, hR⟩ := bss_at vs L i h1 h2
  exact row_in (e := 5) (B := A * R) s (by rw [hR, sep_assoc])
def listL (L : List (List UInt8)) : List UInt8 := L.flatMap fun l => shortL l.length ++ l
theorem listL_snoc (L : List (List UInt8)) (l : List UInt8) : listL (L ++ [l]) = listL L ++ (shortL l.length ++ l) := by simp [listL]
theorem listL_take {L : List (List UInt8)} {i : Nat} (h : i < L.length) : listL (L.take (i + 1)) = listL (L.take i) ++ (shortL L[i].length ++ L[i]) := by
  rw [List.take_succ_eq_append_getElem h, listL_snoc]
theorem listL_len (L : List (List UInt8)) (i : Nat) : (listL (L.take i)).length ≤ (listL L).length := by
  have : listL L = listL (L.take i) ++ listL (L.drop i) := by
    simp only [listL]; rw [← List.flatMap_append, List.take_append_drop]
  rw [this]; simp
theorem listL_big {L : List (List UInt8)} {i : Nat} (h : i < L.length) : (listL (L.take i)).length + ((shortL L[i].length).length + L[i].length) ≤ (listL L).length := by
  have := listL_len L (i + 1)
  rw [listL_take h] at this
  simp at this
  omega
theorem List_spec (vs : List Value) (L : List (List UInt8)) (v : Value) (w0 w : World) (A : Asn) (hn : vs.length = L.length) (hL : L.length ≤ 35184372088832) (hl : (listL L).length ≤ 35184372088832) (hr : Row w0 A v L.length 1 vs) (s : St w0 (A * bss vs L) w) :
    CallW Try.prog 82 [v] (fun r w' => St w0 (A * bss vs L * byA r (listL L)) w') w := by
  obtain ⟨a, cap, rfl⟩ := hr.val
  refine callW_of_lift l82_ok (by simp [l82]) ?_
  simp [l82]
  refine loopI (fun env w' => ∃ (i : Nat) (bv o3 : Value), env = [.slice a L.length cap, .slice none 0 0, bv, o3, .slice a L.length cap, .int .i64 L.length, .int .i64 i] ∧ i ≤ L.length ∧ St w0 (A * bss vs L * byA bv (listL (L.take i))) w')
    (fun env _ => L.length - slotN env 6) ⟨0, _, _, rfl, by omega, byA_nil s⟩ ?_
  clear s
  rintro LQ env w' ⟨i, bv, o3, rfl, hi, s1⟩ hN hX hR
  simp
  refine cndI (fun hc => ?_) (fun hc => ?_)
  · simp at hc
    have hv : i < vs.length := by omega
    obtain ⟨g, o, cap', hvv, hcell⟩ := hr.at (by omega)
    cases hvv
    simp [hc]
    refine eff_ldc (v := vs[i]) (hcell w' s1.drop.drop i _ (by simp [hv])) ?_
    simp
    have rowi := bss_row hv hc s1.drop
    obtain ⟨ia, icap, hvi⟩ := rowi.val
    rw [hvi] at rowi ⊢
    have hbig := listL_big hc
    have hsl := shortL_len L[i].length
    simp
    rw [u64_small _ (by omega)]
    refine eff_call ((Short_spec L[i].length w0 w' _ (by omega) s1).mono fun r w2 s2 => ?_)
    simp at s2 ⊢
    have r2 := row_own s2
    refine eff_appR s2.swap (r2.mono fun w s => s.swap) (bytesV_one _) (by decide) rfl (by unfold maxLen; omega) (by omega) fun v3 w3 s3 => ?_
    have s3 := by_of (b := listL (L.take i) ++ shortL L[i].length) s3 (by simp) (by simp [bytesV])
    simp
    refine eff_appR s3 (rowi.mono fun w s => s.drop.drop) (bytesV_one _) (by decide) rfl (by simp; unfold maxLen; omega) (by simp; omega) fun v4 w4 s4 => ?_
    have s4 := by_of (b := listL (L.take (i + 1))) s4 (by rw [listL_take hc]; simp; omega) (by rw [listL_take hc]; simp [bytesV])
    simp
    try simp (disch := omega) only [wrap64]
    exact hN _ _ ⟨i + 1, v4, _, by simp; rfl, by omega, s4.swap.drop⟩ (by simp [slotN]; omega)
  · simp at hc
    simp
    refine hX _ _ _ ?_
    obtain rfl : i = L.length := by omega
    rw [List.take_length] at s1
    simp
    refine eff_call ((own_spec (listL L) bv w0 w' _ hl (by_row s1) s1).mono fun r w2 s2 => ?_)
    simp
    exact s2.swap.drop
theorem rList_spec (vs : List Value) (L : List (List UInt8)) (v : Value) (w0 w : World) (A : Asn) (hn : vs.length = L.length) (hL : L.length ≤ 35184372088832) (hl : (listL L).length ≤ 35184372088832) (hr : Row w0 A v L.length 1 vs) (s : St w0 (A * bss vs L) w) :
    CallW Try.prog 81 [v] (fun r w' => St w0 (A * bss vs L * byA r (listL L)) w') w := by
  obtain ⟨a, cap, rfl⟩ := hr.val
  refine callW_of_lift l81_ok (by simp [l81]) ?_
  simp [l81]
  refine loopI (fun env w' => ∃ (i : Nat) (bv : Value), env = [.slice a L.length cap, .slice none 0 0, bv, .int .i64 i] ∧ i ≤ L.length ∧ St w0 (A * bss vs L * byA bv (listL (L.take i))) w')
    (fun env _ => L.length - slotN env 3) ⟨0, _, rfl, by omega, byA_nil s⟩ ?_
  clear s
  rintro LQ env w' ⟨i, bv, rfl, hi, s1⟩ hN hX hR
  simp
  refine cndI (fun hc => ?_) (fun hc => ?_)
  · simp at hc
    have hv : i < vs.length := by omega
    obtain ⟨g, o, cap', hvv, hcell⟩ := hr.at (by omega)
    cases hvv
    simp [hc]
    have rowi := bss_row hv hc s1.drop
    obtain ⟨ia, icap, hvi⟩ := rowi.val
    refine eff_ldc (v := vs[i]) (hcell w' s1.drop.drop i _ (by simp [hv])) ?_
    rw [hvi] at rowi ⊢
    have hbig := listL_big hc
    have hsl := shortL_len L[i].length
    simp
    rw [u64_small _ (by omega)]
    refine eff_call ((rShort_spec L[i].length w0 w' _ (by omega) s1).mono fun r w2 s2 => ?_)
    simp at s2 ⊢
    have r2 := row_own s2
    refine eff_appR s2.swap (r2.mono fun w s => s.swap) (bytesV_one _) (by decide) rfl (by unfold maxLen; omega) (by omega) fun v3 w3 s3 => ?_
    have s3 := by_of (b := listL (L.take i) ++ shortL L[i].length) s3 (by simp) (by simp [bytesV])
    simp [hc]
    refine eff_ldc (v := vs[i]) (hcell w3 s3.drop.drop.drop i _ (by simp [hv])) ?_
    rw [hvi]
    simp
    refine eff_appR s3 (rowi.mono fun w s => s.drop.drop) (bytesV_one _) (by decide) rfl (by simp; unfold maxLen; omega) (by simp; omega) fun v4 w4 s4 => ?_
    have s4 := by_of (b := listL (L.take (i + 1))) s4 (by rw [listL_take hc]; simp; omega) (by rw [listL_take hc]; simp [bytesV])
    simp
    try simp (disch := omega) only [wrap64]
    exact hN _ _ ⟨i + 1, v4, by simp, by omega, s4.swap.drop⟩ (by simp [slotN]; omega)
  · simp at hc
    simp
    refine hX _ _ _ ?_
    obtain rfl : i = L.length := by omega
    rw [List.take_length] at s1
    simp
    exact s1
theorem WList_spec (p : Nat) (W : Wr) (tag : Int) (vs : List Value) (L : List (List UInt8)) (v : Value) (w0 w : World) (A : Asn) (hW : W.ok) (hn : vs.length = L.length) (hL : L.length ≤ 35184372088832) (hl : (listL L).length ≤ 35184372088832) (hr : Row w0 A v L.length 1 vs) (s : St w0 (A * bss vs L * wrA 64 p W) w) :
    CallW Try.prog 60 [.pointer (some ⟨p, 0, none⟩), .int .i64 tag, v] (fun r w' => St w0 (A * bss vs L * wrA 64 p (putF W tag (listL L))) w') w := by
  refine callW_of_lift l60_ok (by simp [l60]) ?_
  simp [l60]
  refine eff_call ((List_spec vs L v w0 w (A * wrA 64 p W) hn hL hl (hr.mono fun w s => s.drop) s.swap).mono fun r w1 s1 => ?_)
  simp
  have s1 : St w0 (A * bss vs L * byA r (listL L) * wrA 64 p W) w1 := s1.to (by ac_rfl)
  refine eff_call ((put_spec p W tag (listL L) r w0 w1 _ hW hl (by_row s1.drop) s1).mono fun r2 w2 s2 => ?_)
  simp
  exact s2.swap.drop
theorem rWList_spec (p : Nat) (W : Wr) (tag : Int) (vs : List Value) (L : List (List UInt8)) (v : Value) (w0 w : World) (A : Asn) (hW : W.ok) (hn : vs.length = L.length) (hL : L.length ≤ 35184372088832) (hl : (listL L).length ≤ 35184372088832) (hr : Row w0 A v L.length 1 vs) (s : St w0 (A * bss vs L * wrA 52 p W) w) :
    CallW Try.prog 58 [.pointer (some ⟨p, 0, none⟩), .int .i64 tag, v] (fun r w' => St w0 (A * bss vs L * wrA 52 p (putF W tag (listL L))) w') w := by
  refine callW_of_lift l58_ok (by simp [l58]) ?_
  simp [l58]
  refine eff_call ((rList_spec vs L v w0 w (A * wrA 52 p W) hn hL hl (hr.mono fun w s => s.drop) s.swap).mono fun r w1 s1 => ?_)
  simp
  have s1 : St w0 (A * bss vs L * byA r (listL L) * wrA 52 p W) w1 := s1.to (by ac_rfl)
  refine eff_call ((rput_spec p W tag (listL L) r w0 w1 _ hW hl (by_row s1.drop) s1).mono fun r2 w2 s2 => ?_)
  simp
  exact s2.swap.drop
end Go.HL.Tl

namespace Go.HL.Tl
open Go.HL Go.Proofs
set_option maxRecDepth 4000
set_option linter.unusedSimpArgs false
set_option linter.unusedVariables false
def rsK : Nat → Nat → Nat → Nat → List UInt8 → Nat × Nat × Int
  | 0, _, _, _, _ => (0, 0, 20)
  | _ + 1, _, _, _, [] => (0, 0, 22)
  | j + 1, k, n, at', c :: t =>
    if k = 9 ∧ 1 < c.toNat then (0, 0, 20)
    else if c.toNat < 128 then (if 0 < k ∧ c.toNat = 0 then (0, 0, 20) else (n + c.toNat * 128 ^ k, at' + k + 1, 0))
    else rsK j (k + 1) (n + c.toNat % 128 * 128 ^ k) at' t
def rs (bs : List UInt8) (at' : Nat) : Nat × Nat × Int := rsK 10 0 0 at' (bs.drop at')
theorem rsK_ok : ∀ (j k n a : Nat) (l : List UInt8), j + k = 10 → n < 128 ^ k → (rsK j k n a l).2.2 = 0 → (rsK j k n a l).1 < 18446744073709551616 ∧ a + k < (rsK j k n a l).2.1 ∧ (rsK j k n a l).2.1 ≤ a + k + l.length
  | 0, k, n, a, l, _, _, h => by simp [rsK] at h
  | j + 1, k, n, a, [], _, _, h => by simp [rsK] at h
  | j + 1, k, n, a, c :: t, hk, hn, h => by
    simp only [rsK] at h ⊢
    split at h
    · simp at h
    rename_i h9
    rw [if_neg h9]
    split at h
    · rename_i hc
      rw [if_pos hc]
      split at h
      · simp at h
      rename_i h0
      rw [if_neg h0]
      simp only [List.length_cons]
      refine ⟨?_, by omega, by omega⟩
      by_cases e : k = 9
      · subst e
        have : c.toNat ≤ 1 := by
          by_cases e1 : 1 < c.toNat
          · exact absurd ⟨rfl, e1⟩ h9
          · omega
        have : (128 : Nat) ^ 9 = 9223372036854775808 := by decide
        omega
      · have h8 : k ≤ 8 := by omega
        have : (128 : Nat) ^ k ≤ 128 ^ 8 := Nat.pow_le_pow_right (by decide) h8
        have e8 : (128 : Nat) ^ 8 = 72057594037927936 := by decide
        have : c.toNat * 128 ^ k ≤ 127 * 128 ^ k := Nat.mul_le_mul_right _ (by omega)
        omega
    · rename_i hc
      rw [if_neg hc]
      have hn' : n + c.toNat % 128 * 128 ^ k < 128 ^ (k + 1) := by
        rw [Nat.pow_succ]
        have : c.toNat % 128 * 128 ^ k ≤ 127 * 128 ^ k := Nat.mul_le_mul_right _ (by omega)
        omega
      have := rsK_ok j (k + 1) _ a t (by omega) hn' h
      simp only [List.length_cons]
      omega
theorem rs_ok {bs : List UInt8} {a : Nat} (ha : a ≤ bs.length) (h : (rs bs a).2.2 = 0) : (rs bs a).1 < 18446744073709551616 ∧ a < (rs bs a).2.1 ∧ (rs bs a).2.1 ≤ bs.length := by
  have := rsK_ok 10 0 0 a (bs.drop a) rfl (by decide) h
  simp only [List.length_drop] at this
  unfold rs
  omega
@[simp] theorem toNat_lt (c : UInt8) : c.toNat < 256 := c.toBitVec.isLt
theorem pow128 (k : Nat) : (128 : Nat) ^ k = 2 ^ (7 * k) := by rw [Nat.pow_mul]
theorem small_prod {x k : Nat} (hk : k ≤ 9) (hx : x < 128) (h9 : k = 9 → x ≤ 1) : x * 128 ^ k ≤ 9223372036854775808 := by
  by_cases e : k = 9
  · subst e
    have e9 : (128 : Nat) ^ 9 = 9223372036854775808 := by decide
    rw [e9]; have := h9 rfl; omega
  · have : (128 : Nat) ^ k ≤ 128 ^ 8 := Nat.pow_le_pow_right (by decide) (by omega)
    have e8 : (128 : Nat) ^ 8 = 72057594037927936 := by decide
    have : x * 128 ^ k ≤ 127 * 128 ^ k := Nat.mul_le_mul_right _ (by omega)
    omega
theorem pow_small {k : Nat} (hk : k ≤ 9) : (128 : Nat) ^ k ≤ 9223372036854775808 := by
  have : (128 : Nat) ^ k ≤ 128 ^ 9 := Nat.pow_le_pow_right (by decide) hk
  have e9 : (128 : Nat) ^ 9 = 9223372036854775808 := by decide
  omega
theorem or_step (n k c : Nat) (hn : n < 128 ^ k) (hk : k ≤ 9) (h9 : k = 9 → c ≤ 1) (hc : c < 256) :
    IntKind.u64.wrap ((n % 2 ^ IntKind.u64.bits ||| (IntKind.u64.wrap (IntKind.u64.wrap (IntKind.u8.wrap ((c % 2 ^ IntKind.u8.bits &&& 127 % 2 ^ IntKind.u8.bits : Nat) : Int)) * 2 ^ min (IntKind.i64.wrap (7 * (k : Int))).toNat IntKind.u64.bits) % 2 ^ IntKind.u64.bits).toNat : Nat) : Int) = ((n + c % 128 * 128 ^ k : Nat) : Int) := by
  have key : ∀ b : Fin 256, IntKind.u8.wrap ((b.val % 2 ^ IntKind.u8.bits &&& 127 % 2 ^ IntKind.u8.bits : Nat) : Int) = ((b.val % 128 : Nat) : Int) := by decide +kernel
  have e1 := key ⟨c, hc⟩
  simp only at e1
  rw [e1]
  have hx : c % 128 < 128 := Nat.mod_lt _ (by decide)
  have hp := small_prod (x := c % 128) hk hx (fun h => by have := h9 h; omega)
  have hn2 := pow_small hk
  have w7 : IntKind.i64.wrap (7 * (k : Int)) = 7 * (k : Int) := wrap64 (by omega) (by omega)
  have t7 : (7 * (k : Int)).toNat = 7 * k := by omega
  have b64 : IntKind.u64.bits = 64 := rfl
  rw [w7, t7, b64, Nat.min_eq_left (by omega), u64_small ((c % 128 : Nat) : Int) (by omega)]
  have e2 : ((c % 128 : Nat) : Int) * 2 ^ (7 * k) = ((c % 128 * 128 ^ k : Nat) : Int) := by rw [pow128]; push_cast; rfl
  rw [e2, u64_small ((c % 128 * 128 ^ k : Nat) : Int) (by omega)]
  have e3 : (((c % 128 * 128 ^ k : Nat) : Int) % 2 ^ 64).toNat = c % 128 * 128 ^ k := by
    have : ((2 : Int) ^ 64) = 18446744073709551616 := by decide
    rw [this]; omega
  have e0 : (2 : Nat) ^ 64 = 18446744073709551616 := by decide
  have e4 : n % 2 ^ 64 = n := Nat.mod_eq_of_lt (by omega)
  rw [e3, e4]
  have e5 : n ||| c % 128 * 128 ^ k = n + c % 128 * 128 ^ k := by
    rw [pow128] at hn ⊢
    rw [Nat.or_comm, Nat.mul_comm, ← Nat.two_pow_add_eq_or_of_lt hn, Nat.add_comm]
  rw [e5, u64_small _ (by omega)]

def h74_0 : HC := (.seq (.reg (.done [(2, (.cst (.int .u64 0))), (3, (.cst (.int .i64 0))), (4, (.cst (.int .i64 20)))] none)) .ret)
@[simp] theorem h74_0_wp : type_of% (@wpH h74_0 _ h74_0.eq_1) := wpH h74_0.eq_1
def h74_1 : HC := (.reg (.chk none (.bin .add) (.cons (.inp 8) (.cons (.cst (.int .i64 1)) .nil)) (.done [(8, (.op (.bin .add) (.cons (.inp 8) (.cons (.cst (.int .i64 1)) .nil))))] none)))
@[simp] theorem h74_1_wp : type_of% (@wpH h74_1 _ h74_1.eq_1) := wpH h74_1.eq_1
def h74_2 : HC := (.seq (.reg (.chk none (.bin .add) (.cons (.inp 1) (.cons (.inp 6) .nil)) (.chk none (.bin .add) (.cons (.op (.bin .add) (.cons (.inp 1) (.cons (.inp 6) .nil))) (.cons (.cst (.int .i64 1)) .nil)) (.done [(2, (.inp 5)), (3, (.op (.bin .add) (.cons (.op (.bin .add) (.cons (.inp 1) (.cons (.inp 6) .nil))) (.cons (.cst (.int .i64 1)) .nil)))), (4, (.cst (.int .i64 0)))] none)))) .ret)
@[simp] theorem h74_2_wp : type_of% (@wpH h74_2 _ h74_2.eq_1) := wpH h74_2.eq_1
def h74_3 : HC := (.seq (.br (.chk none (.bin .gtr) (.cons (.inp 6) (.cons (.cst (.int .i64 0)) .nil)) (.bnd (.op (.bin .gtr) (.cons (.inp 6) (.cons (.cst (.int .i64 0)) .nil))) (.chk (some ((.bv 0), true)) (.bin .eql) (.cons (.inp 7) (.cons (.cst (.int .u8 0)) .nil)) (.isb none (.bv 0) (.done [] (some (.ite (.bv 0) true (.op (.bin .eql) (.cons (.inp 7) (.cons (.cst (.int .u8 0)) .nil))) (.cst (.bool false))))))))) (.exit 0) .skip) h74_2)
@[simp] theorem h74_3_wp : type_of% (@wpH h74_3 _ h74_3.eq_1) := wpH h74_3.eq_1
def h74_4 : HC := (.br (.chk none (.bin .lss) (.cons (.inp 7) (.cons (.cst (.int .u8 128)) .nil)) (.done [] (some (.op (.bin .lss) (.cons (.inp 7) (.cons (.cst (.int .u8 128)) .nil)))))) h74_3 .skip)
@[simp] theorem h74_4_wp : type_of% (@wpH h74_4 _ h74_4.eq_1) := wpH h74_4.eq_1
def h74_5 : HC := (.seq (.reg (.chk none (.bin .and) (.cons (.inp 7) (.cons (.cst (.int .u8 127)) .nil)) (.chk none (.convI .u64) (.cons (.op (.bin .and) (.cons (.inp 7) (.cons (.cst (.int .u8 127)) .nil))) .nil) (.chk none (.bin .mul) (.cons (.cst (.int .i64 7)) (.cons (.inp 6) .nil)) (.chk none (.bin .shl) (.cons (.op (.convI .u64) (.cons (.op (.bin .and) (.cons (.inp 7) (.cons (.cst (.int .u8 127)) .nil))) .nil)) (.cons (.op (.bin .mul) (.cons (.cst (.int .i64 7)) (.cons (.inp 6) .nil))) .nil)) (.chk none (.bin .or) (.cons (.inp 5) (.cons (.op (.bin .shl) (.cons (.op (.convI .u64) (.cons (.op (.bin .and) (.cons (.inp 7) (.cons (.cst (.int .u8 127)) .nil))) .nil)) (.cons (.op (.bin .mul) (.cons (.cst (.int .i64 7)) (.cons (.inp 6) .nil))) .nil))) .nil)) (.done [(5, (.op (.bin .or) (.cons (.inp 5) (.cons (.op (.bin .shl) (.cons (.op (.convI .u64) (.cons (.op (.bin .and) (.cons (.inp 7) (.cons (.cst (.int .u8 127)) .nil))) .nil)) (.cons (.op (.bin .mul) (.cons (.cst (.int .i64 7)) (.cons (.inp 6) .nil))) .nil))) .nil))))] none))))))) h74_4)
@[simp] theorem h74_5_wp : type_of% (@wpH h74_5 _ h74_5.eq_1) := wpH h74_5.eq_1
def h74_6 : HC := (.seq (.br (.chk none (.bin .eql) (.cons (.inp 6) (.cons (.cst (.int .i64 9)) .nil)) (.bnd (.op (.bin .eql) (.cons (.inp 6) (.cons (.cst (.int .i64 9)) .nil))) (.chk (some ((.bv 0), true)) (.bin .gtr) (.cons (.inp 7) (.cons (.cst (.int .u8 1)) .nil)) (.isb none (.bv 0) (.done [] (some (.ite (.bv 0) true (.op (.bin .gtr) (.cons (.inp 7) (.cons (.cst (.int .u8 1)) .nil))) (.cst (.bool false))))))))) (.exit 0) .skip) h74_5)
@[simp] theorem h74_6_wp : type_of% (@wpH h74_6 _ h74_6.eq_1) := wpH h74_6.eq_1
def h74_7 : HC := (.seq (.reg (.chk none (.bin .add) (.cons (.inp 1) (.cons (.inp 6) .nil)) (.chk none (.idxL 1) (.cons (.inp 0) (.cons (.op (.bin .add) (.cons (.inp 1) (.cons (.inp 6) .nil))) .nil)) (.eff (.ld false 1) (.cons (.op (.idxL 1) (.cons (.inp 0) (.cons (.op (.bin .add) (.cons (.inp 1) (.cons (.inp 6) .nil))) .nil))) .nil) (.done [(7, (.bv 0))] none))))) h74_6)
@[simp] theorem h74_7_wp : type_of% (@wpH h74_7 _ h74_7.eq_1) := wpH h74_7.eq_1
def h74_8 : HC := (.seq (.reg (.done [(2, (.cst (.int .u64 0))), (3, (.cst (.int .i64 0))), (4, (.cst (.int .i64 22)))] none)) .ret)
@[simp] theorem h74_8_wp : type_of% (@wpH h74_8 _ h74_8.eq_1) := wpH h74_8.eq_1
def h74_9 : HC := (.seq (.br (.chk none (.bin .add) (.cons (.inp 1) (.cons (.inp 6) .nil)) (.chk none .lenL (.cons (.inp 0) .nil) (.chk none (.bin .eql) (.cons (.op (.bin .add) (.cons (.inp 1) (.cons (.inp 6) .nil))) (.cons (.op .lenL (.cons (.inp 0) .nil)) .nil)) (.done [] (some (.op (.bin .eql) (.cons (.op (.bin .add) (.cons (.inp 1) (.cons (.inp 6) .nil))) (.cons (.op .lenL (.cons (.inp 0) .nil)) .nil)))))))) h74_8 .skip) h74_7)
@[simp] theorem h74_9_wp : type_of% (@wpH h74_9 _ h74_9.eq_1) := wpH h74_9.eq_1
def h74_10 : HC := (.seq (.reg (.done [(6, (.inp 8))] none)) h74_9)
@[simp] theorem h74_10_wp : type_of% (@wpH h74_10 _ h74_10.eq_1) := wpH h74_10.eq_1
def h74_11 : HC := (.seq (.block 1 h74_10) h74_1)
@[simp] theorem h74_11_wp : type_of% (@wpH h74_11 _ h74_11.eq_1) := wpH h74_11.eq_1
def h74_12 : HC := (.seq (.br (.chk none (.bin .lss) (.cons (.inp 8) (.cons (.cst (.int .i64 10)) .nil)) (.done [] (some (.op (.bin .lss) (.cons (.inp 8) (.cons (.cst (.int .i64 10)) .nil)))))) .skip (.exit 0)) h74_11)
@[simp] theorem h74_12_wp : type_of% (@wpH h74_12 _ h74_12.eq_1) := wpH h74_12.eq_1
def h74_13 : HC := (.loop h74_12)
@[simp] theorem h74_13_wp : type_of% (@wpH h74_13 _ h74_13.eq_1) := wpH h74_13.eq_1
def h74_14 : HC := (.seq (.block 0 h74_13) h74_0)
@[simp] theorem h74_14_wp : type_of% (@wpH h74_14 _ h74_14.eq_1) := wpH h74_14.eq_1
def h74_15 : HC := (.seq (.reg (.done [(8, (.cst (.int .i64 0)))] none)) h74_14)
@[simp] theorem h74_15_wp : type_of% (@wpH h74_15 _ h74_15.eq_1) := wpH h74_15.eq_1
def h74_16 : HC := (.seq (.reg (.done [(5, (.cst (.int .u64 0)))] none)) h74_15)
@[simp] theorem h74_16_wp : type_of% (@wpH h74_16 _ h74_16.eq_1) := wpH h74_16.eq_1
def h74_17 : HC := (.seq (.reg (.done [(2, (.cst (.int .u64 0))), (3, (.cst (.int .i64 0))), (4, (.cst (.int .i64 2)))] none)) .ret)
@[simp] theorem h74_17_wp : type_of% (@wpH h74_17 _ h74_17.eq_1) := wpH h74_17.eq_1
def h74_18 : HC := (.seq (.br (.chk none (.bin .lss) (.cons (.inp 1) (.cons (.cst (.int .i64 0)) .nil)) (.bnd (.op (.bin .lss) (.cons (.inp 1) (.cons (.cst (.int .i64 0)) .nil))) (.chk (some ((.bv 0), false)) .lenL (.cons (.inp 0) .nil) (.chk (some ((.bv 0), false)) (.bin .gtr) (.cons (.inp 1) (.cons (.op .lenL (.cons (.inp 0) .nil)) .nil)) (.isb none (.bv 0) (.done [] (some (.ite (.bv 0) true (.cst (.bool true)) (.op (.bin .gtr) (.cons (.inp 1) (.cons (.op .lenL (.cons (.inp 0) .nil)) .nil))))))))))) h74_17 .skip) h74_16)
@[simp] theorem h74_18_wp : type_of% (@wpH h74_18 _ h74_18.eq_1) := wpH h74_18.eq_1
def l74 : Lifted := ⟨[0, 1, 4, 5, 6, 7, 8, 9, 18], 61, [.slot 2, .slot 3, .slot 4], (.seq (.reg (.done [(2, (.cst (.int .u64 0))), (3, (.cst (.int .i64 0))), (4, (.cst (.int .i64 0)))] none)) h74_18)⟩
theorem l74_ok : liftFn T0 74 400 = some l74 := by kernel_rfl

def h67_0 : HC := (.seq (.reg (.done [(2, (.cst (.int .u64 0))), (3, (.cst (.int .i64 0))), (4, (.cst (.int .i64 20)))] none)) .ret)
@[simp] theorem h67_0_wp : type_of% (@wpH h67_0 _ h67_0.eq_1) := wpH h67_0.eq_1
def h67_1 : HC := (.reg (.chk none (.bin .add) (.cons (.inp 7) (.cons (.cst (.int .i64 1)) .nil)) (.done [(7, (.op (.bin .add) (.cons (.inp 7) (.cons (.cst (.int .i64 1)) .nil))))] none)))
@[simp] theorem h67_1_wp : type_of% (@wpH h67_1 _ h67_1.eq_1) := wpH h67_1.eq_1
def h67_2 : HC := (.seq (.reg (.chk none (.bin .add) (.cons (.inp 1) (.cons (.inp 7) .nil)) (.chk none (.bin .add) (.cons (.op (.bin .add) (.cons (.inp 1) (.cons (.inp 7) .nil))) (.cons (.cst (.int .i64 1)) .nil)) (.done [(2, (.inp 5)), (3, (.op (.bin .add) (.cons (.op (.bin .add) (.cons (.inp 1) (.cons (.inp 7) .nil))) (.cons (.cst (.int .i64 1)) .nil)))), (4, (.cst (.int .i64 0)))] none)))) .ret)
@[simp] theorem h67_2_wp : type_of% (@wpH h67_2 _ h67_2.eq_1) := wpH h67_2.eq_1
def h67_3 : HC := (.seq (.reg (.done [(2, (.cst (.int .u64 0))), (3, (.cst (.int .i64 0))), (4, (.cst (.int .i64 20)))] none)) .ret)
@[simp] theorem h67_3_wp : type_of% (@wpH h67_3 _ h67_3.eq_1) := wpH h67_3.eq_1
def h67_4 : HC := (.seq (.br (.chk none (.bin .gtr) (.cons (.inp 7) (.cons (.cst (.int .i64 0)) .nil)) (.bnd (.op (.bin .gtr) (.cons (.inp 7) (.cons (.cst (.int .i64 0)) .nil))) (.chk (some ((.bv 0), true)) (.bin .eql) (.cons (.inp 8) (.cons (.cst (.int .u8 0)) .nil)) (.isb none (.bv 0) (.done [] (some (.ite (.bv 0) true (.op (.bin .eql) (.cons (.inp 8) (.cons (.cst (.int .u8 0)) .nil))) (.cst (.bool false))))))))) h67_3 .skip) h67_2)
@[simp] theorem h67_4_wp : type_of% (@wpH h67_4 _ h67_4.eq_1) := wpH h67_4.eq_1
def h67_5 : HC := (.br (.chk none (.bin .lss) (.cons (.inp 8) (.cons (.cst (.int .u8 128)) .nil)) (.done [] (some (.op (.bin .lss) (.cons (.inp 8) (.cons (.cst (.int .u8 128)) .nil)))))) h67_4 .skip)
@[simp] theorem h67_5_wp : type_of% (@wpH h67_5 _ h67_5.eq_1) := wpH h67_5.eq_1
def h67_6 : HC := (.seq (.reg (.chk none (.bin .mul) (.cons (.inp 6) (.cons (.cst (.int .u64 128)) .nil)) (.done [(6, (.op (.bin .mul) (.cons (.inp 6) (.cons (.cst (.int .u64 128)) .nil))))] none))) h67_5)
@[simp] theorem h67_6_wp : type_of% (@wpH h67_6 _ h67_6.eq_1) := wpH h67_6.eq_1
def h67_7 : HC := (.seq (.reg (.chk none (.bin .rem) (.cons (.inp 8) (.cons (.cst (.int .u8 128)) .nil)) (.chk none (.convI .u64) (.cons (.op (.bin .rem) (.cons (.inp 8) (.cons (.cst (.int .u8 128)) .nil))) .nil) (.chk none (.bin .mul) (.cons (.inp 6) (.cons (.op (.convI .u64) (.cons (.op (.bin .rem) (.cons (.inp 8) (.cons (.cst (.int .u8 128)) .nil))) .nil)) .nil)) (.chk none (.bin .add) (.cons (.inp 5) (.cons (.op (.bin .mul) (.cons (.inp 6) (.cons (.op (.convI .u64) (.cons (.op (.bin .rem) (.cons (.inp 8) (.cons (.cst (.int .u8 128)) .nil))) .nil)) .nil))) .nil)) (.done [(5, (.op (.bin .add) (.cons (.inp 5) (.cons (.op (.bin .mul) (.cons (.inp 6) (.cons (.op (.convI .u64) (.cons (.op (.bin .rem) (.cons (.inp 8) (.cons (.cst (.int .u8 128)) .nil))) .nil)) .nil))) .nil))))] none)))))) h67_6)
@[simp] theorem h67_7_wp : type_of% (@wpH h67_7 _ h67_7.eq_1) := wpH h67_7.eq_1
def h67_8 : HC := (.seq (.reg (.done [(2, (.cst (.int .u64 0))), (3, (.cst (.int .i64 0))), (4, (.cst (.int .i64 20)))] none)) .ret)
@[simp] theorem h67_8_wp : type_of% (@wpH h67_8 _ h67_8.eq_1) := wpH h67_8.eq_1
def h67_9 : HC := (.seq (.br (.chk none (.bin .eql) (.cons (.inp 7) (.cons (.cst (.int .i64 9)) .nil)) (.bnd (.op (.bin .eql) (.cons (.inp 7) (.cons (.cst (.int .i64 9)) .nil))) (.chk (some ((.bv 0), true)) (.bin .gtr) (.cons (.inp 8) (.cons (.cst (.int .u8 1)) .nil)) (.isb none (.bv 0) (.done [] (some (.ite (.bv 0) true (.op (.bin .gtr) (.cons (.inp 8) (.cons (.cst (.int .u8 1)) .nil))) (.cst (.bool false))))))))) h67_8 .skip) h67_7)
@[simp] theorem h67_9_wp : type_of% (@wpH h67_9 _ h67_9.eq_1) := wpH h67_9.eq_1
def h67_10 : HC := (.seq (.reg (.chk none (.bin .add) (.cons (.inp 1) (.cons (.inp 7) .nil)) (.chk none (.idxL 1) (.cons (.inp 0) (.cons (.op (.bin .add) (.cons (.inp 1) (.cons (.inp 7) .nil))) .nil)) (.eff (.ld false 1) (.cons (.op (.idxL 1) (.cons (.inp 0) (.cons (.op (.bin .add) (.cons (.inp 1) (.cons (.inp 7) .nil))) .nil))) .nil) (.done [(8, (.bv 0))] none))))) h67_9)
@[simp] theorem h67_10_wp : type_of% (@wpH h67_10 _ h67_10.eq_1) := wpH h67_10.eq_1
def h67_11 : HC := (.seq (.reg (.done [(2, (.cst (.int .u64 0))), (3, (.cst (.int .i64 0))), (4, (.cst (.int .i64 22)))] none)) .ret)
@[simp] theorem h67_11_wp : type_of% (@wpH h67_11 _ h67_11.eq_1) := wpH h67_11.eq_1
def h67_12 : HC := (.seq (.br (.chk none (.bin .add) (.cons (.inp 1) (.cons (.inp 7) .nil)) (.chk none .lenL (.cons (.inp 0) .nil) (.chk none (.bin .geq) (.cons (.op (.bin .add) (.cons (.inp 1) (.cons (.inp 7) .nil))) (.cons (.op .lenL (.cons (.inp 0) .nil)) .nil)) (.done [] (some (.op (.bin .geq) (.cons (.op (.bin .add) (.cons (.inp 1) (.cons (.inp 7) .nil))) (.cons (.op .lenL (.cons (.inp 0) .nil)) .nil)))))))) h67_11 .skip) h67_10)
@[simp] theorem h67_12_wp : type_of% (@wpH h67_12 _ h67_12.eq_1) := wpH h67_12.eq_1
def h67_13 : HC := (.seq (.block 1 h67_12) h67_1)
@[simp] theorem h67_13_wp : type_of% (@wpH h67_13 _ h67_13.eq_1) := wpH h67_13.eq_1
def h67_14 : HC := (.seq (.br (.chk none (.bin .lss) (.cons (.inp 7) (.cons (.cst (.int .i64 10)) .nil)) (.done [] (some (.op (.bin .lss) (.cons (.inp 7) (.cons (.cst (.int .i64 10)) .nil)))))) .skip (.exit 0)) h67_13)
@[simp] theorem h67_14_wp : type_of% (@wpH h67_14 _ h67_14.eq_1) := wpH h67_14.eq_1
def h67_15 : HC := (.loop h67_14)
@[simp] theorem h67_15_wp : type_of% (@wpH h67_15 _ h67_15.eq_1) := wpH h67_15.eq_1
def h67_16 : HC := (.seq (.block 0 h67_15) h67_0)
@[simp] theorem h67_16_wp : type_of% (@wpH h67_16 _ h67_16.eq_1) := wpH h67_16.eq_1
def h67_17 : HC := (.seq (.reg (.done [(7, (.cst (.int .i64 0)))] none)) h67_16)
@[simp] theorem h67_17_wp : type_of% (@wpH h67_17 _ h67_17.eq_1) := wpH h67_17.eq_1
def h67_18 : HC := (.seq (.reg (.done [(6, (.cst (.int .u64 1)))] none)) h67_17)
@[simp] theorem h67_18_wp : type_of% (@wpH h67_18 _ h67_18.eq_1) := wpH h67_18.eq_1
def h67_19 : HC := (.seq (.reg (.done [(5, (.cst (.int .u64 0)))] none)) h67_18)
@[simp] theorem h67_19_wp : type_of% (@wpH h67_19 _ h67_19.eq_1) := wpH h67_19.eq_1
def h67_20 : HC := (.seq (.reg (.done [(2, (.cst (.int .u64 0))), (3, (.cst (.int .i64 0))), (4, (.cst (.int .i64 2)))] none)) .ret)
@[simp] theorem h67_20_wp : type_of% (@wpH h67_20 _ h67_20.eq_1) := wpH h67_20.eq_1
def h67_21 : HC := (.seq (.br (.chk none (.bin .lss) (.cons (.inp 1) (.cons (.cst (.int .i64 0)) .nil)) (.bnd (.op (.bin .lss) (.cons (.inp 1) (.cons (.cst (.int .i64 0)) .nil))) (.chk (some ((.bv 0), false)) .lenL (.cons (.inp 0) .nil) (.chk (some ((.bv 0), false)) (.bin .gtr) (.cons (.inp 1) (.cons (.op .lenL (.cons (.inp 0) .nil)) .nil)) (.isb none (.bv 0) (.done [] (some (.ite (.bv 0) true (.cst (.bool true)) (.op (.bin .gtr) (.cons (.inp 1) (.cons (.op .lenL (.cons (.inp 0) .nil)) .nil))))))))))) h67_20 .skip) h67_19)
@[simp] theorem h67_21_wp : type_of% (@wpH h67_21 _ h67_21.eq_1) := wpH h67_21.eq_1
def l67 : Lifted := ⟨[0, 1, 4, 5, 6, 7, 8, 9, 10], 63, [.slot 2, .slot 3, .slot 4], (.seq (.reg (.done [(2, (.cst (.int .u64 0))), (3, (.cst (.int .i64 0))), (4, (.cst (.int .i64 0)))] none)) h67_21)⟩
theorem l67_ok : liftFn T0 67 400 = some l67 := by kernel_rfl
theorem ReadShort_spec (bs : List UInt8) (v : Value) (at' : Nat) (w0 w : World) (A : Asn) (ha : at' ≤ bs.length) (hl : bs.length ≤ 35184372088832) (h : BR w0 A v bs) (s : St w0 A w) :
    CallW Try.prog 74 [v, .int .i64 at'] (fun r w' => r = .tuple #[.int .u64 (rs bs at').1, .int .i64 (rs bs at').2.1, .int .i64 (rs bs at').2.2] ∧ St w0 A w') w := by
  obtain ⟨a, cap, rfl⟩ := h.val
  refine callW_of_lift l74_ok (by simp [l74]) ?_
  simp [l74]
  refine cndI (fun c => ?_) (fun c => ?_)
  · simp at c; omega
  simp at c
  simp
  refine loopI (fun env w' => ∃ (k n : Nat) (o6 o7 : Value), env = [.slice a bs.length cap, .int .i64 at', .int .u64 0, .int .i64 0, .int .i64 0, .int .u64 n, o6, o7, .int .i64 k] ∧ k ≤ 10 ∧ n < 128 ^ k ∧ at' + k ≤ bs.length ∧ rs bs at' = rsK (10 - k) k n at' (bs.drop (at' + k)) ∧ St w0 A w')
    (fun env _ => 10 - slotN env 8) ⟨0, 0, _, _, rfl, by omega, by decide, by omega, rfl, s⟩ ?_
  clear s
  rintro LQ env w' ⟨k, n, o6, o7, rfl, hk, hn, hak, he, s⟩ hN hX hR
  simp
  refine cndI (fun c1 => ?_) (fun c1 => ?_)
  · simp at c1
    obtain ⟨j, hj⟩ : ∃ j, 10 - k = j + 1 := ⟨9 - k, by omega⟩
    have w1 : IntKind.i64.wrap ((at' : Int) + k) = (at' : Int) + k := wrap64 (by omega) (by omega)
    simp [w1]
    refine cndI (fun c2 => ?_) (fun c2 => ?_)
    · simp at c2
      simp
      refine hR _ _ ?_
      have : bs.drop (at' + k) = [] := List.drop_of_length_le (by omega)
      rw [he, this, hj]
      simp [rsK]
      exact s
    simp at c2
    have hlt : at' + k < bs.length := by omega
    obtain ⟨g, o, cap', hv, hcell⟩ := h.at (by omega)
    cases hv
    have hd : bs.drop (at' + k) = bs[at' + k] :: bs.drop (at' + (k + 1)) := List.drop_eq_getElem_cons hlt
    obtain ⟨cb, hcb⟩ : ∃ cb, bs[at' + k] = cb := ⟨_, rfl⟩
    rw [hcb] at hd
    have hc256 := toNat_lt cb
    have ei : (at' : Int) + k = ((at' + k : Nat) : Int) := by omega
    have et : ((at' : Int) + k).toNat = at' + k := by omega
    simp [w1]
    refine ⟨⟨by omega, by omega⟩, ?_⟩
    rw [et]
    refine eff_ldc (v := .int .u8 cb.toNat) (by have := hcell w' s (at' + k) (.int .u8 cb.toNat) (by rw [bytesV_at]; simp [hlt, hcb]); simpa using this) ?_
    simp
    rw [hd, hj] at he
    simp only [rsK] at he
    refine cndI (fun c3 => ?_) (fun c3 => ?_)
    · simp at c3
      rw [if_pos (by omega)] at he
      simp
      refine hX _ _ _ ?_
      rw [he]
      simp
      exact s
    simp at c3
    rw [if_neg (by omega)] at he
    simp
    have w7 : IntKind.i64.wrap (7 * (k : Int)) = 7 * (k : Int) := wrap64 (by omega) (by omega)
    refine ⟨by rw [w7]; omega, ?_⟩
    rw [or_step n k cb.toNat hn (by omega) (fun h => by have := c3 (by omega); omega) hc256]
    refine cndI (fun c4 => ?_) (fun c4 => ?_)
    · simp at c4
      rw [if_pos (by omega)] at he
      simp
      refine cndI (fun c5 => ?_) (fun c5 => ?_)
      · simp at c5
        rw [if_pos (by omega)] at he
        simp
        refine hX _ _ _ ?_
        rw [he]
        simp
        exact s
      simp at c5
      rw [if_neg (by omega)] at he
      have w2 : IntKind.i64.wrap ((at' : Int) + k + 1) = (at' : Int) + k + 1 := wrap64 (by omega) (by omega)
      simp [w1, w2]
      refine hR _ _ ?_
      rw [he]
      simp
      exact ⟨by rw [Int.emod_eq_of_lt (by omega) (by omega)], s⟩
    · simp at c4
      rw [if_neg (by omega)] at he
      simp
      try simp (disch := omega) only [wrap64]
      have hn' : n + cb.toNat % 128 * 128 ^ k < 128 ^ (k + 1) := by
        rw [Nat.pow_succ]
        have : cb.toNat % 128 * 128 ^ k ≤ 127 * 128 ^ k := Nat.mul_le_mul_right _ (by omega)
        omega
      refine hN _ _ ⟨k + 1, n + cb.toNat % 128 * 128 ^ k, _, _, by simp; exact ⟨rfl, rfl⟩, by omega, hn', by omega, ?_, s⟩ (by simp [slotN]; omega)
      have : 10 - (k + 1) = j := by omega
      rw [this]
      exact he
  · simp at c1
    simp
    obtain rfl : k = 10 := by omega
    refine hX _ _ _ ?_
    rw [he]
    simp [rsK]
    exact s
theorem add_step (n k c : Nat) (hn : n < 128 ^ k) (hk : k ≤ 9) (h9 : k = 9 → c ≤ 1) (hc : c < 256) :
    IntKind.u64.wrap ((n : Int) + IntKind.u64.wrap ((128 : Int) ^ k * IntKind.u64.wrap ((c : Int).tmod 128))) = ((n + c % 128 * 128 ^ k : Nat) : Int) := by
  have hx : c % 128 < 128 := Nat.mod_lt _ (by decide)
  have hp := small_prod (x := c % 128) hk hx (fun h => by have := h9 h; omega)
  have hn2 := pow_small hk
  have e1 : (c : Int).tmod 128 = ((c % 128 : Nat) : Int) := by rw [Int.tmod_eq_emod_of_nonneg (by omega)]; omega
  have e2 : (128 : Int) ^ k * ((c % 128 : Nat) : Int) = ((c % 128 * 128 ^ k : Nat) : Int) := by push_cast; exact Int.mul_comm _ _
  rw [e1, u64_small ((c % 128 : Nat) : Int) (by omega), e2, u64_small ((c % 128 * 128 ^ k : Nat) : Int) (by omega), u64_small _ (by omega)]
  push_cast
  rfl
theorem worth_step {k : Nat} (h : k + 1 ≤ 9) : IntKind.u64.wrap ((128 : Int) ^ k * 128) = 128 ^ (k + 1) := by
  have := pow_small h
  have e : (128 : Int) ^ k * 128 = ((128 ^ (k + 1) : Nat) : Int) := by push_cast; exact (Int.pow_succ _ _).symm
  have key : IntKind.u64.wrap ((128 ^ (k + 1) : Nat) : Int) = ((128 ^ (k + 1) : Nat) : Int) := by
    generalize 128 ^ (k + 1) = m at this ⊢
    exact u64_small _ (by omega)
  rw [e, key]
  push_cast
  rfl
theorem rReadShort_spec (bs : List UInt8) (v : Value) (at' : Nat) (w0 w : World) (A : Asn) (ha : at' ≤ bs.length) (hl : bs.length ≤ 35184372088832) (h : BR w0 A v bs) (s : St w0 A w) :
    CallW Try.prog 67 [v, .int .i64 at'] (fun r w' => r = .tuple #[.int .u64 (rs bs at').1, .int .i64 (rs bs at').2.1, .int .i64 (rs bs at').2.2] ∧ St w0 A w') w := by
  obtain ⟨a, cap, rfl⟩ := h.val
  refine callW_of_lift l67_ok (by simp [l67]) ?_
  simp [l67]
  refine cndI (fun c => ?_) (fun c => ?_)
  · simp at c; omega
  simp at c
  simp
  refine loopI (fun env w' => ∃ (k n : Nat) (o8 : Value), env = [.slice a bs.length cap, .int .i64 at', .int .u64 0, .int .i64 0, .int .i64 0, .int .u64 n, .int .u64 ((128 : Int) ^ k), .int .i64 k, o8] ∧ k ≤ 9 ∧ n < 128 ^ k ∧ at' + k ≤ bs.length ∧ rs bs at' = rsK (10 - k) k n at' (bs.drop (at' + k)) ∧ St w0 A w')
    (fun env _ => 10 - slotN env 7) ⟨0, 0, _, rfl, by omega, by decide, by omega, rfl, s⟩ ?_
  clear s
  rintro LQ env w' ⟨k, n, o8, rfl, hk, hn, hak, he, s⟩ hN hX hR
  simp
  refine cndI (fun c1 => ?_) (fun c1 => ?_)
  · simp at c1
    obtain ⟨j, hj⟩ : ∃ j, 10 - k = j + 1 := ⟨9 - k, by omega⟩
    have w1 : IntKind.i64.wrap ((at' : Int) + k) = (at' : Int) + k := wrap64 (by omega) (by omega)
    simp [w1]
    refine cndI (fun c2 => ?_) (fun c2 => ?_)
    · simp at c2
      simp
      refine hR _ _ ?_
      have : bs.drop (at' + k) = [] := List.drop_of_length_le (by omega)
      rw [he, this, hj]
      simp [rsK]
      exact s
    simp at c2
    have hlt : at' + k < bs.length := by omega
    obtain ⟨g, o, cap', hv, hcell⟩ := h.at (by omega)
    cases hv
    have hd : bs.drop (at' + k) = bs[at' + k] :: bs.drop (at' + (k + 1)) := List.drop_eq_getElem_cons hlt
    obtain ⟨cb, hcb⟩ : ∃ cb, bs[at' + k] = cb := ⟨_, rfl⟩
    rw [hcb] at hd
    have hc256 := toNat_lt cb
    have ei : (at' : Int) + k = ((at' + k : Nat) : Int) := by omega
    have et : ((at' : Int) + k).toNat = at' + k := by omega
    simp [w1]
    refine ⟨⟨by omega, by omega⟩, ?_⟩
    rw [et]
    refine eff_ldc (v := .int .u8 cb.toNat) (by have := hcell w' s (at' + k) (.int .u8 cb.toNat) (by rw [bytesV_at]; simp [hlt, hcb]); simpa using this) ?_
    simp
    rw [hd, hj] at he
    simp only [rsK] at he
    refine cndI (fun c3 => ?_) (fun c3 => ?_)
    · simp at c3
      rw [if_pos (by omega)] at he
      simp
      refine hR _ _ ?_
      rw [he]
      simp
      exact s
    simp at c3
    rw [if_neg (by omega)] at he
    simp
    rw [add_step n k cb.toNat hn hk (fun h => by have := c3 (by omega); omega) hc256]
    refine cndI (fun c4 => ?_) (fun c4 => ?_)
    · simp at c4
      rw [if_pos (by omega)] at he
      simp
      refine cndI (fun c5 => ?_) (fun c5 => ?_)
      · simp at c5
        rw [if_pos (by omega)] at he
        simp
        refine hR _ _ ?_
        rw [he]
        simp
        exact s
      simp at c5
      rw [if_neg (by omega)] at he
      have w2 : IntKind.i64.wrap ((at' : Int) + k + 1) = (at' : Int) + k + 1 := wrap64 (by omega) (by omega)
      simp [w1, w2]
      refine hR _ _ ?_
      rw [he]
      simp
      exact ⟨by rw [Int.emod_eq_of_lt (by omega) (by omega)], s⟩
    · simp at c4
      rw [if_neg (by omega)] at he
      simp
      try simp (disch := omega) only [wrap64]
      have hn' : n + cb.toNat % 128 * 128 ^ k < 128 ^ (k + 1) := by
        rw [Nat.pow_succ]
        have : cb.toNat % 128 * 128 ^ k ≤ 127 * 128 ^ k := Nat.mul_le_mul_right _ (by omega)
        omega
      have h8 : k + 1 ≤ 9 := by
        by_cases e : k = 9
        · have := c3 (by omega); omega
        · omega
      refine hN _ _ ⟨k + 1, n + cb.toNat % 128 * 128 ^ k, _, by simp; exact ⟨worth_step h8, rfl⟩, h8, hn', by omega, ?_, s⟩ (by simp [slotN]; omega)
      have : 10 - (k + 1) = j := by omega
      rw [this]
      exact he
  · simp at c1
    omega
end Go.HL.Tl

namespace Go.HL.Tl
open Go.HL Go.Proofs
set_option maxRecDepth 4000
set_option linter.unusedSimpArgs false
set_option linter.unusedVariables false
def piF (b : List UInt8) (at' : Nat) : Option (Nat × Nat) :=
  if (rs b at').2.2 = 0 ∧ (rs b at').1 ≤ b.length - (rs b at').2.1 then some ((rs b at').2.1, (rs b at').1) else none
def cut (b : List UInt8) (x : Nat × Nat) : List UInt8 := (b.drop x.1).take x.2
theorem cut_len {b : List UInt8} {x : Nat × Nat} (h : x.1 + x.2 ≤ b.length) : (cut b x).length = x.2 := by simp [cut]; omega
theorem piF_ok {b : List UInt8} {a : Nat} {x : Nat × Nat} (ha : a ≤ b.length) (h : piF b a = some x) : a < x.1 ∧ x.1 + x.2 ≤ b.length := by
  unfold piF at h
  split at h
  · rename_i c
    have := rs_ok ha c.1
    cases h
    simp only
    omega
  · cases h
theorem BR.cut {w0 : World} {A : Asn} {a : Option Addr} {cap : Nat} {b : List UInt8} {x : Nat × Nat} (h : BR w0 A (.slice a b.length cap) b) (hx : x.1 + x.2 ≤ b.length) {a' : Option Addr} {c' : Nat} (hc : x.2 ≤ c')
    (ha : 0 < x.2 → ∀ g o, a = some ⟨g, o, none⟩ → a' = some ⟨g, o + x.1, none⟩) : BR w0 A (.slice a' (Tl.cut b x).length c') (Tl.cut b x) := by
  have hl := cut_len hx
  refine ⟨by simp [bytesV_len], _, _, rfl, by omega, ?_⟩
  by_cases h0 : x.2 = 0
  · exact .inl (by omega)
  obtain ⟨g, o, cap', hv, hcell⟩ := h.at (by omega)
  cases hv
  refine .inr ⟨g, o + x.1, ha (by omega) g o rfl, fun w s j u hu => ?_⟩
  rw [bytesV_at] at hu
  obtain ⟨c, hc1, rfl⟩ := Option.map_eq_some_iff.1 hu
  have := hcell w s (x.1 + j) (.int .u8 c.toNat) (by
    rw [bytesV_at]
    have : b[x.1 + j]? = some c := by
      simp only [Tl.cut, List.getElem?_take, List.getElem?_drop] at hc1
      split at hc1
      · exact hc1
      · cases hc1
    rw [this]; rfl)
  rwa [← Nat.add_assoc] at this

def h94_0 : HC := (.seq (.reg (.chk none (.slL 1 true true true) (.cons (.inp 0) (.cons (.inp 7) (.cons (.inp 9) (.cons (.inp 9) .nil)))) (.done [(2, (.op (.slL 1 true true true) (.cons (.inp 0) (.cons (.inp 7) (.cons (.inp 9) (.cons (.inp 9) .nil)))))), (3, (.inp 9)), (4, (.cst (.int .i64 0))), (5, (.cst (.int .i64 0)))] none))) .ret)
@[simp] theorem h94_0_wp : type_of% (@wpH h94_0 _ h94_0.eq_1) := wpH h94_0.eq_1
def h94_1 : HC := (.seq (.reg (.chk none (.convI .i64) (.cons (.inp 6) .nil) (.chk none (.bin .add) (.cons (.inp 7) (.cons (.op (.convI .i64) (.cons (.inp 6) .nil)) .nil)) (.done [(9, (.op (.bin .add) (.cons (.inp 7) (.cons (.op (.convI .i64) (.cons (.inp 6) .nil)) .nil))))] none)))) h94_0)
@[simp] theorem h94_1_wp : type_of% (@wpH h94_1 _ h94_1.eq_1) := wpH h94_1.eq_1
def h94_2 : HC := (.seq (.reg (.done [(2, (.cst (.slice none 0 0))), (3, (.cst (.int .i64 0))), (4, (.inp 7)), (5, (.cst (.int .i64 22)))] none)) .ret)
@[simp] theorem h94_2_wp : type_of% (@wpH h94_2 _ h94_2.eq_1) := wpH h94_2.eq_1
def h94_3 : HC := (.seq (.br (.chk none .lenL (.cons (.inp 0) .nil) (.chk none (.bin .sub) (.cons (.op .lenL (.cons (.inp 0) .nil)) (.cons (.inp 7) .nil)) (.chk none (.convI .u64) (.cons (.op (.bin .sub) (.cons (.op .lenL (.cons (.inp 0) .nil)) (.cons (.inp 7) .nil))) .nil) (.chk none (.bin .gtr) (.cons (.inp 6) (.cons (.op (.convI .u64) (.cons (.op (.bin .sub) (.cons (.op .lenL (.cons (.inp 0) .nil)) (.cons (.inp 7) .nil))) .nil)) .nil)) (.done [] (some (.op (.bin .gtr) (.cons (.inp 6) (.cons (.op (.convI .u64) (.cons (.op (.bin .sub) (.cons (.op .lenL (.cons (.inp 0) .nil)) (.cons (.inp 7) .nil))) .nil)) .nil))))))))) h94_2 .skip) h94_1)
@[simp] theorem h94_3_wp : type_of% (@wpH h94_3 _ h94_3.eq_1) := wpH h94_3.eq_1
def h94_4 : HC := (.seq (.reg (.done [(2, (.cst (.slice none 0 0))), (3, (.cst (.int .i64 0))), (4, (.inp 1)), (5, (.inp 8))] none)) .ret)
@[simp] theorem h94_4_wp : type_of% (@wpH h94_4 _ h94_4.eq_1) := wpH h94_4.eq_1
def h94_5 : HC := (.seq (.br (.chk none (.bin .neq) (.cons (.inp 8) (.cons (.cst (.int .i64 0)) .nil)) (.done [] (some (.op (.bin .neq) (.cons (.inp 8) (.cons (.cst (.int .i64 0)) .nil)))))) h94_4 .skip) h94_3)
@[simp] theorem h94_5_wp : type_of% (@wpH h94_5 _ h94_5.eq_1) := wpH h94_5.eq_1
def h94_6 : HC := (.seq (.reg (.eff (.call 74) (.cons (.inp 0) (.cons (.inp 1) .nil)) (.chk none (.ext 0) (.cons (.bv 0) .nil) (.chk none (.ext 1) (.cons (.bv 0) .nil) (.chk none (.ext 2) (.cons (.bv 0) .nil) (.done [(6, (.op (.ext 0) (.cons (.bv 0) .nil))), (7, (.op (.ext 1) (.cons (.bv 0) .nil))), (8, (.op (.ext 2) (.cons (.bv 0) .nil)))] none)))))) h94_5)
@[simp] theorem h94_6_wp : type_of% (@wpH h94_6 _ h94_6.eq_1) := wpH h94_6.eq_1
def l94 : Lifted := ⟨[0, 1, 4, 5, 6, 7, 8, 9, 10, 11], 41, [.slot 2, .slot 3, .slot 4, .slot 5], (.seq (.reg (.done [(2, (.cst (.slice none 0 0))), (3, (.cst (.int .i64 0))), (4, (.cst (.int .i64 0))), (5, (.cst (.int .i64 0)))] none)) h94_6)⟩
theorem l94_ok : liftFn T0 94 400 = some l94 := by kernel_rfl
theorem piece_spec (b : List UInt8) (v : Value) (at' : Nat) (w0 w : World) (A B : Asn) (hB : ∀ w, St w0 A w → St w0 B w) (ha : at' ≤ b.length) (hl : b.length ≤ 35184372088832) (h : BR w0 B v b) (s : St w0 A w) :
    CallW Try.prog 94 [v, .int .i64 at'] (fun r w' => (∃ x vv, piF b at' = some x ∧ r = .tuple #[vv, .int .i64 ((x.1 + x.2 : Nat) : Int), .int .i64 0, .int .i64 0] ∧ BR w0 B vv (cut b x) ∧ St w0 A w') ∨
      (piF b at' = none ∧ ∃ p e, e ≠ 0 ∧ r = .tuple #[.slice none 0 0, .int .i64 0, .int .i64 p, .int .i64 e] ∧ St w0 A w')) w := by
  obtain ⟨a, cap, rfl⟩ := h.val
  refine callW_of_lift l94_ok (by simp [l94]) ?_
  simp [l94]
  refine eff_call ((ReadShort_spec b _ at' w0 w A ha hl (h.mono hB) s).mono ?_)
  rintro r w1 ⟨rfl, s1⟩
  simp
  refine cndI (fun c => ?_) (fun c => ?_)
  · simp at c
    simp
    exact .inr ⟨by unfold piF; rw [if_neg (by omega)], _, _, c, ⟨rfl, rfl⟩, s1⟩
  simp at c
  have hok := rs_ok ha c
  have w2 : IntKind.i64.wrap ((b.length : Int) - (rs b at').2.1) = ((b.length - (rs b at').2.1 : Nat) : Int) := by rw [wrap64 (by omega) (by omega)]; omega
  simp
  rw [w2, u64_small _ (by omega)]
  refine cndI (fun c1 => ?_) (fun c1 => ?_)
  · simp at c1
    simp
    exact ⟨by unfold piF; rw [if_neg (by omega)], _, 22, by decide, ⟨rfl, rfl⟩, s1⟩
  simp at c1
  have w3 : IntKind.i64.wrap ((rs b at').1 : Int) = (rs b at').1 := wrap64 (by omega) (by omega)
  have w4 : IntKind.i64.wrap (((rs b at').2.1 : Int) + (rs b at').1) = (((rs b at').2.1 + (rs b at').1 : Nat) : Int) := by rw [wrap64 (by omega) (by omega)]; omega
  have hcap : b.length ≤ cap := by
    obtain ⟨_, _, _, hv, hn, _⟩ := h
    cases hv; exact hn
  simp [w3, w4]
  have e1 : (((rs b at').2.1 : Int) + (rs b at').1).toNat = (rs b at').2.1 + (rs b at').1 := by omega
  refine ⟨⟨⟨by omega, by omega⟩, ⟨by omega, by omega⟩, by omega⟩, .inl ⟨(rs b at').2.1, (rs b at').1, by unfold piF; rw [if_pos ⟨c, c1⟩], _, ⟨rfl, rfl⟩, ?_, s1⟩⟩
  rw [e1]
  have e2 : (rs b at').2.1 + (rs b at').1 - (rs b at').2.1 = (rs b at').1 := by omega
  rw [e2]
  have hx : ((rs b at').2.1, (rs b at').1).1 + ((rs b at').2.1, (rs b at').1).2 ≤ b.length := by simp only; omega
  have hc := BR.cut (x := ((rs b at').2.1, (rs b at').1)) h hx (c' := (rs b at').1) (Nat.le_refl _) (a' := if (rs b at').2.1 + (rs b at').1 = (rs b at').2.1 then a else Option.map (fun x => x.add (rs b at').2.1) a) (fun h0 g o hg => by
    subst hg
    simp only at h0
    rw [if_neg (by omega)]
    simp)
  rw [cut_len hx] at hc
  exact hc
structure Pf where
  tag : Int
  at' : Int
  from' : Int
  v : Value
  tk : Bool
def Pf.cs (x : Pf) : List Value := [.int .i64 x.tag, .int .i64 x.at', .int .i64 x.from', x.v, .bool x.tk]
abbrev pfA (p : Nat) (x : Pf) : Asn := pt p (.cells x.cs.toArray 119 (0, 0))
def ptsA : List (Nat × Pf) → Asn
  | [] => emp
  | x :: t => pfA x.1 x.2 * ptsA t
theorem ptsA_snoc (y : Nat × Pf) (l : List (Nat × Pf)) : ptsA (l ++ [y]) = ptsA l * pfA y.1 y.2 := by
  induction l with
  | nil => exact (sep_emp _).trans (emp_sep _).symm
  | cons x t ih =>
    have h1 : ptsA (x :: t ++ [y]) = pfA x.1 x.2 * ptsA (t ++ [y]) := rfl
    have h2 : ptsA (x :: t) = pfA x.1 x.2 * ptsA t := rfl
    rw [h1, h2, ih, sep_assoc]
theorem ptsA_at (l : List (Nat × Pf)) : ∀ (i : Nat) (h : i < l.length), ∃ R, ptsA l = R * pfA l[i].1 l[i].2 ∧ ∀ y, ptsA (l.set i (l[i].1, y)) = R * pfA l[i].1 y := by
  induction l with
  | nil => intro i h; simp at h
  | cons x t ih =>
    intro i h
    cases i with
    | zero => exact ⟨ptsA t, sep_comm _ _, fun y => sep_comm _ _⟩
    | succ i =>
      obtain ⟨R, hR, hS⟩ := ih i (by simpa using h)
      have h3 : (x :: t)[i + 1] = t[i]'(by simpa using h) := rfl
      refine ⟨pfA x.1 x.2 * R, ?_, fun y => ?_⟩
      · rw [h3, sep_assoc, ← hR]; rfl
      · have := hS y
        rw [h3, sep_assoc, ← this]; rfl
def ptrs (l : List (Nat × Pf)) : List Value := l.map fun x => .pointer (some ⟨x.1, 0, none⟩)
def PV (w0 : World) (B : Asn) (l : List (Nat × Pf)) (F : List (Int × List UInt8)) : Prop :=
  l.length = F.length ∧ ∀ i (h : i < l.length) (h2 : i < F.length), l[i].2.tag = F[i].1 ∧ BR w0 B l[i].2.v F[i].2
theorem PV.nil {w0 : World} {B : Asn} : PV w0 B [] [] := ⟨rfl, fun i h => by simp at h⟩
theorem PV.snoc {w0 : World} {B : Asn} {l : List (Nat × Pf)} {F : List (Int × List UInt8)} (h : PV w0 B l F) {y : Nat × Pf} {f : Int × List UInt8} (ht : y.2.tag = f.1) (hv : BR w0 B y.2.v f.2) : PV w0 B (l ++ [y]) (F ++ [f]) := by
  obtain ⟨hl, h⟩ := h
  refine ⟨by simp [hl], fun i h1 h2 => ?_⟩
  by_cases e : i < l.length
  · rw [List.getElem_append_left e, List.getElem_append_left (by omega)]
    exact h i e (by omega)
  · have : i = l.length := by simp at h1; omega
    subst this
    have e2 : (l ++ [y])[l.length]'(by simp) = y := by simp
    have e3 : (F ++ [f])[l.length]'(by simp [hl]) = f := by simp [hl]
    rw [e2, e3]
    exact ⟨ht, hv⟩
def itK (b : List UInt8) : Nat → Nat → Option (List (List UInt8))
  | 0, _ => some []
  | k + 1, a => if b.length ≤ a then some [] else match piF b a with
    | none => none
    | some x => (itK b k (x.1 + x.2)).map (cut b x :: ·)
def itF (b : List UInt8) : Option (List (List UInt8)) := if b = [] then none else itK b b.length 0
structure ItS (b : List UInt8) (k a : Nat) (acc : List (List UInt8)) : Prop where
  le : a ≤ b.length
  fuel : b.length ≤ a + k
  num : acc.length ≤ a
  eq : itF b = (itK b k a).map (acc ++ ·)
theorem ItS.start {b : List UInt8} (h : b ≠ []) : ItS b b.length 0 [] := ⟨Nat.zero_le _, by omega, by simp, by
  unfold itF; rw [if_neg h]; cases itK b b.length 0 <;> simp⟩
theorem ItS.last {b : List UInt8} {k a : Nat} {acc : List (List UInt8)} (h : ItS b k a acc) (ha : b.length ≤ a) : itF b = some acc := by
  rw [h.eq]
  cases k with
  | zero => simp [itK]
  | succ k => simp [itK, ha]
theorem ItS.bad {b : List UInt8} {k a : Nat} {acc : List (List UInt8)} (h : ItS b k a acc) (ha : a < b.length) (hp : piF b a = none) : itF b = none := by
  rw [h.eq]
  cases k with
  | zero => have := h.fuel; omega
  | succ k => simp only [itK, if_neg (show ¬ b.length ≤ a by omega), hp, Option.map_none]
theorem ItS.more {b : List UInt8} {k a : Nat} {acc : List (List UInt8)} (h : ItS b k a acc) (ha : a < b.length) {x : Nat × Nat} (hp : piF b a = some x) : ∃ j, ItS b j (x.1 + x.2) (acc ++ [cut b x]) := by
  have hx := piF_ok h.le hp
  cases k with
  | zero => have := h.fuel; omega
  | succ k =>
    refine ⟨k, hx.2, by have := h.fuel; omega, by have := h.num; simp; omega, ?_⟩
    rw [h.eq]
    simp only [itK, if_neg (show ¬ b.length ≤ a by omega), hp]
    cases itK b k (x.1 + x.2) <;> simp
theorem itF_len {b : List UInt8} {L : List (List UInt8)} (h : itF b = some L) : L.length ≤ b.length := by
  have key : ∀ (k a : Nat) (L : List (List UInt8)), a ≤ b.length → itK b k a = some L → L.length ≤ b.length - a := by
    intro k
    induction k with
    | zero => intro a L _ h; cases h; simp
    | succ k ih =>
      intro a L ha h
      simp only [itK] at h
      split at h
      · cases h; simp
      · cases hp : piF b a with
        | none => rw [hp] at h; cases h
        | some x =>
          rw [hp] at h
          obtain ⟨L', h1, rfl⟩ := Option.map_eq_some_iff.1 h
          have hx := piF_ok ha hp
          have := ih _ _ hx.2 h1
          simp; omega
  unfold itF at h
  split at h
  · cases h
  · have := key _ _ _ (Nat.zero_le _) h; omega

def h95_0 : HC := (.seq (.reg (.done [(1, (.inp 4)), (2, (.cst (.int .i64 0))), (3, (.cst (.int .i64 0)))] none)) .ret)
@[simp] theorem h95_0_wp : type_of% (@wpH h95_0 _ h95_0.eq_1) := wpH h95_0.eq_1
def h95_1 : HC := (.reg (.done [(5, (.inp 7))] none))
@[simp] theorem h95_1_wp : type_of% (@wpH h95_1 _ h95_1.eq_1) := wpH h95_1.eq_1
def h95_2 : HC := (.seq (.reg (.chk none .lenL (.cons (.inp 6) .nil) (.chk none (.bin .sub) (.cons (.inp 7) (.cons (.op .lenL (.cons (.inp 6) .nil)) .nil)) (.chk none (.build #[(.int .i64 0), (.int .i64 0), (.int .i64 0), (.slice none 0 0), (.bool false)] [(0, 1), (1, 1), (2, 1), (3, 1), (4, 1)] [2, 3]) (.cons (.op (.bin .sub) (.cons (.inp 7) (.cons (.op .lenL (.cons (.inp 6) .nil)) .nil))) (.cons (.inp 6) .nil)) (.eff (.box 119) (.cons (.op (.build #[(.int .i64 0), (.int .i64 0), (.int .i64 0), (.slice none 0 0), (.bool false)] [(0, 1), (1, 1), (2, 1), (3, 1), (4, 1)] [2, 3]) (.cons (.op (.bin .sub) (.cons (.inp 7) (.cons (.op .lenL (.cons (.inp 6) .nil)) .nil))) (.cons (.inp 6) .nil))) .nil) (.eff (.bsl 114 1 1 #[(.pointer none)] [0]) (.cons (.bv 0) .nil) (.eff (.app 121 121 114 1 8 (.pointer none)) (.cons (.inp 4) (.cons (.bv 1) .nil)) (.done [(4, (.bv 2))] none)))))))) h95_1)
@[simp] theorem h95_2_wp : type_of% (@wpH h95_2 _ h95_2.eq_1) := wpH h95_2.eq_1
def h95_3 : HC := (.seq (.reg (.done [(1, (.cst (.slice none 0 0))), (2, (.inp 8)), (3, (.inp 9))] none)) .ret)
@[simp] theorem h95_3_wp : type_of% (@wpH h95_3 _ h95_3.eq_1) := wpH h95_3.eq_1
def h95_4 : HC := (.seq (.br (.chk none (.bin .neq) (.cons (.inp 9) (.cons (.cst (.int .i64 0)) .nil)) (.done [] (some (.op (.bin .neq) (.cons (.inp 9) (.cons (.cst (.int .i64 0)) .nil)))))) h95_3 .skip) h95_2)
@[simp] theorem h95_4_wp : type_of% (@wpH h95_4 _ h95_4.eq_1) := wpH h95_4.eq_1
def h95_5 : HC := (.seq (.reg (.eff (.call 94) (.cons (.inp 0) (.cons (.inp 5) .nil)) (.chk none (.ext 0) (.cons (.bv 0) .nil) (.chk none (.ext 1) (.cons (.bv 0) .nil) (.chk none (.ext 2) (.cons (.bv 0) .nil) (.chk none (.ext 3) (.cons (.bv 0) .nil) (.done [(6, (.op (.ext 0) (.cons (.bv 0) .nil))), (7, (.op (.ext 1) (.cons (.bv 0) .nil))), (8, (.op (.ext 2) (.cons (.bv 0) .nil))), (9, (.op (.ext 3) (.cons (.bv 0) .nil)))] none))))))) h95_4)
@[simp] theorem h95_5_wp : type_of% (@wpH h95_5 _ h95_5.eq_1) := wpH h95_5.eq_1
def h95_6 : HC := (.block 1 h95_5)
@[simp] theorem h95_6_wp : type_of% (@wpH h95_6 _ h95_6.eq_1) := wpH h95_6.eq_1
def h95_7 : HC := (.seq (.br (.chk none .lenL (.cons (.inp 0) .nil) (.chk none (.bin .lss) (.cons (.inp 5) (.cons (.op .lenL (.cons (.inp 0) .nil)) .nil)) (.done [] (some (.op (.bin .lss) (.cons (.inp 5) (.cons (.op .lenL (.cons (.inp 0) .nil)) .nil))))))) .skip (.exit 0)) h95_6)
@[simp] theorem h95_7_wp : type_of% (@wpH h95_7 _ h95_7.eq_1) := wpH h95_7.eq_1
def h95_8 : HC := (.loop h95_7)
@[simp] theorem h95_8_wp : type_of% (@wpH h95_8 _ h95_8.eq_1) := wpH h95_8.eq_1
def h95_9 : HC := (.seq (.block 0 h95_8) h95_0)
@[simp] theorem h95_9_wp : type_of% (@wpH h95_9 _ h95_9.eq_1) := wpH h95_9.eq_1
def h95_10 : HC := (.seq (.reg (.done [(5, (.cst (.int .i64 0)))] none)) h95_9)
@[simp] theorem h95_10_wp : type_of% (@wpH h95_10 _ h95_10.eq_1) := wpH h95_10.eq_1
def h95_11 : HC := (.seq (.reg (.done [(4, (.cst (.slice none 0 0)))] none)) h95_10)
@[simp] theorem h95_11_wp : type_of% (@wpH h95_11 _ h95_11.eq_1) := wpH h95_11.eq_1
def h95_12 : HC := (.seq (.reg (.done [(1, (.cst (.slice none 0 0))), (2, (.cst (.int .i64 0))), (3, (.cst (.int .i64 20)))] none)) .ret)
@[simp] theorem h95_12_wp : type_of% (@wpH h95_12 _ h95_12.eq_1) := wpH h95_12.eq_1
def h95_13 : HC := (.seq (.br (.chk none .lenL (.cons (.inp 0) .nil) (.chk none (.bin .eql) (.cons (.op .lenL (.cons (.inp 0) .nil)) (.cons (.cst (.int .i64 0)) .nil)) (.done [] (some (.op (.bin .eql) (.cons (.op .lenL (.cons (.inp 0) .nil)) (.cons (.cst (.int .i64 0)) .nil))))))) h95_12 .skip) h95_11)
@[simp] theorem h95_13_wp : type_of% (@wpH h95_13 _ h95_13.eq_1) := wpH h95_13.eq_1
def l95 : Lifted := ⟨[0, 2, 3, 4, 5, 6, 7, 8, 9, 10], 42, [.slot 1, .slot 2, .slot 3], (.seq (.reg (.done [(1, (.cst (.slice none 0 0))), (2, (.cst (.int .i64 0))), (3, (.cst (.int .i64 0)))] none)) h95_13)⟩
theorem l95_ok : liftFn T0 95 400 = some l95 := by kernel_rfl
theorem items_spec (b : List UInt8) (v : Value) (w0 w : World) (A B : Asn) (hB : ∀ w, St w0 A w → St w0 B w) (hl : b.length ≤ 1048576) (h : BR w0 B v b) (s : St w0 A w) :
    CallW Try.prog 95 [v] (fun r w' => (∃ L l lv, itF b = some L ∧ r = .tuple #[lv, .int .i64 0, .int .i64 0] ∧ PV w0 B l (L.map fun x => (0, x)) ∧ St w0 (A * own 114 1 lv l.length (ptrs l) * ptsA l) w') ∨
      (itF b = none ∧ ∃ p e, e ≠ 0 ∧ r = .tuple #[.slice none 0 0, .int .i64 p, .int .i64 e] ∧ St w0 A w')) w := by
  obtain ⟨a, cap, rfl⟩ := h.val
  refine callW_of_lift l95_ok (by simp [l95]) ?_
  simp [l95]
  refine cndI (fun c => ?_) (fun c => ?_)
  · simp at c
    simp
    exact ⟨by unfold itF; rw [if_pos c], _, 20, by decide, ⟨rfl, rfl⟩, s⟩
  simp at c
  simp
  refine loopI (fun env w' => ∃ (k at' : Nat) (lv o6 o7 o8 o9 : Value) (acc : List (List UInt8)) (l : List (Nat × Pf)), env = [.slice a b.length cap, .slice none 0 0, .int .i64 0, .int .i64 0, lv, .int .i64 at', o6, o7, o8, o9] ∧ ItS b k at' acc ∧ PV w0 B l (acc.map fun x => (0, x)) ∧ St w0 (A * own 114 1 lv l.length (ptrs l) * ptsA l) w')
    (fun env _ => b.length - slotN env 5) ⟨_, 0, _, _, _, _, _, [], [], rfl, ItS.start c, PV.nil, ?_⟩ ?_
  · have := s.own_nil 114 1
    have e : ptsA [] = emp := rfl
    rw [e, sep_emp]; exact this
  rintro LQ env w' ⟨k, at', lv, o6, o7, o8, o9, acc, l, rfl, hS, hP, s1⟩ hN hX hR
  have hle := hS.le
  have hnum := hS.num
  have hpl : l.length = acc.length := by have := hP.1; simpa using this
  simp
  refine cndI (fun c1 => ?_) (fun c1 => ?_)
  · simp at c1
    simp
    refine eff_call ((piece_spec b _ at' w0 w' _ B (fun w s => hB w s.drop.drop) (by omega) (by omega) h s1).mono ?_)
    rintro r w2 (⟨x, vv, hx, rfl, hv, s2⟩ | ⟨hx, p, e, he, rfl, s2⟩)
    · obtain ⟨va, vc, rfl⟩ := hv.val
      have hxo := piF_ok hle hx
      have hcl := cut_len hxo.2
      have w3 : IntKind.i64.wrap ((x.1 : Int) + x.2 - (cut b x).length) = (x.1 : Int) := by rw [hcl, wrap64 (by omega) (by omega)]; omega
      obtain ⟨j, hS'⟩ := hS.more c1 hx
      simp [w3, Instr.fill, Value.cells]
      refine eff_box s2 fun q w3 s3 => ?_
      simp
      have s3 : St w0 (A * own 114 1 lv l.length (ptrs l) * ptsA l * pfA q ⟨0, 0, x.1, .slice va (cut b x).length vc, false⟩) w3 := s3
      refine eff_bsl1 s3 rfl fun d w4 s4 => ?_
      simp
      have s4 : St w0 (A * ptsA (l ++ [(q, ⟨0, 0, x.1, .slice va (cut b x).length vc, false⟩)]) * pt d (.cells #[.pointer (some ⟨q, 0, none⟩)] 114 (0, 0)) * own 114 1 lv l.length (ptrs l)) w4 := s4.to (by rw [ptsA_snoc]; ac_rfl)
      refine eff_app (m := 1) (news := [.pointer (some ⟨q, 0, none⟩)]) s4 rfl (by simpa using s4.swap.cells_look) (by simp [Value.oneCell']) (by decide) rfl (by unfold maxLen; omega) (by omega) fun v5 w5 s5 => ?_
      simp
      refine hN _ _ ⟨j, x.1 + x.2, v5, _, _, _, _, acc ++ [cut b x], l ++ [(q, ⟨0, 0, x.1, .slice va (cut b x).length vc, false⟩)], by simp; exact ⟨rfl, rfl, rfl, rfl⟩, hS', ?_, ?_⟩ (by simp [slotN]; omega)
      · have := hP.snoc (y := (q, ⟨0, 0, x.1, .slice va (cut b x).length vc, false⟩)) (f := (0, cut b x)) rfl hv
        simpa using this
      · refine s5.swap.drop.to ?_
        rw [List.length_append]
        simp only [ptrs, List.map_append, List.map_cons, List.map_nil, List.length_singleton]
        ac_rfl
    · simp [he]
      refine hR _ _ ?_
      simp
      exact .inr ⟨hS.bad c1 hx, _, _, he, ⟨rfl, rfl⟩, s2.drop.drop⟩
  · simp at c1
    simp
    refine hX _ _ _ ?_
    simp
    exact .inl ⟨acc, hS.last (by omega), l, hP, s1⟩
def prK (b : List UInt8) : Nat → Int → Nat → Option (List (Int × List UInt8))
  | 0, _, _ => some []
  | k + 1, last, a => if h : a < b.length then
      if (b[a].toNat : Int) ≤ last then none
      else match piF b (a + 1) with
        | none => none
        | some x => if x.2 = 0 then none else (prK b k b[a].toNat (x.1 + x.2)).map ((b[a].toNat, cut b x) :: ·)
    else some []
def prF (b : List UInt8) : Option (List (Int × List UInt8)) := if 1048576 < b.length then none else prK b b.length 0 0
structure PrS (b : List UInt8) (k : Nat) (last : Int) (a : Nat) (acc : List (Int × List UInt8)) : Prop where
  le : a ≤ b.length
  fuel : b.length ≤ a + k
  num : acc.length ≤ a
  pos : 0 ≤ last
  eq : prF b = (prK b k last a).map (acc ++ ·)
theorem PrS.start {b : List UInt8} (h : b.length ≤ 1048576) : PrS b b.length 0 0 [] := ⟨Nat.zero_le _, by omega, by simp, Int.le_refl 0, by
  unfold prF; rw [if_neg (by omega)]; cases prK b b.length 0 0 <;> simp⟩
theorem PrS.last' {b : List UInt8} {k a : Nat} {last : Int} {acc : List (Int × List UInt8)} (h : PrS b k last a acc) (ha : ¬ a < b.length) : prF b = some acc := by
  rw [h.eq]
  cases k with
  | zero => simp [prK]
  | succ k => simp [prK, ha]
theorem PrS.low {b : List UInt8} {k a : Nat} {last : Int} {acc : List (Int × List UInt8)} (h : PrS b k last a acc) (ha : a < b.length) (hp : (b[a].toNat : Int) ≤ last) : prF b = none := by
  rw [h.eq]
  cases k with
  | zero => have := h.fuel; omega
  | succ k => simp only [prK, dif_pos ha, if_pos hp, Option.map_none]
theorem PrS.bad {b : List UInt8} {k a : Nat} {last : Int} {acc : List (Int × List UInt8)} (h : PrS b k last a acc) (ha : a < b.length) (hp : piF b (a + 1) = none) : prF b = none := by
  by_cases hl : (b[a].toNat : Int) ≤ last
  · exact h.low ha hl
  rw [h.eq]
  cases k with
  | zero => have := h.fuel; omega
  | succ k => simp only [prK, dif_pos ha, if_neg hl, hp, Option.map_none]
theorem PrS.empty {b : List UInt8} {k a : Nat} {last : Int} {acc : List (Int × List UInt8)} (h : PrS b k last a acc) (ha : a < b.length) {x : Nat × Nat} (hp : piF b (a + 1) = some x) (h0 : x.2 = 0) : prF b = none := by
  by_cases hl : (b[a].toNat : Int) ≤ last
  · exact h.low ha hl
  rw [h.eq]
  cases k with
  | zero => have := h.fuel; omega
  | succ k => simp only [prK, dif_pos ha, if_neg hl, hp, if_pos h0, Option.map_none]
theorem PrS.more {b : List UInt8} {k a : Nat} {last : Int} {acc : List (Int × List UInt8)} (h : PrS b k last a acc) (ha : a < b.length) (hl : ¬ (b[a].toNat : Int) ≤ last) {x : Nat × Nat} (hp : piF b (a + 1) = some x) (h0 : ¬ x.2 = 0) :
    ∃ j, PrS b j b[a].toNat (x.1 + x.2) (acc ++ [((b[a].toNat : Int), cut b x)]) := by
  have hx := piF_ok (by omega) hp
  cases k with
  | zero => have := h.fuel; omega
  | succ k =>
    refine ⟨k, hx.2, by have := h.fuel; omega, by have := h.num; simp; omega, by omega, ?_⟩
    rw [h.eq]
    simp only [prK, dif_pos ha, if_neg hl, hp, if_neg h0]
    cases prK b k b[a].toNat (x.1 + x.2) <;> simp

def h89_0 : HC := (.seq (.reg (.done [(1, (.inp 4)), (2, (.cst (.int .i64 0))), (3, (.cst (.int .i64 0)))] none)) .ret)
@[simp] theorem h89_0_wp : type_of% (@wpH h89_0 _ h89_0.eq_1) := wpH h89_0.eq_1
def h89_1 : HC := (.reg (.chk none .chkp (.cons (.inp 7) .nil) (.chk none (.fld 0) (.cons (.op .chkp (.cons (.inp 7) .nil)) .nil) (.eff (.ld false 1) (.cons (.op (.fld 0) (.cons (.op .chkp (.cons (.inp 7) .nil)) .nil)) .nil) (.done [(5, (.bv 0)), (6, (.inp 9))] none)))))
@[simp] theorem h89_1_wp : type_of% (@wpH h89_1 _ h89_1.eq_1) := wpH h89_1.eq_1
def h89_2 : HC := (.seq (.reg (.eff (.bsl 114 1 1 #[(.pointer none)] [0]) (.cons (.inp 7) .nil) (.eff (.app 121 121 114 1 8 (.pointer none)) (.cons (.inp 4) (.cons (.bv 0) .nil)) (.done [(4, (.bv 1))] none)))) h89_1)
@[simp] theorem h89_2_wp : type_of% (@wpH h89_2 _ h89_2.eq_1) := wpH h89_2.eq_1
def h89_3 : HC := (.seq (.reg (.chk none .lenL (.cons (.inp 8) .nil) (.chk none (.bin .sub) (.cons (.inp 9) (.cons (.op .lenL (.cons (.inp 8) .nil)) .nil)) (.chk none .chkp (.cons (.inp 7) .nil) (.chk none (.fld 3) (.cons (.op .chkp (.cons (.inp 7) .nil)) .nil) (.eff (.st 1) (.cons (.op (.fld 3) (.cons (.op .chkp (.cons (.inp 7) .nil)) .nil)) (.cons (.inp 8) .nil)) (.chk none .chkp (.cons (.inp 7) .nil) (.chk none (.fld 2) (.cons (.op .chkp (.cons (.inp 7) .nil)) .nil) (.eff (.st 1) (.cons (.op (.fld 2) (.cons (.op .chkp (.cons (.inp 7) .nil)) .nil)) (.cons (.op (.bin .sub) (.cons (.inp 9) (.cons (.op .lenL (.cons (.inp 8) .nil)) .nil))) .nil)) (.done [] none)))))))))) h89_2)
@[simp] theorem h89_3_wp : type_of% (@wpH h89_3 _ h89_3.eq_1) := wpH h89_3.eq_1
def h89_4 : HC := (.seq (.reg (.done [(1, (.cst (.slice none 0 0))), (2, (.inp 10)), (3, (.inp 11))] none)) .ret)
@[simp] theorem h89_4_wp : type_of% (@wpH h89_4 _ h89_4.eq_1) := wpH h89_4.eq_1
def h89_5 : HC := (.seq (.br (.chk none (.bin .neq) (.cons (.inp 11) (.cons (.cst (.int .i64 0)) .nil)) (.done [] (some (.op (.bin .neq) (.cons (.inp 11) (.cons (.cst (.int .i64 0)) .nil)))))) h89_4 .skip) h89_3)
@[simp] theorem h89_5_wp : type_of% (@wpH h89_5 _ h89_5.eq_1) := wpH h89_5.eq_1
def h89_6 : HC := (.reg (.chk none (.bin .add) (.cons (.inp 6) (.cons (.cst (.int .i64 1)) .nil)) (.done [(10, (.op (.bin .add) (.cons (.inp 6) (.cons (.cst (.int .i64 1)) .nil)))), (11, (.cst (.int .i64 20)))] none)))
@[simp] theorem h89_6_wp : type_of% (@wpH h89_6 _ h89_6.eq_1) := wpH h89_6.eq_1
def h89_7 : HC := (.seq (.br (.chk none (.bin .eql) (.cons (.inp 11) (.cons (.cst (.int .i64 0)) .nil)) (.bnd (.op (.bin .eql) (.cons (.inp 11) (.cons (.cst (.int .i64 0)) .nil))) (.chk (some ((.bv 0), true)) .lenL (.cons (.inp 8) .nil) (.chk (some ((.bv 0), true)) (.bin .eql) (.cons (.op .lenL (.cons (.inp 8) .nil)) (.cons (.cst (.int .i64 0)) .nil)) (.isb none (.bv 0) (.done [] (some (.ite (.bv 0) true (.op (.bin .eql) (.cons (.op .lenL (.cons (.inp 8) .nil)) (.cons (.cst (.int .i64 0)) .nil))) (.cst (.bool false)))))))))) h89_6 .skip) h89_5)
@[simp] theorem h89_7_wp : type_of% (@wpH h89_7 _ h89_7.eq_1) := wpH h89_7.eq_1
def h89_8 : HC := (.seq (.reg (.chk none (.bin .add) (.cons (.inp 6) (.cons (.cst (.int .i64 1)) .nil)) (.eff (.call 94) (.cons (.inp 0) (.cons (.op (.bin .add) (.cons (.inp 6) (.cons (.cst (.int .i64 1)) .nil))) .nil)) (.chk none (.ext 0) (.cons (.bv 0) .nil) (.chk none (.ext 1) (.cons (.bv 0) .nil) (.chk none (.ext 2) (.cons (.bv 0) .nil) (.chk none (.ext 3) (.cons (.bv 0) .nil) (.done [(8, (.op (.ext 0) (.cons (.bv 0) .nil))), (9, (.op (.ext 1) (.cons (.bv 0) .nil))), (10, (.op (.ext 2) (.cons (.bv 0) .nil))), (11, (.op (.ext 3) (.cons (.bv 0) .nil)))] none)))))))) h89_7)
@[simp] theorem h89_8_wp : type_of% (@wpH h89_8 _ h89_8.eq_1) := wpH h89_8.eq_1
def h89_9 : HC := (.seq (.reg (.done [(1, (.cst (.slice none 0 0))), (2, (.inp 6)), (3, (.cst (.int .i64 21)))] none)) .ret)
@[simp] theorem h89_9_wp : type_of% (@wpH h89_9 _ h89_9.eq_1) := wpH h89_9.eq_1
def h89_10 : HC := (.seq (.br (.chk none .chkp (.cons (.inp 7) .nil) (.chk none (.fld 0) (.cons (.op .chkp (.cons (.inp 7) .nil)) .nil) (.eff (.ld false 1) (.cons (.op (.fld 0) (.cons (.op .chkp (.cons (.inp 7) .nil)) .nil)) .nil) (.chk none (.bin .leq) (.cons (.bv 0) (.cons (.inp 5) .nil)) (.done [] (some (.op (.bin .leq) (.cons (.bv 0) (.cons (.inp 5) .nil))))))))) h89_9 .skip) h89_8)
@[simp] theorem h89_10_wp : type_of% (@wpH h89_10 _ h89_10.eq_1) := wpH h89_10.eq_1
def h89_11 : HC := (.seq (.reg (.chk none (.idxL 1) (.cons (.inp 0) (.cons (.inp 6) .nil)) (.eff (.ld false 1) (.cons (.op (.idxL 1) (.cons (.inp 0) (.cons (.inp 6) .nil))) .nil) (.chk none (.convI .i64) (.cons (.bv 0) .nil) (.chk none (.build #[(.int .i64 0), (.int .i64 0), (.int .i64 0), (.slice none 0 0), (.bool false)] [(0, 1), (1, 1), (2, 1), (3, 1), (4, 1)] [0, 1]) (.cons (.op (.convI .i64) (.cons (.bv 0) .nil)) (.cons (.inp 6) .nil)) (.eff (.box 119) (.cons (.op (.build #[(.int .i64 0), (.int .i64 0), (.int .i64 0), (.slice none 0 0), (.bool false)] [(0, 1), (1, 1), (2, 1), (3, 1), (4, 1)] [0, 1]) (.cons (.op (.convI .i64) (.cons (.bv 0) .nil)) (.cons (.inp 6) .nil))) .nil) (.done [(7, (.bv 1))] none))))))) h89_10)
@[simp] theorem h89_11_wp : type_of% (@wpH h89_11 _ h89_11.eq_1) := wpH h89_11.eq_1
def h89_12 : HC := (.block 1 h89_11)
@[simp] theorem h89_12_wp : type_of% (@wpH h89_12 _ h89_12.eq_1) := wpH h89_12.eq_1
def h89_13 : HC := (.seq (.br (.chk none .lenL (.cons (.inp 0) .nil) (.chk none (.bin .lss) (.cons (.inp 6) (.cons (.op .lenL (.cons (.inp 0) .nil)) .nil)) (.done [] (some (.op (.bin .lss) (.cons (.inp 6) (.cons (.op .lenL (.cons (.inp 0) .nil)) .nil))))))) .skip (.exit 0)) h89_12)
@[simp] theorem h89_13_wp : type_of% (@wpH h89_13 _ h89_13.eq_1) := wpH h89_13.eq_1
def h89_14 : HC := (.loop h89_13)
@[simp] theorem h89_14_wp : type_of% (@wpH h89_14 _ h89_14.eq_1) := wpH h89_14.eq_1
def h89_15 : HC := (.seq (.block 0 h89_14) h89_0)
@[simp] theorem h89_15_wp : type_of% (@wpH h89_15 _ h89_15.eq_1) := wpH h89_15.eq_1
def h89_16 : HC := (.seq (.reg (.done [(6, (.cst (.int .i64 0)))] none)) h89_15)
@[simp] theorem h89_16_wp : type_of% (@wpH h89_16 _ h89_16.eq_1) := wpH h89_16.eq_1
def h89_17 : HC := (.seq (.reg (.done [(5, (.cst (.int .i64 0)))] none)) h89_16)
@[simp] theorem h89_17_wp : type_of% (@wpH h89_17 _ h89_17.eq_1) := wpH h89_17.eq_1
def h89_18 : HC := (.seq (.reg (.done [(4, (.cst (.slice none 0 0)))] none)) h89_17)
@[simp] theorem h89_18_wp : type_of% (@wpH h89_18 _ h89_18.eq_1) := wpH h89_18.eq_1
def h89_19 : HC := (.seq (.reg (.done [(1, (.cst (.slice none 0 0))), (2, (.cst (.int .i64 0))), (3, (.cst (.int .i64 3)))] none)) .ret)
@[simp] theorem h89_19_wp : type_of% (@wpH h89_19 _ h89_19.eq_1) := wpH h89_19.eq_1
def h89_20 : HC := (.seq (.br (.chk none .lenL (.cons (.inp 0) .nil) (.chk none (.bin .gtr) (.cons (.op .lenL (.cons (.inp 0) .nil)) (.cons (.cst (.int .i64 1048576)) .nil)) (.done [] (some (.op (.bin .gtr) (.cons (.op .lenL (.cons (.inp 0) .nil)) (.cons (.cst (.int .i64 1048576)) .nil))))))) h89_19 .skip) h89_18)
@[simp] theorem h89_20_wp : type_of% (@wpH h89_20 _ h89_20.eq_1) := wpH h89_20.eq_1
def l89 : Lifted := ⟨[0, 2, 3, 4, 5, 6, 7, 8, 9, 10, 11, 12], 78, [.slot 1, .slot 2, .slot 3], (.seq (.reg (.done [(1, (.cst (.slice none 0 0))), (2, (.cst (.int .i64 0))), (3, (.cst (.int .i64 0)))] none)) h89_20)⟩
theorem l89_ok : liftFn T0 89 400 = some l89 := by kernel_rfl
set_option maxHeartbeats 1000000 in
theorem parts_spec (b : List UInt8) (v : Value) (w0 w : World) (A B : Asn) (hB : ∀ w, St w0 A w → St w0 B w) (hl : b.length ≤ 35184372088832) (h : BR w0 B v b) (s : St w0 A w) :
    CallW Try.prog 89 [v] (fun r w' => (∃ F l lv, prF b = some F ∧ r = .tuple #[lv, .int .i64 0, .int .i64 0] ∧ PV w0 B l F ∧ St w0 (A * own 114 1 lv l.length (ptrs l) * ptsA l) w') ∨
      (prF b = none ∧ ∃ p e, e ≠ 0 ∧ r = .tuple #[.slice none 0 0, .int .i64 p, .int .i64 e] ∧ St w0 A w')) w := by
  obtain ⟨a, cap, rfl⟩ := h.val
  refine callW_of_lift l89_ok (by simp [l89]) ?_
  simp [l89]
  refine cndI (fun c => ?_) (fun c => ?_)
  · simp at c
    simp
    exact ⟨by unfold prF; rw [if_pos (by omega)], _, 3, by decide, ⟨rfl, rfl⟩, s⟩
  simp at c
  simp
  refine loopI (fun env w' => ∃ (k at' : Nat) (last : Int) (lv o7 o8 o9 o10 o11 : Value) (acc : List (Int × List UInt8)) (l : List (Nat × Pf)), env = [.slice a b.length cap, .slice none 0 0, .int .i64 0, .int .i64 0, lv, .int .i64 last, .int .i64 at', o7, o8, o9, o10, o11] ∧ PrS b k last at' acc ∧ PV w0 B l acc ∧ St w0 (A * own 114 1 lv l.length (ptrs l) * ptsA l) w')
    (fun env _ => b.length - slotN env 6) ⟨_, 0, 0, _, _, _, _, _, _, [], [], rfl, PrS.start (by omega), PV.nil, ?_⟩ ?_
  · have := s.own_nil 114 1
    have e : ptsA [] = emp := rfl
    rw [e, sep_emp]; exact this
  rintro LQ env w' ⟨k, at', last, lv, o7, o8, o9, o10, o11, acc, l, rfl, hS, hP, s1⟩ hN hX hR
  have hle := hS.le
  have hnum := hS.num
  have hpl : l.length = acc.length := hP.1
  simp
  refine cndI (fun c1 => ?_) (fun c1 => ?_)
  · simp at c1
    obtain ⟨g, o, cap', hv, hcell⟩ := h.at (by omega)
    cases hv
    obtain ⟨cb, hcb⟩ : ∃ cb, b[at'] = cb := ⟨_, rfl⟩
    have hc256 := toNat_lt cb
    simp [c1]
    refine eff_ldc (v := .int .u8 cb.toNat) (by have := hcell w' (hB _ s1.drop.drop) at' (.int .u8 cb.toNat) (by rw [bytesV_at]; simp [c1, hcb]); simpa using this) ?_
    have w2 : IntKind.i64.wrap ((cb.toNat : Nat) : Int) = (cb.toNat : Int) := wrap64 (by omega) (by omega)
    simp [w2, Instr.fill, Value.cells]
    refine eff_box s1 fun q w3 s3 => ?_
    simp
    have s3 : St w0 (A * own 114 1 lv l.length (ptrs l) * ptsA l * pfA q ⟨cb.toNat, at', 0, .slice none 0 0, false⟩) w3 := s3
    refine eff_ldc (v := .int .i64 cb.toNat) ((cell_of s3.look).trans rfl) ?_
    simp
    refine cndI (fun c2 => ?_) (fun c2 => ?_)
    · simp at c2
      simp
      refine hR _ _ ?_
      simp
      exact ⟨hS.low c1 (by rw [hcb]; exact c2), _, 21, by decide, ⟨rfl, rfl⟩, s3.drop.drop.drop⟩
    simp at c2
    have w4 : IntKind.i64.wrap ((at' : Int) + 1) = ((at' + 1 : Nat) : Int) := by rw [wrap64 (by omega) (by omega)]; omega
    simp
    rw [w4]
    refine eff_call ((piece_spec b _ (at' + 1) w0 w3 _ B (fun w s => hB w s.drop.drop.drop) (by omega) (by omega) h s3).mono ?_)
    rintro r w5 (⟨x, vv, hx, rfl, hv, s5⟩ | ⟨hx, p, e, he, rfl, s5⟩)
    · obtain ⟨va, vc, rfl⟩ := hv.val
      have hxo := piF_ok (by omega) hx
      have hcl := cut_len hxo.2
      simp
      refine cndI (fun c3 => ?_) (fun c3 => ?_)
      · simp at c3
        have h0 : x.2 = 0 := by rw [c3] at hcl; simpa using hcl.symm
        simp [w4]
        refine hR _ _ ?_
        simp
        exact ⟨hS.empty c1 hx h0, _, 20, by decide, ⟨rfl, rfl⟩, s5.drop.drop.drop⟩
      simp at c3
      have h0 : ¬ x.2 = 0 := fun e => c3 (List.eq_nil_of_length_eq_zero (by omega))
      simp
      have w6 : IntKind.i64.wrap ((x.1 : Int) + x.2 - (cut b x).length) = (x.1 : Int) := by rw [hcl, wrap64 (by omega) (by omega)]; omega
      refine eff_st1 s5 rfl (by simp [Pf.cs]) fun w6' s6 => ?_
      simp [w6]
      simp [Pf.cs] at s6
      refine eff_st1 s6 rfl (by simp) fun w7 s7 => ?_
      simp at s7 ⊢
      have s7 : St w0 (A * own 114 1 lv l.length (ptrs l) * ptsA l * pfA q ⟨cb.toNat, at', x.1, .slice va (cut b x).length vc, false⟩) w7 := s7
      refine eff_bsl1 s7 rfl fun d w8 s8 => ?_
      simp
      have s8 : St w0 (A * ptsA (l ++ [(q, ⟨cb.toNat, at', x.1, .slice va (cut b x).length vc, false⟩)]) * pt d (.cells #[.pointer (some ⟨q, 0, none⟩)] 114 (0, 0)) * own 114 1 lv l.length (ptrs l)) w8 := s8.to (by rw [ptsA_snoc]; ac_rfl)
      refine eff_app (m := 1) (news := [.pointer (some ⟨q, 0, none⟩)]) s8 rfl (by simpa using s8.swap.cells_look) (by simp [Value.oneCell']) (by decide) rfl (by unfold maxLen; omega) (by omega) fun v9 w9 s9 => ?_
      have s9 : St w0 (A * own 114 1 v9 (l ++ [(q, (⟨cb.toNat, at', x.1, .slice va (cut b x).length vc, false⟩ : Pf))]).length (ptrs (l ++ [(q, ⟨cb.toNat, at', x.1, .slice va (cut b x).length vc, false⟩)])) * ptsA (l ++ [(q, ⟨cb.toNat, at', x.1, .slice va (cut b x).length vc, false⟩)])) w9 := by
        refine s9.swap.drop.to ?_
        rw [List.length_append]
        simp only [ptrs, List.map_append, List.map_cons, List.map_nil, List.length_singleton]
        ac_rfl
      obtain ⟨j, hS'⟩ := hS.more c1 (by rw [hcb]; omega) hx h0
      rw [hcb] at hS'
      simp
      have s10 := s9.to (B := A * own 114 1 v9 (l ++ [(q, (⟨cb.toNat, at', x.1, .slice va (cut b x).length vc, false⟩ : Pf))]).length (ptrs (l ++ [(q, ⟨cb.toNat, at', x.1, .slice va (cut b x).length vc, false⟩)])) * ptsA l * pfA q ⟨cb.toNat, at', x.1, .slice va (cut b x).length vc, false⟩) (by rw [ptsA_snoc]; ac_rfl)
      refine eff_ldc (v := .int .i64 cb.toNat) ((cell_of s10.look).trans rfl) ?_
      simp
      refine hN _ _ ⟨j, x.1 + x.2, cb.toNat, v9, _, _, _, _, _, _, _, by simp; exact ⟨rfl, rfl, rfl, rfl, rfl⟩, hS', hP.snoc (y := (q, ⟨cb.toNat, at', x.1, .slice va (cut b x).length vc, false⟩)) (f := (cb.toNat, cut b x)) rfl hv, s9⟩ (by simp [slotN]; omega)
    · simp [he]
      refine hR _ _ ?_
      simp
      exact .inr ⟨hS.bad c1 hx, _, _, he, ⟨rfl, rfl⟩, s5.drop.drop.drop⟩
  · simp at c1
    simp
    refine hX _ _ _ ?_
    simp
    exact .inl ⟨acc, hS.last' (by omega), l, hP, s1⟩
end Go.HL.Tl

namespace Go.HL.Tl
open Go.HL Go.Proofs
set_option maxRecDepth 4000
set_option linter.unusedSimpArgs false
set_option linter.unusedVariables false
structure Rf where
  tag : Int
  v : Value
  at' : Int
  from' : Int
  tk : Bool
def Rf.cs (x : Rf) : List Value := [.int .i64 x.tag, x.v, .int .i64 x.at', .int .i64 x.from', .bool x.tk]
def rfflat (l : List Rf) : List Value := l.flatMap Rf.cs
theorem rfflat_len (l : List Rf) : (rfflat l).length = l.length * 5 := flat_length Rf.cs 5 (fun _ => rfl) l
theorem rfflat_at {l : List Rf} {i : Nat} (h : i < l.length) : ∀ j u, (l[i].cs)[j]? = some u → (rfflat l)[i * 5 + j]? = some u := by
  intro j u hu
  have hj : j < 5 := (List.getElem?_eq_some_iff.1 hu).1
  unfold rfflat
  rw [flat_get Rf.cs 5 (fun _ => rfl) l i j h hj]
  exact hu
theorem rs_cases {b : List UInt8} {a : Nat} : (piF b a = some ((rs b a).2.1, (rs b a).1) ∧ (rs b a).2.2 = 0 ∧ (rs b a).1 ≤ b.length - (rs b a).2.1) ∨ (piF b a = none ∧ ((rs b a).2.2 ≠ 0 ∨ b.length - (rs b a).2.1 < (rs b a).1)) := by
  unfold piF
  by_cases h : (rs b a).2.2 = 0 ∧ (rs b a).1 ≤ b.length - (rs b a).2.1
  · rw [if_pos h]; exact .inl ⟨rfl, h⟩
  · rw [if_neg h]; refine .inr ⟨rfl, ?_⟩
    by_cases h1 : (rs b a).2.2 = 0
    · exact .inr (by omega)
    · exact .inl h1
theorem BR.sub {w0 : World} {B : Asn} {a : Option Addr} {cap : Nat} {b : List UInt8} {x : Nat × Nat} (h : BR w0 B (.slice a b.length cap) b) (hx : x.1 + x.2 ≤ b.length) :
    BR w0 B (.slice (if cap = x.1 then a else Option.map (fun y => y.add x.1) a) (((x.1 : Int) + x.2).toNat - x.1) (cap - x.1)) (Tl.cut b x) := by
  have hcap : b.length ≤ cap := by
    obtain ⟨_, _, _, hv, hn, _⟩ := h
    cases hv; exact hn
  have e : ((x.1 : Int) + x.2).toNat - x.1 = (Tl.cut b x).length := by rw [cut_len hx]; omega
  rw [e]
  refine h.cut hx (by omega) fun h0 g o hg => ?_
  subst hg
  rw [if_neg (by omega)]
  simp

def h93_0 : HC := (.seq (.reg (.done [(1, (.inp 5)), (2, (.inp 6)), (3, (.cst (.int .i64 0))), (4, (.cst (.int .i64 0)))] none)) .ret)
@[simp] theorem h93_0_wp : type_of% (@wpH h93_0 _ h93_0.eq_1) := wpH h93_0.eq_1
def h93_1 : HC := (.reg (.done [(7, (.inp 11))] none))
@[simp] theorem h93_1_wp : type_of% (@wpH h93_1 _ h93_1.eq_1) := wpH h93_1.eq_1
def h93_2 : HC := (.seq (.reg (.eff (.bsl 3 1 1 #[(.int .i64 0)] [0]) (.cons (.inp 9) .nil) (.eff (.app 23 23 3 1 8 (.int .i64 0)) (.cons (.inp 6) (.cons (.bv 0) .nil)) (.done [(6, (.bv 1))] none)))) h93_1)
@[simp] theorem h93_2_wp : type_of% (@wpH h93_2 _ h93_2.eq_1) := wpH h93_2.eq_1
def h93_3 : HC := (.seq (.reg (.chk none (.slL 1 true true false) (.cons (.inp 0) (.cons (.inp 9) (.cons (.inp 11) .nil))) (.eff (.call 57) (.cons (.op (.slL 1 true true false) (.cons (.inp 0) (.cons (.inp 9) (.cons (.inp 11) .nil)))) .nil) (.eff (.bsl 31 1 1 #[(.slice none 0 0)] [0]) (.cons (.bv 0) .nil) (.eff (.app 90 90 31 1 24 (.slice none 0 0)) (.cons (.inp 5) (.cons (.bv 1) .nil)) (.done [(5, (.bv 2))] none)))))) h93_2)
@[simp] theorem h93_3_wp : type_of% (@wpH h93_3 _ h93_3.eq_1) := wpH h93_3.eq_1
def h93_4 : HC := (.seq (.reg (.chk none (.convI .i64) (.cons (.inp 8) .nil) (.chk none (.bin .add) (.cons (.inp 9) (.cons (.op (.convI .i64) (.cons (.inp 8) .nil)) .nil)) (.done [(11, (.op (.bin .add) (.cons (.inp 9) (.cons (.op (.convI .i64) (.cons (.inp 8) .nil)) .nil))))] none)))) h93_3)
@[simp] theorem h93_4_wp : type_of% (@wpH h93_4 _ h93_4.eq_1) := wpH h93_4.eq_1
def h93_5 : HC := (.seq (.reg (.done [(1, (.cst (.slice none 0 0))), (2, (.cst (.slice none 0 0))), (3, (.inp 9)), (4, (.cst (.int .i64 22)))] none)) .ret)
@[simp] theorem h93_5_wp : type_of% (@wpH h93_5 _ h93_5.eq_1) := wpH h93_5.eq_1
def h93_6 : HC := (.seq (.br (.chk none .lenL (.cons (.inp 0) .nil) (.chk none (.bin .sub) (.cons (.op .lenL (.cons (.inp 0) .nil)) (.cons (.inp 9) .nil)) (.chk none (.convI .u64) (.cons (.op (.bin .sub) (.cons (.op .lenL (.cons (.inp 0) .nil)) (.cons (.inp 9) .nil))) .nil) (.chk none (.bin .gtr) (.cons (.inp 8) (.cons (.op (.convI .u64) (.cons (.op (.bin .sub) (.cons (.op .lenL (.cons (.inp 0) .nil)) (.cons (.inp 9) .nil))) .nil)) .nil)) (.done [] (some (.op (.bin .gtr) (.cons (.inp 8) (.cons (.op (.convI .u64) (.cons (.op (.bin .sub) (.cons (.op .lenL (.cons (.inp 0) .nil)) (.cons (.inp 9) .nil))) .nil)) .nil))))))))) h93_5 .skip) h93_4)
@[simp] theorem h93_6_wp : type_of% (@wpH h93_6 _ h93_6.eq_1) := wpH h93_6.eq_1
def h93_7 : HC := (.seq (.reg (.done [(1, (.cst (.slice none 0 0))), (2, (.cst (.slice none 0 0))), (3, (.inp 7)), (4, (.inp 10))] none)) .ret)
@[simp] theorem h93_7_wp : type_of% (@wpH h93_7 _ h93_7.eq_1) := wpH h93_7.eq_1
def h93_8 : HC := (.seq (.br (.chk none (.bin .neq) (.cons (.inp 10) (.cons (.cst (.int .i64 0)) .nil)) (.done [] (some (.op (.bin .neq) (.cons (.inp 10) (.cons (.cst (.int .i64 0)) .nil)))))) h93_7 .skip) h93_6)
@[simp] theorem h93_8_wp : type_of% (@wpH h93_8 _ h93_8.eq_1) := wpH h93_8.eq_1
def h93_9 : HC := (.seq (.reg (.eff (.call 67) (.cons (.inp 0) (.cons (.inp 7) .nil)) (.chk none (.ext 0) (.cons (.bv 0) .nil) (.chk none (.ext 1) (.cons (.bv 0) .nil) (.chk none (.ext 2) (.cons (.bv 0) .nil) (.done [(8, (.op (.ext 0) (.cons (.bv 0) .nil))), (9, (.op (.ext 1) (.cons (.bv 0) .nil))), (10, (.op (.ext 2) (.cons (.bv 0) .nil)))] none)))))) h93_8)
@[simp] theorem h93_9_wp : type_of% (@wpH h93_9 _ h93_9.eq_1) := wpH h93_9.eq_1
def h93_10 : HC := (.block 1 h93_9)
@[simp] theorem h93_10_wp : type_of% (@wpH h93_10 _ h93_10.eq_1) := wpH h93_10.eq_1
def h93_11 : HC := (.seq (.br (.chk none .lenL (.cons (.inp 0) .nil) (.chk none (.bin .lss) (.cons (.inp 7) (.cons (.op .lenL (.cons (.inp 0) .nil)) .nil)) (.done [] (some (.op (.bin .lss) (.cons (.inp 7) (.cons (.op .lenL (.cons (.inp 0) .nil)) .nil))))))) .skip (.exit 0)) h93_10)
@[simp] theorem h93_11_wp : type_of% (@wpH h93_11 _ h93_11.eq_1) := wpH h93_11.eq_1
def h93_12 : HC := (.loop h93_11)
@[simp] theorem h93_12_wp : type_of% (@wpH h93_12 _ h93_12.eq_1) := wpH h93_12.eq_1
def h93_13 : HC := (.seq (.block 0 h93_12) h93_0)
@[simp] theorem h93_13_wp : type_of% (@wpH h93_13 _ h93_13.eq_1) := wpH h93_13.eq_1
def h93_14 : HC := (.seq (.reg (.done [(7, (.cst (.int .i64 0)))] none)) h93_13)
@[simp] theorem h93_14_wp : type_of% (@wpH h93_14 _ h93_14.eq_1) := wpH h93_14.eq_1
def h93_15 : HC := (.seq (.reg (.done [(6, (.cst (.slice none 0 0)))] none)) h93_14)
@[simp] theorem h93_15_wp : type_of% (@wpH h93_15 _ h93_15.eq_1) := wpH h93_15.eq_1
def h93_16 : HC := (.seq (.reg (.done [(5, (.cst (.slice none 0 0)))] none)) h93_15)
@[simp] theorem h93_16_wp : type_of% (@wpH h93_16 _ h93_16.eq_1) := wpH h93_16.eq_1
def h93_17 : HC := (.seq (.reg (.done [(1, (.cst (.slice none 0 0))), (2, (.cst (.slice none 0 0))), (3, (.cst (.int .i64 0))), (4, (.cst (.int .i64 20)))] none)) .ret)
@[simp] theorem h93_17_wp : type_of% (@wpH h93_17 _ h93_17.eq_1) := wpH h93_17.eq_1
def h93_18 : HC := (.seq (.br (.chk none .lenL (.cons (.inp 0) .nil) (.chk none (.bin .eql) (.cons (.op .lenL (.cons (.inp 0) .nil)) (.cons (.cst (.int .i64 0)) .nil)) (.done [] (some (.op (.bin .eql) (.cons (.op .lenL (.cons (.inp 0) .nil)) (.cons (.cst (.int .i64 0)) .nil))))))) h93_17 .skip) h93_16)
@[simp] theorem h93_18_wp : type_of% (@wpH h93_18 _ h93_18.eq_1) := wpH h93_18.eq_1
def l93 : Lifted := ⟨[0, 2, 3, 4, 5, 6, 7, 8, 9, 10, 11, 12], 58, [.slot 1, .slot 2, .slot 3, .slot 4], (.seq (.reg (.done [(1, (.cst (.slice none 0 0))), (2, (.cst (.slice none 0 0))), (3, (.cst (.int .i64 0))), (4, (.cst (.int .i64 0)))] none)) h93_18)⟩
theorem l93_ok : liftFn T0 93 400 = some l93 := by kernel_rfl

def h86_0 : HC := (.seq (.reg (.done [(1, (.inp 4)), (2, (.cst (.int .i64 0))), (3, (.cst (.int .i64 0)))] none)) .ret)
@[simp] theorem h86_0_wp : type_of% (@wpH h86_0 _ h86_0.eq_1) := wpH h86_0.eq_1
def h86_1 : HC := (.reg (.done [(6, (.inp 11))] none))
@[simp] theorem h86_1_wp : type_of% (@wpH h86_1 _ h86_1.eq_1) := wpH h86_1.eq_1
def h86_2 : HC := (.seq (.reg (.done [(5, (.inp 7))] none)) h86_1)
@[simp] theorem h86_2_wp : type_of% (@wpH h86_2 _ h86_2.eq_1) := wpH h86_2.eq_1
def h86_3 : HC := (.seq (.reg (.chk none (.slL 1 true true false) (.cons (.inp 0) (.cons (.inp 9) (.cons (.inp 11) .nil))) (.eff (.call 57) (.cons (.op (.slL 1 true true false) (.cons (.inp 0) (.cons (.inp 9) (.cons (.inp 11) .nil)))) .nil) (.chk none (.build #[(.int .i64 0), (.slice none 0 0), (.int .i64 0), (.int .i64 0), (.bool false)] [(0, 1), (1, 1), (2, 1), (3, 1), (4, 1)] [0, 1, 2, 3]) (.cons (.inp 7) (.cons (.bv 0) (.cons (.inp 6) (.cons (.inp 9) .nil)))) (.eff (.bsl 100 1 5 #[(.int .i64 0), (.slice none 0 0), (.int .i64 0), (.int .i64 0), (.bool false)] [0]) (.cons (.op (.build #[(.int .i64 0), (.slice none 0 0), (.int .i64 0), (.int .i64 0), (.bool false)] [(0, 1), (1, 1), (2, 1), (3, 1), (4, 1)] [0, 1, 2, 3]) (.cons (.inp 7) (.cons (.bv 0) (.cons (.inp 6) (.cons (.inp 9) .nil))))) .nil) (.eff (.app 101 101 100 5 56 (.agg #[(.int .i64 0), (.slice none 0 0), (.int .i64 0), (.int .i64 0), (.bool false)])) (.cons (.inp 4) (.cons (.bv 1) .nil)) (.done [(4, (.bv 2))] none))))))) h86_2)
@[simp] theorem h86_3_wp : type_of% (@wpH h86_3 _ h86_3.eq_1) := wpH h86_3.eq_1
def h86_4 : HC := (.seq (.reg (.chk none (.convI .i64) (.cons (.inp 8) .nil) (.chk none (.bin .add) (.cons (.inp 9) (.cons (.op (.convI .i64) (.cons (.inp 8) .nil)) .nil)) (.done [(11, (.op (.bin .add) (.cons (.inp 9) (.cons (.op (.convI .i64) (.cons (.inp 8) .nil)) .nil))))] none)))) h86_3)
@[simp] theorem h86_4_wp : type_of% (@wpH h86_4 _ h86_4.eq_1) := wpH h86_4.eq_1
def h86_5 : HC := (.seq (.reg (.done [(1, (.cst (.slice none 0 0))), (2, (.inp 9)), (3, (.cst (.int .i64 22)))] none)) .ret)
@[simp] theorem h86_5_wp : type_of% (@wpH h86_5 _ h86_5.eq_1) := wpH h86_5.eq_1
def h86_6 : HC := (.seq (.br (.chk none .lenL (.cons (.inp 0) .nil) (.chk none (.bin .sub) (.cons (.op .lenL (.cons (.inp 0) .nil)) (.cons (.inp 9) .nil)) (.chk none (.convI .u64) (.cons (.op (.bin .sub) (.cons (.op .lenL (.cons (.inp 0) .nil)) (.cons (.inp 9) .nil))) .nil) (.chk none (.bin .gtr) (.cons (.inp 8) (.cons (.op (.convI .u64) (.cons (.op (.bin .sub) (.cons (.op .lenL (.cons (.inp 0) .nil)) (.cons (.inp 9) .nil))) .nil)) .nil)) (.done [] (some (.op (.bin .gtr) (.cons (.inp 8) (.cons (.op (.convI .u64) (.cons (.op (.bin .sub) (.cons (.op .lenL (.cons (.inp 0) .nil)) (.cons (.inp 9) .nil))) .nil)) .nil))))))))) h86_5 .skip) h86_4)
@[simp] theorem h86_6_wp : type_of% (@wpH h86_6 _ h86_6.eq_1) := wpH h86_6.eq_1
def h86_7 : HC := (.seq (.reg (.chk none (.bin .add) (.cons (.inp 6) (.cons (.cst (.int .i64 1)) .nil)) (.done [(1, (.cst (.slice none 0 0))), (2, (.op (.bin .add) (.cons (.inp 6) (.cons (.cst (.int .i64 1)) .nil)))), (3, (.cst (.int .i64 20)))] none))) .ret)
@[simp] theorem h86_7_wp : type_of% (@wpH h86_7 _ h86_7.eq_1) := wpH h86_7.eq_1
def h86_8 : HC := (.seq (.br (.chk none (.bin .eql) (.cons (.inp 8) (.cons (.cst (.int .u64 0)) .nil)) (.done [] (some (.op (.bin .eql) (.cons (.inp 8) (.cons (.cst (.int .u64 0)) .nil)))))) h86_7 .skip) h86_6)
@[simp] theorem h86_8_wp : type_of% (@wpH h86_8 _ h86_8.eq_1) := wpH h86_8.eq_1
def h86_9 : HC := (.seq (.reg (.chk none (.bin .add) (.cons (.inp 6) (.cons (.cst (.int .i64 1)) .nil)) (.done [(1, (.cst (.slice none 0 0))), (2, (.op (.bin .add) (.cons (.inp 6) (.cons (.cst (.int .i64 1)) .nil)))), (3, (.inp 10))] none))) .ret)
@[simp] theorem h86_9_wp : type_of% (@wpH h86_9 _ h86_9.eq_1) := wpH h86_9.eq_1
def h86_10 : HC := (.seq (.br (.chk none (.bin .neq) (.cons (.inp 10) (.cons (.cst (.int .i64 0)) .nil)) (.done [] (some (.op (.bin .neq) (.cons (.inp 10) (.cons (.cst (.int .i64 0)) .nil)))))) h86_9 .skip) h86_8)
@[simp] theorem h86_10_wp : type_of% (@wpH h86_10 _ h86_10.eq_1) := wpH h86_10.eq_1
def h86_11 : HC := (.seq (.reg (.chk none (.bin .add) (.cons (.inp 6) (.cons (.cst (.int .i64 1)) .nil)) (.eff (.call 67) (.cons (.inp 0) (.cons (.op (.bin .add) (.cons (.inp 6) (.cons (.cst (.int .i64 1)) .nil))) .nil)) (.chk none (.ext 0) (.cons (.bv 0) .nil) (.chk none (.ext 1) (.cons (.bv 0) .nil) (.chk none (.ext 2) (.cons (.bv 0) .nil) (.done [(8, (.op (.ext 0) (.cons (.bv 0) .nil))), (9, (.op (.ext 1) (.cons (.bv 0) .nil))), (10, (.op (.ext 2) (.cons (.bv 0) .nil)))] none))))))) h86_10)
@[simp] theorem h86_11_wp : type_of% (@wpH h86_11 _ h86_11.eq_1) := wpH h86_11.eq_1
def h86_12 : HC := (.seq (.reg (.done [(1, (.cst (.slice none 0 0))), (2, (.inp 6)), (3, (.cst (.int .i64 21)))] none)) .ret)
@[simp] theorem h86_12_wp : type_of% (@wpH h86_12 _ h86_12.eq_1) := wpH h86_12.eq_1
def h86_13 : HC := (.seq (.br (.chk none (.bin .eql) (.cons (.inp 7) (.cons (.cst (.int .i64 0)) .nil)) (.bnd (.op (.bin .eql) (.cons (.inp 7) (.cons (.cst (.int .i64 0)) .nil))) (.chk (some ((.bv 0), false)) (.bin .leq) (.cons (.inp 7) (.cons (.inp 5) .nil)) (.isb none (.bv 0) (.done [] (some (.ite (.bv 0) true (.cst (.bool true)) (.op (.bin .leq) (.cons (.inp 7) (.cons (.inp 5) .nil)))))))))) h86_12 .skip) h86_11)
@[simp] theorem h86_13_wp : type_of% (@wpH h86_13 _ h86_13.eq_1) := wpH h86_13.eq_1
def h86_14 : HC := (.seq (.reg (.chk none (.idxL 1) (.cons (.inp 0) (.cons (.inp 6) .nil)) (.eff (.ld false 1) (.cons (.op (.idxL 1) (.cons (.inp 0) (.cons (.inp 6) .nil))) .nil) (.chk none (.convI .i64) (.cons (.bv 0) .nil) (.done [(7, (.op (.convI .i64) (.cons (.bv 0) .nil)))] none))))) h86_13)
@[simp] theorem h86_14_wp : type_of% (@wpH h86_14 _ h86_14.eq_1) := wpH h86_14.eq_1
def h86_15 : HC := (.block 1 h86_14)
@[simp] theorem h86_15_wp : type_of% (@wpH h86_15 _ h86_15.eq_1) := wpH h86_15.eq_1
def h86_16 : HC := (.seq (.br (.chk none .lenL (.cons (.inp 0) .nil) (.chk none (.bin .lss) (.cons (.inp 6) (.cons (.op .lenL (.cons (.inp 0) .nil)) .nil)) (.done [] (some (.op (.bin .lss) (.cons (.inp 6) (.cons (.op .lenL (.cons (.inp 0) .nil)) .nil))))))) .skip (.exit 0)) h86_15)
@[simp] theorem h86_16_wp : type_of% (@wpH h86_16 _ h86_16.eq_1) := wpH h86_16.eq_1
def h86_17 : HC := (.loop h86_16)
@[simp] theorem h86_17_wp : type_of% (@wpH h86_17 _ h86_17.eq_1) := wpH h86_17.eq_1
def h86_18 : HC := (.seq (.block 0 h86_17) h86_0)
@[simp] theorem h86_18_wp : type_of% (@wpH h86_18 _ h86_18.eq_1) := wpH h86_18.eq_1
def h86_19 : HC := (.seq (.reg (.done [(6, (.cst (.int .i64 0)))] none)) h86_18)
@[simp] theorem h86_19_wp : type_of% (@wpH h86_19 _ h86_19.eq_1) := wpH h86_19.eq_1
def h86_20 : HC := (.seq (.reg (.done [(5, (.cst (.int .i64 0)))] none)) h86_19)
@[simp] theorem h86_20_wp : type_of% (@wpH h86_20 _ h86_20.eq_1) := wpH h86_20.eq_1
def h86_21 : HC := (.seq (.reg (.done [(4, (.cst (.slice none 0 0)))] none)) h86_20)
@[simp] theorem h86_21_wp : type_of% (@wpH h86_21 _ h86_21.eq_1) := wpH h86_21.eq_1
def h86_22 : HC := (.seq (.reg (.done [(1, (.cst (.slice none 0 0))), (2, (.cst (.int .i64 0))), (3, (.cst (.int .i64 3)))] none)) .ret)
@[simp] theorem h86_22_wp : type_of% (@wpH h86_22 _ h86_22.eq_1) := wpH h86_22.eq_1
def h86_23 : HC := (.seq (.br (.chk none .lenL (.cons (.inp 0) .nil) (.chk none (.bin .gtr) (.cons (.op .lenL (.cons (.inp 0) .nil)) (.cons (.cst (.int .i64 1048576)) .nil)) (.done [] (some (.op (.bin .gtr) (.cons (.op .lenL (.cons (.inp 0) .nil)) (.cons (.cst (.int .i64 1048576)) .nil))))))) h86_22 .skip) h86_21)
@[simp] theorem h86_23_wp : type_of% (@wpH h86_23 _ h86_23.eq_1) := wpH h86_23.eq_1
def l86 : Lifted := ⟨[0, 2, 3, 4, 5, 6, 7, 8, 9, 10, 11, 12], 77, [.slot 1, .slot 2, .slot 3], (.seq (.reg (.done [(1, (.cst (.slice none 0 0))), (2, (.cst (.int .i64 0))), (3, (.cst (.int .i64 0)))] none)) h86_23)⟩
theorem l86_ok : liftFn T0 86 400 = some l86 := by kernel_rfl
abbrev ints (l : List Int) : List Value := l.map fun x => .int .i64 x
set_option maxHeartbeats 1000000 in
theorem rItems_spec (b : List UInt8) (v : Value) (w0 w : World) (A B : Asn) (hB : ∀ w, St w0 A w → St w0 B w) (hl : b.length ≤ 1048576) (h : BR w0 B v b) (s : St w0 A w) :
    CallW Try.prog 93 [v] (fun r w' => (∃ L vs lv bv bi, itF b = some L ∧ r = .tuple #[lv, bv, .int .i64 0, .int .i64 0] ∧ vs.length = L.length ∧ bi.length = L.length ∧ St w0 (A * own 31 1 lv L.length vs * bss vs L * own 3 1 bv L.length (ints bi)) w') ∨
      (itF b = none ∧ ∃ p e, e ≠ 0 ∧ r = .tuple #[.slice none 0 0, .slice none 0 0, .int .i64 p, .int .i64 e] ∧ St w0 A w')) w := by
  obtain ⟨a, cap, rfl⟩ := h.val
  have hcap : b.length ≤ cap := by
    obtain ⟨_, _, _, hv, hn, _⟩ := h
    cases hv; exact hn
  refine callW_of_lift l93_ok (by simp [l93]) ?_
  simp [l93]
  refine cndI (fun c => ?_) (fun c => ?_)
  · simp at c
    simp
    exact ⟨by unfold itF; rw [if_pos c], _, 20, by decide, ⟨rfl, rfl⟩, s⟩
  simp at c
  simp
  refine loopI (fun env w' => ∃ (k at' : Nat) (lv bv o8 o9 o10 o11 : Value) (acc : List (List UInt8)) (vs : List Value) (bi : List Int), env = [.slice a b.length cap, .slice none 0 0, .slice none 0 0, .int .i64 0, .int .i64 0, lv, bv, .int .i64 at', o8, o9, o10, o11] ∧ ItS b k at' acc ∧ vs.length = acc.length ∧ bi.length = acc.length ∧
      St w0 (A * own 31 1 lv acc.length vs * bss vs acc * own 3 1 bv acc.length (ints bi)) w')
    (fun env _ => b.length - slotN env 7) ⟨_, 0, _, _, _, _, _, _, [], [], [], rfl, ItS.start c, rfl, rfl, ?_⟩ ?_
  · have := (s.own_nil 31 1).own_nil 3 1
    have e : bss [] [] = emp := rfl
    rw [e, sep_emp]; exact this
  rintro LQ env w' ⟨k, at', lv, bv, o8, o9, o10, o11, acc, vs, bi, rfl, hS, hv, hbi, s1⟩ hN hX hR
  have hle := hS.le
  have hnum := hS.num
  simp
  refine cndI (fun c1 => ?_) (fun c1 => ?_)
  · simp at c1
    simp
    have hb3 : ∀ w, St w0 (A * own 31 1 lv acc.length vs * bss vs acc * own 3 1 bv acc.length (ints bi)) w → St w0 B w := fun w s => hB w s.drop.drop.drop
    refine eff_call ((rReadShort_spec b _ at' w0 w' _ (by omega) (by omega) (h.mono hb3) s1).mono ?_)
    rintro r w2 ⟨rfl, s2⟩
    simp
    rcases rs_cases (b := b) (a := at') with ⟨hp, he, hn⟩ | ⟨hp, hbad⟩
    · have hxo := piF_ok hle hp
      obtain ⟨x, hx⟩ : ∃ x, ((rs b at').2.1, (rs b at').1) = x := ⟨_, rfl⟩
      have hx1 : (rs b at').2.1 = x.1 := by rw [← hx]
      have hx2 : (rs b at').1 = x.2 := by rw [← hx]
      rw [hx] at hp hxo
      obtain ⟨j, hS'⟩ := hS.more c1 hp
      rw [hx1, hx2] at hn
      have hcl := cut_len hxo.2
      have w2 : IntKind.i64.wrap ((b.length : Int) - x.1) = ((b.length - x.1 : Nat) : Int) := by rw [wrap64 (by omega) (by omega)]; omega
      have w3 : IntKind.i64.wrap (x.2 : Int) = x.2 := wrap64 (by omega) (by omega)
      have w4 : IntKind.i64.wrap ((x.1 : Int) + x.2) = ((x.1 + x.2 : Nat) : Int) := by rw [wrap64 (by omega) (by omega)]; omega
      have w5 : ¬ IntKind.u64.wrap ((b.length - x.1 : Nat) : Int) < (x.2 : Int) := by rw [u64_small _ (by omega)]; omega
      simp [he, hx1, hx2, w2, w3, w4, w5]
      refine ⟨⟨⟨by omega, by omega⟩, by omega⟩, ?_⟩
      refine eff_call ((Copied_spec (cut b x) _ w0 _ _ (by omega) ((h.sub hxo.2).mono hb3) s2).mono fun r w6 s6 => ?_)
      obtain ⟨ra, rc, rfl, _, _⟩ := s6.own_val
      simp
      refine eff_bsl1 s6 rfl fun d w7 s7 => ?_
      simp
      have s7 : St w0 (A * bss (vs ++ [.slice ra (cut b x).length rc]) (acc ++ [cut b x]) * own 3 1 bv acc.length (ints bi) * pt d (.cells #[.slice ra (cut b x).length rc] 31 (0, 0)) * own 31 1 lv acc.length vs) w7 := s7.to (by rw [bss_snoc _ _ _ _ hv]; ac_rfl)
      refine eff_app (m := 1) (news := [.slice ra (cut b x).length rc]) s7 rfl (by simpa using s7.swap.cells_look) (by simp [Value.oneCell']) (by decide) rfl (by unfold maxLen; omega) (by omega) fun v8 w8 s8 => ?_
      simp
      refine eff_bsl1 s8.swap.drop rfl fun d2 w9 s9 => ?_
      simp
      have s9 : St w0 (A * bss (vs ++ [.slice ra (cut b x).length rc]) (acc ++ [cut b x]) * own 31 1 v8 (acc.length + 1) (vs ++ [.slice ra (cut b x).length rc]) * pt d2 (.cells #[.int .i64 x.1] 3 (0, 0)) * own 3 1 bv acc.length (ints bi)) w9 := s9.to (by ac_rfl)
      refine eff_app (m := 1) (news := [.int .i64 x.1]) s9 rfl (by simpa using s9.swap.cells_look) (by simp [Value.oneCell']) (by decide) rfl (by unfold maxLen; omega) (by omega) fun v10 w10 s10 => ?_
      simp
      refine hN _ _ ⟨j, x.1 + x.2, v8, v10, _, _, _, _, acc ++ [cut b x], vs ++ [.slice ra (cut b x).length rc], bi ++ [(x.1 : Int)], by simp; exact ⟨rfl, rfl, rfl, rfl⟩, hS', by simp [hv], by simp [hbi], ?_⟩ (by simp [slotN]; omega)
      refine s10.swap.drop.to ?_
      simp only [List.length_append, List.length_singleton, ints, List.map_append, List.map_cons, List.map_nil]
      ac_rfl
    · by_cases he : (rs b at').2.2 = 0
      · have hok := rs_ok hle he
        have hbig : b.length - (rs b at').2.1 < (rs b at').1 := by
          rcases hbad with h | h
          · exact absurd he h
          · exact h
        have w2 : IntKind.i64.wrap ((b.length : Int) - (rs b at').2.1) = ((b.length - (rs b at').2.1 : Nat) : Int) := by rw [wrap64 (by omega) (by omega)]; omega
        have w5 : IntKind.u64.wrap ((b.length - (rs b at').2.1 : Nat) : Int) < ((rs b at').1 : Int) := by rw [u64_small _ (by omega)]; omega
        simp [he, w2, w5]
        refine hR _ _ ?_
        simp
        exact ⟨hS.bad c1 hp, _, 22, by decide, ⟨rfl, rfl⟩, s2.drop.drop.drop⟩
      · simp [he]
        refine hR _ _ ?_
        simp
        exact .inr ⟨hS.bad c1 hp, _, _, he, ⟨rfl, rfl⟩, s2.drop.drop.drop⟩
  · simp at c1
    simp
    refine hX _ _ _ ?_
    simp
    exact .inl ⟨acc, hS.last (by omega), vs, _, _, ⟨rfl, rfl⟩, hv, bi, hbi, s1⟩
theorem rf_one (x : Rf) (h : x.v.oneCell' = true) : ∀ u ∈ x.cs, u.oneCell' = true := by
  intro u hu
  simp only [Rf.cs, List.mem_cons, List.not_mem_nil, or_false] at hu
  rcases hu with rfl | rfl | rfl | rfl | rfl
  · rfl
  · exact h
  · rfl
  · rfl
  · rfl
abbrev rfA (lv : Value) (l : List Rf) (F : List (Int × List UInt8)) : Asn := own 100 5 lv l.length (rfflat l) * bss (l.map (·.v)) (F.map (·.2))
set_option maxHeartbeats 2000000 in
theorem rGet_spec (b : List UInt8) (v : Value) (w0 w : World) (A B : Asn) (hB : ∀ w, St w0 A w → St w0 B w) (hl : b.length ≤ 35184372088832) (h : BR w0 B v b) (s : St w0 A w) :
    CallW Try.prog 86 [v] (fun r w' => (∃ F l lv, prF b = some F ∧ r = .tuple #[lv, .int .i64 0, .int .i64 0] ∧ l.map (·.tag) = F.map (·.1) ∧ St w0 (A * rfA lv l F) w') ∨
      (prF b = none ∧ ∃ p e, e ≠ 0 ∧ r = .tuple #[.slice none 0 0, .int .i64 p, .int .i64 e] ∧ St w0 A w')) w := by
  obtain ⟨a, cap, rfl⟩ := h.val
  have hcap : b.length ≤ cap := by
    obtain ⟨_, _, _, hv, hn, _⟩ := h
    cases hv; exact hn
  refine callW_of_lift l86_ok (by simp [l86]) ?_
  simp [l86]
  refine cndI (fun c => ?_) (fun c => ?_)
  · simp at c
    simp
    exact ⟨by unfold prF; rw [if_pos (by omega)], _, 3, by decide, ⟨rfl, rfl⟩, s⟩
  simp at c
  simp
  refine loopI (fun env w' => ∃ (k at' : Nat) (last : Int) (lv o7 o8 o9 o10 o11 : Value) (acc : List (Int × List UInt8)) (l : List Rf), env = [.slice a b.length cap, .slice none 0 0, .int .i64 0, .int .i64 0, lv, .int .i64 last, .int .i64 at', o7, o8, o9, o10, o11] ∧ PrS b k last at' acc ∧ l.map (·.tag) = acc.map (·.1) ∧ St w0 (A * rfA lv l acc) w')
    (fun env _ => b.length - slotN env 6) ⟨_, 0, 0, _, _, _, _, _, _, [], [], rfl, PrS.start (by omega), rfl, ?_⟩ ?_
  · have := s.own_nil 100 5
    have e : bss ([] : List Value) [] = emp := rfl
    simp only [rfA, List.map_nil, e, sep_emp]; exact this
  rintro LQ env w' ⟨k, at', last, lv, o7, o8, o9, o10, o11, acc, l, rfl, hS, ht, s1⟩ hN hX hR
  have hle := hS.le
  have hnum := hS.num
  have hpos := hS.pos
  have hpl : l.length = acc.length := by simpa using congrArg List.length ht
  have hb1 : ∀ w, St w0 (A * rfA lv l acc) w → St w0 B w := fun w s => hB w s.drop
  simp
  refine cndI (fun c1 => ?_) (fun c1 => ?_)
  · simp at c1
    obtain ⟨g, o, cap', hv, hcell⟩ := h.at (by omega)
    cases hv
    obtain ⟨cb, hcb⟩ : ∃ cb, b[at'] = cb := ⟨_, rfl⟩
    have hc256 := toNat_lt cb
    simp [c1]
    refine eff_ldc (v := .int .u8 cb.toNat) (by have := hcell w' (hB _ s1.drop) at' (.int .u8 cb.toNat) (by rw [bytesV_at]; simp [c1, hcb]); simpa using this) ?_
    have w2 : IntKind.i64.wrap ((cb.toNat : Nat) : Int) = (cb.toNat : Int) := wrap64 (by omega) (by omega)
    simp [w2]
    refine cndI (fun c2 => ?_) (fun c2 => ?_)
    · simp at c2
      simp
      refine hR _ _ ?_
      simp
      exact ⟨hS.low c1 (by rw [hcb]; omega), _, 21, by decide, ⟨rfl, rfl⟩, s1.drop⟩
    simp at c2
    have w4 : IntKind.i64.wrap ((at' : Int) + 1) = ((at' + 1 : Nat) : Int) := by rw [wrap64 (by omega) (by omega)]; omega
    simp [w4]
    have e1 : ((at' : Int) + 1) = ((at' + 1 : Nat) : Int) := by omega
    rw [e1]
    refine eff_call ((rReadShort_spec b _ (at' + 1) w0 w' _ (by omega) (by omega) (h.mono hb1) s1).mono ?_)
    rintro r w3 ⟨rfl, s2⟩
    simp
    rcases rs_cases (b := b) (a := at' + 1) with ⟨hp, he, hn⟩ | ⟨hp, hbad⟩
    · have hxo := piF_ok (by omega) hp
      obtain ⟨x, hx⟩ : ∃ x, ((rs b (at' + 1)).2.1, (rs b (at' + 1)).1) = x := ⟨_, rfl⟩
      have hx1 : (rs b (at' + 1)).2.1 = x.1 := by rw [← hx]
      have hx2 : (rs b (at' + 1)).1 = x.2 := by rw [← hx]
      rw [hx] at hp hxo
      rw [hx1, hx2] at hn
      have hcl := cut_len hxo.2
      simp [he, hx1, hx2]
      by_cases h0 : x.2 = 0
      · simp [h0, w4]
        refine hR _ _ ?_
        simp
        exact ⟨hS.empty c1 hp h0, _, 20, by decide, ⟨rfl, rfl⟩, s2.drop⟩
      obtain ⟨j, hS'⟩ := hS.more c1 (by rw [hcb]; omega) hp h0
      rw [hcb] at hS'
      have w2 : IntKind.i64.wrap ((b.length : Int) - x.1) = ((b.length - x.1 : Nat) : Int) := by rw [wrap64 (by omega) (by omega)]; omega
      have w3 : IntKind.i64.wrap (x.2 : Int) = x.2 := wrap64 (by omega) (by omega)
      have w6 : IntKind.i64.wrap ((x.1 : Int) + x.2) = ((x.1 + x.2 : Nat) : Int) := by rw [wrap64 (by omega) (by omega)]; omega
      have w5 : ¬ IntKind.u64.wrap ((b.length - x.1 : Nat) : Int) < (x.2 : Int) := by rw [u64_small _ (by omega)]; omega
      simp [h0, w2, w3, w6, w5]
      refine ⟨⟨⟨by omega, by omega⟩, by omega⟩, ?_⟩
      have hsub := (h.sub hxo.2).mono hb1
      simp at hsub
      refine eff_call ((Copied_spec (cut b x) _ w0 _ _ (by omega) hsub s2).mono fun r w6 s6 => ?_)
      obtain ⟨ra, rc, rfl, _, _⟩ := s6.own_val
      simp [Instr.fill, Value.cells]
      refine eff_bslV (v := .agg (Rf.cs ⟨cb.toNat, .slice ra (cut b x).length rc, at', x.1, false⟩).toArray) s6 rfl fun d w7 s7 => ?_
      simp
      have s7 : St w0 (A * bss ((l ++ [(⟨cb.toNat, .slice ra (cut b x).length rc, at', x.1, false⟩ : Rf)]).map (·.v)) ((acc ++ [((cb.toNat : Int), cut b x)]).map (·.2)) * pt d (.cells (Rf.cs ⟨cb.toNat, .slice ra (cut b x).length rc, at', x.1, false⟩).toArray 100 (0, 0)) * own 100 5 lv l.length (rfflat l)) w7 := s7.to (by
        simp only [List.map_append, List.map_cons, List.map_nil, rfA]
        rw [bss_snoc _ _ _ _ (by simp [hpl])]; ac_rfl)
      refine eff_app (m := 1) (news := Rf.cs ⟨cb.toNat, .slice ra (cut b x).length rc, at', x.1, false⟩) s7 rfl (by simpa using s7.swap.cells_look) (rf_one _ rfl) (by decide) rfl (by unfold maxLen; omega) (by omega) fun v8 w8 s8 => ?_
      simp
      refine hN _ _ ⟨j, x.1 + x.2, cb.toNat, v8, _, _, _, _, _, acc ++ [((cb.toNat : Int), cut b x)], l ++ [(⟨cb.toNat, .slice ra (cut b x).length rc, at', x.1, false⟩ : Rf)], by simp; exact ⟨rfl, rfl, rfl, rfl, rfl⟩, hS', by simp [ht], ?_⟩ (by simp [slotN]; omega)
      refine s8.swap.drop.to ?_
      simp only [rfA, List.length_append, List.length_singleton, rfflat, List.flatMap_append, List.flatMap_cons, List.flatMap_nil, List.append_nil]
      ac_rfl
    · by_cases he : (rs b (at' + 1)).2.2 = 0
      · have hok := rs_ok (show at' + 1 ≤ b.length by omega) he
        have hbig : b.length - (rs b (at' + 1)).2.1 < (rs b (at' + 1)).1 := by
          rcases hbad with h | h
          · exact absurd he h
          · exact h
        have w2 : IntKind.i64.wrap ((b.length : Int) - (rs b (at' + 1)).2.1) = ((b.length - (rs b (at' + 1)).2.1 : Nat) : Int) := by rw [wrap64 (by omega) (by omega)]; omega
        have w5 : IntKind.u64.wrap ((b.length - (rs b (at' + 1)).2.1 : Nat) : Int) < ((rs b (at' + 1)).1 : Int) := by rw [u64_small _ (by omega)]; omega
        have h0 : ¬ (rs b (at' + 1)).1 = 0 := by omega
        simp [he, w2, w5, h0]
        refine hR _ _ ?_
        simp
        exact ⟨hS.bad c1 hp, _, 22, by decide, ⟨rfl, rfl⟩, s2.drop⟩
      · simp [he, w4]
        refine hR _ _ ?_
        simp
        exact .inr ⟨hS.bad c1 hp, _, _, he, ⟨rfl, rfl⟩, s2.drop⟩
  · simp at c1
    simp
    refine hX _ _ _ ?_
    simp
    exact .inl ⟨acc, hS.last' (by omega), l, ht, s1⟩
end Go.HL.Tl

namespace Go.HL.Tl
open Go.HL Go.Proofs
set_option maxRecDepth 4000
set_option linter.unusedSimpArgs false
set_option linter.unusedVariables false
theorem eff_max {P : Program} {K : Value → World → Prop} {w : World} {ats : Array TypeId} {ty : TypeId} {cs : Array Bool} {x y : Int} (hk : K (.int .i64 (if x < y then y else x)) w) : EffW P (.bi .max ats ty cs) [.int .i64 x, .int .i64 y] K w := by
  intro _
  refine upon_val (s := Builtin.max_ ats ty #[.int .i64 x, .int .i64 y]) ?_ hk
  simp [Builtin.max_, Builtin.max2]
def fltA (t q : Nat) (bad : Bool) : Asn := fun h => ∃ pl e : Int, (e ≠ 0 ↔ bad = true) ∧ pt q (.cells #[.int .i64 pl, .int .i64 e] t (0, 0)) h
theorem fopen {w0 w : World} {A : Asn} {t q : Nat} {bad : Bool} (h : St w0 (A * fltA t q bad) w) : ∃ pl e : Int, (e ≠ 0 ↔ bad = true) ∧ St w0 (A * pt q (.cells #[.int .i64 pl, .int .i64 e] t (0, 0))) w := by
  obtain ⟨g, h1, h2, h3, d, e', a, pl, e, hb, b⟩ := h.holds
  exact ⟨pl, e, hb, h.of ⟨g, h1, h2, h3, d, e', a, b⟩⟩
theorem fclose {w0 w : World} {A : Asn} {t q : Nat} {bad : Bool} {pl e : Int} (hb : e ≠ 0 ↔ bad = true) (h : St w0 (A * pt q (.cells #[.int .i64 pl, .int .i64 e] t (0, 0))) w) : St w0 (A * fltA t q bad) w :=
  h.mono (sep_mono (fun _ h => h) fun h hh => ⟨pl, e, hb, hh⟩)
abbrev rpt (r q : Nat) (base : Int) (lv : Value) : Asn := pt r (.cells #[.pointer (some ⟨q, 0, none⟩), .int .i64 base, lv] 123 (0, 0))
def rdA (r q : Nat) (l : List (Nat × Pf)) : Asn := fun h => ∃ base lv, (rpt r q base lv * own 114 1 lv l.length (ptrs l) * ptsA l) h
theorem ropen {w0 w : World} {A : Asn} {r q : Nat} {l : List (Nat × Pf)} (h : St w0 (A * rdA r q l) w) : ∃ base lv, St w0 (A * rpt r q base lv * own 114 1 lv l.length (ptrs l) * ptsA l) w := by
  obtain ⟨g, h1, h2, h3, d, e, a, base, lv, b⟩ := h.holds
  refine ⟨base, lv, ?_⟩
  have : St w0 (A * (rpt r q base lv * own 114 1 lv l.length (ptrs l) * ptsA l)) w := h.of ⟨g, h1, h2, h3, d, e, a, b⟩
  exact this.to (by ac_rfl)
theorem rclose {w0 w : World} {A : Asn} {r q : Nat} {base : Int} {lv : Value} {l : List (Nat × Pf)} (h : St w0 (A * rpt r q base lv * own 114 1 lv l.length (ptrs l) * ptsA l) w) : St w0 (A * rdA r q l) w := by
  have h : St w0 (A * (rpt r q base lv * own 114 1 lv l.length (ptrs l) * ptsA l)) w := h.to (by ac_rfl)
  exact h.mono (sep_mono (fun _ h => h) fun h hh => ⟨base, lv, hh⟩)
abbrev flt (q : Nat) (bad : Bool) : Asn := fltA 113 q bad

def h75_0 : HC := (.reg (.chk none .chkp (.cons (.inp 0) .nil) (.chk none (.fld 0) (.cons (.op .chkp (.cons (.inp 0) .nil)) .nil) (.eff (.st 1) (.cons (.op (.fld 0) (.cons (.op .chkp (.cons (.inp 0) .nil)) .nil)) (.cons (.inp 1) .nil)) (.chk none .chkp (.cons (.inp 0) .nil) (.chk none (.fld 1) (.cons (.op .chkp (.cons (.inp 0) .nil)) .nil) (.eff (.st 1) (.cons (.op (.fld 1) (.cons (.op .chkp (.cons (.inp 0) .nil)) .nil)) (.cons (.inp 2) .nil)) (.done [] none))))))))
@[simp] theorem h75_0_wp : type_of% (@wpH h75_0 _ h75_0.eq_1) := wpH h75_0.eq_1
def l75 : Lifted := ⟨[0, 1, 2], 19, [], (.br (.chk none .chkp (.cons (.inp 0) .nil) (.chk none (.fld 1) (.cons (.op .chkp (.cons (.inp 0) .nil)) .nil) (.eff (.ld false 1) (.cons (.op (.fld 1) (.cons (.op .chkp (.cons (.inp 0) .nil)) .nil)) .nil) (.chk none (.bin .eql) (.cons (.bv 0) (.cons (.cst (.int .i64 0)) .nil)) (.done [] (some (.op (.bin .eql) (.cons (.bv 0) (.cons (.cst (.int .i64 0)) .nil))))))))) h75_0 .skip)⟩
theorem l75_ok : liftFn T0 75 400 = some l75 := by kernel_rfl

def h71_0 : HC := (.seq (.reg (.done [(3, (.inp 4))] none)) .ret)
@[simp] theorem h71_0_wp : type_of% (@wpH h71_0 _ h71_0.eq_1) := wpH h71_0.eq_1
def h71_1 : HC := (.seq (.reg (.chk none .chkp (.cons (.inp 4) .nil) (.chk none (.fld 2) (.cons (.op .chkp (.cons (.inp 4) .nil)) .nil) (.eff (.st 1) (.cons (.op (.fld 2) (.cons (.op .chkp (.cons (.inp 4) .nil)) .nil)) (.cons (.inp 5) .nil)) (.done [] none))))) h71_0)
@[simp] theorem h71_1_wp : type_of% (@wpH h71_1 _ h71_1.eq_1) := wpH h71_1.eq_1
def h71_2 : HC := (.seq (.reg (.done [(3, (.inp 4))] none)) .ret)
@[simp] theorem h71_2_wp : type_of% (@wpH h71_2 _ h71_2.eq_1) := wpH h71_2.eq_1
def h71_3 : HC := (.seq (.reg (.chk none (.bin .add) (.cons (.inp 1) (.cons (.inp 6) .nil)) (.eff (.call 75) (.cons (.inp 0) (.cons (.op (.bin .add) (.cons (.inp 1) (.cons (.inp 6) .nil))) (.cons (.inp 7) .nil))) (.done [] none)))) h71_2)
@[simp] theorem h71_3_wp : type_of% (@wpH h71_3 _ h71_3.eq_1) := wpH h71_3.eq_1
def h71_4 : HC := (.seq (.br (.chk none (.bin .neq) (.cons (.inp 7) (.cons (.cst (.int .i64 0)) .nil)) (.done [] (some (.op (.bin .neq) (.cons (.inp 7) (.cons (.cst (.int .i64 0)) .nil)))))) h71_3 .skip) h71_1)
@[simp] theorem h71_4_wp : type_of% (@wpH h71_4 _ h71_4.eq_1) := wpH h71_4.eq_1
def h71_5 : HC := (.seq (.reg (.eff (.call 89) (.cons (.inp 2) .nil) (.chk none (.ext 0) (.cons (.bv 0) .nil) (.chk none (.ext 1) (.cons (.bv 0) .nil) (.chk none (.ext 2) (.cons (.bv 0) .nil) (.done [(5, (.op (.ext 0) (.cons (.bv 0) .nil))), (6, (.op (.ext 1) (.cons (.bv 0) .nil))), (7, (.op (.ext 2) (.cons (.bv 0) .nil)))] none)))))) h71_4)
@[simp] theorem h71_5_wp : type_of% (@wpH h71_5 _ h71_5.eq_1) := wpH h71_5.eq_1
def h71_6 : HC := (.seq (.reg (.done [(3, (.inp 4))] none)) .ret)
@[simp] theorem h71_6_wp : type_of% (@wpH h71_6 _ h71_6.eq_1) := wpH h71_6.eq_1
def h71_7 : HC := (.seq (.br (.chk none .chkp (.cons (.inp 0) .nil) (.chk none (.fld 1) (.cons (.op .chkp (.cons (.inp 0) .nil)) .nil) (.eff (.ld false 1) (.cons (.op (.fld 1) (.cons (.op .chkp (.cons (.inp 0) .nil)) .nil)) .nil) (.chk none (.bin .neq) (.cons (.bv 0) (.cons (.cst (.int .i64 0)) .nil)) (.done [] (some (.op (.bin .neq) (.cons (.bv 0) (.cons (.cst (.int .i64 0)) .nil))))))))) h71_6 .skip) h71_5)
@[simp] theorem h71_7_wp : type_of% (@wpH h71_7 _ h71_7.eq_1) := wpH h71_7.eq_1
def h71_8 : HC := (.seq (.reg (.chk none (.build #[(.pointer none), (.int .i64 0), (.slice none 0 0)] [(0, 1), (1, 1), (2, 1)] [0, 1]) (.cons (.inp 0) (.cons (.inp 1) .nil)) (.eff (.box 123) (.cons (.op (.build #[(.pointer none), (.int .i64 0), (.slice none 0 0)] [(0, 1), (1, 1), (2, 1)] [0, 1]) (.cons (.inp 0) (.cons (.inp 1) .nil))) .nil) (.done [(4, (.bv 0))] none)))) h71_7)
@[simp] theorem h71_8_wp : type_of% (@wpH h71_8 _ h71_8.eq_1) := wpH h71_8.eq_1
def l71 : Lifted := ⟨[0, 1, 2, 6, 7, 8, 9, 10], 41, [.slot 3], (.seq (.reg (.done [(3, (.cst (.pointer none)))] none)) h71_8)⟩
theorem l71_ok : liftFn T0 71 400 = some l71 := by kernel_rfl

def h42_0 : HC := (.seq (.reg (.chk none (.build #[(.int .i64 0), (.int .i64 0)] [(0, 1), (1, 1)] []) .nil (.eff (.box 113) (.cons (.op (.build #[(.int .i64 0), (.int .i64 0)] [(0, 1), (1, 1)] []) .nil) .nil) (.eff (.call 63) (.cons (.inp 0) .nil) (.eff (.call 71) (.cons (.bv 0) (.cons (.cst (.int .i64 0)) (.cons (.bv 1) .nil))) (.done [(1, (.bv 2))] none)))))) .ret)
@[simp] theorem h42_0_wp : type_of% (@wpH h42_0 _ h42_0.eq_1) := wpH h42_0.eq_1
def l42 : Lifted := ⟨[0, 2], 8, [.slot 1], (.seq (.reg (.done [(1, (.cst (.pointer none)))] none)) h42_0)⟩
theorem l42_ok : liftFn T0 42 400 = some l42 := by kernel_rfl

def h77_0 : HC := (.seq (.reg (.chk none (.eqNil false (.pointer 123) (.pointer none)) (.cons (.inp 0) .nil) (.bnd (.op (.eqNil false (.pointer 123) (.pointer none)) (.cons (.inp 0) .nil)) (.chk (some ((.bv 0), false)) .chkp (.cons (.inp 0) .nil) (.chk (some ((.bv 0), false)) (.fld 0) (.cons (.op .chkp (.cons (.inp 0) .nil)) .nil) (.ite (.bv 0) false (.eff (.ld false 1) (.cons (.ite (.bv 0) false (.op (.fld 0) (.cons (.op .chkp (.cons (.inp 0) .nil)) .nil)) (.cst (.tuple #[]))) .nil) (.chk none (.eqNil false (.pointer 113) (.pointer none)) (.cons (.bv 1) .nil) (.isb none (.bv 0) (.done [(1, (.op (.eqNil false (.pointer 113) (.pointer none)) (.cons (.bv 1) .nil)))] none)))) (.isb none (.bv 0) (.done [(1, (.cst (.bool true)))] none)))))))) .ret)
@[simp] theorem h77_0_wp : type_of% (@wpH h77_0 _ h77_0.eq_1) := wpH h77_0.eq_1
def l77 : Lifted := ⟨[0, 2], 12, [.slot 1], (.seq (.reg (.done [(1, (.cst (.bool false)))] none)) h77_0)⟩
theorem l77_ok : liftFn T0 77 400 = some l77 := by kernel_rfl

def h73_0 : HC := (.seq (.reg (.done [(2, (.cst (.pointer none)))] none)) .ret)
@[simp] theorem h73_0_wp : type_of% (@wpH h73_0 _ h73_0.eq_1) := wpH h73_0.eq_1
def h73_1 : HC := (.reg (.chk none (.bin .add) (.cons (.inp 6) (.cons (.cst (.int .i64 1)) .nil)) (.done [(6, (.op (.bin .add) (.cons (.inp 6) (.cons (.cst (.int .i64 1)) .nil))))] none)))
@[simp] theorem h73_1_wp : type_of% (@wpH h73_1 _ h73_1.eq_1) := wpH h73_1.eq_1
def h73_2 : HC := (.seq (.reg (.done [(2, (.inp 3))] none)) .ret)
@[simp] theorem h73_2_wp : type_of% (@wpH h73_2 _ h73_2.eq_1) := wpH h73_2.eq_1
def h73_3 : HC := (.seq (.reg (.chk none .chkp (.cons (.inp 3) .nil) (.chk none (.fld 4) (.cons (.op .chkp (.cons (.inp 3) .nil)) .nil) (.eff (.st 1) (.cons (.op (.fld 4) (.cons (.op .chkp (.cons (.inp 3) .nil)) .nil)) (.cons (.cst (.bool true)) .nil)) (.done [] none))))) h73_2)
@[simp] theorem h73_3_wp : type_of% (@wpH h73_3 _ h73_3.eq_1) := wpH h73_3.eq_1
def h73_4 : HC := (.br (.chk none .chkp (.cons (.inp 3) .nil) (.chk none (.fld 0) (.cons (.op .chkp (.cons (.inp 3) .nil)) .nil) (.eff (.ld false 1) (.cons (.op (.fld 0) (.cons (.op .chkp (.cons (.inp 3) .nil)) .nil)) .nil) (.chk none (.bin .eql) (.cons (.bv 0) (.cons (.inp 1) .nil)) (.done [] (some (.op (.bin .eql) (.cons (.bv 0) (.cons (.inp 1) .nil))))))))) h73_3 .skip)
@[simp] theorem h73_4_wp : type_of% (@wpH h73_4 _ h73_4.eq_1) := wpH h73_4.eq_1
def h73_5 : HC := (.seq (.reg (.chk none (.idxL 1) (.cons (.inp 4) (.cons (.inp 6) .nil)) (.eff (.ld false 1) (.cons (.op (.idxL 1) (.cons (.inp 4) (.cons (.inp 6) .nil))) .nil) (.done [(3, (.bv 0))] none)))) h73_4)
@[simp] theorem h73_5_wp : type_of% (@wpH h73_5 _ h73_5.eq_1) := wpH h73_5.eq_1
def h73_6 : HC := (.seq (.block 1 h73_5) h73_1)
@[simp] theorem h73_6_wp : type_of% (@wpH h73_6 _ h73_6.eq_1) := wpH h73_6.eq_1
def h73_7 : HC := (.seq (.br (.chk none (.bin .lss) (.cons (.inp 6) (.cons (.inp 5) .nil)) (.done [] (some (.op (.bin .lss) (.cons (.inp 6) (.cons (.inp 5) .nil)))))) .skip (.exit 0)) h73_6)
@[simp] theorem h73_7_wp : type_of% (@wpH h73_7 _ h73_7.eq_1) := wpH h73_7.eq_1
def h73_8 : HC := (.loop h73_7)
@[simp] theorem h73_8_wp : type_of% (@wpH h73_8 _ h73_8.eq_1) := wpH h73_8.eq_1
def h73_9 : HC := (.seq (.block 0 h73_8) h73_0)
@[simp] theorem h73_9_wp : type_of% (@wpH h73_9 _ h73_9.eq_1) := wpH h73_9.eq_1
def h73_10 : HC := (.seq (.reg (.chk none .chkp (.cons (.inp 0) .nil) (.chk none (.fld 2) (.cons (.op .chkp (.cons (.inp 0) .nil)) .nil) (.eff (.ld false 1) (.cons (.op (.fld 2) (.cons (.op .chkp (.cons (.inp 0) .nil)) .nil)) .nil) (.chk none .lenL (.cons (.bv 0) .nil) (.done [(4, (.bv 0)), (5, (.op .lenL (.cons (.bv 0) .nil))), (6, (.cst (.int .i64 0)))] none)))))) h73_9)
@[simp] theorem h73_10_wp : type_of% (@wpH h73_10 _ h73_10.eq_1) := wpH h73_10.eq_1
def h73_11 : HC := (.seq (.reg (.done [(2, (.cst (.pointer none)))] none)) .ret)
@[simp] theorem h73_11_wp : type_of% (@wpH h73_11 _ h73_11.eq_1) := wpH h73_11.eq_1
def h73_12 : HC := (.seq (.br (.eff (.call 77) (.cons (.inp 0) .nil) (.chk (some ((.bv 0), false)) .chkp (.cons (.inp 0) .nil) (.chk (some ((.bv 0), false)) (.fld 0) (.cons (.op .chkp (.cons (.inp 0) .nil)) .nil) (.ite (.bv 0) false (.eff (.ld false 1) (.cons (.ite (.bv 0) false (.op (.fld 0) (.cons (.op .chkp (.cons (.inp 0) .nil)) .nil)) (.cst (.tuple #[]))) .nil) (.chk none .chkp (.cons (.bv 1) .nil) (.chk none (.fld 1) (.cons (.op .chkp (.cons (.bv 1) .nil)) .nil) (.eff (.ld false 1) (.cons (.op (.fld 1) (.cons (.op .chkp (.cons (.bv 1) .nil)) .nil)) .nil) (.chk none (.bin .neq) (.cons (.bv 2) (.cons (.cst (.int .i64 0)) .nil)) (.isb none (.bv 0) (.done [] (some (.op (.bin .neq) (.cons (.bv 2) (.cons (.cst (.int .i64 0)) .nil))))))))))) (.isb none (.bv 0) (.done [] (some (.cst (.bool true))))))))) h73_11 .skip) h73_10)
@[simp] theorem h73_12_wp : type_of% (@wpH h73_12 _ h73_12.eq_1) := wpH h73_12.eq_1
def l73 : Lifted := ⟨[0, 1, 4, 6, 22, 23, 24], 39, [.slot 2], (.seq (.reg (.done [(2, (.cst (.pointer none)))] none)) h73_12)⟩
theorem l73_ok : liftFn T0 73 400 = some l73 := by kernel_rfl
theorem wrong_spec (q : Nat) (bad : Bool) (p e : Int) (w0 w : World) (A : Asn) (he : e ≠ 0) (s : St w0 (A * flt q bad) w) :
    CallW Try.prog 75 [.pointer (some ⟨q, 0, none⟩), .int .i64 p, .int .i64 e] (fun r w' => St w0 (A * flt q true) w') w := by
  obtain ⟨pl, e0, hb, s1⟩ := fopen s
  refine callW_of_lift l75_ok (by simp [l75]) ?_
  simp [l75]
  refine eff_ldc (v := .int .i64 e0) ((cell_of s1.look).trans rfl) ?_
  simp
  refine cndI (fun c => ?_) (fun c => ?_)
  · simp at c
    simp
    refine eff_st1 s1 rfl (by simp) fun w2 s2 => ?_
    simp at s2 ⊢
    refine eff_st1 s2 rfl (by simp) fun w3 s3 => ?_
    simp at s3 ⊢
    exact fclose (by simp [he]) s3
  · simp at c
    simp
    exact fclose (by simp [c]) s1
def rdF (bad : Bool) (b : List UInt8) : Bool × List (Int × List UInt8) := if bad then (true, []) else match prF b with
  | none => (true, [])
  | some F => (false, F)
theorem read_spec (q : Nat) (bad : Bool) (base : Int) (b : List UInt8) (v : Value) (w0 w : World) (A B : Asn) (hB : ∀ w, St w0 A w → St w0 B w) (hl : b.length ≤ 35184372088832) (h : BR w0 B v b) (s : St w0 (A * flt q bad) w) :
    CallW Try.prog 71 [.pointer (some ⟨q, 0, none⟩), .int .i64 base, v] (fun r w' => ∃ p l, r = .pointer (some ⟨p, 0, none⟩) ∧ PV w0 B l (rdF bad b).2 ∧ St w0 (A * flt q (rdF bad b).1 * rdA p q l) w') w := by
  obtain ⟨a, cap, rfl⟩ := h.val
  refine callW_of_lift l71_ok (by simp [l71]) ?_
  simp [l71, Instr.fill, Value.cells]
  refine eff_box s fun p w1 s1 => ?_
  simp
  have s1 : St w0 (A * flt q bad * rpt p q base (.slice none 0 0)) w1 := s1
  have close : ∀ {X : Asn} {w : World}, St w0 (X * rpt p q base (.slice none 0 0)) w → St w0 (X * rdA p q []) w := fun h => by
    refine rclose (base := base) (lv := .slice none 0 0) ?_
    have := h.own_nil 114 1
    have e : ptsA [] = emp := rfl
    rw [e, sep_emp]; exact this
  obtain ⟨pl, e0, hb, s2⟩ := fopen s1.swap
  refine eff_ldc (v := .int .i64 e0) ((cell_of s2.look).trans rfl) ?_
  simp
  refine cndI (fun c => ?_) (fun c => ?_)
  · simp at c
    have hbad : bad = true := hb.1 c
    simp [rdF, hbad]
    subst hbad
    exact ⟨_, PV.nil, close s1⟩
  simp at c
  have hbad : bad = false := by cases bad with
    | false => rfl
    | true => exact absurd c (hb.2 rfl)
  subst hbad
  simp
  refine eff_call ((parts_spec b _ w0 w1 _ B (fun w s => hB w s.drop.drop) hl h s1).mono ?_)
  rintro r w3 (⟨F, l, lv, hF, rfl, hP, s3⟩ | ⟨hF, pl2, e2, he2, rfl, s3⟩)
  · simp
    have s4 : St w0 (A * flt q false * own 114 1 lv l.length (ptrs l) * ptsA l * rpt p q base (.slice none 0 0)) w3 := s3.to (by ac_rfl)
    obtain ⟨la, lc, rfl, _⟩ := s4.drop.drop.own_val
    refine eff_st1 s4 rfl (by simp) fun w4 s5 => ?_
    simp at s5 ⊢
    refine ⟨l, by simp [rdF, hF]; exact hP, ?_⟩
    simp only [rdF, hF]
    exact rclose (base := base) (lv := .slice la l.length lc) (s5.to (by ac_rfl))
  · simp [he2]
    refine eff_call ((wrong_spec q false _ e2 w0 w3 (A * rpt p q base (.slice none 0 0)) he2 s3.swap).mono fun r w4 s4 => ?_)
    simp
    refine ⟨[], by simp [rdF, hF]; exact PV.nil, ?_⟩
    simp only [rdF, hF]
    exact close s4.swap
theorem NewReader_spec (b : List UInt8) (v : Value) (w0 w : World) (A : Asn) (hl : b.length ≤ 35184372088832) (h : BR w0 A v b) (s : St w0 A w) :
    CallW Try.prog 42 [v] (fun r w' => ∃ p q l vb, r = .pointer (some ⟨p, 0, none⟩) ∧ PV w0 (A * byA vb b) l (rdF false b).2 ∧ St w0 (A * byA vb b * flt q (rdF false b).1 * rdA p q l) w') w := by
  obtain ⟨a, cap, rfl⟩ := h.val
  refine callW_of_lift l42_ok (by simp [l42]) ?_
  simp [l42, Instr.fill, Value.cells]
  refine eff_box s fun q w1 s1 => ?_
  simp
  refine eff_call ((own_spec b _ w0 w1 _ hl (h.mono fun w s => s.drop) s1).mono fun vb w2 s2 => ?_)
  simp
  have s3 : St w0 (A * byA vb b * flt q false) w2 := fclose (pl := 0) (e := 0) (by simp) s2.swap
  refine eff_call ((read_spec q false 0 b vb w0 w2 _ (A * byA vb b) (fun w s => s) hl (by_row s3.drop) s3).mono ?_)
  rintro r w3 ⟨p, l, rfl, hP, s4⟩
  simp
  exact ⟨_, l, _, hP, s4⟩
end Go.HL.Tl

namespace Go.HL.Tl
open Go.HL Go.Proofs
set_option maxRecDepth 4000
set_option linter.unusedSimpArgs false
set_option linter.unusedVariables false
theorem none_spec (r q : Nat) (l : List (Nat × Pf)) (w0 w : World) (A : Asn) (s : St w0 (A * rdA r q l) w) :
    CallW Try.prog 77 [.pointer (some ⟨r, 0, none⟩)] (fun v w' => v = .bool false ∧ St w0 (A * rdA r q l) w') w := by
  obtain ⟨base, lv, s1⟩ := ropen s
  refine callW_of_lift l77_ok (by simp [l77]) ?_
  simp [l77]
  refine eff_ldc (v := .pointer (some ⟨q, 0, none⟩)) ((cell_of s1.drop.drop.look).trans rfl) ?_
  simp
  exact s
def fiF : List (Int × List UInt8) → Int → Option (List UInt8)
  | [], _ => none
  | x :: t, tag => if x.1 = tag then some x.2 else fiF t tag
def valF (bad : Bool) (F : List (Int × List UInt8)) (tag : Int) : Option (List UInt8) := if bad then none else fiF F tag
theorem fiF_hit {F : List (Int × List UInt8)} {tag : Int} : ∀ {i : Nat} (h : i < F.length), fiF F tag = fiF (F.drop i) tag → F[i].1 = tag → fiF F tag = some F[i].2 := fun {i} h e ht => by
  rw [e, List.drop_eq_getElem_cons h]; simp [fiF, ht]
theorem fiF_step {F : List (Int × List UInt8)} {tag : Int} {i : Nat} (h : i < F.length) (e : fiF F tag = fiF (F.drop i) tag) (ht : ¬ F[i].1 = tag) : fiF F tag = fiF (F.drop (i + 1)) tag := by
  rw [e, List.drop_eq_getElem_cons h]; simp [fiF, ht]
theorem PV.set {w0 : World} {B : Asn} {l : List (Nat × Pf)} {F : List (Int × List UInt8)} (h : PV w0 B l F) {i : Nat} (hi : i < l.length) {y : Nat × Pf} (ht : y.2.tag = l[i].2.tag) (hv : y.2.v = l[i].2.v) : PV w0 B (l.set i y) F := by
  obtain ⟨hl, h⟩ := h
  refine ⟨by simp [hl], fun j h1 h2 => ?_⟩
  by_cases e : i = j
  · subst e
    rw [List.getElem_set_self]
    rw [ht, hv]
    exact h i hi h2
  · rw [List.getElem_set_ne e]
    exact h j (by simpa using h1) h2
theorem pts_cells {w0 w : World} {A : Asn} {l : List (Nat × Pf)} {i : Nat} (hi : i < l.length) (s : St w0 (A * ptsA l) w) : ∀ j u, (l[i].2.cs)[j]? = some u → w.cell? ⟨l[i].1, j, none⟩ = some u := by
  obtain ⟨R, hR, _⟩ := ptsA_at l i hi
  have s1 : St w0 (A * R * pfA l[i].1 l[i].2) w := s.to (by rw [hR, sep_assoc])
  intro j u hu
  have := s1.row_cells j u hu
  simpa using this
def FieldPost (w0 : World) (A B : Asn) (r q : Nat) (bad : Bool) (F : List (Int × List UInt8)) (tag : Int) (v : Value) (w' : World) : Prop :=
  (∃ l, valF bad F tag = none ∧ v = .pointer none ∧ PV w0 B l F ∧ St w0 (A * flt q bad * rdA r q l) w') ∨
  (∃ l i, ∃ (hi : i < l.length), ∃ x, valF bad F tag = some x ∧ v = .pointer (some ⟨l[i].1, 0, none⟩) ∧ PV w0 B l F ∧ BR w0 B l[i].2.v x ∧ bad = false ∧ St w0 (A * flt q bad * rdA r q l) w')
theorem field_rspec (r q : Nat) (bad : Bool) (l : List (Nat × Pf)) (F : List (Int × List UInt8)) (tag : Int) (w0 w : World) (A B : Asn) (hn : F.length ≤ 35184372088832) (hP : PV w0 B l F) (s : St w0 (A * flt q bad * rdA r q l) w) :
    CallW Try.prog 73 [.pointer (some ⟨r, 0, none⟩), .int .i64 tag] (FieldPost w0 A B r q bad F tag) w := by
  have hlen := hP.1
  refine callW_of_lift l73_ok (by simp [l73]) ?_
  simp [l73]
  refine eff_call ((none_spec r q l w0 w _ s).mono ?_)
  rintro _ w1 ⟨rfl, s1⟩
  obtain ⟨base, lv, s2⟩ := ropen s1
  simp
  refine eff_ldc (v := .pointer (some ⟨q, 0, none⟩)) ((cell_of s2.drop.drop.look).trans rfl) ?_
  simp
  obtain ⟨pl, e, hb, s3⟩ := fopen (s2.to (B := A * rpt r q base lv * own 114 1 lv l.length (ptrs l) * ptsA l * flt q bad) (by ac_rfl))
  refine eff_ldc (v := .int .i64 e) ((cell_of s3.look).trans rfl) ?_
  simp
  refine cndI (fun c => ?_) (fun c => ?_)
  · simp at c
    simp
    have hbad : bad = true := hb.1 c
    exact .inl ⟨l, by simp [valF, hbad], rfl, hP, s1⟩
  simp at c
  have hbad : bad = false := by cases bad with
    | false => rfl
    | true => exact absurd c (hb.2 rfl)
  subst hbad
  simp
  refine eff_ldc (v := lv) ((cell_of s2.drop.drop.look).trans rfl) ?_
  obtain ⟨la, lc, rfl, hlc, _⟩ := s2.drop.own_val
  simp
  refine loopI (fun env w' => ∃ (i : Nat) (o3 : Value), env = [.pointer (some ⟨r, 0, none⟩), .int .i64 tag, .pointer none, o3, .slice la l.length lc, .int .i64 l.length, .int .i64 i] ∧ i ≤ l.length ∧ fiF F tag = fiF (F.drop i) tag ∧ St w0 (A * flt q false * rpt r q base (.slice la l.length lc) * own 114 1 (.slice la l.length lc) l.length (ptrs l) * ptsA l) w')
    (fun env _ => l.length - slotN env 6) ⟨0, _, rfl, by omega, rfl, s2⟩ ?_
  clear s s1 s2 s3
  rintro LQ env w' ⟨i, o3, rfl, hi, hF, s4⟩ hN hX hR
  simp
  refine cndI (fun c1 => ?_) (fun c1 => ?_)
  · simp at c1
    obtain ⟨g, _, hv, _, hcell⟩ := s4.drop.own_at (by omega)
    cases hv
    simp [c1]
    refine eff_ldc (v := .pointer (some ⟨l[i].1, 0, none⟩)) (by have := hcell i (.pointer (some ⟨l[i].1, 0, none⟩)) (by simp [ptrs, c1]); simpa using this) ?_
    simp
    have hPi := hP.2 i c1 (by omega)
    refine eff_ldc (v := .int .i64 l[i].2.tag) (pts_cells c1 s4 0 _ rfl) ?_
    simp
    refine cndI (fun c2 => ?_) (fun c2 => ?_)
    · simp at c2
      obtain ⟨R, hRe, hSet⟩ := ptsA_at l i c1
      simp
      have s5 : St w0 (A * flt q false * rpt r q base (.slice (some ⟨g, 0, none⟩) l.length lc) * own 114 1 (.slice (some ⟨g, 0, none⟩) l.length lc) l.length (ptrs l) * R * pfA l[i].1 l[i].2) w' := s4.to (by rw [hRe]; ac_rfl)
      refine eff_st1 s5 rfl (by simp [Pf.cs]) fun w6 s6 => ?_
      simp
      refine hR _ _ ?_
      simp
      have s6 : St w0 (A * flt q false * rpt r q base (.slice (some ⟨g, 0, none⟩) l.length lc) * own 114 1 (.slice (some ⟨g, 0, none⟩) l.length lc) l.length (ptrs l) * R * pfA l[i].1 { l[i].2 with tk := true }) w6 := by
        simp [Pf.cs] at s6; exact s6
      have el : (l.set i (l[i].1, { l[i].2 with tk := true })).length = l.length := by simp
      have ep : ptrs (l.set i (l[i].1, { l[i].2 with tk := true })) = ptrs l := by
        simp only [ptrs, List.map_set]
        apply List.ext_getElem?
        intro j
        by_cases e : i = j
        · subst e; simp [c1]
        · simp [List.getElem?_set_ne e]
      have s7 : St w0 (A * flt q false * rdA r q (l.set i (l[i].1, { l[i].2 with tk := true }))) w6 := by
        refine rclose (base := base) (lv := .slice (some ⟨g, 0, none⟩) l.length lc) (s6.to ?_)
        rw [el, ep, hSet, sep_assoc (A * flt q false * rpt r q base (.slice (some ⟨g, 0, none⟩) l.length lc) * own 114 1 (.slice (some ⟨g, 0, none⟩) l.length lc) l.length (ptrs l))]
      refine .inr ⟨l.set i (l[i].1, { l[i].2 with tk := true }), i, by rw [el]; exact c1, F[i].2, ?_, by simp, hP.set c1 rfl rfl, by simpa using hPi.2, rfl, s7⟩
      simp only [valF]
      exact fiF_hit (by omega) hF (by rw [← hPi.1]; exact c2)
    · simp at c2
      simp
      try simp (disch := omega) only [wrap64]
      exact hN _ _ ⟨i + 1, _, by simp; rfl, by omega, fiF_step (by omega) hF (by rw [← hPi.1]; exact c2), s4⟩ (by simp [slotN]; omega)
  · simp at c1
    simp
    refine hX _ _ _ ?_
    simp
    refine .inl ⟨l, ?_, rfl, hP, rclose s4⟩
    have : F.drop i = [] := List.drop_of_length_le (by omega)
    rw [this] at hF
    simp [valF, hF, fiF]
end Go.HL.Tl

namespace Go.HL.Tl
open Go.HL Go.Proofs
set_option maxRecDepth 4000
set_option linter.unusedSimpArgs false
set_option linter.unusedVariables false
structure OKF (F : List (Int × List UInt8)) : Prop where
  len : F.length ≤ 1048576
  each : ∀ f ∈ F, f.2.length ≤ 1048576
theorem OKF.nil : OKF [] := ⟨by decide, by simp⟩
theorem prK_ok {b : List UInt8} : ∀ (k : Nat) (last : Int) (a : Nat) (F : List (Int × List UInt8)), a ≤ b.length → prK b k last a = some F → F.length ≤ b.length - a ∧ ∀ f ∈ F, f.2.length ≤ b.length := by
  intro k
  induction k with
  | zero => intro last a F _ h; cases h; simp
  | succ k ih =>
    intro last a F ha h
    simp only [prK] at h
    split at h
    · rename_i h1
      split at h
      · cases h
      · cases hp : piF b (a + 1) with
        | none => rw [hp] at h; cases h
        | some x =>
          rw [hp] at h
          simp only at h
          split at h
          · cases h
          · obtain ⟨F', h2, rfl⟩ := Option.map_eq_some_iff.1 h
            have hx := piF_ok (by omega) hp
            obtain ⟨h3, h4⟩ := ih _ _ _ hx.2 h2
            refine ⟨by simp; omega, fun f hf => ?_⟩
            rcases List.mem_cons.1 hf with rfl | hf
            · simp only; rw [cut_len hx.2]; omega
            · exact h4 f hf
    · cases h; simp
theorem prF_ok {b : List UInt8} {F : List (Int × List UInt8)} (h : prF b = some F) : OKF F := by
  unfold prF at h
  split at h
  · cases h
  · obtain ⟨h1, h2⟩ := prK_ok _ _ _ _ (Nat.zero_le _) h
    exact ⟨by omega, fun f hf => by have := h2 f hf; omega⟩
theorem rdF_ok (bad : Bool) (b : List UInt8) : OKF (rdF bad b).2 := by
  unfold rdF
  split
  · exact OKF.nil
  · split
    · exact OKF.nil
    · rename_i h; exact prF_ok h
theorem fiF_mem : ∀ {F : List (Int × List UInt8)} {tag : Int} {x : List UInt8}, fiF F tag = some x → ∃ f ∈ F, f.2 = x
  | [], _, _, h => by simp [fiF] at h
  | y :: t, tag, x, h => by
    simp only [fiF] at h
    split at h
    · cases h; exact ⟨y, List.mem_cons_self, rfl⟩
    · obtain ⟨f, hf, e⟩ := fiF_mem h; exact ⟨f, List.mem_cons_of_mem _ hf, e⟩
theorem valF_len {bad : Bool} {F : List (Int × List UInt8)} {tag : Int} {x : List UInt8} (hO : OKF F) (h : valF bad F tag = some x) : x.length ≤ 1048576 := by
  unfold valF at h
  split at h
  · cases h
  · obtain ⟨f, hf, rfl⟩ := fiF_mem h; exact hO.each f hf
def rdP (w0 : World) (B : Asn) (r q : Nat) (F : List (Int × List UInt8)) : Asn := fun h => ∃ l, PV w0 B l F ∧ rdA r q l h
theorem popen {w0 w : World} {A B : Asn} {r q : Nat} {F : List (Int × List UInt8)} (h : St w0 (A * rdP w0 B r q F) w) : ∃ l, PV w0 B l F ∧ St w0 (A * rdA r q l) w := by
  obtain ⟨g, h1, h2, h3, d, e, a, l, hP, b⟩ := h.holds
  exact ⟨l, hP, h.of ⟨g, h1, h2, h3, d, e, a, b⟩⟩
theorem pclose {w0 w : World} {A B : Asn} {r q : Nat} {F : List (Int × List UInt8)} {l : List (Nat × Pf)} (hP : PV w0 B l F) (h : St w0 (A * rdA r q l) w) : St w0 (A * rdP w0 B r q F) w :=
  h.mono (sep_mono (fun _ h => h) fun h hh => ⟨l, hP, hh⟩)
def oneC (X Y : World → Prop) : List Value → World → Prop
  | [], w => X w
  | _ :: _, w => Y w
theorem oneC_pre {X Y : World → Prop} {vs : List Value} {w : World} (he : era 1 vs = era 1 []) (h : oneC X Y vs w) : X w := by
  cases vs with
  | nil => exact h
  | cons _ _ => simp [era] at he
def numR (bad : Bool) (F : List (Int × List UInt8)) (tag most : Int) : Int × Bool := match valF bad F tag with
  | none => (0, bad)
  | some x => if (rs x 0).2.2 ≠ 0 ∨ (rs x 0).2.1 ≠ x.length ∨ (rs x 0).1 = 0 then (0, true) else if most < (rs x 0).1 then (0, true) else ((rs x 0).1, false)

def h45_0 : HC := (.seq (.reg (.done [(3, (.cst (.int .u64 0)))] none)) .ret)
@[simp] theorem h45_0_wp : type_of% (@wpH h45_0 _ h45_0.eq_1) := wpH h45_0.eq_1
def h45_1 : HC := (.regq (some 1) (.chk none .chkp (.cons (.inp 0) .nil) (.chk none (.fld 0) (.cons (.op .chkp (.cons (.inp 0) .nil)) .nil) (.eff (.ld false 1) (.cons (.op (.fld 0) (.cons (.op .chkp (.cons (.inp 0) .nil)) .nil)) .nil) (.chk none .chkp (.cons (.inp 0) .nil) (.chk none (.fld 1) (.cons (.op .chkp (.cons (.inp 0) .nil)) .nil) (.eff (.ld false 1) (.cons (.op (.fld 1) (.cons (.op .chkp (.cons (.inp 0) .nil)) .nil)) .nil) (.chk none .chkp (.cons (.inp 4) .nil) (.chk none (.fld 2) (.cons (.op .chkp (.cons (.inp 4) .nil)) .nil) (.eff (.ld false 1) (.cons (.op (.fld 2) (.cons (.op .chkp (.cons (.inp 4) .nil)) .nil)) .nil) (.chk none (.bin .add) (.cons (.bv 1) (.cons (.bv 2) .nil)) (.eff (.call 75) (.cons (.bv 0) (.cons (.op (.bin .add) (.cons (.bv 1) (.cons (.bv 2) .nil))) (.cons (.cst (.int .i64 20)) .nil))) (.done [] none)))))))))))))
@[simp] theorem h45_1_wp : type_of% (@wpH h45_1 _ h45_1.eq_1) := wpH h45_1.eq_1
def h45_2 : HC := (.regq (some 1) (.chk none .chkp (.cons (.inp 0) .nil) (.chk none (.fld 0) (.cons (.op .chkp (.cons (.inp 0) .nil)) .nil) (.eff (.ld false 1) (.cons (.op (.fld 0) (.cons (.op .chkp (.cons (.inp 0) .nil)) .nil)) .nil) (.chk none .chkp (.cons (.inp 0) .nil) (.chk none (.fld 1) (.cons (.op .chkp (.cons (.inp 0) .nil)) .nil) (.eff (.ld false 1) (.cons (.op (.fld 1) (.cons (.op .chkp (.cons (.inp 0) .nil)) .nil)) .nil) (.chk none .chkp (.cons (.inp 4) .nil) (.chk none (.fld 2) (.cons (.op .chkp (.cons (.inp 4) .nil)) .nil) (.eff (.ld false 1) (.cons (.op (.fld 2) (.cons (.op .chkp (.cons (.inp 4) .nil)) .nil)) .nil) (.chk none (.bin .add) (.cons (.bv 1) (.cons (.bv 2) .nil)) (.eff (.call 75) (.cons (.bv 0) (.cons (.op (.bin .add) (.cons (.bv 1) (.cons (.bv 2) .nil))) (.cons (.cst (.int .i64 3)) .nil))) (.done [] none)))))))))))))
@[simp] theorem h45_2_wp : type_of% (@wpH h45_2 _ h45_2.eq_1) := wpH h45_2.eq_1
def h45_3 : HC := (.seq (.reg (.done [(3, (.inp 5))] none)) .ret)
@[simp] theorem h45_3_wp : type_of% (@wpH h45_3 _ h45_3.eq_1) := wpH h45_3.eq_1
def h45_4 : HC := (.br (.chk none (.bin .gtr) (.cons (.inp 5) (.cons (.inp 2) .nil)) (.done [] (some (.op (.bin .gtr) (.cons (.inp 5) (.cons (.inp 2) .nil)))))) h45_2 h45_3)
@[simp] theorem h45_4_wp : type_of% (@wpH h45_4 _ h45_4.eq_1) := wpH h45_4.eq_1
def h45_5 : HC := (.br (.chk none (.bin .neq) (.cons (.inp 7) (.cons (.cst (.int .i64 0)) .nil)) (.bnd (.op (.bin .neq) (.cons (.inp 7) (.cons (.cst (.int .i64 0)) .nil))) (.chk (some ((.bv 0), false)) .chkp (.cons (.inp 4) .nil) (.chk (some ((.bv 0), false)) (.fld 3) (.cons (.op .chkp (.cons (.inp 4) .nil)) .nil) (.ite (.bv 0) false (.eff (.ld false 1) (.cons (.ite (.bv 0) false (.op (.fld 3) (.cons (.op .chkp (.cons (.inp 4) .nil)) .nil)) (.cst (.tuple #[]))) .nil) (.chk none .lenL (.cons (.bv 1) .nil) (.chk none (.bin .neq) (.cons (.ite (.bv 0) false (.inp 6) (.cst (.tuple #[]))) (.cons (.op .lenL (.cons (.bv 1) .nil)) .nil)) (.isb none (.bv 0) (.bnd (.op (.bin .neq) (.cons (.ite (.bv 0) false (.inp 6) (.cst (.tuple #[]))) (.cons (.op .lenL (.cons (.bv 1) .nil)) .nil))) (.chk (some ((.bv 2), false)) (.bin .eql) (.cons (.inp 5) (.cons (.cst (.int .u64 0)) .nil)) (.isb none (.bv 2) (.done [] (some (.ite (.bv 2) true (.cst (.bool true)) (.op (.bin .eql) (.cons (.inp 5) (.cons (.cst (.int .u64 0)) .nil))))))))))))) (.isb none (.bv 0) (.isb none (.cst (.bool true)) (.done [] (some (.cst (.bool true))))))))))) h45_1 h45_4)
@[simp] theorem h45_5_wp : type_of% (@wpH h45_5 _ h45_5.eq_1) := wpH h45_5.eq_1
def h45_6 : HC := (.seq (.block 0 h45_5) h45_0)
@[simp] theorem h45_6_wp : type_of% (@wpH h45_6 _ h45_6.eq_1) := wpH h45_6.eq_1
def h45_7 : HC := (.seq (.reg (.chk none .chkp (.cons (.inp 4) .nil) (.chk none (.fld 3) (.cons (.op .chkp (.cons (.inp 4) .nil)) .nil) (.eff (.ld false 1) (.cons (.op (.fld 3) (.cons (.op .chkp (.cons (.inp 4) .nil)) .nil)) .nil) (.eff (.call 74) (.cons (.bv 0) (.cons (.cst (.int .i64 0)) .nil)) (.chk none (.ext 0) (.cons (.bv 1) .nil) (.chk none (.ext 1) (.cons (.bv 1) .nil) (.chk none (.ext 2) (.cons (.bv 1) .nil) (.done [(5, (.op (.ext 0) (.cons (.bv 1) .nil))), (6, (.op (.ext 1) (.cons (.bv 1) .nil))), (7, (.op (.ext 2) (.cons (.bv 1) .nil)))] none))))))))) h45_6)
@[simp] theorem h45_7_wp : type_of% (@wpH h45_7 _ h45_7.eq_1) := wpH h45_7.eq_1
def h45_8 : HC := (.seq (.reg (.done [(3, (.cst (.int .u64 0)))] none)) .ret)
@[simp] theorem h45_8_wp : type_of% (@wpH h45_8 _ h45_8.eq_1) := wpH h45_8.eq_1
def h45_9 : HC := (.seq (.br (.chk none (.eqNil false (.pointer 119) (.pointer none)) (.cons (.inp 4) .nil) (.done [] (some (.op (.eqNil false (.pointer 119) (.pointer none)) (.cons (.inp 4) .nil))))) h45_8 .skip) h45_7)
@[simp] theorem h45_9_wp : type_of% (@wpH h45_9 _ h45_9.eq_1) := wpH h45_9.eq_1
def h45_10 : HC := (.seq (.reg (.eff (.call 73) (.cons (.inp 0) (.cons (.inp 1) .nil)) (.done [(4, (.bv 0))] none))) h45_9)
@[simp] theorem h45_10_wp : type_of% (@wpH h45_10 _ h45_10.eq_1) := wpH h45_10.eq_1
def l45 : Lifted := ⟨[0, 1, 2, 6, 7, 8, 9, 10], 74, [.slot 3], (.seq (.reg (.done [(3, (.cst (.int .u64 0)))] none)) h45_10)⟩
theorem l45_ok : liftFn T0 45 400 = some l45 := by kernel_rfl

def h72_0 : HC := (.seq (.reg (.chk none .chkp (.cons (.inp 4) .nil) (.chk none (.fld 3) (.cons (.op .chkp (.cons (.inp 4) .nil)) .nil) (.eff (.ld false 1) (.cons (.op (.fld 3) (.cons (.op .chkp (.cons (.inp 4) .nil)) .nil)) .nil) (.done [(3, (.bv 0))] none))))) .ret)
@[simp] theorem h72_0_wp : type_of% (@wpH h72_0 _ h72_0.eq_1) := wpH h72_0.eq_1
def h72_1 : HC := (.seq (.reg (.done [(3, (.cst (.slice none 0 0)))] none)) .ret)
@[simp] theorem h72_1_wp : type_of% (@wpH h72_1 _ h72_1.eq_1) := wpH h72_1.eq_1
def h72_2 : HC := (.seq (.regq (some 1) (.chk none .chkp (.cons (.inp 0) .nil) (.chk none (.fld 0) (.cons (.op .chkp (.cons (.inp 0) .nil)) .nil) (.eff (.ld false 1) (.cons (.op (.fld 0) (.cons (.op .chkp (.cons (.inp 0) .nil)) .nil)) .nil) (.chk none .chkp (.cons (.inp 0) .nil) (.chk none (.fld 1) (.cons (.op .chkp (.cons (.inp 0) .nil)) .nil) (.eff (.ld false 1) (.cons (.op (.fld 1) (.cons (.op .chkp (.cons (.inp 0) .nil)) .nil)) .nil) (.chk none .chkp (.cons (.inp 4) .nil) (.chk none (.fld 2) (.cons (.op .chkp (.cons (.inp 4) .nil)) .nil) (.eff (.ld false 1) (.cons (.op (.fld 2) (.cons (.op .chkp (.cons (.inp 4) .nil)) .nil)) .nil) (.chk none (.bin .add) (.cons (.bv 1) (.cons (.bv 2) .nil)) (.eff (.call 75) (.cons (.bv 0) (.cons (.op (.bin .add) (.cons (.bv 1) (.cons (.bv 2) .nil))) (.cons (.cst (.int .i64 3)) .nil))) (.done [] none))))))))))))) h72_1)
@[simp] theorem h72_2_wp : type_of% (@wpH h72_2 _ h72_2.eq_1) := wpH h72_2.eq_1
def h72_3 : HC := (.seq (.br (.chk none .chkp (.cons (.inp 4) .nil) (.chk none (.fld 3) (.cons (.op .chkp (.cons (.inp 4) .nil)) .nil) (.eff (.ld false 1) (.cons (.op (.fld 3) (.cons (.op .chkp (.cons (.inp 4) .nil)) .nil)) .nil) (.chk none .lenL (.cons (.bv 0) .nil) (.eff (.bi .max #[3, 3] 3 #[false, true]) (.cons (.inp 2) (.cons (.cst (.int .i64 0)) .nil)) (.chk none (.bin .gtr) (.cons (.op .lenL (.cons (.bv 0) .nil)) (.cons (.bv 1) .nil)) (.done [] (some (.op (.bin .gtr) (.cons (.op .lenL (.cons (.bv 0) .nil)) (.cons (.bv 1) .nil))))))))))) h72_2 .skip) h72_0)
@[simp] theorem h72_3_wp : type_of% (@wpH h72_3 _ h72_3.eq_1) := wpH h72_3.eq_1
def h72_4 : HC := (.seq (.reg (.done [(3, (.cst (.slice none 0 0)))] none)) .ret)
@[simp] theorem h72_4_wp : type_of% (@wpH h72_4 _ h72_4.eq_1) := wpH h72_4.eq_1
def h72_5 : HC := (.seq (.br (.chk none (.eqNil false (.pointer 119) (.pointer none)) (.cons (.inp 4) .nil) (.done [] (some (.op (.eqNil false (.pointer 119) (.pointer none)) (.cons (.inp 4) .nil))))) h72_4 .skip) h72_3)
@[simp] theorem h72_5_wp : type_of% (@wpH h72_5 _ h72_5.eq_1) := wpH h72_5.eq_1
def h72_6 : HC := (.seq (.reg (.eff (.call 73) (.cons (.inp 0) (.cons (.inp 1) .nil)) (.done [(4, (.bv 0))] none))) h72_5)
@[simp] theorem h72_6_wp : type_of% (@wpH h72_6 _ h72_6.eq_1) := wpH h72_6.eq_1
def l72 : Lifted := ⟨[0, 1, 2, 6, 7], 39, [.slot 3], (.seq (.reg (.done [(3, (.cst (.slice none 0 0)))] none)) h72_6)⟩
theorem l72_ok : liftFn T0 72 400 = some l72 := by kernel_rfl

def h44_0 : HC := (.seq (.reg (.eff (.call 72) (.cons (.inp 0) (.cons (.inp 1) (.cons (.inp 2) .nil))) (.eff (.b2s 31 9) (.cons (.bv 0) .nil) (.done [(3, (.bv 1))] none)))) .ret)
@[simp] theorem h44_0_wp : type_of% (@wpH h44_0 _ h44_0.eq_1) := wpH h44_0.eq_1
def l44 : Lifted := ⟨[0, 1, 2, 6], 12, [.slot 3], (.seq (.reg (.done [(3, (.cst (.string ⟨#[]⟩)))] none)) h44_0)⟩
theorem l44_ok : liftFn T0 44 400 = some l44 := by kernel_rfl

def h47_0 : HC := (.seq (.regq (some 1) (.chk none .chkp (.cons (.inp 0) .nil) (.chk none (.fld 0) (.cons (.op .chkp (.cons (.inp 0) .nil)) .nil) (.eff (.ld false 1) (.cons (.op (.fld 0) (.cons (.op .chkp (.cons (.inp 0) .nil)) .nil)) .nil) (.chk none .chkp (.cons (.inp 0) .nil) (.chk none (.fld 1) (.cons (.op .chkp (.cons (.inp 0) .nil)) .nil) (.eff (.ld false 1) (.cons (.op (.fld 1) (.cons (.op .chkp (.cons (.inp 0) .nil)) .nil)) .nil) (.chk none .chkp (.cons (.inp 3) .nil) (.chk none (.fld 2) (.cons (.op .chkp (.cons (.inp 3) .nil)) .nil) (.eff (.ld false 1) (.cons (.op (.fld 2) (.cons (.op .chkp (.cons (.inp 3) .nil)) .nil)) .nil) (.chk none (.bin .add) (.cons (.bv 1) (.cons (.bv 2) .nil)) (.chk none .chkp (.cons (.inp 3) .nil) (.chk none (.fld 3) (.cons (.op .chkp (.cons (.inp 3) .nil)) .nil) (.eff (.ld false 1) (.cons (.op (.fld 3) (.cons (.op .chkp (.cons (.inp 3) .nil)) .nil)) .nil) (.eff (.call 71) (.cons (.bv 0) (.cons (.op (.bin .add) (.cons (.bv 1) (.cons (.bv 2) .nil))) (.cons (.bv 3) .nil))) (.done [(2, (.bv 4))] none)))))))))))))))) .ret)
@[simp] theorem h47_0_wp : type_of% (@wpH h47_0 _ h47_0.eq_1) := wpH h47_0.eq_1
def h47_1 : HC := (.seq (.regq (some 1) (.chk none .chkp (.cons (.inp 0) .nil) (.chk none (.fld 0) (.cons (.op .chkp (.cons (.inp 0) .nil)) .nil) (.eff (.ld false 1) (.cons (.op (.fld 0) (.cons (.op .chkp (.cons (.inp 0) .nil)) .nil)) .nil) (.chk none .chkp (.cons (.inp 0) .nil) (.chk none (.fld 1) (.cons (.op .chkp (.cons (.inp 0) .nil)) .nil) (.eff (.ld false 1) (.cons (.op (.fld 1) (.cons (.op .chkp (.cons (.inp 0) .nil)) .nil)) .nil) (.chk none (.build #[(.pointer none), (.int .i64 0), (.slice none 0 0)] [(0, 1), (1, 1), (2, 1)] [0, 1]) (.cons (.bv 0) (.cons (.bv 1) .nil)) (.eff (.box 123) (.cons (.op (.build #[(.pointer none), (.int .i64 0), (.slice none 0 0)] [(0, 1), (1, 1), (2, 1)] [0, 1]) (.cons (.bv 0) (.cons (.bv 1) .nil))) .nil) (.done [(2, (.bv 2))] none)))))))))) .ret)
@[simp] theorem h47_1_wp : type_of% (@wpH h47_1 _ h47_1.eq_1) := wpH h47_1.eq_1
def h47_2 : HC := (.seq (.br (.chk none (.eqNil false (.pointer 119) (.pointer none)) (.cons (.inp 3) .nil) (.done [] (some (.op (.eqNil false (.pointer 119) (.pointer none)) (.cons (.inp 3) .nil))))) h47_1 .skip) h47_0)
@[simp] theorem h47_2_wp : type_of% (@wpH h47_2 _ h47_2.eq_1) := wpH h47_2.eq_1
def h47_3 : HC := (.seq (.reg (.eff (.call 73) (.cons (.inp 0) (.cons (.inp 1) .nil)) (.done [(3, (.bv 0))] none))) h47_2)
@[simp] theorem h47_3_wp : type_of% (@wpH h47_3 _ h47_3.eq_1) := wpH h47_3.eq_1
def h47_4 : HC := (.seq (.reg (.done [(2, (.cst (.pointer none)))] none)) .ret)
@[simp] theorem h47_4_wp : type_of% (@wpH h47_4 _ h47_4.eq_1) := wpH h47_4.eq_1
def h47_5 : HC := (.seq (.br (.eff (.call 77) (.cons (.inp 0) .nil) (.done [] (some (.bv 0)))) h47_4 .skip) h47_3)
@[simp] theorem h47_5_wp : type_of% (@wpH h47_5 _ h47_5.eq_1) := wpH h47_5.eq_1
def l47 : Lifted := ⟨[0, 1, 4, 5], 41, [.slot 2], (.seq (.reg (.done [(2, (.cst (.pointer none)))] none)) h47_5)⟩
theorem l47_ok : liftFn T0 47 400 = some l47 := by kernel_rfl
section
variable {w0 : World} {A B : Asn} {r q : Nat} {l : List (Nat × Pf)} {base : Int} {lv : Value}
abbrev rdO (A : Asn) (r q : Nat) (base : Int) (lv : Value) (l : List (Nat × Pf)) (bad : Bool) : Asn := A * rpt r q base lv * own 114 1 lv l.length (ptrs l) * ptsA l * flt q bad
theorem rdO_of {w : World} {bad : Bool} (s : St w0 (A * flt q bad * rdA r q l) w) : ∃ base lv, St w0 (rdO A r q base lv l bad) w := by
  obtain ⟨base, lv, s1⟩ := ropen s
  exact ⟨base, lv, s1.to (by simp only [rdO]; ac_rfl)⟩
theorem rdO_to {w : World} {bad : Bool} (s : St w0 (rdO A r q base lv l bad) w) : St w0 (A * flt q bad * rdA r q l) w := rclose (s.to (B := A * flt q bad * rpt r q base lv * own 114 1 lv l.length (ptrs l) * ptsA l) (by simp only [rdO]; ac_rfl))
theorem rdO_r {w : World} {bad : Bool} (s : St w0 (rdO A r q base lv l bad) w) : w.cell? ⟨r, 0, none⟩ = some (.pointer (some ⟨q, 0, none⟩)) ∧ w.cell? ⟨r, 1, none⟩ = some (.int .i64 base) ∧ w.cell? ⟨r, 2, none⟩ = some lv :=
  ⟨(cell_of s.drop.drop.drop.look).trans rfl, (cell_of s.drop.drop.drop.look).trans rfl, (cell_of s.drop.drop.drop.look).trans rfl⟩
theorem rdO_p {w : World} {bad : Bool} {i : Nat} (hi : i < l.length) (s : St w0 (rdO A r q base lv l bad) w) : w.cell? ⟨l[i].1, 2, none⟩ = some (.int .i64 l[i].2.from') ∧ w.cell? ⟨l[i].1, 3, none⟩ = some l[i].2.v :=
  ⟨pts_cells hi s.drop 2 _ rfl, pts_cells hi s.drop 3 _ rfl⟩
end
theorem Number_rspec (r q : Nat) (bad : Bool) (F : List (Int × List UInt8)) (tag most : Int) (w0 w : World) (A B : Asn) (hB : ∀ w, St w0 A w → St w0 B w) (hO : OKF F) (s : St w0 (A * flt q bad * rdP w0 B r q F) w) :
    CallW Try.prog 45 [.pointer (some ⟨r, 0, none⟩), .int .i64 tag, .int .u64 most] (fun v w' => v = .int .u64 (numR bad F tag most).1 ∧ St w0 (A * flt q (numR bad F tag most).2 * rdP w0 B r q F) w') w := by
  obtain ⟨l, hP, s1⟩ := popen s
  refine callW_of_lift l45_ok (by simp [l45]) ?_
  simp [l45]
  refine eff_call ((field_rspec r q bad l F tag w0 w A B (by have := hO.len; omega) hP s1).mono ?_)
  rintro _ w1 (⟨l1, hv, rfl, hP1, s2⟩ | ⟨l1, i, hi, x, hv, rfl, hP1, hx, rfl, s2⟩)
  · simp [numR, hv]
    exact pclose hP1 s2
  have hxl := valF_len hO hv
  obtain ⟨base, lv, s3⟩ := rdO_of s2
  obtain ⟨va, vc, hvv⟩ := hx.val
  simp
  refine eff_ldc (v := l1[i].2.v) (rdO_p hi s3).2 ?_
  simp
  refine eff_call ((ReadShort_spec x l1[i].2.v 0 w0 w1 _ (Nat.zero_le _) (by omega) (hx.mono fun w s => hB w s.drop.drop.drop.drop) s3).mono ?_)
  rintro _ w2 ⟨rfl, s4⟩
  have bad' : ∀ (e : Int) (K : Value → World → Prop) (w3 : World), e ≠ 0 → St w0 (rdO A r q base lv l1 false) w3 → (∀ u w', St w0 (A * flt q true * rdP w0 B r q F) w' → K u w') →
      EffW Try.prog (.call 75) [.pointer (some ⟨q, 0, none⟩), .int .i64 (IntKind.i64.wrap (base + l1[i].2.from')), .int .i64 e] K w3 := fun e K w3 he s hK =>
    eff_call ((wrong_spec q false _ e w0 w3 _ he s).mono fun u w' s' => hK u w' (pclose hP1 (rdO_to s')))
  simp
  by_cases he : (rs x 0).2.2 = 0
  · simp [he]
    refine eff_ldc (v := l1[i].2.v) (rdO_p hi s4).2 ?_
    rw [hvv]
    simp
    refine ⟨Decidable.em _, ?_⟩
    refine cndI (fun c => ?_) (fun c => ?_)
    · simp at c
      have e : numR false F tag most = (0, true) := by
        simp only [numR, hv]; rw [if_pos (by omega)]
      rw [e]
      simp
      refine regmI (oneC (St w0 (rdO A r q base lv l1 false)) (St w0 (A * flt q true * rdP w0 B r q F))) s4.drew ?_
      simp
      refine effm_ldc (v := .pointer (some ⟨q, 0, none⟩)) (fun vs' w he hw => (rdO_r (oneC_pre he hw)).1) ?_
      simp
      refine effm_ldc (v := .int .i64 base) (fun vs' w he hw => (rdO_r (oneC_pre he hw)).2.1) ?_
      simp
      refine effm_ldc (v := .int .i64 l1[i].2.from') (fun vs' w he hw => (rdO_p hi (oneC_pre he hw)).1) ?_
      simp
      refine effm_mv rfl (fun w hw => bad' 20 _ w (by decide) hw fun u w' s' => s') (fun u _ => ?_)
      simp
      intro w5 s5
      exact s5
    simp at c
    simp
    refine cndI (fun c2 => ?_) (fun c2 => ?_)
    · simp at c2
      have e : numR false F tag most = (0, true) := by
        simp only [numR, hv]; rw [if_neg (by omega), if_pos c2]
      rw [e]
      simp
      refine regmI (oneC (St w0 (rdO A r q base lv l1 false)) (St w0 (A * flt q true * rdP w0 B r q F))) s4.drew ?_
      simp
      refine effm_ldc (v := .pointer (some ⟨q, 0, none⟩)) (fun vs' w he hw => (rdO_r (oneC_pre he hw)).1) ?_
      simp
      refine effm_ldc (v := .int .i64 base) (fun vs' w he hw => (rdO_r (oneC_pre he hw)).2.1) ?_
      simp
      refine effm_ldc (v := .int .i64 l1[i].2.from') (fun vs' w he hw => (rdO_p hi (oneC_pre he hw)).1) ?_
      simp
      refine effm_mv rfl (fun w hw => bad' 3 _ w (by decide) hw fun u w' s' => s') (fun u _ => ?_)
      simp
      intro w5 s5
      exact s5
    · simp at c2
      have e : numR false F tag most = (((rs x 0).1 : Int), false) := by
        simp only [numR, hv]; rw [if_neg (by omega), if_neg (by omega)]
      rw [e]
      simp
      exact pclose hP1 (rdO_to s4)
  · have e : numR false F tag most = (0, true) := by
      simp only [numR, hv]; rw [if_pos (.inl he)]
    rw [e]
    simp [he]
    refine regmI (oneC (St w0 (rdO A r q base lv l1 false)) (St w0 (A * flt q true * rdP w0 B r q F))) s4.drew ?_
    simp
    refine effm_ldc (v := .pointer (some ⟨q, 0, none⟩)) (fun vs' w he hw => (rdO_r (oneC_pre he hw)).1) ?_
    simp
    refine effm_ldc (v := .int .i64 base) (fun vs' w he hw => (rdO_r (oneC_pre he hw)).2.1) ?_
    simp
    refine effm_ldc (v := .int .i64 l1[i].2.from') (fun vs' w he hw => (rdO_p hi (oneC_pre he hw)).1) ?_
    simp
    refine effm_mv rfl (fun w hw => bad' 20 _ w (by decide) hw fun u w' s' => s') (fun u _ => ?_)
    simp
    intro w5 s5
    exact s5
theorem bad_call (r q i : Nat) (l1 : List (Nat × Pf)) (F : List (Int × List UInt8)) (base : Int) (lv : Value) (w0 : World) (A B : Asn) (hP1 : PV w0 B l1 F) (p e : Int) (K : Value → World → Prop) (w3 : World) (he : e ≠ 0) (s : St w0 (rdO A r q base lv l1 false) w3)
    (hK : ∀ u w', St w0 (A * flt q true * rdP w0 B r q F) w' → K u w') : EffW Try.prog (.call 75) [.pointer (some ⟨q, 0, none⟩), .int .i64 p, .int .i64 e] K w3 :=
  eff_call ((wrong_spec q false p e w0 w3 _ he s).mono fun u w' s' => hK u w' (pclose hP1 (rdO_to s')))
def rawR (bad : Bool) (F : List (Int × List UInt8)) (tag most : Int) : List UInt8 × Bool := match valF bad F tag with
  | none => ([], bad)
  | some x => if (if most < 0 then 0 else most) < x.length then ([], true) else (x, false)
theorem raw_rspec (r q : Nat) (bad : Bool) (F : List (Int × List UInt8)) (tag most : Int) (w0 w : World) (A B : Asn) (hO : OKF F) (s : St w0 (A * flt q bad * rdP w0 B r q F) w) :
    CallW Try.prog 72 [.pointer (some ⟨r, 0, none⟩), .int .i64 tag, .int .i64 most] (fun v w' => BR w0 B v (rawR bad F tag most).1 ∧ St w0 (A * flt q (rawR bad F tag most).2 * rdP w0 B r q F) w') w := by
  obtain ⟨l, hP, s1⟩ := popen s
  have nilB : BR w0 B (.slice none 0 0) [] := ⟨rfl, _, _, rfl, Nat.zero_le _, .inl rfl⟩
  refine callW_of_lift l72_ok (by simp [l72]) ?_
  simp [l72]
  refine eff_call ((field_rspec r q bad l F tag w0 w A B (by have := hO.len; omega) hP s1).mono ?_)
  rintro _ w1 (⟨l1, hv, rfl, hP1, s2⟩ | ⟨l1, i, hi, x, hv, rfl, hP1, hx, rfl, s2⟩)
  · simp [rawR, hv]
    exact ⟨nilB, pclose hP1 s2⟩
  have hxl := valF_len hO hv
  obtain ⟨base, lv, s3⟩ := rdO_of s2
  obtain ⟨va, vc, hvv⟩ := hx.val
  simp
  refine eff_ldc (v := l1[i].2.v) (rdO_p hi s3).2 ?_
  rw [hvv]
  simp
  refine eff_max ?_
  simp
  refine cndI (fun c => ?_) (fun c => ?_)
  · simp at c
    have e : rawR false F tag most = ([], true) := by simp only [rawR, hv]; rw [if_pos c]
    rw [e]
    simp
    refine regmI (oneC (St w0 (rdO A r q base lv l1 false)) (St w0 (A * flt q true * rdP w0 B r q F))) s3.drew ?_
    simp
    refine effm_ldc (v := .pointer (some ⟨q, 0, none⟩)) (fun vs' w he hw => (rdO_r (oneC_pre he hw)).1) ?_
    simp
    refine effm_ldc (v := .int .i64 base) (fun vs' w he hw => (rdO_r (oneC_pre he hw)).2.1) ?_
    simp
    refine effm_ldc (v := .int .i64 l1[i].2.from') (fun vs' w he hw => (rdO_p hi (oneC_pre he hw)).1) ?_
    simp
    refine effm_mv rfl (fun w hw => bad_call r q i l1 F base lv w0 A B hP1 _ 3 _ w (by decide) hw fun u w' s' => s') (fun u _ => ?_)
    simp
    intro w5 s5
    exact ⟨nilB, s5⟩
  · simp at c
    have e : rawR false F tag most = (x, false) := by simp only [rawR, hv]; rw [if_neg (by omega)]
    rw [e]
    simp
    refine eff_ldc (v := l1[i].2.v) (rdO_p hi s3).2 ?_
    simp
    exact ⟨hx, pclose hP1 (rdO_to s3)⟩
theorem eff_b2sR {P : Program} {K : Value → World → Prop} {w0 w : World} {A : Asn} {t d : Nat} {v : Value} {bs : List UInt8} (h : BR w0 A v bs) (s : St w0 A w) (hk : K (.string (mk bs)) w) : EffW P (.b2s t d) [v] K w := by
  intro _
  obtain ⟨hl, a, cap, rfl, hn, hc⟩ := h
  rcases hc with hz | ⟨g, o, rfl, hc⟩
  · have : bs = [] := List.eq_nil_of_length_eq_zero hz
    subst this
    cases a with
    | none => exact upon_val (w' := w) (v := .string (mk [])) (by simp [Conv.bytesToString]; rfl) hk
    | some a => exact upon_val (w' := w) (v := .string (mk [])) (by simp [Conv.bytesToString, loadCells, loadCellsFrom]; rfl) hk
  · refine upon_val (w' := w) (v := .string (mk bs)) ?_ hk
    have hl2 : (bytesV bs).length = bs.length := bytesV_len bs
    have := run_loadCells_list (P := P) w ⟨g, o, none⟩ (bytesV bs) (by
      intro j u hj
      rw [addr_add]; exact hc w s j u hj)
    rw [hl2] at this
    have hp := run_push P w bs .empty
    simp only [Conv.bytesToString, Sem.run_bind, this, Result.andThen_ok]
    rw [List.forIn_toArray]
    refine (congrArg (fun r => Result.andThen r _) hp).trans ?_
    simp
theorem Text_rspec (r q : Nat) (bad : Bool) (F : List (Int × List UInt8)) (tag most : Int) (w0 w : World) (A B : Asn) (hB : ∀ w, St w0 A w → St w0 B w) (hO : OKF F) (s : St w0 (A * flt q bad * rdP w0 B r q F) w) :
    CallW Try.prog 44 [.pointer (some ⟨r, 0, none⟩), .int .i64 tag, .int .i64 most] (fun v w' => v = .string (mk (rawR bad F tag most).1) ∧ St w0 (A * flt q (rawR bad F tag most).2 * rdP w0 B r q F) w') w := by
  refine callW_of_lift l44_ok (by simp [l44]) ?_
  simp [l44]
  refine eff_call ((raw_rspec r q bad F tag most w0 w A B hO s).mono ?_)
  rintro v w1 ⟨hv, s1⟩
  simp
  refine eff_b2sR (hv.mono fun w s => hB w s.drop.drop) s1 ?_
  simp
  exact s1
def recR (bad : Bool) (F : List (Int × List UInt8)) (tag : Int) : Bool × List (Int × List UInt8) := match valF bad F tag with
  | none => (bad, [])
  | some x => rdF bad x
theorem recR_ok (bad : Bool) (F : List (Int × List UInt8)) (tag : Int) : OKF (recR bad F tag).2 := by
  unfold recR; split
  · exact OKF.nil
  · exact rdF_ok _ _
theorem empty_reader {w0 w : World} {A B : Asn} {p q : Nat} {base : Int} (h : St w0 (A * rpt p q base (.slice none 0 0)) w) : St w0 (A * rdP w0 B p q []) w := by
  refine pclose PV.nil (rclose (base := base) (lv := .slice none 0 0) ?_)
  have := h.own_nil 114 1
  have e : ptsA [] = emp := rfl
  rw [e, sep_emp]; exact this
theorem Record_rspec (r q : Nat) (bad : Bool) (F : List (Int × List UInt8)) (tag : Int) (w0 w : World) (A B : Asn) (hB : ∀ w, St w0 A w → St w0 B w) (hO : OKF F) (s : St w0 (A * flt q bad * rdP w0 B r q F) w) :
    CallW Try.prog 47 [.pointer (some ⟨r, 0, none⟩), .int .i64 tag] (fun v w' => ∃ p, v = .pointer (some ⟨p, 0, none⟩) ∧ St w0 (A * flt q (recR bad F tag).1 * rdP w0 B r q F * rdP w0 B p q (recR bad F tag).2) w') w := by
  obtain ⟨l, hP, s1⟩ := popen s
  refine callW_of_lift l47_ok (by simp [l47]) ?_
  simp [l47]
  refine eff_call ((none_spec r q l w0 w _ s1).mono ?_)
  rintro _ w1 ⟨rfl, s1⟩
  simp
  refine eff_call ((field_rspec r q bad l F tag w0 w1 A B (by have := hO.len; omega) hP s1).mono ?_)
  rintro _ w1 (⟨l1, hv, rfl, hP1, s2⟩ | ⟨l1, i, hi, x, hv, rfl, hP1, hx, rfl, s2⟩)
  · obtain ⟨base, lv, s3⟩ := rdO_of s2
    simp
    refine regmI (fun vs w => match vs with
      | [] => St w0 (rdO A r q base lv l1 bad) w
      | u :: _ => ∃ p, u = .pointer (some ⟨p, 0, none⟩) ∧ St w0 (rdO A r q base lv l1 bad * rpt p q base (.slice none 0 0)) w) s3.drew ?_
    simp
    refine effm_ldc (v := .pointer (some ⟨q, 0, none⟩)) (fun vs' w he hw => ?_) ?_
    · match vs', hw with
      | [], hw => exact (rdO_r hw).1
      | _ :: _, hw => simp [era] at he
    simp
    refine effm_ldc (v := .int .i64 base) (fun vs' w he hw => ?_) ?_
    · match vs', hw with
      | [], hw => exact (rdO_r hw).2.1
      | _ :: _, hw => simp [era] at he
    simp [Instr.fill, Value.cells]
    refine effm_mv rfl (fun w hw => eff_box hw fun p w' s' => ⟨p, rfl, s'⟩) (fun u hu => ?_)
    obtain ⟨_, p, rfl, _⟩ := hu
    simp
    intro w5 s5
    have s5 : St w0 (rdO A r q base lv l1 bad * rpt p q base (.slice none 0 0)) w5 := by simpa using s5
    have e : recR bad F tag = (bad, []) := by simp only [recR, hv]
    rw [e]
    have s6 : St w0 (A * flt q bad * rdP w0 B r q F * rpt p q base (.slice none 0 0)) w5 := (pclose (A := A * flt q bad * rpt p q base (.slice none 0 0)) hP1 (rclose (base := base) (lv := lv) (s5.to (by simp only [rdO]; ac_rfl)))).swap
    exact empty_reader s6
  · have hxl := valF_len hO hv
    obtain ⟨base, lv, s3⟩ := rdO_of s2
    have e : recR false F tag = rdF false x := by simp only [recR, hv]
    rw [e]
    simp
    refine regmI (fun vs w => match vs with
      | [] => St w0 (rdO A r q base lv l1 false) w
      | u :: _ => ∃ p, u = .pointer (some ⟨p, 0, none⟩) ∧ St w0 (A * flt q (rdF false x).1 * rdP w0 B r q F * rdP w0 B p q (rdF false x).2) w) s3.drew ?_
    simp
    refine effm_ldc (v := .pointer (some ⟨q, 0, none⟩)) (fun vs' w he hw => ?_) ?_
    · match vs', hw with
      | [], hw => exact (rdO_r hw).1
      | _ :: _, hw => simp [era] at he
    simp
    refine effm_ldc (v := .int .i64 base) (fun vs' w he hw => ?_) ?_
    · match vs', hw with
      | [], hw => exact (rdO_r hw).2.1
      | _ :: _, hw => simp [era] at he
    simp
    refine effm_ldc (v := .int .i64 l1[i].2.from') (fun vs' w he hw => ?_) ?_
    · match vs', hw with
      | [], hw => exact (rdO_p hi hw).1
      | _ :: _, hw => simp [era] at he
    simp
    refine effm_ldc (v := l1[i].2.v) (fun vs' w he hw => ?_) ?_
    · match vs', hw with
      | [], hw => exact (rdO_p hi hw).2
      | _ :: _, hw => simp [era] at he
    simp
    refine effm_mv rfl (fun w hw => eff_call ((read_spec q false _ x l1[i].2.v w0 w (A * rpt r q base lv * own 114 1 lv l1.length (ptrs l1) * ptsA l1) B (fun w s => hB w s.drop.drop.drop) (by omega) hx hw).mono ?_)) (fun u hu => ?_)
    · rintro _ w' ⟨p, l2, rfl, hP2, s'⟩
      refine ⟨p, rfl, ?_⟩
      have a1 := pclose hP2 s'
      exact (pclose (A := A * flt q (rdF false x).1 * rdP w0 B p q (rdF false x).2) hP1 (rclose (base := base) (lv := lv) (a1.to (by ac_rfl)))).swap
    obtain ⟨_, p, rfl, _⟩ := hu
    simp
end Go.HL.Tl

namespace Go.HL.Tl
open Go.HL Go.Proofs
set_option maxRecDepth 4000
set_option linter.unusedSimpArgs false
set_option linter.unusedVariables false

def h90_0 : HC := (.seq (.regq (some 0) (.chk none .chkp (.cons (.inp 0) .nil) (.chk none (.fld 1) (.cons (.op .chkp (.cons (.inp 0) .nil)) .nil) (.eff (.ld false 1) (.cons (.op (.fld 1) (.cons (.op .chkp (.cons (.inp 0) .nil)) .nil)) .nil) (.chk none .chkp (.cons (.inp 5) .nil) (.chk none (.fld 2) (.cons (.op .chkp (.cons (.inp 5) .nil)) .nil) (.eff (.ld false 1) (.cons (.op (.fld 2) (.cons (.op .chkp (.cons (.inp 5) .nil)) .nil)) .nil) (.chk none (.bin .add) (.cons (.bv 0) (.cons (.bv 1) .nil)) (.done [(3, (.inp 6)), (4, (.op (.bin .add) (.cons (.bv 0) (.cons (.bv 1) .nil))))] none))))))))) .ret)
@[simp] theorem h90_0_wp : type_of% (@wpH h90_0 _ h90_0.eq_1) := wpH h90_0.eq_1
def h90_1 : HC := (.seq (.reg (.done [(3, (.cst (.slice none 0 0))), (4, (.cst (.int .i64 0)))] none)) .ret)
@[simp] theorem h90_1_wp : type_of% (@wpH h90_1 _ h90_1.eq_1) := wpH h90_1.eq_1
def h90_2 : HC := (.seq (.regq (some 1) (.chk none .chkp (.cons (.inp 0) .nil) (.chk none (.fld 0) (.cons (.op .chkp (.cons (.inp 0) .nil)) .nil) (.eff (.ld false 1) (.cons (.op (.fld 0) (.cons (.op .chkp (.cons (.inp 0) .nil)) .nil)) .nil) (.chk none .chkp (.cons (.inp 0) .nil) (.chk none (.fld 1) (.cons (.op .chkp (.cons (.inp 0) .nil)) .nil) (.eff (.ld false 1) (.cons (.op (.fld 1) (.cons (.op .chkp (.cons (.inp 0) .nil)) .nil)) .nil) (.chk none .chkp (.cons (.inp 5) .nil) (.chk none (.fld 2) (.cons (.op .chkp (.cons (.inp 5) .nil)) .nil) (.eff (.ld false 1) (.cons (.op (.fld 2) (.cons (.op .chkp (.cons (.inp 5) .nil)) .nil)) .nil) (.chk none (.bin .add) (.cons (.bv 1) (.cons (.bv 2) .nil)) (.eff (.call 75) (.cons (.bv 0) (.cons (.op (.bin .add) (.cons (.bv 1) (.cons (.bv 2) .nil))) (.cons (.cst (.int .i64 3)) .nil))) (.done [] none))))))))))))) h90_1)
@[simp] theorem h90_2_wp : type_of% (@wpH h90_2 _ h90_2.eq_1) := wpH h90_2.eq_1
def h90_3 : HC := (.seq (.br (.chk none .lenL (.cons (.inp 6) .nil) (.eff (.bi .max #[3, 3] 3 #[false, true]) (.cons (.inp 2) (.cons (.cst (.int .i64 0)) .nil)) (.chk none (.bin .gtr) (.cons (.op .lenL (.cons (.inp 6) .nil)) (.cons (.bv 0) .nil)) (.done [] (some (.op (.bin .gtr) (.cons (.op .lenL (.cons (.inp 6) .nil)) (.cons (.bv 0) .nil)))))))) h90_2 .skip) h90_0)
@[simp] theorem h90_3_wp : type_of% (@wpH h90_3 _ h90_3.eq_1) := wpH h90_3.eq_1
def h90_4 : HC := (.seq (.reg (.done [(3, (.cst (.slice none 0 0))), (4, (.cst (.int .i64 0)))] none)) .ret)
@[simp] theorem h90_4_wp : type_of% (@wpH h90_4 _ h90_4.eq_1) := wpH h90_4.eq_1
def h90_5 : HC := (.seq (.regq (some 1) (.chk none .chkp (.cons (.inp 0) .nil) (.chk none (.fld 0) (.cons (.op .chkp (.cons (.inp 0) .nil)) .nil) (.eff (.ld false 1) (.cons (.op (.fld 0) (.cons (.op .chkp (.cons (.inp 0) .nil)) .nil)) .nil) (.chk none .chkp (.cons (.inp 0) .nil) (.chk none (.fld 1) (.cons (.op .chkp (.cons (.inp 0) .nil)) .nil) (.eff (.ld false 1) (.cons (.op (.fld 1) (.cons (.op .chkp (.cons (.inp 0) .nil)) .nil)) .nil) (.chk none .chkp (.cons (.inp 5) .nil) (.chk none (.fld 2) (.cons (.op .chkp (.cons (.inp 5) .nil)) .nil) (.eff (.ld false 1) (.cons (.op (.fld 2) (.cons (.op .chkp (.cons (.inp 5) .nil)) .nil)) .nil) (.chk none (.bin .add) (.cons (.bv 1) (.cons (.bv 2) .nil)) (.chk none (.bin .add) (.cons (.op (.bin .add) (.cons (.bv 1) (.cons (.bv 2) .nil))) (.cons (.inp 7) .nil)) (.eff (.call 75) (.cons (.bv 0) (.cons (.op (.bin .add) (.cons (.op (.bin .add) (.cons (.bv 1) (.cons (.bv 2) .nil))) (.cons (.inp 7) .nil))) (.cons (.inp 8) .nil))) (.done [] none)))))))))))))) h90_4)
@[simp] theorem h90_5_wp : type_of% (@wpH h90_5 _ h90_5.eq_1) := wpH h90_5.eq_1
def h90_6 : HC := (.seq (.br (.chk none (.bin .neq) (.cons (.inp 8) (.cons (.cst (.int .i64 0)) .nil)) (.done [] (some (.op (.bin .neq) (.cons (.inp 8) (.cons (.cst (.int .i64 0)) .nil)))))) h90_5 .skip) h90_3)
@[simp] theorem h90_6_wp : type_of% (@wpH h90_6 _ h90_6.eq_1) := wpH h90_6.eq_1
def h90_7 : HC := (.seq (.reg (.chk none .chkp (.cons (.inp 5) .nil) (.chk none (.fld 3) (.cons (.op .chkp (.cons (.inp 5) .nil)) .nil) (.eff (.ld false 1) (.cons (.op (.fld 3) (.cons (.op .chkp (.cons (.inp 5) .nil)) .nil)) .nil) (.eff (.call 95) (.cons (.bv 0) .nil) (.chk none (.ext 0) (.cons (.bv 1) .nil) (.chk none (.ext 1) (.cons (.bv 1) .nil) (.chk none (.ext 2) (.cons (.bv 1) .nil) (.done [(6, (.op (.ext 0) (.cons (.bv 1) .nil))), (7, (.op (.ext 1) (.cons (.bv 1) .nil))), (8, (.op (.ext 2) (.cons (.bv 1) .nil)))] none))))))))) h90_6)
@[simp] theorem h90_7_wp : type_of% (@wpH h90_7 _ h90_7.eq_1) := wpH h90_7.eq_1
def h90_8 : HC := (.seq (.reg (.done [(3, (.cst (.slice none 0 0))), (4, (.cst (.int .i64 0)))] none)) .ret)
@[simp] theorem h90_8_wp : type_of% (@wpH h90_8 _ h90_8.eq_1) := wpH h90_8.eq_1
def h90_9 : HC := (.seq (.br (.chk none (.eqNil false (.pointer 119) (.pointer none)) (.cons (.inp 5) .nil) (.done [] (some (.op (.eqNil false (.pointer 119) (.pointer none)) (.cons (.inp 5) .nil))))) h90_8 .skip) h90_7)
@[simp] theorem h90_9_wp : type_of% (@wpH h90_9 _ h90_9.eq_1) := wpH h90_9.eq_1
def h90_10 : HC := (.seq (.reg (.eff (.call 73) (.cons (.inp 0) (.cons (.inp 1) .nil)) (.done [(5, (.bv 0))] none))) h90_9)
@[simp] theorem h90_10_wp : type_of% (@wpH h90_10 _ h90_10.eq_1) := wpH h90_10.eq_1
def l90 : Lifted := ⟨[0, 1, 2, 6, 7, 8, 9, 10, 11], 74, [.slot 3, .slot 4], (.seq (.reg (.done [(3, (.cst (.slice none 0 0))), (4, (.cst (.int .i64 0)))] none)) h90_10)⟩
theorem l90_ok : liftFn T0 90 400 = some l90 := by kernel_rfl

def h76_0 : HC := (.seq (.reg (.eff (.call 91) (.cons (.inp 5) .nil) (.done [(3, (.bv 0))] none))) .ret)
@[simp] theorem h76_0_wp : type_of% (@wpH h76_0 _ h76_0.eq_1) := wpH h76_0.eq_1
def h76_1 : HC := (.reg (.chk none (.bin .add) (.cons (.inp 9) (.cons (.cst (.int .i64 1)) .nil)) (.done [(9, (.op (.bin .add) (.cons (.inp 9) (.cons (.cst (.int .i64 1)) .nil))))] none)))
@[simp] theorem h76_1_wp : type_of% (@wpH h76_1 _ h76_1.eq_1) := wpH h76_1.eq_1
def h76_2 : HC := (.reg (.chk none .chkp (.cons (.inp 6) .nil) (.chk none (.fld 3) (.cons (.op .chkp (.cons (.inp 6) .nil)) .nil) (.eff (.ld false 1) (.cons (.op (.fld 3) (.cons (.op .chkp (.cons (.inp 6) .nil)) .nil)) .nil) (.eff (.call 63) (.cons (.bv 0) .nil) (.eff (.bsl 31 1 1 #[(.slice none 0 0)] [0]) (.cons (.bv 1) .nil) (.eff (.app 90 90 31 1 24 (.slice none 0 0)) (.cons (.inp 5) (.cons (.bv 2) .nil)) (.done [(5, (.bv 3))] none))))))))
@[simp] theorem h76_2_wp : type_of% (@wpH h76_2 _ h76_2.eq_1) := wpH h76_2.eq_1
def h76_3 : HC := (.seq (.reg (.chk none (.idxL 1) (.cons (.inp 7) (.cons (.inp 9) .nil)) (.eff (.ld false 1) (.cons (.op (.idxL 1) (.cons (.inp 7) (.cons (.inp 9) .nil))) .nil) (.done [(6, (.bv 0))] none)))) h76_2)
@[simp] theorem h76_3_wp : type_of% (@wpH h76_3 _ h76_3.eq_1) := wpH h76_3.eq_1
def h76_4 : HC := (.seq (.block 1 h76_3) h76_1)
@[simp] theorem h76_4_wp : type_of% (@wpH h76_4 _ h76_4.eq_1) := wpH h76_4.eq_1
def h76_5 : HC := (.seq (.br (.chk none (.bin .lss) (.cons (.inp 9) (.cons (.inp 8) .nil)) (.done [] (some (.op (.bin .lss) (.cons (.inp 9) (.cons (.inp 8) .nil)))))) .skip (.exit 0)) h76_4)
@[simp] theorem h76_5_wp : type_of% (@wpH h76_5 _ h76_5.eq_1) := wpH h76_5.eq_1
def h76_6 : HC := (.loop h76_5)
@[simp] theorem h76_6_wp : type_of% (@wpH h76_6 _ h76_6.eq_1) := wpH h76_6.eq_1
def h76_7 : HC := (.seq (.block 0 h76_6) h76_0)
@[simp] theorem h76_7_wp : type_of% (@wpH h76_7 _ h76_7.eq_1) := wpH h76_7.eq_1
def h76_8 : HC := (.seq (.reg (.chk none .lenL (.cons (.inp 4) .nil) (.done [(7, (.inp 4)), (8, (.op .lenL (.cons (.inp 4) .nil))), (9, (.cst (.int .i64 0)))] none))) h76_7)
@[simp] theorem h76_8_wp : type_of% (@wpH h76_8 _ h76_8.eq_1) := wpH h76_8.eq_1
def h76_9 : HC := (.seq (.reg (.done [(5, (.cst (.slice none 0 0)))] none)) h76_8)
@[simp] theorem h76_9_wp : type_of% (@wpH h76_9 _ h76_9.eq_1) := wpH h76_9.eq_1
def h76_10 : HC := (.seq (.reg (.eff (.call 90) (.cons (.inp 0) (.cons (.inp 1) (.cons (.inp 2) .nil))) (.chk none (.ext 0) (.cons (.bv 0) .nil) (.chk none (.ext 1) (.cons (.bv 0) .nil) (.done [(4, (.op (.ext 0) (.cons (.bv 0) .nil)))] none))))) h76_9)
@[simp] theorem h76_10_wp : type_of% (@wpH h76_10 _ h76_10.eq_1) := wpH h76_10.eq_1
def l76 : Lifted := ⟨[0, 1, 2, 6, 7, 9, 11, 19, 20, 21], 36, [.slot 3], (.seq (.reg (.done [(3, (.cst (.slice none 0 0)))] none)) h76_10)⟩
theorem l76_ok : liftFn T0 76 400 = some l76 := by kernel_rfl

def h78_0 : HC := (.seq (.reg (.eff (.call 92) (.cons (.inp 6) .nil) (.done [(3, (.bv 0))] none))) .ret)
@[simp] theorem h78_0_wp : type_of% (@wpH h78_0 _ h78_0.eq_1) := wpH h78_0.eq_1
def h78_1 : HC := (.seq (.reg (.done [(3, (.cst (.slice none 0 0)))] none)) .ret)
@[simp] theorem h78_1_wp : type_of% (@wpH h78_1 _ h78_1.eq_1) := wpH h78_1.eq_1
def h78_2 : HC := (.seq (.br (.chk none .lenL (.cons (.inp 6) .nil) (.chk none (.bin .gtr) (.cons (.op .lenL (.cons (.inp 6) .nil)) (.cons (.cst (.int .i64 0)) .nil)) (.bnd (.op (.bin .gtr) (.cons (.op .lenL (.cons (.inp 6) .nil)) (.cons (.cst (.int .i64 0)) .nil))) (.chk (some ((.bv 0), true)) .chkp (.cons (.inp 0) .nil) (.chk (some ((.bv 0), true)) (.fld 0) (.cons (.op .chkp (.cons (.inp 0) .nil)) .nil) (.ite (.bv 0) true (.eff (.ld false 1) (.cons (.ite (.bv 0) true (.op (.fld 0) (.cons (.op .chkp (.cons (.inp 0) .nil)) .nil)) (.cst (.tuple #[]))) .nil) (.chk none .chkp (.cons (.bv 1) .nil) (.chk none (.fld 1) (.cons (.op .chkp (.cons (.bv 1) .nil)) .nil) (.eff (.ld false 1) (.cons (.op (.fld 1) (.cons (.op .chkp (.cons (.bv 1) .nil)) .nil)) .nil) (.chk none (.bin .neq) (.cons (.bv 2) (.cons (.cst (.int .i64 0)) .nil)) (.isb none (.bv 0) (.done [] (some (.op (.bin .neq) (.cons (.bv 2) (.cons (.cst (.int .i64 0)) .nil))))))))))) (.isb none (.bv 0) (.done [] (some (.cst (.bool false))))))))))) h78_1 .skip) h78_0)
@[simp] theorem h78_2_wp : type_of% (@wpH h78_2 _ h78_2.eq_1) := wpH h78_2.eq_1
def h78_3 : HC := (.reg (.chk none (.bin .add) (.cons (.inp 10) (.cons (.cst (.int .i64 1)) .nil)) (.done [(10, (.op (.bin .add) (.cons (.inp 10) (.cons (.cst (.int .i64 1)) .nil))))] none)))
@[simp] theorem h78_3_wp : type_of% (@wpH h78_3 _ h78_3.eq_1) := wpH h78_3.eq_1
def h78_4 : HC := (.regq (some 1) (.chk none .chkp (.cons (.inp 0) .nil) (.chk none (.fld 0) (.cons (.op .chkp (.cons (.inp 0) .nil)) .nil) (.eff (.ld false 1) (.cons (.op (.fld 0) (.cons (.op .chkp (.cons (.inp 0) .nil)) .nil)) .nil) (.chk none .chkp (.cons (.inp 7) .nil) (.chk none (.fld 2) (.cons (.op .chkp (.cons (.inp 7) .nil)) .nil) (.eff (.ld false 1) (.cons (.op (.fld 2) (.cons (.op .chkp (.cons (.inp 7) .nil)) .nil)) .nil) (.chk none (.bin .add) (.cons (.inp 5) (.cons (.bv 1) .nil)) (.chk none .chkp (.cons (.inp 7) .nil) (.chk none (.fld 3) (.cons (.op .chkp (.cons (.inp 7) .nil)) .nil) (.eff (.ld false 1) (.cons (.op (.fld 3) (.cons (.op .chkp (.cons (.inp 7) .nil)) .nil)) .nil) (.eff (.call 71) (.cons (.bv 0) (.cons (.op (.bin .add) (.cons (.inp 5) (.cons (.bv 1) .nil))) (.cons (.bv 2) .nil))) (.eff (.bsl 78 1 1 #[(.pointer none)] [0]) (.cons (.bv 3) .nil) (.eff (.app 125 125 78 1 8 (.pointer none)) (.cons (.inp 6) (.cons (.bv 4) .nil)) (.done [(6, (.bv 5))] none)))))))))))))))
@[simp] theorem h78_4_wp : type_of% (@wpH h78_4 _ h78_4.eq_1) := wpH h78_4.eq_1
def h78_5 : HC := (.seq (.reg (.chk none (.idxL 1) (.cons (.inp 8) (.cons (.inp 10) .nil)) (.eff (.ld false 1) (.cons (.op (.idxL 1) (.cons (.inp 8) (.cons (.inp 10) .nil))) .nil) (.done [(7, (.bv 0))] none)))) h78_4)
@[simp] theorem h78_5_wp : type_of% (@wpH h78_5 _ h78_5.eq_1) := wpH h78_5.eq_1
def h78_6 : HC := (.seq (.block 1 h78_5) h78_3)
@[simp] theorem h78_6_wp : type_of% (@wpH h78_6 _ h78_6.eq_1) := wpH h78_6.eq_1
def h78_7 : HC := (.seq (.br (.chk none (.bin .lss) (.cons (.inp 10) (.cons (.inp 9) .nil)) (.done [] (some (.op (.bin .lss) (.cons (.inp 10) (.cons (.inp 9) .nil)))))) .skip (.exit 0)) h78_6)
@[simp] theorem h78_7_wp : type_of% (@wpH h78_7 _ h78_7.eq_1) := wpH h78_7.eq_1
def h78_8 : HC := (.loop h78_7)
@[simp] theorem h78_8_wp : type_of% (@wpH h78_8 _ h78_8.eq_1) := wpH h78_8.eq_1
def h78_9 : HC := (.seq (.block 0 h78_8) h78_2)
@[simp] theorem h78_9_wp : type_of% (@wpH h78_9 _ h78_9.eq_1) := wpH h78_9.eq_1
def h78_10 : HC := (.seq (.reg (.chk none .lenL (.cons (.inp 4) .nil) (.done [(8, (.inp 4)), (9, (.op .lenL (.cons (.inp 4) .nil))), (10, (.cst (.int .i64 0)))] none))) h78_9)
@[simp] theorem h78_10_wp : type_of% (@wpH h78_10 _ h78_10.eq_1) := wpH h78_10.eq_1
def h78_11 : HC := (.seq (.reg (.done [(6, (.cst (.slice none 0 0)))] none)) h78_10)
@[simp] theorem h78_11_wp : type_of% (@wpH h78_11 _ h78_11.eq_1) := wpH h78_11.eq_1
def h78_12 : HC := (.seq (.reg (.eff (.call 90) (.cons (.inp 0) (.cons (.inp 1) (.cons (.inp 2) .nil))) (.chk none (.ext 0) (.cons (.bv 0) .nil) (.chk none (.ext 1) (.cons (.bv 0) .nil) (.done [(4, (.op (.ext 0) (.cons (.bv 0) .nil))), (5, (.op (.ext 1) (.cons (.bv 0) .nil)))] none))))) h78_11)
@[simp] theorem h78_12_wp : type_of% (@wpH h78_12 _ h78_12.eq_1) := wpH h78_12.eq_1
def l78 : Lifted := ⟨[0, 1, 2, 6, 7, 8, 9, 11, 19, 20, 21], 59, [.slot 3], (.seq (.reg (.done [(3, (.cst (.slice none 0 0)))] none)) h78_12)⟩
theorem l78_ok : liftFn T0 78 400 = some l78 := by kernel_rfl

def h91_0 : HC := (.seq (.reg (.chk none .lenL (.cons (.inp 0) .nil) (.chk none .lenL (.cons (.inp 0) .nil) (.chk none (.slL 1 false true true) (.cons (.inp 0) (.cons (.op .lenL (.cons (.inp 0) .nil)) (.cons (.op .lenL (.cons (.inp 0) .nil)) .nil))) (.done [(1, (.op (.slL 1 false true true) (.cons (.inp 0) (.cons (.op .lenL (.cons (.inp 0) .nil)) (.cons (.op .lenL (.cons (.inp 0) .nil)) .nil)))))] none))))) .ret)
@[simp] theorem h91_0_wp : type_of% (@wpH h91_0 _ h91_0.eq_1) := wpH h91_0.eq_1
def l91 : Lifted := ⟨[0, 2], 9, [.slot 1], (.seq (.reg (.done [(1, (.cst (.slice none 0 0)))] none)) h91_0)⟩
theorem l91_ok : liftFn T0 91 400 = some l91 := by kernel_rfl

def h92_0 : HC := (.seq (.reg (.chk none .lenL (.cons (.inp 0) .nil) (.chk none .lenL (.cons (.inp 0) .nil) (.chk none (.slL 1 false true true) (.cons (.inp 0) (.cons (.op .lenL (.cons (.inp 0) .nil)) (.cons (.op .lenL (.cons (.inp 0) .nil)) .nil))) (.done [(1, (.op (.slL 1 false true true) (.cons (.inp 0) (.cons (.op .lenL (.cons (.inp 0) .nil)) (.cons (.op .lenL (.cons (.inp 0) .nil)) .nil)))))] none))))) .ret)
@[simp] theorem h92_0_wp : type_of% (@wpH h92_0 _ h92_0.eq_1) := wpH h92_0.eq_1
def l92 : Lifted := ⟨[0, 2], 9, [.slot 1], (.seq (.reg (.done [(1, (.cst (.slice none 0 0)))] none)) h92_0)⟩
theorem l92_ok : liftFn T0 92 400 = some l92 := by kernel_rfl
def lstR (bad : Bool) (F : List (Int × List UInt8)) (tag most : Int) : List (List UInt8) × Bool := match valF bad F tag with
  | none => ([], bad)
  | some x => match itF x with
    | none => ([], true)
    | some L => if (if most < 0 then 0 else most) < L.length then ([], true) else (L, false)
theorem itF_each {b : List UInt8} {L : List (List UInt8)} (h : itF b = some L) : ∀ x ∈ L, x.length ≤ b.length := by
  have key : ∀ (k a : Nat) (L : List (List UInt8)), a ≤ b.length → itK b k a = some L → ∀ x ∈ L, x.length ≤ b.length := by
    intro k
    induction k with
    | zero => intro a L _ h; cases h; simp
    | succ k ih =>
      intro a L ha h
      simp only [itK] at h
      split at h
      · cases h; simp
      · cases hp : piF b a with
        | none => rw [hp] at h; cases h
        | some x =>
          rw [hp] at h
          obtain ⟨L', h1, rfl⟩ := Option.map_eq_some_iff.1 h
          have hx := piF_ok ha hp
          have := ih _ _ hx.2 h1
          intro y hy
          rcases List.mem_cons.1 hy with rfl | hy
          · rw [cut_len hx.2]; omega
          · exact this y hy
  unfold itF at h
  split at h
  · cases h
  · exact key _ _ _ (Nat.zero_le _) h
theorem lstR_ok {bad : Bool} {F : List (Int × List UInt8)} (hO : OKF F) (tag most : Int) : (lstR bad F tag most).1.length ≤ 1048576 ∧ ∀ x ∈ (lstR bad F tag most).1, x.length ≤ 1048576 := by
  unfold lstR
  split
  · simp
  · rename_i x hx
    have hl := valF_len hO hx
    split
    · simp
    · rename_i L hL
      by_cases hc : (if most < 0 then 0 else most) < (L.length : Int)
      · rw [if_pos hc]; simp
      · rw [if_neg hc]
        have h1 := itF_len hL
        have h2 := itF_each hL
        exact ⟨by simp only; omega, fun y hy => by have := h2 y hy; omega⟩
abbrev itA (lv : Value) (l : List (Nat × Pf)) : Asn := own 114 1 lv l.length (ptrs l) * ptsA l
theorem itA_nil {w0 w : World} {A : Asn} (s : St w0 A w) : St w0 (A * itA (.slice none 0 0) []) w := by
  have := s.own_nil 114 1
  have e : ptsA [] = emp := rfl
  simp only [itA, e, sep_emp]
  exact this
set_option maxHeartbeats 1000000 in
theorem items_rspec (r q : Nat) (bad : Bool) (F : List (Int × List UInt8)) (tag most : Int) (w0 w : World) (A B : Asn) (hB : ∀ w, St w0 A w → St w0 B w) (hO : OKF F) (s : St w0 (A * flt q bad * rdP w0 B r q F) w) :
    CallW Try.prog 90 [.pointer (some ⟨r, 0, none⟩), .int .i64 tag, .int .i64 most] (fun v w' => ∃ lv n l2, v = .tuple #[lv, .int .i64 n] ∧ PV w0 B l2 ((lstR bad F tag most).1.map fun x => (0, x)) ∧ St w0 (A * flt q (lstR bad F tag most).2 * rdP w0 B r q F * itA lv l2) w') w := by
  obtain ⟨l, hP, s1⟩ := popen s
  refine callW_of_lift l90_ok (by simp [l90]) ?_
  simp [l90]
  refine eff_call ((field_rspec r q bad l F tag w0 w A B (by have := hO.len; omega) hP s1).mono ?_)
  rintro _ w1 (⟨l1, hv, rfl, hP1, s2⟩ | ⟨l1, i, hi, x, hv, rfl, hP1, hx, rfl, s2⟩)
  · have e : lstR bad F tag most = ([], bad) := by simp only [lstR, hv]
    simp [e]
    exact ⟨_, PV.nil, itA_nil (pclose hP1 s2)⟩
  have hxl := valF_len hO hv
  obtain ⟨base, lv, s3⟩ := rdO_of s2
  simp
  refine eff_ldc (v := l1[i].2.v) (rdO_p hi s3).2 ?_
  simp
  refine eff_call ((items_spec x l1[i].2.v w0 w1 _ B (fun w s => hB w s.drop.drop.drop.drop) hxl hx s3).mono ?_)
  rintro _ w2 (⟨L, l2, lv2, hL, rfl, hP2, s4⟩ | ⟨hL, pl, e0, he0, rfl, s4⟩)
  · have hl2 : l2.length = L.length := by have := hP2.1; simpa using this
    have hLl := itF_len hL
    obtain ⟨va, vc, rfl, _, _⟩ := s4.drop.own_val
    simp
    refine eff_max ?_
    simp
    refine cndI (fun c => ?_) (fun c => ?_)
    · simp at c
      have e : lstR false F tag most = ([], true) := by simp only [lstR, hv, hL]; rw [if_pos (by omega)]
      rw [e]
      simp
      have s5 : St w0 (rdO A r q base lv l1 false) w2 := s4.drop.drop
      refine regmI (oneC (St w0 (rdO A r q base lv l1 false)) (St w0 (A * flt q true * rdP w0 B r q F))) s5.drew ?_
      simp
      refine effm_ldc (v := .pointer (some ⟨q, 0, none⟩)) (fun vs' w he hw => (rdO_r (oneC_pre he hw)).1) ?_
      simp
      refine effm_ldc (v := .int .i64 base) (fun vs' w he hw => (rdO_r (oneC_pre he hw)).2.1) ?_
      simp
      refine effm_ldc (v := .int .i64 l1[i].2.from') (fun vs' w he hw => (rdO_p hi (oneC_pre he hw)).1) ?_
      simp
      refine effm_mv rfl (fun w hw => bad_call r q i l1 F base lv w0 A B hP1 _ 3 _ w (by decide) hw fun u w' s' => s') (fun u _ => ?_)
      simp
      intro w5 s5
      exact ⟨_, PV.nil, itA_nil s5⟩
    · simp at c
      have e : lstR false F tag most = (L, false) := by simp only [lstR, hv, hL]; rw [if_neg (by omega)]
      rw [e]
      simp
      have s5 : St w0 (rdO A r q base lv l1 false * itA (.slice va l2.length vc) l2) w2 := s4.to (by simp only [rdO, itA]; ac_rfl)
      refine regqI s5 ?_
      simp
      refine effq_ldc (v := .int .i64 base) (fun w s => (rdO_r s.drop).2.1) ?_
      simp
      refine effq_ldc (v := .int .i64 l1[i].2.from') (fun w s => (rdO_p hi s.drop).1) ?_
      simp
      intro w6 s6
      refine ⟨l2, hP2, ?_⟩
      exact (pclose (A := A * flt q false * itA (.slice va l2.length vc) l2) hP1 (rclose (base := base) (lv := lv) (s6.to (by simp only [rdO]; ac_rfl)))).swap
  · have e : lstR false F tag most = ([], true) := by simp only [lstR, hv, hL]
    rw [e]
    simp [he0]
    refine regmI (oneC (St w0 (rdO A r q base lv l1 false)) (St w0 (A * flt q true * rdP w0 B r q F))) s4.drew ?_
    simp
    refine effm_ldc (v := .pointer (some ⟨q, 0, none⟩)) (fun vs' w he hw => (rdO_r (oneC_pre he hw)).1) ?_
    simp
    refine effm_ldc (v := .int .i64 base) (fun vs' w he hw => (rdO_r (oneC_pre he hw)).2.1) ?_
    simp
    refine effm_ldc (v := .int .i64 l1[i].2.from') (fun vs' w he hw => (rdO_p hi (oneC_pre he hw)).1) ?_
    simp
    refine effm_mv rfl (fun w hw => bad_call r q i l1 F base lv w0 A B hP1 _ e0 _ w he0 hw fun u w' s' => s') (fun u _ => ?_)
    simp
    intro w5 s5
    exact ⟨_, PV.nil, itA_nil s5⟩
theorem ClipB_spec (n : Nat) (vs : List Value) (v : Value) (w0 w : World) (A : Asn) (s : St w0 (A * own 31 1 v n vs) w) :
    CallW Try.prog 91 [v] (fun r w' => St w0 (A * own 31 1 r n vs) w') w := by
  obtain ⟨a, cap, rfl, hcap, hz⟩ := s.own_val
  refine callW_of_lift l91_ok (by simp [l91]) ?_
  simp [l91, add_zero]
  exact ⟨hcap, clip_own s⟩
theorem ClipR_spec (n : Nat) (vs : List Value) (v : Value) (w0 w : World) (A : Asn) (s : St w0 (A * own 78 1 v n vs) w) :
    CallW Try.prog 92 [v] (fun r w' => St w0 (A * own 78 1 r n vs) w') w := by
  obtain ⟨a, cap, rfl, hcap, hz⟩ := s.own_val
  refine callW_of_lift l92_ok (by simp [l92]) ?_
  simp [l92, add_zero]
  exact ⟨hcap, clip_own s⟩
theorem List_rspec (r q : Nat) (bad : Bool) (F : List (Int × List UInt8)) (tag most : Int) (w0 w : World) (A B : Asn) (hB : ∀ w, St w0 A w → St w0 B w) (hO : OKF F) (s : St w0 (A * flt q bad * rdP w0 B r q F) w) :
    CallW Try.prog 76 [.pointer (some ⟨r, 0, none⟩), .int .i64 tag, .int .i64 most] (fun v w' => ∃ vs, vs.length = (lstR bad F tag most).1.length ∧ St w0 (A * flt q (lstR bad F tag most).2 * rdP w0 B r q F * own 31 1 v vs.length vs * bss vs (lstR bad F tag most).1) w') w := by
  have hLo := lstR_ok (bad := bad) hO tag most
  refine callW_of_lift l76_ok (by simp [l76]) ?_
  simp [l76]
  refine eff_call ((items_rspec r q bad F tag most w0 w A B hB hO s).mono ?_)
  rintro _ w1 ⟨lv, n, l2, rfl, hP2, s1⟩
  obtain ⟨L, hL⟩ : ∃ L, (lstR bad F tag most).1 = L := ⟨_, rfl⟩
  rw [hL] at hP2 hLo ⊢
  obtain ⟨D, hD⟩ : ∃ D, A * flt q (lstR bad F tag most).2 * rdP w0 B r q F = D := ⟨_, rfl⟩
  rw [hD] at s1 ⊢
  have hDB : ∀ w, St w0 D w → St w0 B w := fun w s => by rw [← hD] at s; exact hB w s.drop.drop
  have hl2 : l2.length = L.length := by have := hP2.1; simpa using this
  obtain ⟨va, vc, rfl, _⟩ := (s1.to (B := D * ptsA l2 * own 114 1 lv l2.length (ptrs l2)) (by simp only [itA]; ac_rfl)).own_val
  simp
  refine loopI (fun env w' => ∃ (i : Nat) (ov o6 : Value) (vs : List Value), env = [.pointer (some ⟨r, 0, none⟩), .int .i64 tag, .int .i64 most, .slice none 0 0, .slice va l2.length vc, ov, o6, .slice va l2.length vc, .int .i64 l2.length, .int .i64 i] ∧ i ≤ l2.length ∧ vs.length = i ∧ St w0 (D * own 114 1 (.slice va l2.length vc) l2.length (ptrs l2) * ptsA l2 * own 31 1 ov i vs * bss vs (L.take i)) w')
    (fun env _ => l2.length - slotN env 9) ⟨0, _, _, [], rfl, by omega, rfl, ?_⟩ ?_
  · have h := (s1.to (B := D * own 114 1 (.slice va l2.length vc) l2.length (ptrs l2) * ptsA l2) (by simp only [itA]; ac_rfl)).own_nil 31 1
    have e : bss ([] : List Value) (L.take 0) = emp := rfl
    rw [e, sep_emp]; exact h
  clear s1
  rintro LQ env w' ⟨i, ov, o6, vs, rfl, hi, hvs, s2⟩ hN hX hR
  simp
  refine cndI (fun c => ?_) (fun c => ?_)
  · simp at c
    have hiL : i < L.length := by omega
    obtain ⟨g, _, hv, _, hcell⟩ := s2.drop.drop.drop.own_at (by omega)
    cases hv
    simp [c]
    refine eff_ldc (v := .pointer (some ⟨l2[i].1, 0, none⟩)) (by have := hcell i (.pointer (some ⟨l2[i].1, 0, none⟩)) (by simp [ptrs, c]); simpa using this) ?_
    simp
    have hPi := hP2.2 i c (by simpa using hiL)
    have hxi : BR w0 B l2[i].2.v L[i] := by have := hPi.2; simpa using this
    refine eff_ldc (v := l2[i].2.v) (pts_cells c s2.drop.drop 3 _ rfl) ?_
    simp
    refine eff_call ((own_spec L[i] l2[i].2.v w0 w' _ (by have := hLo.2 _ (List.getElem_mem hiL); omega) (hxi.mono fun w s => hDB w s.drop.drop.drop.drop) s2).mono fun u w3 s3 => ?_)
    obtain ⟨ua, uc, rfl, _, _⟩ := s3.own_val
    simp
    refine eff_bsl1 s3 rfl fun d w4 s4 => ?_
    simp
    have s4 : St w0 (D * own 114 1 (.slice (some ⟨g, 0, none⟩) l2.length vc) l2.length (ptrs l2) * ptsA l2 * bss (vs ++ [.slice ua L[i].length uc]) (L.take (i + 1)) * pt d (.cells #[.slice ua L[i].length uc] 31 (0, 0)) * own 31 1 ov i vs) w4 := s4.to (by
      rw [List.take_succ_eq_append_getElem hiL, bss_snoc _ _ _ _ (by simp [hvs]; omega)]; ac_rfl)
    refine eff_app (m := 1) (news := [.slice ua L[i].length uc]) s4 rfl (by simpa using s4.swap.cells_look) (by simp [Value.oneCell']) (by decide) rfl (by unfold maxLen; omega) (by omega) fun v5 w5 s5 => ?_
    simp
    try simp (disch := omega) only [wrap64]
    exact hN _ _ ⟨i + 1, v5, _, vs ++ [.slice ua L[i].length uc], by simp; rfl, by omega, by simp [hvs], s5.swap.drop.swap⟩ (by simp [slotN]; omega)
  · simp at c
    simp
    refine hX _ _ _ ?_
    simp
    obtain rfl : i = l2.length := by omega
    rw [hl2, List.take_length] at s2
    refine eff_call ((ClipB_spec L.length vs ov w0 w' (D * own 114 1 (.slice va L.length vc) L.length (ptrs l2) * ptsA l2 * bss vs L) (s2.to (by ac_rfl))).mono fun u w3 s3 => ?_)
    simp
    refine ⟨vs, by omega, ?_⟩
    have e : vs.length = L.length := by omega
    rw [e]
    exact s3.cut (own 114 1 (.slice va L.length vc) L.length (ptrs l2) * ptsA l2) (by ac_rfl)
end Go.HL.Tl
