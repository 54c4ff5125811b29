/-
  The engine, fourth part: rules for more effects: a slice built of several parts, a slice made, bytes to a text. No condition.
-/
import Derived.Test.YtngjaibngkhidaaEngC
namespace Go.HL
set_option linter.unusedSimpArgs false
set_option linter.unusedVariables false
theorem wrapu32 {x : Int} (h1 : 0 ≤ x) (h2 : x ≤ 4294967295) : IntKind.u32.wrap x = x := IntWalk.u32_in x ⟨h1, h2⟩
section
variable {P : Program} {K : Value → World → Prop} {w w0 : World} {F : Asn}
theorem cells_one {x : Value} (h1 : x.oneCell' = true) : x.cells = #[x] := by cases x <;> first | rfl | (simp [Value.oneCell'] at h1)
theorem zrow (n : Nat) (z : Value) : ((Array.range n).map fun i => (#[z])[i % (#[z]).size]!) = (List.replicate n z).toArray := by
  apply Array.ext
  · simp
  · intro i h1 h2
    simp [Nat.mod_one]
theorem eff_bsl2 {e : Nat} {z x y : Value} (s : St w0 F w) (h1 : x.oneCell' = true) (h2 : y.oneCell' = true)
    (hk : ∀ b w', St w0 (F * pt b (.cells #[x, y] e (0, 0))) w' → K (.slice (some ⟨b, 0, none⟩) 2 2) w') : EffW P (.bsl e 2 1 #[z] [0, 1]) [x, y] K w := by
  refine eff_bsl (cells := #[x, y]) s ?_ hk
  rw [zrow]
  simp [Instr.fill, cells_one h1, cells_one h2]
theorem eff_bsl3 {e : Nat} {z x y u : Value} (s : St w0 F w) (h1 : x.oneCell' = true) (h2 : y.oneCell' = true) (h3 : u.oneCell' = true)
    (hk : ∀ b w', St w0 (F * pt b (.cells #[x, y, u] e (0, 0))) w' → K (.slice (some ⟨b, 0, none⟩) 3 3) w') : EffW P (.bsl e 3 1 #[z] [0, 1, 2]) [x, y, u] K w := by
  refine eff_bsl (cells := #[x, y, u]) s ?_ hk
  rw [zrow]
  simp [Instr.fill, cells_one h1, cells_one h2, cells_one h3]
theorem eff_bsl4 {e : Nat} {z x y u v : Value} (s : St w0 F w) (h1 : x.oneCell' = true) (h2 : y.oneCell' = true) (h3 : u.oneCell' = true) (h4 : v.oneCell' = true)
    (hk : ∀ b w', St w0 (F * pt b (.cells #[x, y, u, v] e (0, 0))) w' → K (.slice (some ⟨b, 0, none⟩) 4 4) w') : EffW P (.bsl e 4 1 #[z] [0, 1, 2, 3]) [x, y, u, v] K w := by
  refine eff_bsl (cells := #[x, y, u, v]) s ?_ hk
  rw [zrow]
  simp [Instr.fill, cells_one h1, cells_one h2, cells_one h3, cells_one h4]
/-- a slice, made: its cells are zero -/
theorem eff_mks {t e size bytes l c : Nat} {k k' : IntKind} {z : Value} (s : St w0 F w) (hlc : l ≤ c) (hm : c ≤ maxLen) (hb : bytes * c ≤ 281474976710656) (hz : z.cells.size = size)
    (hk : ∀ v w', St w0 (F * HL.own e size v l (((Array.range (c * size)).map (z.cells[· % z.cells.size]!)).toList.take (l * size))) w' → K v w') : EffW P (.mks t e size bytes z) [.int k l, .int k' c] K w := by
  rintro ⟨ht, i, hi, hiz, rfl, rfl⟩
  have hc2 : (c : Int) ≤ 9223372036854775807 := by simp only [maxLen] at hm; omega
  have wc : IntKind.i64.wrap (c : Int) = c := wrap64 (by omega) hc2
  have wl : IntKind.i64.wrap (l : Int) = l := wrap64 (by omega) (by omega)
  refine upon_val (w' := w.alloc (.cells ((Array.range (c * i.size)).map (z.cells[· % z.cells.size]!)) e)) (v := .slice (some ⟨w.heap.size, 0, none⟩) l c) ?_ (hk _ _ ?_)
  · have hb' : ¬ (281474976710656 < (i.bytes : Int) * (c : Int)) := by
      rw [← Int.natCast_mul]; omega
    have hlt : ¬ ((c : Int) < (l : Int)) := by omega
    have hc0 : ¬ ((c : Int) < 0) := by omega
    have hl0 : ¬ ((l : Int) < 0) := by omega
    have hr0 : Array.range 0 = #[] := rfl
    have hnew : ∀ cs, (newRow e cs).run P w = .ok ⟨w.heap.size, 0, none⟩ (w.alloc (.cells cs e)) := fun cs => by simp [newRow]
    have hzv : (zeroValue e).run P w = .ok z w := by simp [zeroValue, typeInfo, hi, hiz, Sem.run_bind]
    by_cases h0 : c * i.size = 0
    · have e1 : c = 0 ∨ i.size = 0 := Nat.mul_eq_zero.1 h0
      simp [Instr.makeSlice, run_underlying ht, typeInfo, hi, sizeOf, wc, wl, asInt, asIntOf, hb', hlt, hc0, hl0, h0, e1, hnew, hr0]
    · simp [Instr.makeSlice, run_underlying ht, typeInfo, hi, sizeOf, wc, wl, asInt, asIntOf, hb', hlt, hc0, hl0, h0, hnew, hzv]
  · refine St.own_mk (s.alloc (by rfl)) hlc hm (by simp) rfl
/-- a cell of an owned slice is set -/
theorem eff_stO {e n g cap j : Nat} {u : Value} {xs : List Value} (s : St w0 (F * HL.own e 1 (.slice (some ⟨g, 0, none⟩) n cap) n xs) w) (hj : j < n) (h1 : u.oneCell' = true)
    (hk : ∀ w', St w0 (F * HL.own e 1 (.slice (some ⟨g, 0, none⟩) n cap) n (xs.set j u)) w' → K undef w') : EffW P (.st 1) [.pointer (some ⟨g, j, none⟩), u] K w := by
  rcases s.own.2 with ⟨h, _⟩ | ⟨g', cap', cur, h, hn, hm, hc, ht, s'⟩
  · cases h
  · cases h
    refine eff_st1 s' h1 (by omega) fun w' s2 => hk w' (s2.own_mk' hn hm (by simpa using hc) ?_)
    rw [Array.toList_setIfInBounds, List.take_set, ht]
/-- appending where there is room: in the same row -/
theorem eff_app_room {t ty e size bytes g n m c cap : Nat} {z : Value} {cur : Array Value} {news : List Value} {a : Addr} (s : St w0 (F * pt g (.cells cur e (0, 0))) w)
    (hl : news.length = m * size) (hx : ∀ j u, news[j]? = some u → w.cell? (a.add j) = some u) (h1 : ∀ u ∈ news, u.oneCell' = true) (hroom : n + m ≤ cap) (hcs : cap * size ≤ cur.size)
    (hk : ∀ w', St w0 (F * pt g (.cells (cur.toList.take (n * size) ++ news ++ cur.toList.drop (n * size + news.length)).toArray e (0, 0))) w' → K (.slice (some ⟨g, 0, none⟩) (n + m) cap) w') :
    EffW P (.app t ty e size bytes z) [.slice (some ⟨g, 0, none⟩) n cap, .slice (some a) m c] K w := by
  rintro ⟨ht, i, hi, hiz, rfl, rfl⟩
  have hfit : n * i.size + news.length ≤ cur.size := by rw [hl, ← Nat.add_mul]; exact Nat.le_trans (Nat.mul_le_mul_right _ hroom) hcs
  have hr := run_append_room (P := P) w t ty e i ht hi g n cap cur s.look a m c news hl hx h1 hroom hfit
  exact upon_val hr (hk _ (splice_turn (off := n * i.size) (vs := news) s))
@[simp] theorem iteR_ft {F : PF P} {env : List Value} {Kr} (a b : RT) (bvs : List Value) : IteR F (.bool false) true a b env Kr bvs w = b.wp F env Kr bvs w := rfl
@[simp] theorem iteR_tf {F : PF P} {env : List Value} {Kr} (a b : RT) (bvs : List Value) : IteR F (.bool true) false a b env Kr bvs w = b.wp F env Kr bvs w := rfl
/-- bytes, as values -/
def bytesV (l : List UInt8) : List Value := l.map fun b => .int .u8 b.toNat
theorem push_all : ∀ (l : List UInt8) (s : ByteArray), l.foldl (fun b a => b.push a) s = ⟨s.data ++ l.toArray⟩
  | [], s => by simp
  | b :: l, s => by
    rw [List.foldl_cons, push_all l]
    simp [ByteArray.push]
theorem run_push (P : Program) (w : World) : ∀ (l : List UInt8) (s : ByteArray), (forIn (bytesV l) s (fun c s => (match c with
        | .int .u8 n => pure (ForInStep.yield (s.push (UInt8.ofNat n.toNat)))
        | x => do
          stuck (α := Unit) "bytesToString: byte expected"
          pure (ForInStep.yield s) : Sem (ForInStep ByteArray)))).run P w = .ok ⟨s.data ++ l.toArray⟩ w
  | [], s => by simp [bytesV]
  | b :: l, s => by
    have ih := run_push P w l (s.push b)
    simp only [bytesV] at ih
    simp only [bytesV, List.map_cons, List.forIn_cons, Sem.run_bind]
    simp
    rw [push_all]
    apply congrArg
    simp
/-- bytes to a text -/
theorem eff_b2s {t d e n : Nat} {v : Value} {bs : List UInt8} (s : St w0 (F * HL.own e 1 v n (bytesV bs)) w) (hk : K (.string (mk bs)) w) : EffW P (.b2s t d) [v] K w := by
  intro _
  rcases s.own_cell with ⟨hx, rfl⟩ | ⟨g, cap, rfl, hn, hc⟩
  · have : bs = [] := by simpa [bytesV] using hx
    subst this
    exact upon_val (w' := w) (v := .string (mk [])) (by simp [Conv.bytesToString]; rfl) hk
  · refine upon_val (w' := w) (v := .string (mk bs)) ?_ hk
    have hl : (bytesV bs).length = n := by simpa using s.own.1
    have := run_loadCells_list (P := P) w ⟨g, 0, none⟩ (bytesV bs) (by
      intro j u hj
      rw [addr_add, Nat.zero_add]; exact hc j u hj)
    rw [hl] at this
    have hp := run_push P w bs .empty
    simp only [Conv.bytesToString, Sem.run_bind, this, Result.andThen_ok]
    rw [List.forIn_toArray]
    refine (congrArg (fun r => Result.andThen r _) hp).trans ?_
    simp
end
/-! regions that draw their order: each effect yields one value in every world of the class -/
section
variable {P : Program} {F : PF P} {env bvs : List Value} {w : World} {Q : EX → List Value → World → Prop} {C : World → Prop}
def EffQ (P : Program) (C : World → Prop) (eo : EO) (vs : List Value) (K : Value → Prop) : Prop := ∃ v, (∀ w, C w → QuietW P C eo vs v w) ∧ K v
def contQ (F : PF P) (C : World → Prop) (env : List Value) (K : List Value → Option Value → Prop) (k : RT) (bvs : List Value) (v : Value) : Prop := k.wpq F C env K (bvs ++ [v])
def IteQ (F : PF P) (C : World → Prop) (c : Value) (v : Bool) (a b : RT) (env : List Value) (K : List Value → Option Value → Prop) (bvs : List Value) : Prop := if isB c v = true then a.wpq F C env K bvs else b.wpq F C env K bvs
/-- what is asked after it, in each world of the class -/
def regKq (C : World → Prop) (Q : EX → List Value → World → Prop) (env : List Value) (_ : Option Value) : Prop := ∀ w, C w → Q .nrm env w
def brKq (F : PF P) (C : World → Prop) (x y : HC) (Q : EX → List Value → World → Prop) (env : List Value) (c : Option Value) : Prop := ∀ w, C w → CondC F (c.getD undef) x y Q env w
@[simp] theorem wpq_done {K} (sets : List (Nat × SE)) (c : Option SE) : (RT.done sets c).wpq F C env K bvs = K (setAll F env bvs sets env) (c.map (SE.val F env bvs)) := rfl
@[simp] theorem wpq_chk {K} (g : Option (SE × Bool)) (p : PO) (xs : SEs) (k : RT) : (RT.chk g p xs k).wpq F C env K bvs = ((guardOn F env bvs g → p.ok F (SEs.vals F env bvs xs)) ∧ k.wpq F C env K bvs) := rfl
@[simp] theorem wpq_isb {K} (g : Option (SE × Bool)) (c : SE) (k : RT) : (RT.isb g c k).wpq F C env K bvs = ((guardOn F env bvs g → ∃ b, SE.val F env bvs c = .bool b) ∧ k.wpq F C env K bvs) := rfl
@[simp] theorem wpq_eff {K} (eo : EO) (xs : SEs) (k : RT) : (RT.eff eo xs k).wpq F C env K bvs = EffQ P C eo (SEs.vals F env bvs xs) (contQ F C env K k bvs) := rfl
@[simp] theorem wpq_bnd {K} (e : SE) (k : RT) : (RT.bnd e k).wpq F C env K bvs = k.wpq F C env K (bvs ++ [SE.val F env bvs e]) := rfl
@[simp] theorem wpq_ite {K} (c : SE) (v : Bool) (a b : RT) : (RT.ite c v a b).wpq F C env K bvs = IteQ F C (SE.val F env bvs c) v a b env K bvs := rfl
@[simp] theorem contQ_app {K} (k : RT) (v : Value) : contQ F C env K k bvs v = k.wpq F C env K (bvs ++ [v]) := rfl
@[simp] theorem iteQ_tt {K} (a b : RT) : IteQ F C (.bool true) true a b env K bvs = a.wpq F C env K bvs := rfl
@[simp] theorem iteQ_ft {K} (a b : RT) : IteQ F C (.bool false) true a b env K bvs = b.wpq F C env K bvs := rfl
@[simp] theorem regKq_app (c : Option Value) : regKq C Q env c = ∀ w, C w → Q .nrm env w := rfl
@[simp] theorem brKq_app (x y : HC) (c : Option Value) : brKq F C x y Q env c = ∀ w, C w → CondC F (c.getD undef) x y Q env w := rfl
/-- the class: what an assertion says -/
theorem brqI {w0 : World} {A : Asn} {m : Option Nat} {t : RT} {x y : HC} (s : St w0 A w) (h : t.wpq F (St w0 A) env (brKq F (St w0 A) x y Q) []) : (HC.brq m t x y).wp F Q env w := .inl ⟨St w0 A, s.drew, h⟩
theorem regqI {w0 : World} {A : Asn} {m : Option Nat} {t : RT} (s : St w0 A w) (h : t.wpq F (St w0 A) env (regKq (St w0 A) Q) []) : (HC.regq m t).wp F Q env w := .inl ⟨St w0 A, s.drew, h⟩
theorem effq_ldc {a : Addr} {n : Nat} {v : Value} {K : Value → Prop} (hc : ∀ w, C w → w.cell? a = some v) (hk : K v) : EffQ P C (.ld false n) [.pointer (some a)] K := by
  refine ⟨v, fun w hw _ => ?_, hk⟩
  have := hc w hw
  have hr : (ldS false n (.pointer (some a))).run P w = .ok v w := by simp [ldS, Instr.sureAddr, this]
  simp only [EO.sem, valS, Sem.run_bind, hr, Result.andThen_ok, Sem.run_pure]
  exact ⟨rfl, rfl⟩
theorem effq_call {f : FuncId} {vs : List Value} {v : Value} {K : Value → Prop} (hc : ∀ w, C w → CallW P f vs (fun r w' => r = v ∧ C w') w) (hk : K v) : EffQ P C (.call f) vs K := by
  refine ⟨v, fun w hw hb => ?_, hk⟩
  simp only [EO.sem, callFunc_run hb]
  exact ⟨rfl, Calls.mono (hc w hw) fun e w' ⟨r, he, hr, h⟩ => ⟨hr ▸ he, h⟩⟩
end
end Go.HL
