/-
  Wheel: memory; a timer is hung, dropped. Conditions: ticks from 0 up.
-/
import Derived.Test.YtngjaibngkhidaaWhA
namespace Go.HL.Wh
open Go.HL Go.Proofs
set_option maxRecDepth 4000
set_option linter.unusedSimpArgs false
set_option linter.unusedVariables false
noncomputable def placeS : PS Try.prog where
  f := 31
  val args := match args with
    | [.int _ a, .int _ n] => .tuple #[.int .i64 (lvF a.toNat n.toNat).1, .int .i64 (lvF a.toNat n.toNat).2]
    | _ => undef
  ok args := match args with
    | [.int k a, .int k' n] => k = .i64 ∧ k' = .i64 ∧ 0 ≤ a ∧ a ≤ 4611686018427387904 ∧ 0 ≤ n ∧ n ≤ 4611686018427387904
    | _ => False
  sound args w h := by
    split at h
    · rename_i k a k' n
      obtain ⟨rfl, rfl, h1, h2, h3, h4⟩ := h
      obtain ⟨a, rfl⟩ := Int.eq_ofNat_of_zero_le h1
      obtain ⟨n, rfl⟩ := Int.eq_ofNat_of_zero_le h3
      exact place_spec a n w (by omega) (by omega)
    · exact h.elim
noncomputable def aheadS : PS Try.prog where
  f := 11
  val args := match args with
    | [.int _ x] => .int .i64 (1 + (x.emod 1073741824).toNat)
    | _ => undef
  ok args := match args with
    | [.int k x] => k = .i64
    | _ => False
  sound args w h := by
    split at h
    · subst h; exact ahead_spec _ w
    · exact h.elim
noncomputable abbrev U2 : PF Try.prog := PF.of [placeS, atS, numS, lplaceS, aheadS]
@[simp] theorem U2_p_val (args : List Value) : U2.val 31 args = placeS.val args := rfl
@[simp] theorem U2_p_ok (args : List Value) : U2.ok 31 args = placeS.ok args := rfl
@[simp] theorem U2_a_val (args : List Value) : U2.val 32 args = atS.val args := rfl
@[simp] theorem U2_a_ok (args : List Value) : U2.ok 32 args = atS.ok args := rfl
@[simp] theorem U2_n_val (args : List Value) : U2.val 10 args = numS.val args := rfl
@[simp] theorem U2_n_ok (args : List Value) : U2.ok 10 args = numS.ok args := rfl
@[simp] theorem U2_l_val (args : List Value) : U2.val 8 args = lplaceS.val args := rfl
@[simp] theorem U2_l_ok (args : List Value) : U2.ok 8 args = lplaceS.ok args := rfl
@[simp] theorem U2_h_val (args : List Value) : U2.val 11 args = aheadS.val args := rfl
@[simp] theorem U2_h_ok (args : List Value) : U2.ok 11 args = aheadS.ok args := rfl
@[simp] theorem placeS_val (a n : Int) : placeS.val [.int .i64 a, .int .i64 n] = .tuple #[.int .i64 (lvF a.toNat n.toNat).1, .int .i64 (lvF a.toNat n.toNat).2] := rfl
@[simp] theorem placeS_ok (a n : Int) : placeS.ok [.int .i64 a, .int .i64 n] = (IntKind.i64 = .i64 ∧ IntKind.i64 = .i64 ∧ 0 ≤ a ∧ a ≤ 4611686018427387904 ∧ 0 ≤ n ∧ n ≤ 4611686018427387904) := rfl
@[simp] theorem atS_val (a : Addr) (l s : Int) : atS.val [.pointer (some a), .int .i64 l, .int .i64 s] = .pointer (some ⟨a.block, 3 + (l.toNat * 64 + s.toNat), none⟩) := rfl
@[simp] theorem atS_ok (a : Addr) (l s : Int) : atS.ok [.pointer (some a), .int .i64 l, .int .i64 s] = (a = ⟨a.block, 0, none⟩ ∧ IntKind.i64 = .i64 ∧ IntKind.i64 = .i64 ∧ 0 ≤ l ∧ l ≤ 4 ∧ 0 ≤ s ∧ s < 64 ∧ (l = 4 → s = 0)) := rfl
@[simp] theorem numS_val (x : Int) : numS.val [.int .i64 x] = .int .i64 x := rfl
@[simp] theorem numS_ok (x : Int) : numS.ok [.int .i64 x] = (IntKind.i64 = .i64) := rfl
/-- how far ahead -/
def ahN (x : Int) : Nat := 1 + (x.emod 1073741824).toNat
theorem ahN_bd (x : Int) : 1 ≤ ahN x ∧ ahN x ≤ 1073741824 := by
  have h0 : 0 ≤ x.emod 1073741824 := Int.emod_nonneg x (by decide)
  have h1 : x.emod 1073741824 < 1073741824 := Int.emod_lt_of_pos x (by decide)
  unfold ahN
  omega
@[simp] theorem aheadS_val (x : Int) : aheadS.val [.int .i64 x] = .int .i64 (ahN x) := rfl
@[simp] theorem aheadS_ok (x : Int) : aheadS.ok [.int .i64 x] = (IntKind.i64 = .i64) := rfl
/-! in memory -/
structure Tm where
  n : Int
  a : Nat
  l : Nat
  s : Nat
  b : Nat
abbrev Tm.cs (t : Tm) : List Value := [.int .i64 t.n, .int .i64 t.a, .int .i64 t.l, .int .i64 t.s]
abbrev tmA (t : Tm) : Asn := pt t.b (.cells t.cs.toArray 79 (0, 0))
abbrev tp (t : Tm) : Value := .pointer (some ⟨t.b, 0, none⟩)
/-- a slot: its map, if it has one -/
abbrev Sl := Option (Nat × List En × Nat)
def slv : Sl → Value
  | none => .map none
  | some x => .map (some x.1)
def slA : Nat → Sl → Asn
  | _, none => emp
  | _, some x => imap x.1 x.2.1 x.2.2
def slE : Sl → List En
  | none => []
  | some x => x.2.1
def slC : Sl → Nat
  | none => 0
  | some x => x.2.2
abbrev Dk := Nat → Sl
def wcs (now mv : Nat) (am : Nat) (Y : Dk) : List Value := .int .i64 now :: .int .i64 mv :: .map (some am) :: (List.range 257).map fun q => slv (Y q)
abbrev wc (p now mv am : Nat) (Y : Dk) : Asn := pt p (.cells (wcs now mv am Y).toArray 76 (0, 0))
theorem wcs_len (now mv am : Nat) (Y : Dk) : (wcs now mv am Y).length = 260 := by simp [wcs]
theorem wcs_at (now mv am : Nat) (Y : Dk) {q : Nat} (h : q < 257) : (wcs now mv am Y)[3 + q]? = some (slv (Y q)) := by
  rw [show 3 + q = q + 1 + 1 + 1 by omega]
  simp [wcs, h]
theorem wcs_set (now mv am : Nat) (Y : Dk) {q : Nat} (h : q < 257) (x : Sl) : (wcs now mv am Y).set (3 + q) (slv x) = wcs now mv am (upF Y q x) := by
  apply List.ext_getElem?
  intro i
  by_cases hi : i < 260
  · match i, hi with
    | 0, _ => rw [List.getElem?_set_ne (by omega)]; rfl
    | 1, _ => rw [List.getElem?_set_ne (by omega)]; rfl
    | 2, _ => rw [List.getElem?_set_ne (by omega)]; rfl
    | j + 3, hi =>
      have hj : j < 257 := by omega
      rw [show j + 3 = 3 + j by omega, wcs_at _ _ _ _ hj]
      by_cases e : j = q
      · subst e
        rw [List.getElem?_set_self (by rw [wcs_len]; omega), upF_at]
      · rw [List.getElem?_set_ne (by omega), wcs_at _ _ _ _ hj, upF_ne _ _ e]
  · rw [List.getElem?_eq_none (by rw [List.length_set, wcs_len]; omega), List.getElem?_eq_none (by rw [wcs_len]; omega)]
theorem lvF_bd (a n : Nat) : (lvF a n).1 ≤ 4 ∧ (lvF a n).2 < 64 ∧ ((lvF a n).1 = 4 → (lvF a n).2 = 0) := by
  have : ∀ l, digF a l < 64 := fun l => Nat.mod_lt _ (by decide)
  unfold lvF
  repeat' split
  all_goals simp_all
theorem hungI : MapI Try.prog 72 3 77 (.pointer none) := ⟨by kernel_rfl, by kernel_rfl, by kernel_rfl⟩
-- (*bazaar/wheel.Wheel).hang
def h29_0 : HC := (.regq (some 1) (.chk none .chkp (.cons (.inp 2) .nil) (.eff (.ld false 1) (.cons (.op .chkp (.cons (.inp 2) .nil)) .nil) (.chk none .chkp (.cons (.inp 1) .nil) (.chk none (.fld 0) (.cons (.op .chkp (.cons (.inp 1) .nil)) .nil) (.chk none (.fld 0) (.cons (.op (.fld 0) (.cons (.op .chkp (.cons (.inp 1) .nil)) .nil)) .nil) (.eff (.ld false 1) (.cons (.op (.fld 0) (.cons (.op (.fld 0) (.cons (.op .chkp (.cons (.inp 1) .nil)) .nil)) .nil)) .nil) (.eff (.upd 72) (.cons (.bv 0) (.cons (.bv 1) (.cons (.inp 1) .nil))) (.done [] none)))))))))
@[simp] theorem h29_0_wp {P : Program} {F : PF P} {Q : EX → List Value → World → Prop} {env : List Value} {w : World} : h29_0.wp F Q env w = HC.wp F (.regq (some 1) (.chk none .chkp (.cons (.inp 2) .nil) (.eff (.ld false 1) (.cons (.op .chkp (.cons (.inp 2) .nil)) .nil) (.chk none .chkp (.cons (.inp 1) .nil) (.chk none (.fld 0) (.cons (.op .chkp (.cons (.inp 1) .nil)) .nil) (.chk none (.fld 0) (.cons (.op (.fld 0) (.cons (.op .chkp (.cons (.inp 1) .nil)) .nil)) .nil) (.eff (.ld false 1) (.cons (.op (.fld 0) (.cons (.op (.fld 0) (.cons (.op .chkp (.cons (.inp 1) .nil)) .nil)) .nil)) .nil) (.eff (.upd 72) (.cons (.bv 0) (.cons (.bv 1) (.cons (.inp 1) .nil))) (.done [] none))))))))) Q env w := rfl
def h29_1 : HC := (.reg (.eff (.mkm 72 false) .nil (.chk none .chkp (.cons (.inp 2) .nil) (.eff (.st 1) (.cons (.op .chkp (.cons (.inp 2) .nil)) (.cons (.bv 0) .nil)) (.done [] none)))))
@[simp] theorem h29_1_wp {P : Program} {F : PF P} {Q : EX → List Value → World → Prop} {env : List Value} {w : World} : h29_1.wp F Q env w = HC.wp F (.reg (.eff (.mkm 72 false) .nil (.chk none .chkp (.cons (.inp 2) .nil) (.eff (.st 1) (.cons (.op .chkp (.cons (.inp 2) .nil)) (.cons (.bv 0) .nil)) (.done [] none))))) Q env w := rfl
def h29_2 : HC := (.seq (.br (.chk none .chkp (.cons (.inp 2) .nil) (.eff (.ld false 1) (.cons (.op .chkp (.cons (.inp 2) .nil)) .nil) (.chk none (.eqNil false (.map 3 77) (.map none)) (.cons (.bv 0) .nil) (.done [] (some (.op (.eqNil false (.map 3 77) (.map none)) (.cons (.bv 0) .nil))))))) h29_1 .skip) h29_0)
@[simp] theorem h29_2_wp {P : Program} {F : PF P} {Q : EX → List Value → World → Prop} {env : List Value} {w : World} : h29_2.wp F Q env w = HC.wp F (.seq (.br (.chk none .chkp (.cons (.inp 2) .nil) (.eff (.ld false 1) (.cons (.op .chkp (.cons (.inp 2) .nil)) .nil) (.chk none (.eqNil false (.map 3 77) (.map none)) (.cons (.bv 0) .nil) (.done [] (some (.op (.eqNil false (.map 3 77) (.map none)) (.cons (.bv 0) .nil))))))) h29_1 .skip) h29_0) Q env w := rfl
def h29_3 : HC := (.seq (.regq (some 0) (.chk none .chkp (.cons (.inp 1) .nil) (.chk none (.fld 2) (.cons (.op .chkp (.cons (.inp 1) .nil)) .nil) (.eff (.ld false 1) (.cons (.op (.fld 2) (.cons (.op .chkp (.cons (.inp 1) .nil)) .nil)) .nil) (.chk none .chkp (.cons (.inp 1) .nil) (.chk none (.fld 3) (.cons (.op .chkp (.cons (.inp 1) .nil)) .nil) (.eff (.ld false 1) (.cons (.op (.fld 3) (.cons (.op .chkp (.cons (.inp 1) .nil)) .nil)) .nil) (.chk none (.cal 32) (.cons (.inp 0) (.cons (.bv 0) (.cons (.bv 1) .nil))) (.done [(2, (.op (.cal 32) (.cons (.inp 0) (.cons (.bv 0) (.cons (.bv 1) .nil)))))] none))))))))) h29_2)
@[simp] theorem h29_3_wp {P : Program} {F : PF P} {Q : EX → List Value → World → Prop} {env : List Value} {w : World} : h29_3.wp F Q env w = HC.wp F (.seq (.regq (some 0) (.chk none .chkp (.cons (.inp 1) .nil) (.chk none (.fld 2) (.cons (.op .chkp (.cons (.inp 1) .nil)) .nil) (.eff (.ld false 1) (.cons (.op (.fld 2) (.cons (.op .chkp (.cons (.inp 1) .nil)) .nil)) .nil) (.chk none .chkp (.cons (.inp 1) .nil) (.chk none (.fld 3) (.cons (.op .chkp (.cons (.inp 1) .nil)) .nil) (.eff (.ld false 1) (.cons (.op (.fld 3) (.cons (.op .chkp (.cons (.inp 1) .nil)) .nil)) .nil) (.chk none (.cal 32) (.cons (.inp 0) (.cons (.bv 0) (.cons (.bv 1) .nil))) (.done [(2, (.op (.cal 32) (.cons (.inp 0) (.cons (.bv 0) (.cons (.bv 1) .nil)))))] none))))))))) h29_2) Q env w := rfl
def l29 : Lifted := ⟨[0, 1, 4], 50, [], (.seq (.regq (some 1) (.chk none .chkp (.cons (.inp 1) .nil) (.chk none (.fld 0) (.cons (.op .chkp (.cons (.inp 1) .nil)) .nil) (.chk none (.fld 1) (.cons (.op (.fld 0) (.cons (.op .chkp (.cons (.inp 1) .nil)) .nil)) .nil) (.eff (.ld false 1) (.cons (.op (.fld 1) (.cons (.op (.fld 0) (.cons (.op .chkp (.cons (.inp 1) .nil)) .nil)) .nil)) .nil) (.chk none .chkp (.cons (.inp 0) .nil) (.chk none (.fld 0) (.cons (.op .chkp (.cons (.inp 0) .nil)) .nil) (.eff (.ld false 1) (.cons (.op (.fld 0) (.cons (.op .chkp (.cons (.inp 0) .nil)) .nil)) .nil) (.chk none (.cal 31) (.cons (.bv 0) (.cons (.bv 1) .nil)) (.chk none (.ext 0) (.cons (.op (.cal 31) (.cons (.bv 0) (.cons (.bv 1) .nil))) .nil) (.chk none (.ext 1) (.cons (.op (.cal 31) (.cons (.bv 0) (.cons (.bv 1) .nil))) .nil) (.chk none .chkp (.cons (.inp 1) .nil) (.chk none (.fld 2) (.cons (.op .chkp (.cons (.inp 1) .nil)) .nil) (.eff (.st 1) (.cons (.op (.fld 2) (.cons (.op .chkp (.cons (.inp 1) .nil)) .nil)) (.cons (.op (.ext 0) (.cons (.op (.cal 31) (.cons (.bv 0) (.cons (.bv 1) .nil))) .nil)) .nil)) (.chk none .chkp (.cons (.inp 1) .nil) (.chk none (.fld 3) (.cons (.op .chkp (.cons (.inp 1) .nil)) .nil) (.eff (.st 1) (.cons (.op (.fld 3) (.cons (.op .chkp (.cons (.inp 1) .nil)) .nil)) (.cons (.op (.ext 1) (.cons (.op (.cal 31) (.cons (.bv 0) (.cons (.bv 1) .nil))) .nil)) .nil)) (.done [] none)))))))))))))))))) h29_3)⟩
theorem l29_ok : liftFn U2 29 400 = some l29 := by kernel_rfl

-- (*bazaar/wheel.Wheel).drop
def h30_0 : HC := (.regq (some 1) (.chk none .chkp (.cons (.inp 1) .nil) (.chk none (.fld 2) (.cons (.op .chkp (.cons (.inp 1) .nil)) .nil) (.eff (.ld false 1) (.cons (.op (.fld 2) (.cons (.op .chkp (.cons (.inp 1) .nil)) .nil)) .nil) (.chk none .chkp (.cons (.inp 1) .nil) (.chk none (.fld 3) (.cons (.op .chkp (.cons (.inp 1) .nil)) .nil) (.eff (.ld false 1) (.cons (.op (.fld 3) (.cons (.op .chkp (.cons (.inp 1) .nil)) .nil)) .nil) (.chk none (.cal 32) (.cons (.inp 0) (.cons (.bv 0) (.cons (.bv 1) .nil))) (.chk none .chkp (.cons (.op (.cal 32) (.cons (.inp 0) (.cons (.bv 0) (.cons (.bv 1) .nil)))) .nil) (.eff (.ld false 1) (.cons (.op .chkp (.cons (.op (.cal 32) (.cons (.inp 0) (.cons (.bv 0) (.cons (.bv 1) .nil)))) .nil)) .nil) (.chk none .chkp (.cons (.inp 1) .nil) (.chk none (.fld 0) (.cons (.op .chkp (.cons (.inp 1) .nil)) .nil) (.chk none (.fld 0) (.cons (.op (.fld 0) (.cons (.op .chkp (.cons (.inp 1) .nil)) .nil)) .nil) (.eff (.ld false 1) (.cons (.op (.fld 0) (.cons (.op (.fld 0) (.cons (.op .chkp (.cons (.inp 1) .nil)) .nil)) .nil)) .nil) (.eff (.bi .delete #[72, 3] 0 #[false, false]) (.cons (.bv 2) (.cons (.bv 3) .nil)) (.done [] none))))))))))))))))
@[simp] theorem h30_0_wp {P : Program} {F : PF P} {Q : EX → List Value → World → Prop} {env : List Value} {w : World} : h30_0.wp F Q env w = HC.wp F (.regq (some 1) (.chk none .chkp (.cons (.inp 1) .nil) (.chk none (.fld 2) (.cons (.op .chkp (.cons (.inp 1) .nil)) .nil) (.eff (.ld false 1) (.cons (.op (.fld 2) (.cons (.op .chkp (.cons (.inp 1) .nil)) .nil)) .nil) (.chk none .chkp (.cons (.inp 1) .nil) (.chk none (.fld 3) (.cons (.op .chkp (.cons (.inp 1) .nil)) .nil) (.eff (.ld false 1) (.cons (.op (.fld 3) (.cons (.op .chkp (.cons (.inp 1) .nil)) .nil)) .nil) (.chk none (.cal 32) (.cons (.inp 0) (.cons (.bv 0) (.cons (.bv 1) .nil))) (.chk none .chkp (.cons (.op (.cal 32) (.cons (.inp 0) (.cons (.bv 0) (.cons (.bv 1) .nil)))) .nil) (.eff (.ld false 1) (.cons (.op .chkp (.cons (.op (.cal 32) (.cons (.inp 0) (.cons (.bv 0) (.cons (.bv 1) .nil)))) .nil)) .nil) (.chk none .chkp (.cons (.inp 1) .nil) (.chk none (.fld 0) (.cons (.op .chkp (.cons (.inp 1) .nil)) .nil) (.chk none (.fld 0) (.cons (.op (.fld 0) (.cons (.op .chkp (.cons (.inp 1) .nil)) .nil)) .nil) (.eff (.ld false 1) (.cons (.op (.fld 0) (.cons (.op (.fld 0) (.cons (.op .chkp (.cons (.inp 1) .nil)) .nil)) .nil)) .nil) (.eff (.bi .delete #[72, 3] 0 #[false, false]) (.cons (.bv 2) (.cons (.bv 3) .nil)) (.done [] none)))))))))))))))) Q env w := rfl
def l30 : Lifted := ⟨[0, 1], 30, [], (.seq (.regq (some 1) (.chk none .chkp (.cons (.inp 0) .nil) (.chk none (.fld 2) (.cons (.op .chkp (.cons (.inp 0) .nil)) .nil) (.eff (.ld false 1) (.cons (.op (.fld 2) (.cons (.op .chkp (.cons (.inp 0) .nil)) .nil)) .nil) (.chk none .chkp (.cons (.inp 1) .nil) (.chk none (.fld 0) (.cons (.op .chkp (.cons (.inp 1) .nil)) .nil) (.chk none (.fld 0) (.cons (.op (.fld 0) (.cons (.op .chkp (.cons (.inp 1) .nil)) .nil)) .nil) (.eff (.ld false 1) (.cons (.op (.fld 0) (.cons (.op (.fld 0) (.cons (.op .chkp (.cons (.inp 1) .nil)) .nil)) .nil)) .nil) (.eff (.bi .delete #[72, 3] 0 #[false, false]) (.cons (.bv 0) (.cons (.bv 1) .nil)) (.done [] none)))))))))) h30_0)⟩
theorem l30_ok : liftFn U2 30 400 = some l30 := by kernel_rfl


def hgC (w0 : World) (X : Asn) (t : Tm) (l s : Nat) : List Value → World → Prop
  | [], w => St w0 (X * tmA t) w
  | [_], w => St w0 (X * tmA { t with l := l }) w
  | _ :: _ :: _, w => St w0 (X * tmA { t with l := l, s := s }) w
def plC2 (S S' : World → Prop) : List Value → World → Prop
  | [], w => S w
  | _ :: _, w => S' w
theorem set_same {α : Type} (l : List α) (i : Nat) (v : α) (h : l[i]? = some v) : l.set i v = l := by
  apply List.ext_getElem?
  intro j
  by_cases e : j = i
  · subst e
    rw [List.getElem?_set_self (List.getElem?_eq_some_iff.1 h).1, h]
  · rw [List.getElem?_set_ne (Ne.symm e)]
theorem wc_cell {w0 w : World} {B : Asn} {p now mv am : Nat} {Y : Dk} (s : St w0 (B * wc p now mv am Y) w) {q : Nat} (h : q < 257) : w.cell? ⟨p, 3 + q, none⟩ = some (slv (Y q)) := by
  have := s.row_cells (3 + q) _ (wcs_at now mv am Y h)
  rwa [Nat.zero_add] at this
theorem wc_same (p now mv am : Nat) (Y : Dk) {q : Nat} (h : q < 257) {x x' : Sl} (hx : slv x = slv x') : wc p now mv am (upF Y q x) = wc p now mv am (upF Y q x') := by
  show pt p (.cells (wcs now mv am (upF Y q x)).toArray _ _) = pt p (.cells (wcs now mv am (upF Y q x')).toArray _ _)
  rw [← wcs_set _ _ _ _ h, ← wcs_set _ _ _ _ h, hx]
theorem wc_id (p now mv am : Nat) (Y : Dk) {q : Nat} (h : q < 257) {x : Sl} (hx : slv x = slv (Y q)) : wc p now mv am (upF Y q x) = wc p now mv am Y := by
  show pt p (.cells (wcs now mv am (upF Y q x)).toArray _ _) = pt p (.cells (wcs now mv am Y).toArray _ _)
  rw [← wcs_set _ _ _ _ h, hx, set_same _ _ _ (wcs_at _ _ _ _ h)]
def hgQ (t : Tm) (now : Nat) : Nat := (lvF t.a now).1 * 64 + (lvF t.a now).2
def hgT (t : Tm) (now : Nat) : Tm := { t with l := (lvF t.a now).1, s := (lvF t.a now).2 }
def hgX (m : Nat) (x : Sl) (t : Tm) : Sl := some (m, slE x ++ [⟨t.n, tp t, slC x⟩], slC x + 1)
theorem slA_some {q : Nat} {x : Sl} {m : Nat} (h : slv x = .map (some m)) : slA q x = imap m (slE x) (slC x) := by
  cases x with
  | none => cases h
  | some y => cases h; rfl
theorem hang_spec (p am now mv : Nat) (Y : Dk) (t : Tm) (w0 w : World) (A : Asn) {K : Value → World → Prop} (ha : t.a ≤ 4611686018427387904) (hn : now ≤ 4611686018427387904) (hY : getI (slE (Y (hgQ t now))) t.n = none)
    (s : St w0 (A * bigA slA Y 257 * wc p now mv am Y * tmA t) w)
    (hk : ∀ r m w', (∀ x, Y (hgQ t now) = some x → m = x.1) → St w0 (A * bigA slA (upF Y (hgQ t now) (hgX m (Y (hgQ t now)) t)) 257 * wc p now mv am (upF Y (hgQ t now) (hgX m (Y (hgQ t now)) t)) * tmA (hgT t now)) w' → K r w') :
    CallW Try.prog 29 [.pointer (some ⟨p, 0, none⟩), tp t] K w := by
  obtain ⟨h1, h2, h3⟩ := lvF_bd t.a now
  obtain ⟨l, hl⟩ : ∃ l, (lvF t.a now).1 = l := ⟨_, rfl⟩
  obtain ⟨s', hs⟩ : ∃ s', (lvF t.a now).2 = s' := ⟨_, rfl⟩
  have hq : hgQ t now = l * 64 + s' := by rw [← hl, ← hs]; rfl
  have ht' : hgT t now = { t with l := l, s := s' } := by rw [← hl, ← hs]; rfl
  rw [hl] at h1 h3
  rw [hs] at h2 h3
  rw [hq] at hY hk
  rw [ht'] at hk
  obtain ⟨q, hqe⟩ : ∃ q, l * 64 + s' = q := ⟨_, rfl⟩
  have hq257 : q < 257 := by omega
  rw [hqe] at hY hk
  refine callW_of_lift l29_ok (by simp [l29]) ?_
  simp [l29]
  refine regmI (hgC w0 (A * bigA slA Y 257 * wc p now mv am Y) t l s') s.drew ?_
  simp
  refine effm_ldc (v := .int .i64 t.a) (fun vs' w he hw => ?_) ?_
  · match vs', hw with
    | [], hw => exact (show St w0 _ w from hw).row_cells 1 _ rfl
    | _ :: _, hw => simp [era] at he
  simp
  refine effm_ldc (v := .int .i64 now) (fun vs' w he hw => ?_) ?_
  · match vs', hw with
    | [], hw => exact (show St w0 _ w from hw).drop.row_cells 0 _ rfl
    | _ :: _, hw => simp [era] at he
  simp
  refine ⟨⟨by omega, by omega⟩, ?_⟩
  rw [hl]
  refine effm_mv rfl (fun w hw => eff_st1 (show St w0 (_ * tmA t) w from hw) rfl (by simp) fun w' h => ?_) (fun v _ => ?_)
  · show St w0 (_ * tmA { t with l := l }) w'
    simpa using h
  simp [hs]
  refine effm_mv rfl (fun w hw => eff_st1 (show St w0 (_ * tmA { t with l := l }) w from hw) rfl (by simp) fun w' h => ?_) (fun v _ => ?_)
  · show St w0 (_ * tmA { t with l := l, s := s' }) w'
    simpa using h
  simp
  intro w1 s1
  have s1 : St w0 (A * bigA slA Y 257 * wc p now mv am Y * tmA { t with l := l, s := s' }) w1 := s1
  refine regqI s1 ?_
  simp
  refine effq_ldc (v := .int .i64 l) (fun w h => h.row_cells 2 _ rfl) ?_
  simp
  refine effq_ldc (v := .int .i64 s') (fun w h => h.row_cells 3 _ rfl) ?_
  simp
  refine ⟨⟨by omega, by omega, by omega⟩, ?_⟩
  rw [hqe]
  intro w2 s2
  have fin : ∀ (m : Nat) (w3 : World), (∀ x, Y q = some x → m = x.1) → St w0 (A * bigH slA Y q 257 * imap m (slE (Y q)) (slC (Y q)) * wc p now mv am (upF Y q (some (m, slE (Y q), slC (Y q)))) * tmA { t with l := l, s := s' }) w3 →
      h29_0.wp U2 (endQ Try.prog [] K) [.pointer (some ⟨p, 0, none⟩), tp t, .pointer (some ⟨p, 3 + q, none⟩)] w3 := by
    intro m w3 hm s3
    simp
    refine regmI (plC2 (St w0 (A * bigH slA Y q 257 * imap m (slE (Y q)) (slC (Y q)) * wc p now mv am (upF Y q (some (m, slE (Y q), slC (Y q)))) * tmA { t with l := l, s := s' })) (St w0 (A * bigH slA Y q 257 * imap m (slE (Y q) ++ [⟨t.n, tp t, slC (Y q)⟩]) (slC (Y q) + 1) * wc p now mv am (upF Y q (some (m, slE (Y q), slC (Y q)))) * tmA { t with l := l, s := s' }))) s3.drew ?_
    simp
    refine effm_ldc (v := .map (some m)) (fun vs' w he hw => ?_) ?_
    · match vs', hw with
      | [], hw =>
        have := wc_cell (show St w0 _ w from hw).drop hq257
        rw [upF_at] at this
        exact this
      | _ :: _, hw => simp [era] at he
    simp
    refine effm_ldc (v := .int .i64 t.n) (fun vs' w he hw => ?_) ?_
    · match vs', hw with
      | [], hw => exact (show St w0 _ w from hw).row_cells 0 _ rfl
      | _ :: _, hw => simp [era] at he
    simp
    refine effm_mv rfl (fun w hw => eff_updI hungI (St.to (show St w0 _ w from hw) (B := A * bigH slA Y q 257 * wc p now mv am (upF Y q (some (m, slE (Y q), slC (Y q)))) * tmA { t with l := l, s := s' } * imap m (slE (Y q)) (slC (Y q))) (by ac_rfl)) hY fun w' h => ?_) (fun v _ => ?_)
    · show St w0 _ w'
      exact h.to (by ac_rfl)
    simp
    intro w4 s4
    have s4 : St w0 (A * bigH slA Y q 257 * imap m (slE (Y q) ++ [⟨t.n, tp t, slC (Y q)⟩]) (slC (Y q) + 1) * wc p now mv am (upF Y q (some (m, slE (Y q), slC (Y q)))) * tmA { t with l := l, s := s' }) w4 := s4
    refine hk _ m w4 hm ?_
    rw [big_set hq257]
    rw [← wc_same p now mv am Y hq257 (x := some (m, slE (Y q), slC (Y q))) (x' := hgX m (Y q) t) rfl, show slA q (hgX m (Y q) t) = imap m (slE (Y q) ++ [⟨t.n, tp t, slC (Y q)⟩]) (slC (Y q) + 1) from rfl]
    exact s4.to (by ac_rfl)
  refine eff_ldc (v := slv (Y q)) (wc_cell s2.drop hq257) ?_
  rw [big_at hq257] at s2
  cases hYq : Y q with
  | none =>
    rw [hYq] at s2
    have s2 : St w0 (A * (bigH slA Y q 257 * emp) * wc p now mv am Y * tmA { t with l := l, s := s' }) w2 := s2
    rw [sep_emp] at s2
    simp [slv]
    refine eff_mkmI s2 ?_
    intro m w3 s3
    simp
    have hlen := wcs_len now mv am Y
    refine eff_st1 (s3.to (B := A * bigH slA Y q 257 * tmA { t with l := l, s := s' } * imap m [] 0 * wc p now mv am Y) (by ac_rfl)) rfl (by simp [hlen]; omega) ?_
    intro w4 s4
    simp
    have e : (wcs now mv am Y).toArray.setIfInBounds (3 + q) (.map (some m)) = (wcs now mv am (upF Y q (some (m, slE (Y q), slC (Y q))))).toArray := by
      rw [← wcs_set _ _ _ _ hq257]
      apply Array.ext'
      simp [slv]
    rw [e] at s4
    have s4 : St w0 (A * bigH slA Y q 257 * tmA { t with l := l, s := s' } * imap m [] 0 * wc p now mv am (upF Y q (some (m, slE (Y q), slC (Y q))))) w4 := s4
    refine fin m w4 (fun x hx => by rw [hYq] at hx; cases hx) ?_
    rw [hYq] at s4 ⊢
    exact s4.to (by rw [show slE none = [] from rfl, show slC none = 0 from rfl]; ac_rfl)
  | some x =>
    rw [hYq] at s2
    have s2 : St w0 (A * (bigH slA Y q 257 * imap x.1 x.2.1 x.2.2) * wc p now mv am Y * tmA { t with l := l, s := s' }) w2 := s2
    simp [slv]
    refine fin x.1 w2 (fun y hy => by rw [hYq] at hy; cases hy; rfl) ?_
    rw [wc_id p now mv am Y hq257 (x := some (x.1, slE (Y q), slC (Y q))) (by rw [hYq]; rfl), hYq, show slE (some x) = x.2.1 from rfl, show slC (some x) = x.2.2 from rfl]
    exact s2.to (by ac_rfl)
def tmQ (t : Tm) : Nat := t.l * 64 + t.s
structure tmOK (t : Tm) : Prop where
  l : t.l ≤ 4
  s : t.s < 64
  r : t.l = 4 → t.s = 0
theorem tmQ_lt {t : Tm} (h : tmOK t) : tmQ t < 257 := by
  have := h.l; have := h.s; have := h.r
  unfold tmQ; omega
def dlX (x : Sl) (n : Int) : Sl := x.map fun x => (x.1, delI x.2.1 n, x.2.2)
theorem drop_spec (p am now mv : Nat) (Y : Dk) (t : Tm) (aes : List En) (ac : Nat) (x : Nat × List En × Nat) (w0 w : World) (A : Asn) {K : Value → World → Prop} (ht : tmOK t) (hY : Y (tmQ t) = some x)
    (s : St w0 (A * imap am aes ac * bigA slA Y 257 * wc p now mv am Y * tmA t) w)
    (hk : ∀ r w', St w0 (A * imap am (delI aes t.n) ac * bigA slA (upF Y (tmQ t) (dlX (some x) t.n)) 257 * wc p now mv am (upF Y (tmQ t) (dlX (some x) t.n)) * tmA t) w' → K r w') :
    CallW Try.prog 30 [.pointer (some ⟨p, 0, none⟩), tp t] K w := by
  have hq257 := tmQ_lt ht
  obtain ⟨h1, h2, h3⟩ := ht
  obtain ⟨q, hqe⟩ : ∃ q, tmQ t = q := ⟨_, rfl⟩
  have hqe' : t.l * 64 + t.s = q := hqe
  rw [hqe] at hY hk hq257
  refine callW_of_lift l30_ok (by simp [l30]) ?_
  simp [l30]
  refine regmI (plC2 (St w0 (A * imap am aes ac * bigA slA Y 257 * wc p now mv am Y * tmA t)) (St w0 (A * imap am (delI aes t.n) ac * bigA slA Y 257 * wc p now mv am Y * tmA t))) s.drew ?_
  simp
  refine effm_ldc (v := .map (some am)) (fun vs' w he hw => ?_) ?_
  · match vs', hw with
    | [], hw => exact (show St w0 _ w from hw).drop.row_cells 2 _ rfl
    | _ :: _, hw => simp [era] at he
  simp
  refine effm_ldc (v := .int .i64 t.n) (fun vs' w he hw => ?_) ?_
  · match vs', hw with
    | [], hw => exact (show St w0 _ w from hw).row_cells 0 _ rfl
    | _ :: _, hw => simp [era] at he
  simp
  refine effm_mv rfl (fun w hw => eff_delI hungI (St.to (show St w0 _ w from hw) (B := A * bigA slA Y 257 * wc p now mv am Y * tmA t * imap am aes ac) (by ac_rfl)) fun w' h => ?_) (fun v _ => ?_)
  · show St w0 _ w'
    exact h.to (by ac_rfl)
  simp
  intro w1 s1
  have s1 : St w0 (A * imap am (delI aes t.n) ac * bigA slA Y 257 * wc p now mv am Y * tmA t) w1 := s1
  obtain ⟨B, hB⟩ : ∃ B, A * imap am (delI aes t.n) ac = B := ⟨_, rfl⟩
  rw [hB] at s1 hk
  rw [big_at hq257, hY] at s1
  have s1 : St w0 (B * (bigH slA Y q 257 * imap x.1 x.2.1 x.2.2) * wc p now mv am Y * tmA t) w1 := s1
  refine regmI (plC2 (St w0 (B * (bigH slA Y q 257 * imap x.1 x.2.1 x.2.2) * wc p now mv am Y * tmA t)) (St w0 (B * (bigH slA Y q 257 * imap x.1 (delI x.2.1 t.n) x.2.2) * wc p now mv am Y * tmA t))) s1.drew ?_
  simp
  refine effm_ldc (v := .int .i64 t.l) (fun vs' w he hw => ?_) ?_
  · match vs', hw with
    | [], hw => exact (show St w0 _ w from hw).row_cells 2 _ rfl
    | _ :: _, hw => simp [era] at he
  simp
  refine effm_ldc (v := .int .i64 t.s) (fun vs' w he hw => ?_) ?_
  · match vs', hw with
    | [], hw => exact (show St w0 _ w from hw).row_cells 3 _ rfl
    | _ :: _, hw => simp [era] at he
  simp
  refine ⟨⟨by omega, by omega, by omega⟩, ?_⟩
  rw [hqe']
  refine effm_ldc (v := .map (some x.1)) (fun vs' w he hw => ?_) ?_
  · match vs', hw with
    | [], hw =>
      have := wc_cell (show St w0 _ w from hw).drop hq257
      rw [hY] at this
      exact this
    | _ :: _, hw => simp [era] at he
  simp
  refine effm_ldc (v := .int .i64 t.n) (fun vs' w he hw => ?_) ?_
  · match vs', hw with
    | [], hw => exact (show St w0 _ w from hw).row_cells 0 _ rfl
    | _ :: _, hw => simp [era] at he
  simp
  refine effm_mv rfl (fun w hw => eff_delI hungI (St.to (show St w0 _ w from hw) (B := B * bigH slA Y q 257 * wc p now mv am Y * tmA t * imap x.1 x.2.1 x.2.2) (by ac_rfl)) fun w' h => ?_) (fun v _ => ?_)
  · show St w0 _ w'
    exact h.to (by ac_rfl)
  simp
  intro w2 s2
  have s2 : St w0 (B * (bigH slA Y q 257 * imap x.1 (delI x.2.1 t.n) x.2.2) * wc p now mv am Y * tmA t) w2 := s2
  refine hk _ w2 ?_
  rw [big_set hq257, wc_id p now mv am Y hq257 (x := dlX (some x) t.n) (by rw [hY]; rfl), show slA q (dlX (some x) t.n) = imap x.1 (delI x.2.1 t.n) x.2.2 from rfl]
  exact s2
end Go.HL.Wh
