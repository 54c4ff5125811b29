/-
  Wheel: Load. No condition.
-/
import Derived.Test.YtngjaibngkhidaaWhU
namespace Go.HL.Wh
open Go.HL Go.Proofs
set_option maxRecDepth 4000
set_option linter.unusedSimpArgs false
set_option linter.unusedVariables false
-- (*bazaar/wheel.Wheel).Load
def h21_0 : HC := (.seq (.reg (.done [(2, (.inp 3))] none)) .ret)
@[simp] theorem h21_0_wp {P : Program} {F : PF P} {Q : EX → List Value → World → Prop} {env : List Value} {w : World} : h21_0.wp F Q env w = HC.wp F (.seq (.reg (.done [(2, (.inp 3))] none)) .ret) Q env w := rfl
def h21_1 : HC := (.reg (.chk none (.bin .add) (.cons (.inp 6) (.cons (.cst (.int .i64 1)) .nil)) (.done [(6, (.op (.bin .add) (.cons (.inp 6) (.cons (.cst (.int .i64 1)) .nil))))] none)))
@[simp] theorem h21_1_wp {P : Program} {F : PF P} {Q : EX → List Value → World → Prop} {env : List Value} {w : World} : h21_1.wp F Q env w = HC.wp F (.reg (.chk none (.bin .add) (.cons (.inp 6) (.cons (.cst (.int .i64 1)) .nil)) (.done [(6, (.op (.bin .add) (.cons (.inp 6) (.cons (.cst (.int .i64 1)) .nil))))] none))) Q env w := rfl
def h21_2 : HC := (.reg (.eff (.bi .len #[72] 3 #[false]) (.cons (.inp 4) .nil) (.eff (.bsl 3 1 1 #[(.int .i64 0)] [0]) (.cons (.bv 0) .nil) (.eff (.app 47 47 3 1 8 (.int .i64 0)) (.cons (.inp 3) (.cons (.bv 1) .nil)) (.done [(3, (.bv 2))] none)))))
@[simp] theorem h21_2_wp {P : Program} {F : PF P} {Q : EX → List Value → World → Prop} {env : List Value} {w : World} : h21_2.wp F Q env w = HC.wp F (.reg (.eff (.bi .len #[72] 3 #[false]) (.cons (.inp 4) .nil) (.eff (.bsl 3 1 1 #[(.int .i64 0)] [0]) (.cons (.bv 0) .nil) (.eff (.app 47 47 3 1 8 (.int .i64 0)) (.cons (.inp 3) (.cons (.bv 1) .nil)) (.done [(3, (.bv 2))] none))))) Q env w := rfl
def h21_3 : HC := (.seq (.reg (.chk none (.chA false 64 1) (.cons (.inp 5) (.cons (.inp 6) .nil)) (.done [(4, (.op (.chA false 64 1) (.cons (.inp 5) (.cons (.inp 6) .nil))))] none))) h21_2)
@[simp] theorem h21_3_wp {P : Program} {F : PF P} {Q : EX → List Value → World → Prop} {env : List Value} {w : World} : h21_3.wp F Q env w = HC.wp F (.seq (.reg (.chk none (.chA false 64 1) (.cons (.inp 5) (.cons (.inp 6) .nil)) (.done [(4, (.op (.chA false 64 1) (.cons (.inp 5) (.cons (.inp 6) .nil))))] none))) h21_2) Q env w := rfl
def h21_4 : HC := (.seq (.block 1 h21_3) h21_1)
@[simp] theorem h21_4_wp {P : Program} {F : PF P} {Q : EX → List Value → World → Prop} {env : List Value} {w : World} : h21_4.wp F Q env w = HC.wp F (.seq (.block 1 h21_3) h21_1) Q env w := rfl
def h21_5 : HC := (.seq (.br (.chk none (.bin .lss) (.cons (.inp 6) (.cons (.cst (.int .i64 64)) .nil)) (.done [] (some (.op (.bin .lss) (.cons (.inp 6) (.cons (.cst (.int .i64 64)) .nil)))))) .skip (.exit 0)) h21_4)
@[simp] theorem h21_5_wp {P : Program} {F : PF P} {Q : EX → List Value → World → Prop} {env : List Value} {w : World} : h21_5.wp F Q env w = HC.wp F (.seq (.br (.chk none (.bin .lss) (.cons (.inp 6) (.cons (.cst (.int .i64 64)) .nil)) (.done [] (some (.op (.bin .lss) (.cons (.inp 6) (.cons (.cst (.int .i64 64)) .nil)))))) .skip (.exit 0)) h21_4) Q env w := rfl
def h21_6 : HC := (.loop h21_5)
@[simp] theorem h21_6_wp {P : Program} {F : PF P} {Q : EX → List Value → World → Prop} {env : List Value} {w : World} : h21_6.wp F Q env w = HC.wp F (.loop h21_5) Q env w := rfl
def h21_7 : HC := (.seq (.block 0 h21_6) h21_0)
@[simp] theorem h21_7_wp {P : Program} {F : PF P} {Q : EX → List Value → World → Prop} {env : List Value} {w : World} : h21_7.wp F Q env w = HC.wp F (.seq (.block 0 h21_6) h21_0) Q env w := rfl
def h21_8 : HC := (.seq (.reg (.chk none .chkp (.cons (.inp 0) .nil) (.chk none (.fld 3) (.cons (.op .chkp (.cons (.inp 0) .nil)) .nil) (.chk none (.idxP 4 64) (.cons (.op (.fld 3) (.cons (.op .chkp (.cons (.inp 0) .nil)) .nil)) (.cons (.inp 1) .nil)) (.eff (.ld true 64) (.cons (.op (.idxP 4 64) (.cons (.op (.fld 3) (.cons (.op .chkp (.cons (.inp 0) .nil)) .nil)) (.cons (.inp 1) .nil))) .nil) (.done [(5, (.bv 0)), (6, (.cst (.int .i64 0)))] none)))))) h21_7)
@[simp] theorem h21_8_wp {P : Program} {F : PF P} {Q : EX → List Value → World → Prop} {env : List Value} {w : World} : h21_8.wp F Q env w = HC.wp F (.seq (.reg (.chk none .chkp (.cons (.inp 0) .nil) (.chk none (.fld 3) (.cons (.op .chkp (.cons (.inp 0) .nil)) .nil) (.chk none (.idxP 4 64) (.cons (.op (.fld 3) (.cons (.op .chkp (.cons (.inp 0) .nil)) .nil)) (.cons (.inp 1) .nil)) (.eff (.ld true 64) (.cons (.op (.idxP 4 64) (.cons (.op (.fld 3) (.cons (.op .chkp (.cons (.inp 0) .nil)) .nil)) (.cons (.inp 1) .nil))) .nil) (.done [(5, (.bv 0)), (6, (.cst (.int .i64 0)))] none)))))) h21_7) Q env w := rfl
def h21_9 : HC := (.seq (.reg (.done [(3, (.cst (.slice none 0 0)))] none)) h21_8)
@[simp] theorem h21_9_wp {P : Program} {F : PF P} {Q : EX → List Value → World → Prop} {env : List Value} {w : World} : h21_9.wp F Q env w = HC.wp F (.seq (.reg (.done [(3, (.cst (.slice none 0 0)))] none)) h21_8) Q env w := rfl
def h21_10 : HC := (.seq (.reg (.chk none .chkp (.cons (.inp 0) .nil) (.chk none (.fld 259) (.cons (.op .chkp (.cons (.inp 0) .nil)) .nil) (.eff (.ld false 1) (.cons (.op (.fld 259) (.cons (.op .chkp (.cons (.inp 0) .nil)) .nil)) .nil) (.eff (.bi .len #[72] 3 #[false]) (.cons (.bv 0) .nil) (.eff (.bsl 3 1 1 #[(.int .i64 0)] [0]) (.cons (.bv 1) .nil) (.done [(2, (.bv 2))] none))))))) .ret)
@[simp] theorem h21_10_wp {P : Program} {F : PF P} {Q : EX → List Value → World → Prop} {env : List Value} {w : World} : h21_10.wp F Q env w = HC.wp F (.seq (.reg (.chk none .chkp (.cons (.inp 0) .nil) (.chk none (.fld 259) (.cons (.op .chkp (.cons (.inp 0) .nil)) .nil) (.eff (.ld false 1) (.cons (.op (.fld 259) (.cons (.op .chkp (.cons (.inp 0) .nil)) .nil)) .nil) (.eff (.bi .len #[72] 3 #[false]) (.cons (.bv 0) .nil) (.eff (.bsl 3 1 1 #[(.int .i64 0)] [0]) (.cons (.bv 1) .nil) (.done [(2, (.bv 2))] none))))))) .ret) Q env w := rfl
def h21_11 : HC := (.seq (.br (.chk none (.bin .eql) (.cons (.inp 1) (.cons (.cst (.int .i64 4)) .nil)) (.done [] (some (.op (.bin .eql) (.cons (.inp 1) (.cons (.cst (.int .i64 4)) .nil)))))) h21_10 .skip) h21_9)
@[simp] theorem h21_11_wp {P : Program} {F : PF P} {Q : EX → List Value → World → Prop} {env : List Value} {w : World} : h21_11.wp F Q env w = HC.wp F (.seq (.br (.chk none (.bin .eql) (.cons (.inp 1) (.cons (.cst (.int .i64 4)) .nil)) (.done [] (some (.op (.bin .eql) (.cons (.inp 1) (.cons (.cst (.int .i64 4)) .nil)))))) h21_10 .skip) h21_9) Q env w := rfl
def h21_12 : HC := (.seq (.reg (.done [(2, (.cst (.slice none 0 0)))] none)) .ret)
@[simp] theorem h21_12_wp {P : Program} {F : PF P} {Q : EX → List Value → World → Prop} {env : List Value} {w : World} : h21_12.wp F Q env w = HC.wp F (.seq (.reg (.done [(2, (.cst (.slice none 0 0)))] none)) .ret) Q env w := rfl
def h21_13 : HC := (.seq (.br (.chk none (.eqNil false (.pointer 76) (.pointer none)) (.cons (.inp 0) .nil) (.bnd (.op (.eqNil false (.pointer 76) (.pointer none)) (.cons (.inp 0) .nil)) (.chk (some ((.bv 0), false)) (.bin .lss) (.cons (.inp 1) (.cons (.cst (.int .i64 0)) .nil)) (.isb none (.bv 0) (.bnd (.ite (.bv 0) true (.cst (.bool true)) (.op (.bin .lss) (.cons (.inp 1) (.cons (.cst (.int .i64 0)) .nil)))) (.chk (some ((.bv 1), false)) (.bin .gtr) (.cons (.inp 1) (.cons (.cst (.int .i64 4)) .nil)) (.isb none (.bv 1) (.done [] (some (.ite (.bv 1) true (.cst (.bool true)) (.op (.bin .gtr) (.cons (.inp 1) (.cons (.cst (.int .i64 4)) .nil))))))))))))) h21_12 .skip) h21_11)
@[simp] theorem h21_13_wp {P : Program} {F : PF P} {Q : EX → List Value → World → Prop} {env : List Value} {w : World} : h21_13.wp F Q env w = HC.wp F (.seq (.br (.chk none (.eqNil false (.pointer 76) (.pointer none)) (.cons (.inp 0) .nil) (.bnd (.op (.eqNil false (.pointer 76) (.pointer none)) (.cons (.inp 0) .nil)) (.chk (some ((.bv 0), false)) (.bin .lss) (.cons (.inp 1) (.cons (.cst (.int .i64 0)) .nil)) (.isb none (.bv 0) (.bnd (.ite (.bv 0) true (.cst (.bool true)) (.op (.bin .lss) (.cons (.inp 1) (.cons (.cst (.int .i64 0)) .nil)))) (.chk (some ((.bv 1), false)) (.bin .gtr) (.cons (.inp 1) (.cons (.cst (.int .i64 4)) .nil)) (.isb none (.bv 1) (.done [] (some (.ite (.bv 1) true (.cst (.bool true)) (.op (.bin .gtr) (.cons (.inp 1) (.cons (.cst (.int .i64 4)) .nil))))))))))))) h21_12 .skip) h21_11) Q env w := rfl
def l21 : Lifted := ⟨[0, 1, 4, 5, 7, 31, 32], 42, [.slot 2], (.seq (.reg (.done [(2, (.cst (.slice none 0 0)))] none)) h21_13)⟩
theorem l21_ok : liftFn U2 21 400 = some l21 := by kernel_rfl


/-- the place of a tick, as one number -/
def lvQ (a now : Nat) : Nat := (lvF a now).1 * 64 + (lvF a now).2
def cntQ (now : Nat) (L : List (Int × Int)) (q : Nat) : Nat := (L.filter fun x => decide (lvQ x.2.toNat now = q)).length
theorem plOK.q {now : Nat} {ts : List Tm} (h : plOK now ts) {t : Tm} (ht : t ∈ ts) : tmQ t = lvQ t.a now := by
  unfold tmQ lvQ
  rw [(h.pl t ht).1, (h.pl t ht).2]
theorem SlOK.len {now : Nat} {ts : List Tm} (h : plOK now ts) {q : Nat} {x : Sl} (hs : SlOK ts q x) : (slE x).length = cntQ now (ts.map tmr) q := by
  have h1 : ((slE x).map (·.k)).Perm ((ts.filter fun t => decide (tmQ t = q)).map (·.n)) := by
    refine (List.perm_ext_iff_of_nodup hs.ok.kn (h.num.sublist (List.filter_sublist.map _))).2 fun n => ?_
    constructor
    · intro hn
      obtain ⟨e, he, rfl⟩ := List.mem_map.1 hn
      obtain ⟨t, ht, h1, h2, h3⟩ := (hs.mem e.k e.v).1 (getI_of hs.ok.kn he)
      exact List.mem_map.2 ⟨t, List.mem_filter.2 ⟨ht, decide_eq_true h2⟩, h1⟩
    · intro hn
      obtain ⟨t, ht, rfl⟩ := List.mem_map.1 hn
      obtain ⟨ht, h2⟩ := List.mem_filter.1 ht
      obtain ⟨e, he, h3, _⟩ := getI_mem ((hs.mem t.n (tp t)).2 ⟨t, ht, rfl, of_decide_eq_true h2, rfl⟩)
      exact List.mem_map.2 ⟨e, he, h3⟩
  have h2 := h1.length_eq
  rw [List.length_map, List.length_map] at h2
  rw [h2]
  unfold cntQ
  rw [List.filter_map, List.length_map]
  congr 1
  refine List.filter_congr fun t ht => ?_
  show _ = decide (lvQ (t.a : Int).toNat now = q)
  rw [h.q ht, Int.toNat_natCast]
theorem cntQ_perm (now : Nat) {L L' : List (Int × Int)} (h : L.Perm L') (q : Nat) : cntQ now L q = cntQ now L' q := (h.filter _).length_eq
theorem cntQ_le (now : Nat) (L : List (Int × Int)) (q : Nat) : cntQ now L q ≤ L.length := List.length_filter_le _ _
def ldF (now : Nat) (L : List (Int × Int)) (level : Int) : List Int :=
  if level < 0 ∨ 4 < level then [] else if level = 4 then [(cntQ now L 256 : Int)] else (List.range 64).map fun s => (cntQ now L (level.toNat * 64 + s) : Int)
theorem ldF_perm (now : Nat) {L L' : List (Int × Int)} (h : L.Perm L') (level : Int) : ldF now L level = ldF now L' level := by
  unfold ldF
  simp only [cntQ_perm now h]
abbrev intsA (v : Value) (l : List Int) : Asn := own 3 1 v l.length (l.map (Value.int .i64))
theorem eff_lenS {p am now mv : Nat} {Y : Dk} {ts : List Tm} {B : Asn} {q : Nat} {ty : TypeId} {cs : Array Bool} {w0 w : World} {K : Value → World → Prop} (hp : plOK now ts) (hq : q < 257) (hs : SlOK ts q (Y q)) (s : St w0 (B * bigA slA Y 257) w)
    (hk : K (.int .i64 (cntQ now (ts.map tmr) q)) w) : EffW Try.prog (.bi .len #[72] ty cs) [slv (Y q)] K w := by
  rw [← hs.len hp] at hk
  rw [big_at hq] at s
  cases hY : Y q with
  | none =>
    rw [hY] at hk
    exact eff_lenN hungI.ty hk
  | some x =>
    rw [hY] at hk s
    have s : St w0 (B * bigH slA Y q 257 * imap x.1 x.2.1 x.2.2) w := s.to (by rw [show slA q (some x) = imap x.1 x.2.1 x.2.2 from rfl]; ac_rfl)
    exact eff_lenI hungI.ty s.look hk
theorem Load_spec (p now mv : Nat) (ts : List Tm) (level : Int) (w0 w : World) (A : Asn) {K : Value → World → Prop} (hpl : plOK now ts) (hlen : ts.length ≤ 65536) (s : St w0 (A * whl p now mv ts) w)
    (hk : ∀ v w', St w0 (A * whl p now mv ts * intsA v (ldF now (ts.map tmr) level)) w' → K v w') :
    CallW Try.prog 21 [.pointer (some ⟨p, 0, none⟩), .int .i64 level] K w := by
  refine callW_of_lift l21_ok (by simp [l21]) ?_
  simp [l21]
  refine cndI (fun c => ?_) (fun c => ?_)
  · have hl : level < 0 ∨ 4 < level := by
      simp at c
      omega
    simp
    refine hk _ _ ?_
    have : ldF now (ts.map tmr) level = [] := by unfold ldF; rw [if_pos hl]
    rw [this]
    exact s.own_nil _ _
  have hl : 0 ≤ level ∧ level ≤ 4 := by
    simp at c
    omega
  obtain ⟨l, rfl⟩ := Int.eq_ofNat_of_zero_le hl.1
  have hl4 : l ≤ 4 := by omega
  obtain ⟨am, aes, ac, Y, hok, t1⟩ := wopen s
  simp
  refine cndI (fun c4 => ?_) (fun c4 => ?_)
  · have : l = 4 := by
      have h : (l : Int) = 4 := by simpa using c4
      omega
    subst this
    simp
    refine eff_ldc (v := slv (Y 256)) (wc_cell (q := 256) t1 (by decide)) ?_
    simp
    refine eff_lenS (p := p) (am := am) (mv := mv) (q := 256) hpl (by decide) (hok.sl 256 (by decide)) (t1.to (B := A * hungA ts * imap am aes ac * wc p now mv am Y * bigA slA Y 257) (by ac_rfl)) ?_
    simp
    refine eff_bslO (vs := [.int .i64 (cntQ now (ts.map tmr) 256)]) s (by simp [Value.oneCell']) rfl rfl (by decide) ?_
    intro v w1 s1
    simp
    exact hk _ _ s1
  have hl3 : l < 4 := by
    have : ¬ l = 4 := by
      intro e
      subst e
      simp at c4
    omega
  simp
  refine ⟨by omega, ?_⟩
  refine eff_ldcs (vs := (List.range 64).map fun j => slv (Y (l * 64 + j))) (fun j u hu => ?_) (by simp) ?_
  · have hj : j < 64 := by
      have := (List.getElem?_eq_some_iff.1 hu).1
      simpa using this
    have := wc_cell t1 (q := l * 64 + j) (by omega)
    simp [hj] at hu
    subst hu
    rw [show 3 + l * 64 + j = 3 + (l * 64 + j) by omega]
    exact this
  simp
  have s0 := t1.own_nil 3 1
  refine loopI (fun env w' => ∃ (i : Nat) (v x : Value), env = [.pointer (some ⟨p, 0, none⟩), .int .i64 l, .slice none 0 0, v, x, .agg ((List.range 64).map fun j => slv (Y (l * 64 + j))).toArray, .int .i64 i] ∧ i ≤ 64 ∧
      St w0 (A * hungA ts * bigA slA Y 257 * imap am aes ac * wc p now mv am Y * intsA v ((List.range i).map fun s => (cntQ now (ts.map tmr) (l * 64 + s) : Int))) w')
    (fun env _ => 64 - slotN env 6) ⟨0, _, _, rfl, by omega, s0⟩ ?_
  rintro LQ env w' ⟨i, v, x, rfl, hi, s'⟩ hN hE hR
  simp
  refine cndI (fun h => ?_) (fun h => ?_)
  · have hi' : i < 64 := by
      simp at h
      omega
    have hic : (i : Int) < 64 := by omega
    simp [hi', hic]
    refine eff_lenS (p := p) (am := am) (mv := mv) (q := l * 64 + i) hpl (by omega) (hok.sl _ (by omega)) (s'.to (B := A * hungA ts * imap am aes ac * wc p now mv am Y * intsA v ((List.range i).map fun s => (cntQ now (ts.map tmr) (l * 64 + s) : Int)) * bigA slA Y 257) (by ac_rfl)) ?_
    obtain ⟨c, hc⟩ : ∃ c, cntQ now (ts.map tmr) (l * 64 + i) = c := ⟨_, rfl⟩
    rw [hc]
    simp
    refine eff_bsl1 s' rfl ?_
    intro b w1 s1
    simp
    refine eff_app (m := 1) (news := [.int .i64 c]) (s1.swap) rfl (fun j u hu => ?_) (by simp [Value.oneCell']) (by decide) rfl (by simp; unfold maxLen; omega) (by simp; omega) ?_
    · exact s1.cells_look j u (by simpa using hu)
    intro v2 w2 s2
    simp
    try simp (disch := omega) only [wrap64]
    refine hN _ _ ⟨i + 1, v2, _, by simp; rfl, by omega, ?_⟩ (by simp [slotN]; omega)
    have e : intsA v2 ((List.range (i + 1)).map fun s => (cntQ now (ts.map tmr) (l * 64 + s) : Int)) = own 3 1 v2 (((List.range i).map fun s => (cntQ now (ts.map tmr) (l * 64 + s) : Int)).length + 1) (((List.range i).map fun s => (cntQ now (ts.map tmr) (l * 64 + s) : Int)).map (Value.int .i64) ++ [.int .i64 c]) := by
      show own _ _ _ _ _ = _
      rw [List.range_succ]
      simp [hc]
    rw [e]
    exact St.cut (pt b (.cells #[.int .i64 c] 3 (0, 0))) s2 (by ac_rfl)
  · have : i = 64 := by
      simp at h
      omega
    subst this
    simp
    refine hE _ _ _ ?_
    simp
    refine hk _ _ ?_
    have e : ldF now (ts.map tmr) (l : Int) = (List.range 64).map fun s => (cntQ now (ts.map tmr) (l * 64 + s) : Int) := by
      unfold ldF
      rw [if_neg (by omega), if_neg (by omega), Int.toNat_natCast]
    rw [e]
    exact (wclose hok (s'.to (B := A * intsA v ((List.range 64).map fun s => (cntQ now (ts.map tmr) (l * 64 + s) : Int)) * hungA ts * bigA slA Y 257 * imap am aes ac * wc p now mv am Y) (by ac_rfl))).swap
end Go.HL.Wh
