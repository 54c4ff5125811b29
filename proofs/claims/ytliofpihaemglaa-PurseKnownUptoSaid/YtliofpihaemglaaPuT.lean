/-
  Purse: nil purses. No condition.
-/
import Derived.Test.YtliofpihaemglaaPuL
import Derived.Test.YtliofpihaemglaaPuI
namespace Go.HL.Pu
open Go.HL Go.HL.Nm Go.Proofs
set_option maxRecDepth 4000
set_option linter.unusedSimpArgs false
set_option linter.unusedVariables false
theorem account_nil (n : Int) (w0 w : World) (A : Asn) (s : St w0 A w) : CallW Try.prog 75 [.pointer none, .int .i64 n] (fun r w' => r = .int .i64 1 ∧ St w0 A w') w := by
  refine callW_of_lift l75_ok (by simp [l75]) ?_
  simp [l75]
  exact s
theorem Open_nil (x : List UInt8) (w0 w : World) (A : Asn) (s : St w0 A w) : CallW Try.prog 13 [.pointer none, .string (mk x)] (fun r w' => r = .tuple #[.int .i64 0, .int .i64 1] ∧ St w0 A w') w := by
  refine callW_of_lift l13_ok (by simp [l13]) ?_
  simp [l13]
  exact s
theorem Find_nil (x : List UInt8) (w0 w : World) (A : Asn) (s : St w0 A w) : CallW Try.prog 14 [.pointer none, .string (mk x)] (fun r w' => r = .tuple #[.int .i64 0, .bool false] ∧ St w0 A w') w := by
  refine callW_of_lift l14_ok (by simp [l14]) ?_
  simp [l14]
  exact s
theorem Near_nil (x : List UInt8) (w0 w : World) (A : Asn) (s : St w0 A w) : CallW Try.prog 16 [.pointer none, .string (mk x)] (fun r w' => r = .slice none 0 0 ∧ St w0 A w') w := by
  refine callW_of_lift l16_ok (by simp [l16]) ?_
  simp [l16]
  exact s
theorem Supply_nil (w0 w : World) (A : Asn) (s : St w0 A w) : CallW Try.prog 30 [.pointer none] (fun r w' => r = .int .u64 0 ∧ St w0 A w') w := by
  refine callW_of_lift l30_ok (by simp [l30]) ?_
  simp [l30]
  exact s
theorem Held_nil (w0 w : World) (A : Asn) (s : St w0 A w) : CallW Try.prog 37 [.pointer none] (fun r w' => r = .int .u64 0 ∧ St w0 A w') w := by
  refine callW_of_lift l37_ok (by simp [l37]) ?_
  simp [l37]
  exact s
theorem Limit_nil (w0 w : World) (A : Asn) (s : St w0 A w) : CallW Try.prog 28 [.pointer none] (fun r w' => r = .int .i64 0 ∧ St w0 A w') w := by
  refine callW_of_lift l28_ok (by simp [l28]) ?_
  simp [l28]
  exact s
theorem Len_nil (w0 w : World) (A : Asn) (s : St w0 A w) : CallW Try.prog 18 [.pointer none] (fun r w' => r = .int .i64 0 ∧ St w0 A w') w := by
  refine callW_of_lift l18_ok (by simp [l18]) ?_
  simp [l18]
  exact s
theorem Rows_nil (w0 w : World) (A : Asn) (s : St w0 A w) : CallW Try.prog 29 [.pointer none] (fun r w' => r = .slice none 0 0 ∧ St w0 A w') w := by
  refine callW_of_lift l29_ok (by simp [l29]) ?_
  simp [l29]
  exact s
theorem Copy_nil (w0 w : World) (A : Asn) (s : St w0 A w) : CallW Try.prog 26 [.pointer none] (fun r w' => r = .pointer none ∧ St w0 A w') w := by
  refine callW_of_lift l26_ok (by simp [l26]) ?_
  simp [l26]
  exact s
theorem Mint_nil (n c : Int) (w0 w : World) (A : Asn) (s : St w0 A w) : CallW Try.prog 62 [.pointer none, .int .i64 n, .int .u64 c] (fun r w' => r = .int .i64 1 ∧ St w0 A w') w := by
  refine callW_of_lift l62_ok (by simp [l62]) ?_
  simp [l62]
  refine eff_call ((account_nil _ w0 w A s).mono ?_)
  rintro r w1 ⟨rfl, s1⟩
  simp
  exact s1
theorem Take_nil (n c : Int) (w0 w : World) (A : Asn) (s : St w0 A w) : CallW Try.prog 34 [.pointer none, .int .i64 n, .int .u64 c] (fun r w' => r = .int .i64 1 ∧ St w0 A w') w := by
  refine callW_of_lift l34_ok (by simp [l34]) ?_
  simp [l34]
  refine eff_call ((account_nil _ w0 w A s).mono ?_)
  rintro r w1 ⟨rfl, s1⟩
  simp
  exact s1
theorem Put_nil (n c : Int) (w0 w : World) (A : Asn) (s : St w0 A w) : CallW Try.prog 35 [.pointer none, .int .i64 n, .int .u64 c] (fun r w' => r = .int .i64 1 ∧ St w0 A w') w := by
  refine callW_of_lift l35_ok (by simp [l35]) ?_
  simp [l35]
  refine eff_call ((account_nil _ w0 w A s).mono ?_)
  rintro r w1 ⟨rfl, s1⟩
  simp
  exact s1
theorem Pay_nil (a b c : Int) (w0 w : World) (A : Asn) (s : St w0 A w) : CallW Try.prog 64 [.pointer none, .int .i64 a, .int .i64 b, .int .u64 c] (fun r w' => r = .int .i64 1 ∧ St w0 A w') w := by
  refine callW_of_lift l64_ok (by simp [l64]) ?_
  simp [l64]
  refine eff_call ((account_nil _ w0 w A s).mono ?_)
  rintro r w1 ⟨rfl, s1⟩
  simp
  refine eff_call ((account_nil _ w0 w1 A s1).mono ?_)
  rintro r w2 ⟨rfl, s2⟩
  simp
  refine eff_max ?_
  simp
  exact s2
theorem Get_nil (n : Int) (w0 w : World) (A : Asn) (s : St w0 A w) : CallW Try.prog 36 [.pointer none, .int .i64 n] (fun r w' => r = .tuple #[.agg (Ac.cs ⟨[], 0⟩).toArray, .int .i64 1] ∧ St w0 A w') w := by
  refine callW_of_lift l36_ok (by simp [l36]) ?_
  simp [l36]
  refine eff_new s ?_
  intro b w1 s1
  simp
  refine eff_call ((account_nil _ w0 w1 _ s1).mono ?_)
  rintro r w2 ⟨rfl, s2⟩
  simp [Instr.fill, Value.cells]
  refine eff_stA (vs := Ac.cs ⟨[], 0⟩) s2 rfl rfl (cs_one _) (by simp [Ac.cs]) ?_
  intro w3 s3
  simp
  have s4 : St w0 (A * pt b (.cells (Ac.cs ⟨[], 0⟩).toArray 66 (0, 0))) w3 := by simpa [Ac.cs] using s3
  refine rv_cellA (vs := Ac.cs ⟨[], 0⟩) rfl s4.row_cells rfl ?_
  simp
  exact s4.drop
-- bazaar/bazaarlaw14.nothing
def h39_0 : HC := (.seq (.reg (.chk none (.bin .eql) (.cons (.inp 2) (.cons (.cst (.int .i64 0)) .nil)) (.bnd (.op (.bin .eql) (.cons (.inp 2) (.cons (.cst (.int .i64 0)) .nil))) (.chk (some ((.bv 0), true)) (.cal 10) (.cons (.inp 3) .nil) (.chk (some ((.bv 0), true)) (.bin .eql) (.cons (.op (.cal 10) (.cons (.inp 3) .nil)) (.cons (.cst (.int .i64 1)) .nil)) (.isb none (.bv 0) (.bnd (.ite (.bv 0) true (.op (.bin .eql) (.cons (.op (.cal 10) (.cons (.inp 3) .nil)) (.cons (.cst (.int .i64 1)) .nil))) (.cst (.bool false))) (.chk (some ((.bv 1), true)) (.cal 10) (.cons (.inp 4) .nil) (.chk (some ((.bv 1), true)) (.bin .eql) (.cons (.op (.cal 10) (.cons (.inp 4) .nil)) (.cons (.cst (.int .i64 1)) .nil)) (.isb none (.bv 1) (.bnd (.ite (.bv 1) true (.op (.bin .eql) (.cons (.op (.cal 10) (.cons (.inp 4) .nil)) (.cons (.cst (.int .i64 1)) .nil))) (.cst (.bool false))) (.chk (some ((.bv 2), true)) (.cal 10) (.cons (.inp 5) .nil) (.chk (some ((.bv 2), true)) (.bin .eql) (.cons (.op (.cal 10) (.cons (.inp 5) .nil)) (.cons (.cst (.int .i64 1)) .nil)) (.isb none (.bv 2) (.bnd (.ite (.bv 2) true (.op (.bin .eql) (.cons (.op (.cal 10) (.cons (.inp 5) .nil)) (.cons (.cst (.int .i64 1)) .nil))) (.cst (.bool false))) (.chk (some ((.bv 3), true)) (.cal 10) (.cons (.inp 6) .nil) (.chk (some ((.bv 3), true)) (.bin .eql) (.cons (.op (.cal 10) (.cons (.inp 6) .nil)) (.cons (.cst (.int .i64 1)) .nil)) (.isb none (.bv 3) (.bnd (.ite (.bv 3) true (.op (.bin .eql) (.cons (.op (.cal 10) (.cons (.inp 6) .nil)) (.cons (.cst (.int .i64 1)) .nil))) (.cst (.bool false))) (.chk (some ((.bv 4), true)) (.cal 10) (.cons (.inp 7) .nil) (.chk (some ((.bv 4), true)) (.bin .eql) (.cons (.op (.cal 10) (.cons (.inp 7) .nil)) (.cons (.cst (.int .i64 1)) .nil)) (.isb none (.bv 4) (.ite (.bv 4) true (.bnd (.op (.bin .eql) (.cons (.op (.cal 10) (.cons (.inp 7) .nil)) (.cons (.cst (.int .i64 1)) .nil))) (.ite (.bv 5) true (.eff (.ld true 2) (.cons (.inp 8) .nil) (.chk none (.build #[(.string ⟨#[]⟩), (.int .u64 0)] [(0, 1), (1, 1)] []) .nil (.eff (.bin .eql 66 (.tmp 63) (.tmp 64)) (.cons (.bv 6) (.cons (.op (.build #[(.string ⟨#[]⟩), (.int .u64 0)] [(0, 1), (1, 1)] []) .nil) .nil)) (.isb none (.bv 5) (.chk (some ((.bv 7), true)) (.cal 10) (.cons (.inp 9) .nil) (.chk (some ((.bv 7), true)) (.bin .eql) (.cons (.op (.cal 10) (.cons (.inp 9) .nil)) (.cons (.cst (.int .i64 1)) .nil)) (.isb none (.bv 7) (.bnd (.ite (.bv 7) true (.op (.bin .eql) (.cons (.op (.cal 10) (.cons (.inp 9) .nil)) (.cons (.cst (.int .i64 1)) .nil))) (.cst (.bool false))) (.chk (some ((.bv 8), true)) (.bin .eql) (.cons (.inp 10) (.cons (.cst (.int .i64 0)) .nil)) (.isb none (.bv 8) (.bnd (.ite (.bv 8) true (.op (.bin .eql) (.cons (.inp 10) (.cons (.cst (.int .i64 0)) .nil))) (.cst (.bool false))) (.chk (some ((.bv 9), true)) (.un .not) (.cons (.inp 11) .nil) (.isb none (.bv 9) (.bnd (.ite (.bv 9) true (.op (.un .not) (.cons (.inp 11) .nil)) (.cst (.bool false))) (.ite (.bv 10) true (.eff (.call 16) (.cons (.ite (.bv 10) true (.inp 1) (.cst (.tuple #[]))) (.cons (.cst (.string ⟨#[98, 97, 110, 107]⟩)) .nil)) (.chk none .lenL (.cons (.bv 11) .nil) (.chk none (.bin .eql) (.cons (.op .lenL (.cons (.bv 11) .nil)) (.cons (.cst (.int .i64 0)) .nil)) (.isb none (.bv 10) (.bnd (.op (.bin .eql) (.cons (.op .lenL (.cons (.bv 11) .nil)) (.cons (.cst (.int .i64 0)) .nil))) (.ite (.bv 12) true (.eff (.call 30) (.cons (.ite (.bv 12) true (.inp 1) (.cst (.tuple #[]))) .nil) (.chk none (.bin .eql) (.cons (.bv 13) (.cons (.cst (.int .u64 0)) .nil)) (.isb none (.bv 12) (.bnd (.op (.bin .eql) (.cons (.bv 13) (.cons (.cst (.int .u64 0)) .nil))) (.ite (.bv 14) true (.eff (.call 37) (.cons (.ite (.bv 14) true (.inp 1) (.cst (.tuple #[]))) .nil) (.chk none (.bin .eql) (.cons (.bv 15) (.cons (.cst (.int .u64 0)) .nil)) (.isb none (.bv 14) (.bnd (.op (.bin .eql) (.cons (.bv 15) (.cons (.cst (.int .u64 0)) .nil))) (.ite (.bv 16) true (.eff (.call 28) (.cons (.ite (.bv 16) true (.inp 1) (.cst (.tuple #[]))) .nil) (.chk none (.bin .eql) (.cons (.bv 17) (.cons (.cst (.int .i64 0)) .nil)) (.isb none (.bv 16) (.bnd (.op (.bin .eql) (.cons (.bv 17) (.cons (.cst (.int .i64 0)) .nil))) (.ite (.bv 18) true (.eff (.call 18) (.cons (.ite (.bv 18) true (.inp 1) (.cst (.tuple #[]))) .nil) (.chk none (.bin .eql) (.cons (.bv 19) (.cons (.cst (.int .i64 0)) .nil)) (.isb none (.bv 18) (.bnd (.op (.bin .eql) (.cons (.bv 19) (.cons (.cst (.int .i64 0)) .nil))) (.ite (.bv 20) true (.eff (.call 29) (.cons (.ite (.bv 20) true (.inp 1) (.cst (.tuple #[]))) .nil) (.chk none .lenL (.cons (.bv 21) .nil) (.chk none (.bin .eql) (.cons (.op .lenL (.cons (.bv 21) .nil)) (.cons (.cst (.int .i64 0)) .nil)) (.isb none (.bv 20) (.bnd (.op (.bin .eql) (.cons (.op .lenL (.cons (.bv 21) .nil)) (.cons (.cst (.int .i64 0)) .nil))) (.ite (.bv 22) true (.eff (.call 26) (.cons (.ite (.bv 22) true (.inp 1) (.cst (.tuple #[]))) .nil) (.chk none (.eqNil false (.pointer 81) (.pointer none)) (.cons (.bv 23) .nil) (.isb none (.bv 22) (.done [(0, (.op (.eqNil false (.pointer 81) (.pointer none)) (.cons (.bv 23) .nil)))] none)))) (.isb none (.bv 22) (.done [(0, (.cst (.bool false)))] none)))))))) (.isb none (.bv 20) (.isb none (.cst (.bool false)) (.done [(0, (.cst (.bool false)))] none)))))))) (.isb none (.bv 18) (.isb none (.cst (.bool false)) (.isb none (.cst (.bool false)) (.done [(0, (.cst (.bool false)))] none))))))))) (.isb none (.bv 16) (.isb none (.cst (.bool false)) (.isb none (.cst (.bool false)) (.isb none (.cst (.bool false)) (.done [(0, (.cst (.bool false)))] none)))))))))) (.isb none (.bv 14) (.isb none (.cst (.bool false)) (.isb none (.cst (.bool false)) (.isb none (.cst (.bool false)) (.isb none (.cst (.bool false)) (.done [(0, (.cst (.bool false)))] none))))))))))) (.isb none (.bv 12) (.isb none (.cst (.bool false)) (.isb none (.cst (.bool false)) (.isb none (.cst (.bool false)) (.isb none (.cst (.bool false)) (.isb none (.cst (.bool false)) (.done [(0, (.cst (.bool false)))] none))))))))))))) (.isb none (.bv 10) (.isb none (.cst (.bool false)) (.isb none (.cst (.bool false)) (.isb none (.cst (.bool false)) (.isb none (.cst (.bool false)) (.isb none (.cst (.bool false)) (.isb none (.cst (.bool false)) (.done [(0, (.cst (.bool false)))] none))))))))))))))))))))))) (.isb none (.bv 5) (.isb none (.cst (.bool false)) (.isb none (.cst (.bool false)) (.isb none (.cst (.bool false)) (.isb none (.cst (.bool false)) (.isb none (.cst (.bool false)) (.isb none (.cst (.bool false)) (.isb none (.cst (.bool false)) (.isb none (.cst (.bool false)) (.isb none (.cst (.bool false)) (.isb none (.cst (.bool false)) (.done [(0, (.cst (.bool false)))] none)))))))))))))) (.isb none (.ite (.bv 4) true (.op (.bin .eql) (.cons (.op (.cal 10) (.cons (.inp 7) .nil)) (.cons (.cst (.int .i64 1)) .nil))) (.cst (.bool false))) (.bnd (.ite (.ite (.bv 4) true (.op (.bin .eql) (.cons (.op (.cal 10) (.cons (.inp 7) .nil)) (.cons (.cst (.int .i64 1)) .nil))) (.cst (.bool false))) true (.cst (.tuple #[])) (.cst (.bool false))) (.chk (some ((.bv 5), true)) (.cal 10) (.cons (.inp 9) .nil) (.chk (some ((.bv 5), true)) (.bin .eql) (.cons (.op (.cal 10) (.cons (.inp 9) .nil)) (.cons (.cst (.int .i64 1)) .nil)) (.isb none (.bv 5) (.bnd (.ite (.bv 5) true (.op (.bin .eql) (.cons (.op (.cal 10) (.cons (.inp 9) .nil)) (.cons (.cst (.int .i64 1)) .nil))) (.cst (.bool false))) (.chk (some ((.bv 6), true)) (.bin .eql) (.cons (.inp 10) (.cons (.cst (.int .i64 0)) .nil)) (.isb none (.bv 6) (.bnd (.ite (.bv 6) true (.op (.bin .eql) (.cons (.inp 10) (.cons (.cst (.int .i64 0)) .nil))) (.cst (.bool false))) (.chk (some ((.bv 7), true)) (.un .not) (.cons (.inp 11) .nil) (.isb none (.bv 7) (.bnd (.ite (.bv 7) true (.op (.un .not) (.cons (.inp 11) .nil)) (.cst (.bool false))) (.ite (.bv 8) true (.eff (.call 16) (.cons (.ite (.bv 8) true (.inp 1) (.cst (.tuple #[]))) (.cons (.cst (.string ⟨#[98, 97, 110, 107]⟩)) .nil)) (.chk none .lenL (.cons (.bv 9) .nil) (.chk none (.bin .eql) (.cons (.op .lenL (.cons (.bv 9) .nil)) (.cons (.cst (.int .i64 0)) .nil)) (.isb none (.bv 8) (.bnd (.op (.bin .eql) (.cons (.op .lenL (.cons (.bv 9) .nil)) (.cons (.cst (.int .i64 0)) .nil))) (.ite (.bv 10) true (.eff (.call 30) (.cons (.ite (.bv 10) true (.inp 1) (.cst (.tuple #[]))) .nil) (.chk none (.bin .eql) (.cons (.bv 11) (.cons (.cst (.int .u64 0)) .nil)) (.isb none (.bv 10) (.bnd (.op (.bin .eql) (.cons (.bv 11) (.cons (.cst (.int .u64 0)) .nil))) (.ite (.bv 12) true (.eff (.call 37) (.cons (.ite (.bv 12) true (.inp 1) (.cst (.tuple #[]))) .nil) (.chk none (.bin .eql) (.cons (.bv 13) (.cons (.cst (.int .u64 0)) .nil)) (.isb none (.bv 12) (.bnd (.op (.bin .eql) (.cons (.bv 13) (.cons (.cst (.int .u64 0)) .nil))) (.ite (.bv 14) true (.eff (.call 28) (.cons (.ite (.bv 14) true (.inp 1) (.cst (.tuple #[]))) .nil) (.chk none (.bin .eql) (.cons (.bv 15) (.cons (.cst (.int .i64 0)) .nil)) (.isb none (.bv 14) (.bnd (.op (.bin .eql) (.cons (.bv 15) (.cons (.cst (.int .i64 0)) .nil))) (.ite (.bv 16) true (.eff (.call 18) (.cons (.ite (.bv 16) true (.inp 1) (.cst (.tuple #[]))) .nil) (.chk none (.bin .eql) (.cons (.bv 17) (.cons (.cst (.int .i64 0)) .nil)) (.isb none (.bv 16) (.bnd (.op (.bin .eql) (.cons (.bv 17) (.cons (.cst (.int .i64 0)) .nil))) (.ite (.bv 18) true (.eff (.call 29) (.cons (.ite (.bv 18) true (.inp 1) (.cst (.tuple #[]))) .nil) (.chk none .lenL (.cons (.bv 19) .nil) (.chk none (.bin .eql) (.cons (.op .lenL (.cons (.bv 19) .nil)) (.cons (.cst (.int .i64 0)) .nil)) (.isb none (.bv 18) (.bnd (.op (.bin .eql) (.cons (.op .lenL (.cons (.bv 19) .nil)) (.cons (.cst (.int .i64 0)) .nil))) (.ite (.bv 20) true (.eff (.call 26) (.cons (.ite (.bv 20) true (.inp 1) (.cst (.tuple #[]))) .nil) (.chk none (.eqNil false (.pointer 81) (.pointer none)) (.cons (.bv 21) .nil) (.isb none (.bv 20) (.done [(0, (.op (.eqNil false (.pointer 81) (.pointer none)) (.cons (.bv 21) .nil)))] none)))) (.isb none (.bv 20) (.done [(0, (.cst (.bool false)))] none)))))))) (.isb none (.bv 18) (.isb none (.cst (.bool false)) (.done [(0, (.cst (.bool false)))] none)))))))) (.isb none (.bv 16) (.isb none (.cst (.bool false)) (.isb none (.cst (.bool false)) (.done [(0, (.cst (.bool false)))] none))))))))) (.isb none (.bv 14) (.isb none (.cst (.bool false)) (.isb none (.cst (.bool false)) (.isb none (.cst (.bool false)) (.done [(0, (.cst (.bool false)))] none)))))))))) (.isb none (.bv 12) (.isb none (.cst (.bool false)) (.isb none (.cst (.bool false)) (.isb none (.cst (.bool false)) (.isb none (.cst (.bool false)) (.done [(0, (.cst (.bool false)))] none))))))))))) (.isb none (.bv 10) (.isb none (.cst (.bool false)) (.isb none (.cst (.bool false)) (.isb none (.cst (.bool false)) (.isb none (.cst (.bool false)) (.isb none (.cst (.bool false)) (.done [(0, (.cst (.bool false)))] none))))))))))))) (.isb none (.bv 8) (.isb none (.cst (.bool false)) (.isb none (.cst (.bool false)) (.isb none (.cst (.bool false)) (.isb none (.cst (.bool false)) (.isb none (.cst (.bool false)) (.isb none (.cst (.bool false)) (.done [(0, (.cst (.bool false)))] none)))))))))))))))))))))))))))))))))))))))))))) .ret)
@[simp] theorem h39_0_wp {P : Program} {F : PF P} {Q : EX → List Value → World → Prop} {env : List Value} {w : World} : h39_0.wp F Q env w = HC.wp F (.seq (.reg (.chk none (.bin .eql) (.cons (.inp 2) (.cons (.cst (.int .i64 0)) .nil)) (.bnd (.op (.bin .eql) (.cons (.inp 2) (.cons (.cst (.int .i64 0)) .nil))) (.chk (some ((.bv 0), true)) (.cal 10) (.cons (.inp 3) .nil) (.chk (some ((.bv 0), true)) (.bin .eql) (.cons (.op (.cal 10) (.cons (.inp 3) .nil)) (.cons (.cst (.int .i64 1)) .nil)) (.isb none (.bv 0) (.bnd (.ite (.bv 0) true (.op (.bin .eql) (.cons (.op (.cal 10) (.cons (.inp 3) .nil)) (.cons (.cst (.int .i64 1)) .nil))) (.cst (.bool false))) (.chk (some ((.bv 1), true)) (.cal 10) (.cons (.inp 4) .nil) (.chk (some ((.bv 1), true)) (.bin .eql) (.cons (.op (.cal 10) (.cons (.inp 4) .nil)) (.cons (.cst (.int .i64 1)) .nil)) (.isb none (.bv 1) (.bnd (.ite (.bv 1) true (.op (.bin .eql) (.cons (.op (.cal 10) (.cons (.inp 4) .nil)) (.cons (.cst (.int .i64 1)) .nil))) (.cst (.bool false))) (.chk (some ((.bv 2), true)) (.cal 10) (.cons (.inp 5) .nil) (.chk (some ((.bv 2), true)) (.bin .eql) (.cons (.op (.cal 10) (.cons (.inp 5) .nil)) (.cons (.cst (.int .i64 1)) .nil)) (.isb none (.bv 2) (.bnd (.ite (.bv 2) true (.op (.bin .eql) (.cons (.op (.cal 10) (.cons (.inp 5) .nil)) (.cons (.cst (.int .i64 1)) .nil))) (.cst (.bool false))) (.chk (some ((.bv 3), true)) (.cal 10) (.cons (.inp 6) .nil) (.chk (some ((.bv 3), true)) (.bin .eql) (.cons (.op (.cal 10) (.cons (.inp 6) .nil)) (.cons (.cst (.int .i64 1)) .nil)) (.isb none (.bv 3) (.bnd (.ite (.bv 3) true (.op (.bin .eql) (.cons (.op (.cal 10) (.cons (.inp 6) .nil)) (.cons (.cst (.int .i64 1)) .nil))) (.cst (.bool false))) (.chk (some ((.bv 4), true)) (.cal 10) (.cons (.inp 7) .nil) (.chk (some ((.bv 4), true)) (.bin .eql) (.cons (.op (.cal 10) (.cons (.inp 7) .nil)) (.cons (.cst (.int .i64 1)) .nil)) (.isb none (.bv 4) (.ite (.bv 4) true (.bnd (.op (.bin .eql) (.cons (.op (.cal 10) (.cons (.inp 7) .nil)) (.cons (.cst (.int .i64 1)) .nil))) (.ite (.bv 5) true (.eff (.ld true 2) (.cons (.inp 8) .nil) (.chk none (.build #[(.string ⟨#[]⟩), (.int .u64 0)] [(0, 1), (1, 1)] []) .nil (.eff (.bin .eql 66 (.tmp 63) (.tmp 64)) (.cons (.bv 6) (.cons (.op (.build #[(.string ⟨#[]⟩), (.int .u64 0)] [(0, 1), (1, 1)] []) .nil) .nil)) (.isb none (.bv 5) (.chk (some ((.bv 7), true)) (.cal 10) (.cons (.inp 9) .nil) (.chk (some ((.bv 7), true)) (.bin .eql) (.cons (.op (.cal 10) (.cons (.inp 9) .nil)) (.cons (.cst (.int .i64 1)) .nil)) (.isb none (.bv 7) (.bnd (.ite (.bv 7) true (.op (.bin .eql) (.cons (.op (.cal 10) (.cons (.inp 9) .nil)) (.cons (.cst (.int .i64 1)) .nil))) (.cst (.bool false))) (.chk (some ((.bv 8), true)) (.bin .eql) (.cons (.inp 10) (.cons (.cst (.int .i64 0)) .nil)) (.isb none (.bv 8) (.bnd (.ite (.bv 8) true (.op (.bin .eql) (.cons (.inp 10) (.cons (.cst (.int .i64 0)) .nil))) (.cst (.bool false))) (.chk (some ((.bv 9), true)) (.un .not) (.cons (.inp 11) .nil) (.isb none (.bv 9) (.bnd (.ite (.bv 9) true (.op (.un .not) (.cons (.inp 11) .nil)) (.cst (.bool false))) (.ite (.bv 10) true (.eff (.call 16) (.cons (.ite (.bv 10) true (.inp 1) (.cst (.tuple #[]))) (.cons (.cst (.string ⟨#[98, 97, 110, 107]⟩)) .nil)) (.chk none .lenL (.cons (.bv 11) .nil) (.chk none (.bin .eql) (.cons (.op .lenL (.cons (.bv 11) .nil)) (.cons (.cst (.int .i64 0)) .nil)) (.isb none (.bv 10) (.bnd (.op (.bin .eql) (.cons (.op .lenL (.cons (.bv 11) .nil)) (.cons (.cst (.int .i64 0)) .nil))) (.ite (.bv 12) true (.eff (.call 30) (.cons (.ite (.bv 12) true (.inp 1) (.cst (.tuple #[]))) .nil) (.chk none (.bin .eql) (.cons (.bv 13) (.cons (.cst (.int .u64 0)) .nil)) (.isb none (.bv 12) (.bnd (.op (.bin .eql) (.cons (.bv 13) (.cons (.cst (.int .u64 0)) .nil))) (.ite (.bv 14) true (.eff (.call 37) (.cons (.ite (.bv 14) true (.inp 1) (.cst (.tuple #[]))) .nil) (.chk none (.bin .eql) (.cons (.bv 15) (.cons (.cst (.int .u64 0)) .nil)) (.isb none (.bv 14) (.bnd (.op (.bin .eql) (.cons (.bv 15) (.cons (.cst (.int .u64 0)) .nil))) (.ite (.bv 16) true (.eff (.call 28) (.cons (.ite (.bv 16) true (.inp 1) (.cst (.tuple #[]))) .nil) (.chk none (.bin .eql) (.cons (.bv 17) (.cons (.cst (.int .i64 0)) .nil)) (.isb none (.bv 16) (.bnd (.op (.bin .eql) (.cons (.bv 17) (.cons (.cst (.int .i64 0)) .nil))) (.ite (.bv 18) true (.eff (.call 18) (.cons (.ite (.bv 18) true (.inp 1) (.cst (.tuple #[]))) .nil) (.chk none (.bin .eql) (.cons (.bv 19) (.cons (.cst (.int .i64 0)) .nil)) (.isb none (.bv 18) (.bnd (.op (.bin .eql) (.cons (.bv 19) (.cons (.cst (.int .i64 0)) .nil))) (.ite (.bv 20) true (.eff (.call 29) (.cons (.ite (.bv 20) true (.inp 1) (.cst (.tuple #[]))) .nil) (.chk none .lenL (.cons (.bv 21) .nil) (.chk none (.bin .eql) (.cons (.op .lenL (.cons (.bv 21) .nil)) (.cons (.cst (.int .i64 0)) .nil)) (.isb none (.bv 20) (.bnd (.op (.bin .eql) (.cons (.op .lenL (.cons (.bv 21) .nil)) (.cons (.cst (.int .i64 0)) .nil))) (.ite (.bv 22) true (.eff (.call 26) (.cons (.ite (.bv 22) true (.inp 1) (.cst (.tuple #[]))) .nil) (.chk none (.eqNil false (.pointer 81) (.pointer none)) (.cons (.bv 23) .nil) (.isb none (.bv 22) (.done [(0, (.op (.eqNil false (.pointer 81) (.pointer none)) (.cons (.bv 23) .nil)))] none)))) (.isb none (.bv 22) (.done [(0, (.cst (.bool false)))] none)))))))) (.isb none (.bv 20) (.isb none (.cst (.bool false)) (.done [(0, (.cst (.bool false)))] none)))))))) (.isb none (.bv 18) (.isb none (.cst (.bool false)) (.isb none (.cst (.bool false)) (.done [(0, (.cst (.bool false)))] none))))))))) (.isb none (.bv 16) (.isb none (.cst (.bool false)) (.isb none (.cst (.bool false)) (.isb none (.cst (.bool false)) (.done [(0, (.cst (.bool false)))] none)))))))))) (.isb none (.bv 14) (.isb none (.cst (.bool false)) (.isb none (.cst (.bool false)) (.isb none (.cst (.bool false)) (.isb none (.cst (.bool false)) (.done [(0, (.cst (.bool false)))] none))))))))))) (.isb none (.bv 12) (.isb none (.cst (.bool false)) (.isb none (.cst (.bool false)) (.isb none (.cst (.bool false)) (.isb none (.cst (.bool false)) (.isb none (.cst (.bool false)) (.done [(0, (.cst (.bool false)))] none))))))))))))) (.isb none (.bv 10) (.isb none (.cst (.bool false)) (.isb none (.cst (.bool false)) (.isb none (.cst (.bool false)) (.isb none (.cst (.bool false)) (.isb none (.cst (.bool false)) (.isb none (.cst (.bool false)) (.done [(0, (.cst (.bool false)))] none))))))))))))))))))))))) (.isb none (.bv 5) (.isb none (.cst (.bool false)) (.isb none (.cst (.bool false)) (.isb none (.cst (.bool false)) (.isb none (.cst (.bool false)) (.isb none (.cst (.bool false)) (.isb none (.cst (.bool false)) (.isb none (.cst (.bool false)) (.isb none (.cst (.bool false)) (.isb none (.cst (.bool false)) (.isb none (.cst (.bool false)) (.done [(0, (.cst (.bool false)))] none)))))))))))))) (.isb none (.ite (.bv 4) true (.op (.bin .eql) (.cons (.op (.cal 10) (.cons (.inp 7) .nil)) (.cons (.cst (.int .i64 1)) .nil))) (.cst (.bool false))) (.bnd (.ite (.ite (.bv 4) true (.op (.bin .eql) (.cons (.op (.cal 10) (.cons (.inp 7) .nil)) (.cons (.cst (.int .i64 1)) .nil))) (.cst (.bool false))) true (.cst (.tuple #[])) (.cst (.bool false))) (.chk (some ((.bv 5), true)) (.cal 10) (.cons (.inp 9) .nil) (.chk (some ((.bv 5), true)) (.bin .eql) (.cons (.op (.cal 10) (.cons (.inp 9) .nil)) (.cons (.cst (.int .i64 1)) .nil)) (.isb none (.bv 5) (.bnd (.ite (.bv 5) true (.op (.bin .eql) (.cons (.op (.cal 10) (.cons (.inp 9) .nil)) (.cons (.cst (.int .i64 1)) .nil))) (.cst (.bool false))) (.chk (some ((.bv 6), true)) (.bin .eql) (.cons (.inp 10) (.cons (.cst (.int .i64 0)) .nil)) (.isb none (.bv 6) (.bnd (.ite (.bv 6) true (.op (.bin .eql) (.cons (.inp 10) (.cons (.cst (.int .i64 0)) .nil))) (.cst (.bool false))) (.chk (some ((.bv 7), true)) (.un .not) (.cons (.inp 11) .nil) (.isb none (.bv 7) (.bnd (.ite (.bv 7) true (.op (.un .not) (.cons (.inp 11) .nil)) (.cst (.bool false))) (.ite (.bv 8) true (.eff (.call 16) (.cons (.ite (.bv 8) true (.inp 1) (.cst (.tuple #[]))) (.cons (.cst (.string ⟨#[98, 97, 110, 107]⟩)) .nil)) (.chk none .lenL (.cons (.bv 9) .nil) (.chk none (.bin .eql) (.cons (.op .lenL (.cons (.bv 9) .nil)) (.cons (.cst (.int .i64 0)) .nil)) (.isb none (.bv 8) (.bnd (.op (.bin .eql) (.cons (.op .lenL (.cons (.bv 9) .nil)) (.cons (.cst (.int .i64 0)) .nil))) (.ite (.bv 10) true (.eff (.call 30) (.cons (.ite (.bv 10) true (.inp 1) (.cst (.tuple #[]))) .nil) (.chk none (.bin .eql) (.cons (.bv 11) (.cons (.cst (.int .u64 0)) .nil)) (.isb none (.bv 10) (.bnd (.op (.bin .eql) (.cons (.bv 11) (.cons (.cst (.int .u64 0)) .nil))) (.ite (.bv 12) true (.eff (.call 37) (.cons (.ite (.bv 12) true (.inp 1) (.cst (.tuple #[]))) .nil) (.chk none (.bin .eql) (.cons (.bv 13) (.cons (.cst (.int .u64 0)) .nil)) (.isb none (.bv 12) (.bnd (.op (.bin .eql) (.cons (.bv 13) (.cons (.cst (.int .u64 0)) .nil))) (.ite (.bv 14) true (.eff (.call 28) (.cons (.ite (.bv 14) true (.inp 1) (.cst (.tuple #[]))) .nil) (.chk none (.bin .eql) (.cons (.bv 15) (.cons (.cst (.int .i64 0)) .nil)) (.isb none (.bv 14) (.bnd (.op (.bin .eql) (.cons (.bv 15) (.cons (.cst (.int .i64 0)) .nil))) (.ite (.bv 16) true (.eff (.call 18) (.cons (.ite (.bv 16) true (.inp 1) (.cst (.tuple #[]))) .nil) (.chk none (.bin .eql) (.cons (.bv 17) (.cons (.cst (.int .i64 0)) .nil)) (.isb none (.bv 16) (.bnd (.op (.bin .eql) (.cons (.bv 17) (.cons (.cst (.int .i64 0)) .nil))) (.ite (.bv 18) true (.eff (.call 29) (.cons (.ite (.bv 18) true (.inp 1) (.cst (.tuple #[]))) .nil) (.chk none .lenL (.cons (.bv 19) .nil) (.chk none (.bin .eql) (.cons (.op .lenL (.cons (.bv 19) .nil)) (.cons (.cst (.int .i64 0)) .nil)) (.isb none (.bv 18) (.bnd (.op (.bin .eql) (.cons (.op .lenL (.cons (.bv 19) .nil)) (.cons (.cst (.int .i64 0)) .nil))) (.ite (.bv 20) true (.eff (.call 26) (.cons (.ite (.bv 20) true (.inp 1) (.cst (.tuple #[]))) .nil) (.chk none (.eqNil false (.pointer 81) (.pointer none)) (.cons (.bv 21) .nil) (.isb none (.bv 20) (.done [(0, (.op (.eqNil false (.pointer 81) (.pointer none)) (.cons (.bv 21) .nil)))] none)))) (.isb none (.bv 20) (.done [(0, (.cst (.bool false)))] none)))))))) (.isb none (.bv 18) (.isb none (.cst (.bool false)) (.done [(0, (.cst (.bool false)))] none)))))))) (.isb none (.bv 16) (.isb none (.cst (.bool false)) (.isb none (.cst (.bool false)) (.done [(0, (.cst (.bool false)))] none))))))))) (.isb none (.bv 14) (.isb none (.cst (.bool false)) (.isb none (.cst (.bool false)) (.isb none (.cst (.bool false)) (.done [(0, (.cst (.bool false)))] none)))))))))) (.isb none (.bv 12) (.isb none (.cst (.bool false)) (.isb none (.cst (.bool false)) (.isb none (.cst (.bool false)) (.isb none (.cst (.bool false)) (.done [(0, (.cst (.bool false)))] none))))))))))) (.isb none (.bv 10) (.isb none (.cst (.bool false)) (.isb none (.cst (.bool false)) (.isb none (.cst (.bool false)) (.isb none (.cst (.bool false)) (.isb none (.cst (.bool false)) (.done [(0, (.cst (.bool false)))] none))))))))))))) (.isb none (.bv 8) (.isb none (.cst (.bool false)) (.isb none (.cst (.bool false)) (.isb none (.cst (.bool false)) (.isb none (.cst (.bool false)) (.isb none (.cst (.bool false)) (.isb none (.cst (.bool false)) (.done [(0, (.cst (.bool false)))] none)))))))))))))))))))))))))))))))))))))))))))) .ret) Q env w := rfl
def h39_1 : HC := (.seq (.reg (.eff (.call 14) (.cons (.inp 1) (.cons (.cst (.string ⟨#[98, 97, 110, 107]⟩)) .nil)) (.chk none (.ext 0) (.cons (.bv 0) .nil) (.chk none (.ext 1) (.cons (.bv 0) .nil) (.done [(10, (.op (.ext 0) (.cons (.bv 0) .nil))), (11, (.op (.ext 1) (.cons (.bv 0) .nil)))] none))))) h39_0)
@[simp] theorem h39_1_wp {P : Program} {F : PF P} {Q : EX → List Value → World → Prop} {env : List Value} {w : World} : h39_1.wp F Q env w = HC.wp F (.seq (.reg (.eff (.call 14) (.cons (.inp 1) (.cons (.cst (.string ⟨#[98, 97, 110, 107]⟩)) .nil)) (.chk none (.ext 0) (.cons (.bv 0) .nil) (.chk none (.ext 1) (.cons (.bv 0) .nil) (.done [(10, (.op (.ext 0) (.cons (.bv 0) .nil))), (11, (.op (.ext 1) (.cons (.bv 0) .nil)))] none))))) h39_0) Q env w := rfl
def h39_2 : HC := (.seq (.reg (.eff (.call 36) (.cons (.inp 1) (.cons (.cst (.int .i64 0)) .nil)) (.chk none (.ext 0) (.cons (.bv 0) .nil) (.chk none (.ext 1) (.cons (.bv 0) .nil) (.eff (.new 66 (.agg #[(.string ⟨#[]⟩), (.int .u64 0)])) .nil (.eff (.st 2) (.cons (.bv 1) (.cons (.op (.ext 0) (.cons (.bv 0) .nil)) .nil)) (.done [(8, (.bv 1)), (9, (.op (.ext 1) (.cons (.bv 0) .nil)))] none))))))) h39_1)
@[simp] theorem h39_2_wp {P : Program} {F : PF P} {Q : EX → List Value → World → Prop} {env : List Value} {w : World} : h39_2.wp F Q env w = HC.wp F (.seq (.reg (.eff (.call 36) (.cons (.inp 1) (.cons (.cst (.int .i64 0)) .nil)) (.chk none (.ext 0) (.cons (.bv 0) .nil) (.chk none (.ext 1) (.cons (.bv 0) .nil) (.eff (.new 66 (.agg #[(.string ⟨#[]⟩), (.int .u64 0)])) .nil (.eff (.st 2) (.cons (.bv 1) (.cons (.op (.ext 0) (.cons (.bv 0) .nil)) .nil)) (.done [(8, (.bv 1)), (9, (.op (.ext 1) (.cons (.bv 0) .nil)))] none))))))) h39_1) Q env w := rfl
def h39_3 : HC := (.seq (.reg (.eff (.call 35) (.cons (.inp 1) (.cons (.cst (.int .i64 0)) (.cons (.cst (.int .u64 1)) .nil))) (.done [(7, (.bv 0))] none))) h39_2)
@[simp] theorem h39_3_wp {P : Program} {F : PF P} {Q : EX → List Value → World → Prop} {env : List Value} {w : World} : h39_3.wp F Q env w = HC.wp F (.seq (.reg (.eff (.call 35) (.cons (.inp 1) (.cons (.cst (.int .i64 0)) (.cons (.cst (.int .u64 1)) .nil))) (.done [(7, (.bv 0))] none))) h39_2) Q env w := rfl
def h39_4 : HC := (.seq (.reg (.eff (.call 34) (.cons (.inp 1) (.cons (.cst (.int .i64 0)) (.cons (.cst (.int .u64 1)) .nil))) (.done [(6, (.bv 0))] none))) h39_3)
@[simp] theorem h39_4_wp {P : Program} {F : PF P} {Q : EX → List Value → World → Prop} {env : List Value} {w : World} : h39_4.wp F Q env w = HC.wp F (.seq (.reg (.eff (.call 34) (.cons (.inp 1) (.cons (.cst (.int .i64 0)) (.cons (.cst (.int .u64 1)) .nil))) (.done [(6, (.bv 0))] none))) h39_3) Q env w := rfl
def h39_5 : HC := (.seq (.reg (.eff (.call 64) (.cons (.inp 1) (.cons (.cst (.int .i64 0)) (.cons (.cst (.int .i64 1)) (.cons (.cst (.int .u64 1)) .nil)))) (.done [(5, (.bv 0))] none))) h39_4)
@[simp] theorem h39_5_wp {P : Program} {F : PF P} {Q : EX → List Value → World → Prop} {env : List Value} {w : World} : h39_5.wp F Q env w = HC.wp F (.seq (.reg (.eff (.call 64) (.cons (.inp 1) (.cons (.cst (.int .i64 0)) (.cons (.cst (.int .i64 1)) (.cons (.cst (.int .u64 1)) .nil)))) (.done [(5, (.bv 0))] none))) h39_4) Q env w := rfl
def h39_6 : HC := (.seq (.reg (.eff (.call 62) (.cons (.inp 1) (.cons (.cst (.int .i64 0)) (.cons (.cst (.int .u64 1)) .nil))) (.done [(4, (.bv 0))] none))) h39_5)
@[simp] theorem h39_6_wp {P : Program} {F : PF P} {Q : EX → List Value → World → Prop} {env : List Value} {w : World} : h39_6.wp F Q env w = HC.wp F (.seq (.reg (.eff (.call 62) (.cons (.inp 1) (.cons (.cst (.int .i64 0)) (.cons (.cst (.int .u64 1)) .nil))) (.done [(4, (.bv 0))] none))) h39_5) Q env w := rfl
def h39_7 : HC := (.seq (.reg (.eff (.call 13) (.cons (.inp 1) (.cons (.cst (.string ⟨#[97]⟩)) .nil)) (.chk none (.ext 0) (.cons (.bv 0) .nil) (.chk none (.ext 1) (.cons (.bv 0) .nil) (.done [(2, (.op (.ext 0) (.cons (.bv 0) .nil))), (3, (.op (.ext 1) (.cons (.bv 0) .nil)))] none))))) h39_6)
@[simp] theorem h39_7_wp {P : Program} {F : PF P} {Q : EX → List Value → World → Prop} {env : List Value} {w : World} : h39_7.wp F Q env w = HC.wp F (.seq (.reg (.eff (.call 13) (.cons (.inp 1) (.cons (.cst (.string ⟨#[97]⟩)) .nil)) (.chk none (.ext 0) (.cons (.bv 0) .nil) (.chk none (.ext 1) (.cons (.bv 0) .nil) (.done [(2, (.op (.ext 0) (.cons (.bv 0) .nil))), (3, (.op (.ext 1) (.cons (.bv 0) .nil)))] none))))) h39_6) Q env w := rfl
def h39_8 : HC := (.seq (.reg (.done [(1, (.cst (.pointer none)))] none)) h39_7)
@[simp] theorem h39_8_wp {P : Program} {F : PF P} {Q : EX → List Value → World → Prop} {env : List Value} {w : World} : h39_8.wp F Q env w = HC.wp F (.seq (.reg (.done [(1, (.cst (.pointer none)))] none)) h39_7) Q env w := rfl
def l39 : Lifted := ⟨[0, 1, 2, 3, 4, 5, 6, 7, 8, 9, 10, 11], 117, [.slot 0], (.seq (.reg (.done [(0, (.cst (.bool false)))] none)) h39_8)⟩
theorem l39_ok : liftFn U1 39 400 = some l39 := by kernel_rfl


theorem nothing_spec (w0 w : World) (A : Asn) (s : St w0 A w) : CallW Try.prog 39 [] (fun r w' => r = .bool true ∧ St w0 A w') w := by
  refine callW_of_lift l39_ok (by simp [l39]) ?_
  simp [l39]
  refine eff_call ((Open_nil _ w0 w A s).mono ?_)
  rintro r w1 ⟨rfl, s1⟩
  simp
  refine eff_call ((Mint_nil _ _ w0 w1 A s1).mono ?_)
  rintro r w2 ⟨rfl, s2⟩
  simp
  refine eff_call ((Pay_nil _ _ _ w0 w2 A s2).mono ?_)
  rintro r w3 ⟨rfl, s3⟩
  simp
  refine eff_call ((Take_nil _ _ w0 w3 A s3).mono ?_)
  rintro r w4 ⟨rfl, s4⟩
  simp
  refine eff_call ((Put_nil _ _ w0 w4 A s4).mono ?_)
  rintro r w5 ⟨rfl, s5⟩
  simp
  refine eff_call ((Get_nil _ w0 w5 A s5).mono ?_)
  rintro r w6 ⟨rfl, s6⟩
  simp
  refine eff_new s6 ?_
  intro b w7 s7
  simp
  refine eff_stA (vs := Ac.cs ⟨[], 0⟩) s7 rfl rfl (cs_one _) (by simp) ?_
  intro w8 s8
  have s8 : St w0 (A * pt b (.cells (Ac.cs ⟨[], 0⟩).toArray 66 (0, 0))) w8 := by simpa using s8
  simp
  refine eff_call ((Find_nil _ w0 w8 _ s8).mono ?_)
  rintro r w9 ⟨rfl, s9⟩
  simp
  refine eff_ldcs (vs := Ac.cs ⟨[], 0⟩) (fun j u hu => s9.row_cells j u hu) rfl ?_
  simp [Instr.fill, Value.cells]
  refine eff_eqlP accT (⟨[], 0⟩ : Ac).pv (⟨[], 0⟩ : Ac).pv rfl rfl ?_
  simp
  refine eff_call ((Near_nil _ w0 w9 _ s9).mono ?_)
  rintro r w10 ⟨rfl, s10⟩
  simp
  refine eff_call ((Supply_nil w0 w10 _ s10).mono ?_)
  rintro r w11 ⟨rfl, s11⟩
  simp
  refine eff_call ((Held_nil w0 w11 _ s11).mono ?_)
  rintro r w12 ⟨rfl, s12⟩
  simp
  refine eff_call ((Limit_nil w0 w12 _ s12).mono ?_)
  rintro r w13 ⟨rfl, s13⟩
  simp
  refine eff_call ((Len_nil w0 w13 _ s13).mono ?_)
  rintro r w14 ⟨rfl, s14⟩
  simp
  refine eff_call ((Rows_nil w0 w14 _ s14).mono ?_)
  rintro r w15 ⟨rfl, s15⟩
  simp
  refine eff_call ((Copy_nil w0 w15 _ s15).mono ?_)
  rintro r w16 ⟨rfl, s16⟩
  simp
  exact s16.drop
end Go.HL.Pu
