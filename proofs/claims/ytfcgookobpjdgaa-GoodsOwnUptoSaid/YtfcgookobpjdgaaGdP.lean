/-
  Goods: what nil ones answer. No condition.
-/
import Derived.Test.YtfcgookobpjdgaaGdJ
namespace Go.HL.Gd
open Go.HL Go.Proofs
set_option maxRecDepth 4000
set_option linter.unusedSimpArgs false
set_option linter.unusedVariables false
theorem Limit_nil (w0 w : World) (A : Asn) (s : St w0 A w) : CallW Try.prog 18 [.pointer none] (fun r w' => r = .int .i64 0 ∧ St w0 A w') w := by
  refine callW_of_lift l18_ok (by simp [l18]) ?_
  simp [l18]
  exact s
theorem Len_nil (w0 w : World) (A : Asn) (s : St w0 A w) : CallW Try.prog 30 [.pointer none] (fun r w' => r = .int .i64 0 ∧ St w0 A w') w := by
  refine callW_of_lift l30_ok (by simp [l30]) ?_
  simp [l30]
  exact s
theorem Rows_nil (w0 w : World) (A : Asn) (s : St w0 A w) : CallW Try.prog 11 [.pointer none] (fun r w' => St w0 (A * own 44 4 r 0 []) w') w := by
  refine callW_of_lift l11_ok (by simp [l11]) ?_
  simp [l11]
  exact s.own_nil _ _
theorem Copy_nil (w0 w : World) (A : Asn) (s : St w0 A w) : CallW Try.prog 16 [.pointer none] (fun r w' => r = .pointer none ∧ St w0 A w') w := by
  refine callW_of_lift l16_ok (by simp [l16]) ?_
  simp [l16]
  exact s
theorem Make_nil (k a : Int) (w0 w : World) (A : Asn) (s : St w0 A w) : CallW Try.prog 26 [.pointer none, .int .i64 k, .int .i64 a] (fun r w' => r = .tuple #[.int .i64 0, .int .i64 1] ∧ St w0 A w') w := by
  refine callW_of_lift l26_ok (by simp [l26]) ?_
  simp [l26]
  exact s
theorem Move_nil (k a : Int) (w0 w : World) (A : Asn) (s : St w0 A w) : CallW Try.prog 29 [.pointer none, .int .i64 k, .int .i64 a] (fun r w' => r = .int .i64 1 ∧ St w0 A w') w := by
  refine callW_of_lift l29_ok (by simp [l29]) ?_
  simp [l29]
  exact s
theorem Hold_nil (k a : Int) (w0 w : World) (A : Asn) (s : St w0 A w) : CallW Try.prog 27 [.pointer none, .int .i64 k, .int .i64 a] (fun r w' => r = .int .i64 1 ∧ St w0 A w') w := by
  refine callW_of_lift l27_ok (by simp [l27]) ?_
  simp [l27]
  exact s
theorem Free_nil (k a : Int) (w0 w : World) (A : Asn) (s : St w0 A w) : CallW Try.prog 28 [.pointer none, .int .i64 k, .int .i64 a] (fun r w' => r = .int .i64 1 ∧ St w0 A w') w := by
  refine callW_of_lift l28_ok (by simp [l28]) ?_
  simp [l28]
  exact s
theorem Get_nil (n : Int) (w0 w : World) (A : Asn) (s : St w0 A w) : CallW Try.prog 32 [.pointer none, .int .i64 n] (fun r w' => r = .tuple #[.agg (It.cs ⟨0, 0, 0, 0⟩).toArray, .int .i64 1] ∧ St w0 A w') w := by
  refine callW_of_lift l32_ok (by simp [l32]) ?_
  simp [l32]
  refine eff_new s ?_
  intro b w1 s1
  simp [Instr.fill, Value.cells]
  refine eff_stA (vs := It.cs ⟨0, 0, 0, 0⟩) s1 rfl rfl (cs_one _) (by simp) ?_
  intro w2 s3
  simp
  have s4 : St w0 (A * pt b (.cells (It.cs ⟨0, 0, 0, 0⟩).toArray 44 (0, 0))) w2 := by simpa using s3
  refine rv_cellA (vs := It.cs ⟨0, 0, 0, 0⟩) rfl s4.row_cells rfl ?_
  simp
  exact s4.drop
theorem where_nil (f : Value) (w0 w : World) (A : Asn) (s : St w0 A w) : CallW Try.prog 37 [.pointer none, f] (fun r w' => St w0 (A * own 3 1 r 0 []) w') w := by
  refine callW_of_lift l37_ok (by simp [l37]) ?_
  simp [l37]
  exact s.own_nil _ _
theorem Of_nil (a : Int) (w0 w : World) (A : Asn) (s : St w0 A w) : CallW Try.prog 19 [.pointer none, .int .i64 a] (fun r w' => St w0 (A * own 3 1 r 0 []) w') w := by
  refine callW_of_lift l19_ok (by simp [l19]) ?_
  simp [l19]
  refine eff_box s ?_
  intro q w1 s1
  simp
  refine eff_call ((where_nil _ w0 w1 _ s1.drop).mono ?_)
  intro r w2 s2
  simp
  exact s2
theorem In_nil (a : Int) (w0 w : World) (A : Asn) (s : St w0 A w) : CallW Try.prog 20 [.pointer none, .int .i64 a] (fun r w' => St w0 (A * own 3 1 r 0 []) w') w := by
  refine callW_of_lift l20_ok (by simp [l20]) ?_
  simp [l20]
  refine eff_box s ?_
  intro q w1 s1
  simp
  refine eff_call ((where_nil _ w0 w1 _ s1.drop).mono ?_)
  intro r w2 s2
  simp
  exact s2
theorem Kinds_nil (a : Int) (w0 w : World) (A : Asn) (s : St w0 A w) : CallW Try.prog 31 [.pointer none, .int .i64 a] (fun r w' => r = .agg (ints (tally [])).toArray ∧ St w0 A w') w := by
  refine callW_of_lift l31_ok (by simp [l31]) ?_
  simp [l31]
  refine eff_new s ?_
  intro b w1 s1
  simp
  refine eff_call ((Of_nil a w0 w1 _ s1).mono ?_)
  intro r w2 s2
  obtain ⟨ra, rcap, rfl, _⟩ := s2.own_val
  simp
  refine loopI (fun env w' => env = [.pointer none, .int .i64 a, .pointer (some ⟨b, 0, none⟩), undef, .slice ra 0 rcap, .int .i64 0, .int .i64 0] ∧ w' = w2)
    (fun env _ => 0) ⟨rfl, rfl⟩ ?_
  rintro LQ env w' ⟨rfl, rfl⟩ hN hE hR
  simp
  refine hE _ _ _ ?_
  simp
  have e : (ints (tally [])).toArray = #[.int .i64 0, .int .i64 0, .int .i64 0, .int .i64 0, .int .i64 0, .int .i64 0, .int .i64 0, .int .i64 0, .int .i64 0, .int .i64 0, .int .i64 0, .int .i64 0, .int .i64 0, .int .i64 0, .int .i64 0, .int .i64 0] := by rfl
  have s3 : St w0 (A * pt b (.cells (ints (tally [])).toArray 74 (0, 0))) w' := by rw [e]; simpa using s2.drop
  refine eff_ldcs (vs := ints (tally [])) (off := 0) s3.row_cells (by simp [ints, tally_len]) ?_
  simp
  refine eff_stA (vs := ints (tally [])) s3 (by simp) (by simp [ints, tally_len]) (ints_one _) (by simp [ints, tally_len]) ?_
  intro w4 s4
  simp
  have hz : (ints (tally [])).drop 16 = [] := List.drop_of_length_le (by simp [ints, tally_len])
  have s5 : St w0 (A * pt b (.cells (ints (tally [])).toArray 74 (0, 0))) w4 := by simpa [hz] using s4
  refine rv_cellA (vs := ints (tally [])) rfl s5.row_cells (by simp [ints, tally_len]) ?_
  simp
  exact s5.drop
end Go.HL.Gd
