/-
  The given statement QuorumSlowSaid: for every input the law returns true and each argument reads afterwards as it read before; lifted from its walk. No condition.
-/
import Derived.Test.YtmpefdepcbfcdaaQuSlowRW
import Derived.SizedLaws
import Derived.Test.YtmpefdepcbfcdaaLeaves
namespace Go.Proofs.Ytmpefdepcbfcdaa.quorumSlow
open Go.ChangeShapes Go.WideShapes Go.ChangeAt Go.RowKit
open Go.ChangeMaps (open_string shut_string)
set_option linter.unusedVariables false

theorem own : ownKnob Try.prog.godebug = none := by kernel_rfl
theorem laidOut : laidOutB Try.prog = true := by kernel_rfl

set_option maxRecDepth 100000 in
theorem lifted (os : Os) (started : os.Started) (H : Type) (enc : TypeId × Value → H) :
    ReturnsInHanded {} Try.checked os 7 .any (Rows.quorumSlowSpec.pre6 enc Try.prog Try.f7 Rows.quorumSlowRow.domain false) (Rows.quorumSlowSpec.post enc Try.prog Try.f7 false true false false) := by
  refine returnsInHanded_of_change_sized (C := Try.checked) own started (by kernel_rfl) Try.func7
    (ChangeSpec.witness6 (enc := enc) (C := Try.checked) false ⟨#[], #[.int .i64 0, .agg #[.bool false, .bool false, .bool false, .bool false, .bool false, .bool false, .bool false], .agg #[.int .i64 0, .int .i64 0, .int .i64 0, .string ByteArray.empty, .string ByteArray.empty, .string ByteArray.empty, .string ByteArray.empty], .agg #[.int .i64 0, .int .i64 0, .int .i64 0, .int .i64 0, .int .i64 0, .int .i64 0, .int .i64 0, .int .i64 0], .agg #[.int .i64 0, .int .i64 0], .agg #[.int .i64 0, .int .i64 0, .int .i64 0, .int .i64 0, .int .i64 0, .int .i64 0, .int .i64 0, .int .i64 0, .string ByteArray.empty, .string ByteArray.empty, .string ByteArray.empty, .string ByteArray.empty, .int .i64 0, .int .i64 0, .int .i64 0, .int .i64 0, .int .i64 0, .int .i64 0, .int .i64 0, .int .i64 0, .bool false, .int .i64 0, .int .i64 0, .int .i64 0, .int .i64 0, .int .i64 0, .int .i64 0, .int .i64 0, .int .i64 0, .string ByteArray.empty, .string ByteArray.empty, .string ByteArray.empty, .string ByteArray.empty, .int .i64 0, .int .i64 0, .int .i64 0, .int .i64 0, .int .i64 0, .int .i64 0, .int .i64 0, .int .i64 0, .bool false, .int .i64 0, .int .i64 0, .int .i64 0, .int .i64 0, .int .i64 0, .int .i64 0, .int .i64 0, .int .i64 0, .string ByteArray.empty, .string ByteArray.empty, .string ByteArray.empty, .string ByteArray.empty, .int .i64 0, .int .i64 0, .int .i64 0, .int .i64 0, .int .i64 0, .int .i64 0, .int .i64 0, .int .i64 0, .bool false, .int .i64 0, .int .i64 0, .int .i64 0, .int .i64 0, .int .i64 0, .int .i64 0, .int .i64 0, .int .i64 0, .string ByteArray.empty, .string ByteArray.empty, .string ByteArray.empty, .string ByteArray.empty, .int .i64 0, .int .i64 0, .int .i64 0, .int .i64 0, .int .i64 0, .int .i64 0, .int .i64 0, .int .i64 0, .bool false, .int .i64 0, .int .i64 0, .int .i64 0, .int .i64 0, .int .i64 0, .int .i64 0, .int .i64 0, .int .i64 0, .string ByteArray.empty, .string ByteArray.empty, .string ByteArray.empty, .string ByteArray.empty, .int .i64 0, .int .i64 0, .int .i64 0, .int .i64 0, .int .i64 0, .int .i64 0, .int .i64 0, .int .i64 0, .bool false, .int .i64 0, .int .i64 0, .int .i64 0, .int .i64 0, .int .i64 0, .int .i64 0, .int .i64 0, .int .i64 0, .string ByteArray.empty, .string ByteArray.empty, .string ByteArray.empty, .string ByteArray.empty, .int .i64 0, .int .i64 0, .int .i64 0, .int .i64 0, .int .i64 0, .int .i64 0, .int .i64 0, .int .i64 0, .bool false, .int .i64 0, .int .i64 0, .int .i64 0, .int .i64 0, .int .i64 0, .int .i64 0, .int .i64 0, .int .i64 0, .string ByteArray.empty, .string ByteArray.empty, .string ByteArray.empty, .string ByteArray.empty, .int .i64 0, .int .i64 0, .int .i64 0, .int .i64 0, .int .i64 0, .int .i64 0, .int .i64 0, .int .i64 0, .bool false], .int .i64 0], []⟩ 8 (by kernel_rfl) (by kernel_rfl) (by kernel_rfl) (by kernel_rfl)) ?_
  intro W base args ds gs before hval0 hW hcnd hsz0 _
  have hval : ∀ (j : Nat) t v, Try.f7.params[j]? = some t → args[j]? = some v → Value.okWide Try.prog W .any base t v := hval0
  have hW' := hW
  obtain ⟨p, q, hA0, hV, rfl, hfz, hnd⟩ := hW
  have hA : DataW.TrodAll enc Try.prog W 0 (fun _ => true) true Try.f7.params.toList args.toList ds p := hA0
  have hsz : (DataW.weightsEach Try.prog (Try.f7.params.toList ++ Rows.quorumSlowSpec.plain.varTypes Try.prog) (ds ++ gs)).all (· ≤ reachBytes) = true := hsz0
  rw [Try.params7] at hA hval hsz
  obtain ⟨v0, vs0, d0, ds0, p0, q0, hargs, rfl, rfl, h0, r0⟩ := trodAll_cons hA
  obtain ⟨v1, vs1, d1, ds1, p1, q1, rfl, rfl, rfl, h1, r1⟩ := trodAll_cons r0
  obtain ⟨v2, vs2, d2, ds2, p2, q2, rfl, rfl, rfl, h2, r2⟩ := trodAll_cons r1
  obtain ⟨v3, vs3, d3, ds3, p3, q3, rfl, rfl, rfl, h3, r3⟩ := trodAll_cons r2
  obtain ⟨v4, vs4, d4, ds4, p4, q4, rfl, rfl, rfl, h4, r4⟩ := trodAll_cons r3
  obtain ⟨v5, vs5, d5, ds5, p5, q5, rfl, rfl, rfl, h5, r5⟩ := trodAll_cons r4
  obtain ⟨v6, vs6, d6, ds6, p6, q6, rfl, rfl, rfl, h6, r6⟩ := trodAll_cons r5
  obtain ⟨rfl, rfl, rfl⟩ := trodAll_nil r6
  obtain rfl : args = #[v0, v1, v2, v3, v4, v5, v6] := by cases args; simp_all
  obtain ⟨rfl, rfl⟩ := trodVars_none hV
  have k0 := h0
  have lt0 : ∀ x ∈ p0, x.block < W.heap.size := by obtain ⟨m, hm⟩ := k0; exact DataW.trod_lt m _ _ _ hm
  obtain ⟨a0, rfl, ed0, ep0, w0⟩ := open_int Try.underlying3 (hval 0 3 v0 rfl rfl) h0
  have k1 := h1
  have lt1 : ∀ x ∈ p1, x.block < W.heap.size := by obtain ⟨m, hm⟩ := k1; exact DataW.trod_lt m _ _ _ hm
  have f1 : AllOk [.bool, .bool, .bool, .bool, .bool, .bool, .bool] v1.cells.toList := by obtain ⟨m, hm⟩ := k1; exact leaves_ok 9 m _ _ _ _ hm (by kernel_rfl)
  obtain ⟨y1, rfl⟩ := okWide_cells (Or.inr ⟨_, _, Try.underlying58⟩) (hval 1 58 v1 rfl rfl)
  simp only [Value.cells] at f1
  obtain ⟨_, y1_0, rfl, ⟨a1_0, rfl⟩, f1_0⟩ := f1.cons
  obtain ⟨_, y1_1, rfl, ⟨a1_1, rfl⟩, f1_1⟩ := f1_0.cons
  obtain ⟨_, y1_2, rfl, ⟨a1_2, rfl⟩, f1_2⟩ := f1_1.cons
  obtain ⟨_, y1_3, rfl, ⟨a1_3, rfl⟩, f1_3⟩ := f1_2.cons
  obtain ⟨_, y1_4, rfl, ⟨a1_4, rfl⟩, f1_4⟩ := f1_3.cons
  obtain ⟨_, y1_5, rfl, ⟨a1_5, rfl⟩, f1_5⟩ := f1_4.cons
  obtain ⟨_, y1_6, rfl, ⟨a1_6, rfl⟩, f1_6⟩ := f1_5.cons
  obtain rfl := f1_6.nil
  have k2 := h2
  have lt2 : ∀ x ∈ p2, x.block < W.heap.size := by obtain ⟨m, hm⟩ := k2; exact DataW.trod_lt m _ _ _ hm
  have f2 : AllOk [.int .i64, .int .i64, .int .i64, .string, .string, .string, .string] v2.cells.toList := by obtain ⟨m, hm⟩ := k2; exact leaves_ok 9 m _ _ _ _ hm (by kernel_rfl)
  obtain ⟨y2, rfl⟩ := okWide_cells (Or.inl ⟨_, Try.underlying32⟩) (hval 2 32 v2 rfl rfl)
  simp only [Value.cells] at f2
  obtain ⟨_, y2_0, rfl, ⟨a2_0, rfl, w2_0⟩, f2_0⟩ := f2.cons
  obtain ⟨_, y2_1, rfl, ⟨a2_1, rfl, w2_1⟩, f2_1⟩ := f2_0.cons
  obtain ⟨_, y2_2, rfl, ⟨a2_2, rfl, w2_2⟩, f2_2⟩ := f2_1.cons
  obtain ⟨_, y2_3, rfl, ⟨a2_3, rfl, w2_3⟩, f2_3⟩ := f2_2.cons
  obtain ⟨_, y2_4, rfl, ⟨a2_4, rfl, w2_4⟩, f2_4⟩ := f2_3.cons
  obtain ⟨_, y2_5, rfl, ⟨a2_5, rfl, w2_5⟩, f2_5⟩ := f2_4.cons
  obtain ⟨_, y2_6, rfl, ⟨a2_6, rfl, w2_6⟩, f2_6⟩ := f2_5.cons
  obtain rfl := f2_6.nil
  have k3 := h3
  have lt3 : ∀ x ∈ p3, x.block < W.heap.size := by obtain ⟨m, hm⟩ := k3; exact DataW.trod_lt m _ _ _ hm
  have f3 : AllOk [.int .i64, .int .i64, .int .i64, .int .i64, .int .i64, .int .i64, .int .i64, .int .i64] v3.cells.toList := by obtain ⟨m, hm⟩ := k3; exact leaves_ok 9 m _ _ _ _ hm (by kernel_rfl)
  obtain ⟨y3, rfl⟩ := okWide_cells (Or.inl ⟨_, Try.underlying26⟩) (hval 3 26 v3 rfl rfl)
  simp only [Value.cells] at f3
  obtain ⟨_, y3_0, rfl, ⟨a3_0, rfl, w3_0⟩, f3_0⟩ := f3.cons
  obtain ⟨_, y3_1, rfl, ⟨a3_1, rfl, w3_1⟩, f3_1⟩ := f3_0.cons
  obtain ⟨_, y3_2, rfl, ⟨a3_2, rfl, w3_2⟩, f3_2⟩ := f3_1.cons
  obtain ⟨_, y3_3, rfl, ⟨a3_3, rfl, w3_3⟩, f3_3⟩ := f3_2.cons
  obtain ⟨_, y3_4, rfl, ⟨a3_4, rfl, w3_4⟩, f3_4⟩ := f3_3.cons
  obtain ⟨_, y3_5, rfl, ⟨a3_5, rfl, w3_5⟩, f3_5⟩ := f3_4.cons
  obtain ⟨_, y3_6, rfl, ⟨a3_6, rfl, w3_6⟩, f3_6⟩ := f3_5.cons
  obtain ⟨_, y3_7, rfl, ⟨a3_7, rfl, w3_7⟩, f3_7⟩ := f3_6.cons
  obtain rfl := f3_7.nil
  have k4 := h4
  have lt4 : ∀ x ∈ p4, x.block < W.heap.size := by obtain ⟨m, hm⟩ := k4; exact DataW.trod_lt m _ _ _ hm
  have f4 : AllOk [.int .i64, .int .i64] v4.cells.toList := by obtain ⟨m, hm⟩ := k4; exact leaves_ok 9 m _ _ _ _ hm (by kernel_rfl)
  obtain ⟨y4, rfl⟩ := okWide_cells (Or.inl ⟨_, Try.underlying30⟩) (hval 4 30 v4 rfl rfl)
  simp only [Value.cells] at f4
  obtain ⟨_, y4_0, rfl, ⟨a4_0, rfl, w4_0⟩, f4_0⟩ := f4.cons
  obtain ⟨_, y4_1, rfl, ⟨a4_1, rfl, w4_1⟩, f4_1⟩ := f4_0.cons
  obtain rfl := f4_1.nil
  have k5 := h5
  have lt5 : ∀ x ∈ p5, x.block < W.heap.size := by obtain ⟨m, hm⟩ := k5; exact DataW.trod_lt m _ _ _ hm
  have f5 : AllOk [.int .i64, .int .i64, .int .i64, .int .i64, .int .i64, .int .i64, .int .i64, .int .i64, .string, .string, .string, .string, .int .i64, .int .i64, .int .i64, .int .i64, .int .i64, .int .i64, .int .i64, .int .i64, .bool, .int .i64, .int .i64, .int .i64, .int .i64, .int .i64, .int .i64, .int .i64, .int .i64, .string, .string, .string, .string, .int .i64, .int .i64, .int .i64, .int .i64, .int .i64, .int .i64, .int .i64, .int .i64, .bool, .int .i64, .int .i64, .int .i64, .int .i64, .int .i64, .int .i64, .int .i64, .int .i64, .string, .string, .string, .string, .int .i64, .int .i64, .int .i64, .int .i64, .int .i64, .int .i64, .int .i64, .int .i64, .bool, .int .i64, .int .i64, .int .i64, .int .i64, .int .i64, .int .i64, .int .i64, .int .i64, .string, .string, .string, .string, .int .i64, .int .i64, .int .i64, .int .i64, .int .i64, .int .i64, .int .i64, .int .i64, .bool, .int .i64, .int .i64, .int .i64, .int .i64, .int .i64, .int .i64, .int .i64, .int .i64, .string, .string, .string, .string, .int .i64, .int .i64, .int .i64, .int .i64, .int .i64, .int .i64, .int .i64, .int .i64, .bool, .int .i64, .int .i64, .int .i64, .int .i64, .int .i64, .int .i64, .int .i64, .int .i64, .string, .string, .string, .string, .int .i64, .int .i64, .int .i64, .int .i64, .int .i64, .int .i64, .int .i64, .int .i64, .bool, .int .i64, .int .i64, .int .i64, .int .i64, .int .i64, .int .i64, .int .i64, .int .i64, .string, .string, .string, .string, .int .i64, .int .i64, .int .i64, .int .i64, .int .i64, .int .i64, .int .i64, .int .i64, .bool] v5.cells.toList := by obtain ⟨m, hm⟩ := k5; exact leaves_ok 9 m _ _ _ _ hm (by kernel_rfl)
  obtain ⟨y5, rfl⟩ := okWide_cells (Or.inr ⟨_, _, Try.underlying56⟩) (hval 5 56 v5 rfl rfl)
  simp only [Value.cells] at f5
  have k6 := h6
  have lt6 : ∀ x ∈ p6, x.block < W.heap.size := by obtain ⟨m, hm⟩ := k6; exact DataW.trod_lt m _ _ _ hm
  obtain ⟨a6, rfl, ed6, ep6, w6⟩ := open_int Try.underlying3 (hval 6 3 v6 rfl rfl) h6
  clear hA0 hval0
  refine (quorumSlow_flat a0 a1_0 a1_1 a1_2 a1_3 a1_4 a1_5 a1_6 a2_0 a2_1 a2_2 a2_3 a2_4 a2_5 a2_6 a3_0 a3_1 a3_2 a3_3 a3_4 a3_5 a3_6 a3_7 a4_0 a4_1 y5 a6 W w0 w2_0 w2_1 w2_2 w2_3 w2_4 w2_5 w2_6 w3_0 w3_1 w3_2 w3_3 w3_4 w3_5 w3_6 w3_7 w4_0 w4_1 f5 w6).mono fun e W' ⟨he, bel⟩ => ?_
  subst he
  exact ⟨_, rfl, _, _, _, [], _, [], hW', trodAll_mk1 (shut_bool Try.underlying4 _), (trodAll_cons_mk (Below.trod laidOut (by kernel_rfl) (of_decide_eq_true (by kernel_rfl)) k0 bel lt0) (trodAll_cons_mk (Below.trod laidOut (by kernel_rfl) (of_decide_eq_true (by kernel_rfl)) k1 bel lt1) (trodAll_cons_mk (Below.trod laidOut (by kernel_rfl) (of_decide_eq_true (by kernel_rfl)) k2 bel lt2) (trodAll_cons_mk (Below.trod laidOut (by kernel_rfl) (of_decide_eq_true (by kernel_rfl)) k3 bel lt3) (trodAll_cons_mk (Below.trod laidOut (by kernel_rfl) (of_decide_eq_true (by kernel_rfl)) k4 bel lt4) (trodAll_cons_mk (Below.trod laidOut (by kernel_rfl) (of_decide_eq_true (by kernel_rfl)) k5 bel lt5) (trodAll_cons_mk (Below.trod laidOut (by kernel_rfl) (of_decide_eq_true (by kernel_rfl)) k6 bel lt6) trodAll_mk0))))))), rfl, bel.frame _, fun h => by cases h⟩

theorem over : Rows.quorumSlowRow.holds Try.pinned (OpenSpec.ofChange Rows.quorumSlowSpec) :=
  OpenClaim.holds_of_wide 7 Try.f7 rfl rfl rfl rfl rfl rfl rfl ⟨rfl, rfl, rfl, rfl, rfl⟩ rfl rfl rfl rfl rfl (by kernel_rfl) Try.func7 (by kernel_rfl)
    (of_decide_eq_true (by kernel_rfl)) (by unfold Func.isWrapper; first | (rw [if_pos (by decide +kernel)]; kernel_rfl) | (rw [if_neg (by decide +kernel)]; exact ⟨rfl, rfl⟩))
    (fun os started H enc _ => lifted os started H enc)

/-- The statement. -/
theorem proved : Rows.QuorumSlowSaid := over
#print axioms proved
end Go.Proofs.Ytmpefdepcbfcdaa.quorumSlow
