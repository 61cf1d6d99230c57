/-
  The given statement QuorumFastSaid: for every input the law returns true and each argument reads afterwards as it read before; lifted from its walk. No condition.
-/
import Derived.Test.YtmpefdepcbfcdaaQuFastRW
import Derived.SizedLaws
import Derived.Test.YtmpefdepcbfcdaaLeaves
namespace Go.Proofs.Ytmpefdepcbfcdaa.quorumFast
open Go.ChangeShapes Go.WideShapes Go.ChangeAt Go.RowKit
open Go.ChangeMaps (open_string shut_string)
set_option linter.unusedVariables false

theorem own : ownKnob Try.prog.godebug = none := by kernel_rfl
theorem laidOut : laidOutB Try.prog = true := by kernel_rfl

set_option maxRecDepth 100000 in
theorem lifted (os : Os) (started : os.Started) (H : Type) (enc : TypeId × Value → H) :
    ReturnsInHanded {} Try.checked os 6 .any (Rows.quorumFastSpec.pre6 enc Try.prog Try.f6 Rows.quorumFastRow.domain false) (Rows.quorumFastSpec.post enc Try.prog Try.f6 false true false false) := by
  refine returnsInHanded_of_change_sized (C := Try.checked) own started (by kernel_rfl) Try.func6
    (ChangeSpec.witness6 (enc := enc) (C := Try.checked) false ⟨#[], #[.int .i64 0, .int .i64 0, .int .i64 0, .agg #[.int .i64 0, .int .i64 0, .int .i64 0, .int .i64 0, .int .i64 0, .int .i64 0, .int .i64 0, .int .i64 0], .bool false, .agg #[.int .i64 0, .int .i64 0, .int .i64 0, .string ByteArray.empty, .string ByteArray.empty, .string ByteArray.empty, .string ByteArray.empty], .agg #[.int .i64 0, .int .i64 0, .int .i64 0, .int .i64 0, .int .i64 0, .int .i64 0, .int .i64 0, .int .i64 0], .int .i64 0], []⟩ 8 (by kernel_rfl) (by kernel_rfl) (by kernel_rfl) (by kernel_rfl)) ?_
  intro W base args ds gs before hval0 hW hcnd hsz0 _
  have hval : ∀ (j : Nat) t v, Try.f6.params[j]? = some t → args[j]? = some v → Value.okWide Try.prog W .any base t v := hval0
  have hW' := hW
  obtain ⟨p, q, hA0, hV, rfl, hfz, hnd⟩ := hW
  have hA : DataW.TrodAll enc Try.prog W 0 (fun _ => true) true Try.f6.params.toList args.toList ds p := hA0
  have hsz : (DataW.weightsEach Try.prog (Try.f6.params.toList ++ Rows.quorumFastSpec.plain.varTypes Try.prog) (ds ++ gs)).all (· ≤ reachBytes) = true := hsz0
  rw [Try.params6] at hA hval hsz
  obtain ⟨v0, vs0, d0, ds0, p0, q0, hargs, rfl, rfl, h0, r0⟩ := trodAll_cons hA
  obtain ⟨v1, vs1, d1, ds1, p1, q1, rfl, rfl, rfl, h1, r1⟩ := trodAll_cons r0
  obtain ⟨v2, vs2, d2, ds2, p2, q2, rfl, rfl, rfl, h2, r2⟩ := trodAll_cons r1
  obtain ⟨v3, vs3, d3, ds3, p3, q3, rfl, rfl, rfl, h3, r3⟩ := trodAll_cons r2
  obtain ⟨v4, vs4, d4, ds4, p4, q4, rfl, rfl, rfl, h4, r4⟩ := trodAll_cons r3
  obtain ⟨v5, vs5, d5, ds5, p5, q5, rfl, rfl, rfl, h5, r5⟩ := trodAll_cons r4
  obtain ⟨v6, vs6, d6, ds6, p6, q6, rfl, rfl, rfl, h6, r6⟩ := trodAll_cons r5
  obtain ⟨v7, vs7, d7, ds7, p7, q7, rfl, rfl, rfl, h7, r7⟩ := trodAll_cons r6
  obtain ⟨rfl, rfl, rfl⟩ := trodAll_nil r7
  obtain rfl : args = #[v0, v1, v2, v3, v4, v5, v6, v7] := by cases args; simp_all
  obtain ⟨rfl, rfl⟩ := trodVars_none hV
  have k0 := h0
  have lt0 : ∀ x ∈ p0, x.block < W.heap.size := by obtain ⟨m, hm⟩ := k0; exact DataW.trod_lt m _ _ _ hm
  obtain ⟨a0, rfl, ed0, ep0, w0⟩ := open_int Try.underlying3 (hval 0 3 v0 rfl rfl) h0
  have k1 := h1
  have lt1 : ∀ x ∈ p1, x.block < W.heap.size := by obtain ⟨m, hm⟩ := k1; exact DataW.trod_lt m _ _ _ hm
  obtain ⟨a1, rfl, ed1, ep1, w1⟩ := open_int Try.underlying3 (hval 1 3 v1 rfl rfl) h1
  have k2 := h2
  have lt2 : ∀ x ∈ p2, x.block < W.heap.size := by obtain ⟨m, hm⟩ := k2; exact DataW.trod_lt m _ _ _ hm
  obtain ⟨a2, rfl, ed2, ep2, w2⟩ := open_int Try.underlying3 (hval 2 3 v2 rfl rfl) h2
  have k3 := h3
  have lt3 : ∀ x ∈ p3, x.block < W.heap.size := by obtain ⟨m, hm⟩ := k3; exact DataW.trod_lt m _ _ _ hm
  have f3 : AllOk [.int .i64, .int .i64, .int .i64, .int .i64, .int .i64, .int .i64, .int .i64, .int .i64] v3.cells.toList := by obtain ⟨m, hm⟩ := k3; exact leaves_ok 9 m _ _ _ _ hm (by kernel_rfl)
  obtain ⟨y3, rfl⟩ := okWide_cells (Or.inl ⟨_, Try.underlying26⟩) (hval 3 26 v3 rfl rfl)
  simp only [Value.cells] at f3
  obtain ⟨_, y3_0, rfl, ⟨a3_0, rfl, w3_0⟩, f3_0⟩ := f3.cons
  obtain ⟨_, y3_1, rfl, ⟨a3_1, rfl, w3_1⟩, f3_1⟩ := f3_0.cons
  obtain ⟨_, y3_2, rfl, ⟨a3_2, rfl, w3_2⟩, f3_2⟩ := f3_1.cons
  obtain ⟨_, y3_3, rfl, ⟨a3_3, rfl, w3_3⟩, f3_3⟩ := f3_2.cons
  obtain ⟨_, y3_4, rfl, ⟨a3_4, rfl, w3_4⟩, f3_4⟩ := f3_3.cons
  obtain ⟨_, y3_5, rfl, ⟨a3_5, rfl, w3_5⟩, f3_5⟩ := f3_4.cons
  obtain ⟨_, y3_6, rfl, ⟨a3_6, rfl, w3_6⟩, f3_6⟩ := f3_5.cons
  obtain ⟨_, y3_7, rfl, ⟨a3_7, rfl, w3_7⟩, f3_7⟩ := f3_6.cons
  obtain rfl := f3_7.nil
  have k4 := h4
  have lt4 : ∀ x ∈ p4, x.block < W.heap.size := by obtain ⟨m, hm⟩ := k4; exact DataW.trod_lt m _ _ _ hm
  obtain ⟨a4, rfl, ed4, ep4⟩ := open_bool Try.underlying4 (hval 4 4 v4 rfl rfl) h4
  have k5 := h5
  have lt5 : ∀ x ∈ p5, x.block < W.heap.size := by obtain ⟨m, hm⟩ := k5; exact DataW.trod_lt m _ _ _ hm
  have f5 : AllOk [.int .i64, .int .i64, .int .i64, .string, .string, .string, .string] v5.cells.toList := by obtain ⟨m, hm⟩ := k5; exact leaves_ok 9 m _ _ _ _ hm (by kernel_rfl)
  obtain ⟨y5, rfl⟩ := okWide_cells (Or.inl ⟨_, Try.underlying32⟩) (hval 5 32 v5 rfl rfl)
  simp only [Value.cells] at f5
  obtain ⟨_, y5_0, rfl, ⟨a5_0, rfl, w5_0⟩, f5_0⟩ := f5.cons
  obtain ⟨_, y5_1, rfl, ⟨a5_1, rfl, w5_1⟩, f5_1⟩ := f5_0.cons
  obtain ⟨_, y5_2, rfl, ⟨a5_2, rfl, w5_2⟩, f5_2⟩ := f5_1.cons
  obtain ⟨_, y5_3, rfl, ⟨a5_3, rfl, w5_3⟩, f5_3⟩ := f5_2.cons
  obtain ⟨_, y5_4, rfl, ⟨a5_4, rfl, w5_4⟩, f5_4⟩ := f5_3.cons
  obtain ⟨_, y5_5, rfl, ⟨a5_5, rfl, w5_5⟩, f5_5⟩ := f5_4.cons
  obtain ⟨_, y5_6, rfl, ⟨a5_6, rfl, w5_6⟩, f5_6⟩ := f5_5.cons
  obtain rfl := f5_6.nil
  have k6 := h6
  have lt6 : ∀ x ∈ p6, x.block < W.heap.size := by obtain ⟨m, hm⟩ := k6; exact DataW.trod_lt m _ _ _ hm
  have f6 : AllOk [.int .i64, .int .i64, .int .i64, .int .i64, .int .i64, .int .i64, .int .i64, .int .i64] v6.cells.toList := by obtain ⟨m, hm⟩ := k6; exact leaves_ok 9 m _ _ _ _ hm (by kernel_rfl)
  obtain ⟨y6, rfl⟩ := okWide_cells (Or.inl ⟨_, Try.underlying26⟩) (hval 6 26 v6 rfl rfl)
  simp only [Value.cells] at f6
  obtain ⟨_, y6_0, rfl, ⟨a6_0, rfl, w6_0⟩, f6_0⟩ := f6.cons
  obtain ⟨_, y6_1, rfl, ⟨a6_1, rfl, w6_1⟩, f6_1⟩ := f6_0.cons
  obtain ⟨_, y6_2, rfl, ⟨a6_2, rfl, w6_2⟩, f6_2⟩ := f6_1.cons
  obtain ⟨_, y6_3, rfl, ⟨a6_3, rfl, w6_3⟩, f6_3⟩ := f6_2.cons
  obtain ⟨_, y6_4, rfl, ⟨a6_4, rfl, w6_4⟩, f6_4⟩ := f6_3.cons
  obtain ⟨_, y6_5, rfl, ⟨a6_5, rfl, w6_5⟩, f6_5⟩ := f6_4.cons
  obtain ⟨_, y6_6, rfl, ⟨a6_6, rfl, w6_6⟩, f6_6⟩ := f6_5.cons
  obtain ⟨_, y6_7, rfl, ⟨a6_7, rfl, w6_7⟩, f6_7⟩ := f6_6.cons
  obtain rfl := f6_7.nil
  have k7 := h7
  have lt7 : ∀ x ∈ p7, x.block < W.heap.size := by obtain ⟨m, hm⟩ := k7; exact DataW.trod_lt m _ _ _ hm
  obtain ⟨a7, rfl, ed7, ep7, w7⟩ := open_int Try.underlying3 (hval 7 3 v7 rfl rfl) h7
  clear hA0 hval0
  refine (quorumFast_flat a0 a1 a2 a3_0 a3_1 a3_2 a3_3 a3_4 a3_5 a3_6 a3_7 a4 a5_0 a5_1 a5_2 a5_3 a5_4 a5_5 a5_6 a6_0 a6_1 a6_2 a6_3 a6_4 a6_5 a6_6 a6_7 a7 W w0 w1 w2 w3_0 w3_1 w3_2 w3_3 w3_4 w3_5 w3_6 w3_7 w5_0 w5_1 w5_2 w5_3 w5_4 w5_5 w5_6 w6_0 w6_1 w6_2 w6_3 w6_4 w6_5 w6_6 w6_7 w7).mono fun e W' ⟨he, bel⟩ => ?_
  subst he
  exact ⟨_, rfl, _, _, _, [], _, [], hW', trodAll_mk1 (shut_bool Try.underlying4 _), (trodAll_cons_mk (Below.trod laidOut (by kernel_rfl) (of_decide_eq_true (by kernel_rfl)) k0 bel lt0) (trodAll_cons_mk (Below.trod laidOut (by kernel_rfl) (of_decide_eq_true (by kernel_rfl)) k1 bel lt1) (trodAll_cons_mk (Below.trod laidOut (by kernel_rfl) (of_decide_eq_true (by kernel_rfl)) k2 bel lt2) (trodAll_cons_mk (Below.trod laidOut (by kernel_rfl) (of_decide_eq_true (by kernel_rfl)) k3 bel lt3) (trodAll_cons_mk (Below.trod laidOut (by kernel_rfl) (of_decide_eq_true (by kernel_rfl)) k4 bel lt4) (trodAll_cons_mk (Below.trod laidOut (by kernel_rfl) (of_decide_eq_true (by kernel_rfl)) k5 bel lt5) (trodAll_cons_mk (Below.trod laidOut (by kernel_rfl) (of_decide_eq_true (by kernel_rfl)) k6 bel lt6) (trodAll_cons_mk (Below.trod laidOut (by kernel_rfl) (of_decide_eq_true (by kernel_rfl)) k7 bel lt7) trodAll_mk0)))))))), rfl, bel.frame _, fun h => by cases h⟩

theorem over : Rows.quorumFastRow.holds Try.pinned (OpenSpec.ofChange Rows.quorumFastSpec) :=
  OpenClaim.holds_of_wide 6 Try.f6 rfl rfl rfl rfl rfl rfl rfl ⟨rfl, rfl, rfl, rfl, rfl⟩ rfl rfl rfl rfl rfl (by kernel_rfl) Try.func6 (by kernel_rfl)
    (of_decide_eq_true (by kernel_rfl)) (by unfold Func.isWrapper; first | (rw [if_pos (by decide +kernel)]; kernel_rfl) | (rw [if_neg (by decide +kernel)]; exact ⟨rfl, rfl⟩))
    (fun os started H enc _ => lifted os started H enc)

/-- The statement. -/
theorem proved : Rows.QuorumFastSaid := over
#print axioms proved
end Go.Proofs.Ytmpefdepcbfcdaa.quorumFast
