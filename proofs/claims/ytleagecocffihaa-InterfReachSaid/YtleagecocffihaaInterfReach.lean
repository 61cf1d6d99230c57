/-
  The given statement InterfReachSaid: for every input the law returns true and each argument reads afterwards as it read before; lifted from its walk. No condition.
-/
import Derived.Test.YtleagecocffihaaIfReachW
import Derived.SizedLaws
import Derived.Test.YtleagecocffihaaCellRows
import Derived.Test.YtleagecocffihaaLeaves
import Derived.Test.YtleagecocffihaaFits
namespace Go.Proofs.Ytleagecocffihaa.interfReach
open Go.ChangeShapes Go.WideShapes Go.ChangeAt Go.RowKit
open Go.ChangeMaps (open_string shut_string)
set_option linter.unusedVariables false

theorem own : ownKnob Try.prog.godebug = none := by kernel_rfl
theorem laidOut : laidOutB Try.prog = true := by kernel_rfl

set_option maxRecDepth 100000 in
theorem lifted (os : Os) (started : os.Started) (H : Type) (enc : TypeId × Value → H) :
    ReturnsInHanded {} Try.checked os 7 .any (Rows.interfReachSpec.pre6 enc Try.prog Try.f7 Rows.interfReachRow.domain false) (Rows.interfReachSpec.post enc Try.prog Try.f7 false true false false) := by
  refine returnsInHanded_of_change_sized (C := Try.checked) own started (by kernel_rfl) Try.func7
    (ChangeSpec.witness6 (enc := enc) (C := Try.checked) false ⟨#[], #[.slice none 0 0, .agg #[.int .i64 0, .int .i64 0], .agg #[.int .i64 0, .int .i64 0, .int .i64 0, .string ByteArray.empty, .string ByteArray.empty, .string ByteArray.empty, .string ByteArray.empty], .agg #[.int .i64 0, .int .i64 0, .int .i64 0, .int .i64 0, .int .i64 0, .int .i64 0, .int .i64 0]], []⟩ 8 (by kernel_rfl) (by kernel_rfl) (by kernel_rfl) (by kernel_rfl)) ?_
  intro W base args ds gs before hval0 hW hcnd hsz0 _
  have hval : ∀ (j : Nat) t v, Try.f7.params[j]? = some t → args[j]? = some v → Value.okWide Try.prog W .any base t v := hval0
  have hW' := hW
  obtain ⟨p, q, hA0, hV, rfl, hfz, hnd⟩ := hW
  have hA : DataW.TrodAll enc Try.prog W 0 (fun _ => true) true Try.f7.params.toList args.toList ds p := hA0
  have hsz : (DataW.weightsEach Try.prog (Try.f7.params.toList ++ Rows.interfReachSpec.plain.varTypes Try.prog) (ds ++ gs)).all (· ≤ reachBytes) = true := hsz0
  rw [Try.params7] at hA hval hsz
  obtain ⟨v0, vs0, d0, ds0, p0, q0, hargs, rfl, rfl, h0, r0⟩ := trodAll_cons hA
  obtain ⟨v1, vs1, d1, ds1, p1, q1, rfl, rfl, rfl, h1, r1⟩ := trodAll_cons r0
  obtain ⟨v2, vs2, d2, ds2, p2, q2, rfl, rfl, rfl, h2, r2⟩ := trodAll_cons r1
  obtain ⟨v3, vs3, d3, ds3, p3, q3, rfl, rfl, rfl, h3, r3⟩ := trodAll_cons r2
  obtain ⟨rfl, rfl, rfl⟩ := trodAll_nil r3
  obtain rfl : args = #[v0, v1, v2, v3] := by cases args; simp_all
  obtain ⟨rfl, rfl⟩ := trodVars_none hV
  have k0 := h0
  have lt0 : ∀ x ∈ p0, x.block < W.heap.size := by obtain ⟨m, hm⟩ := k0; exact DataW.trod_lt m _ _ _ hm
  obtain ⟨a0, len0, cap0, rfl⟩ := okWide_slice Try.underlying40 (hval 0 40 v0 rfl rfl)
  obtain ⟨b0, w0, y0, c0, m0⟩ := open_rows_fit (ls := [.int .i64, .int .i64, .int .i64, .int .i64, .int .i64, .int .i64, .int .i64, .string, .string, .string, .string, .int .i64, .int .i64, .int .i64, .int .i64, .int .i64, .int .i64, .int .i64]) Try.underlying40 (by kernel_rfl) (show Try.prog.cellsOf 43 = 18 from by kernel_rfl) (by decide) (fun n hn => by have := List.all_eq_true.1 hsz _ (DataW.weights_mem_each (j := 0) (t := 40) rfl rfl n hn); simpa using this) h0
  have k1 := h1
  have lt1 : ∀ x ∈ p1, x.block < W.heap.size := by obtain ⟨m, hm⟩ := k1; exact DataW.trod_lt m _ _ _ hm
  have f1 : AllOk [.int .i64, .int .i64] v1.cells.toList := by obtain ⟨m, hm⟩ := k1; exact leaves_ok 9 m _ _ _ _ hm (by kernel_rfl)
  obtain ⟨y1, rfl⟩ := okWide_cells (Or.inl ⟨_, Try.underlying26⟩) (hval 1 26 v1 rfl rfl)
  simp only [Value.cells] at f1
  obtain ⟨_, y1_0, rfl, ⟨a1_0, rfl, w1_0⟩, f1_0⟩ := f1.cons
  obtain ⟨_, y1_1, rfl, ⟨a1_1, rfl, w1_1⟩, f1_1⟩ := f1_0.cons
  obtain rfl := f1_1.nil
  have k2 := h2
  have lt2 : ∀ x ∈ p2, x.block < W.heap.size := by obtain ⟨m, hm⟩ := k2; exact DataW.trod_lt m _ _ _ hm
  have f2 : AllOk [.int .i64, .int .i64, .int .i64, .string, .string, .string, .string] v2.cells.toList := by obtain ⟨m, hm⟩ := k2; exact leaves_ok 9 m _ _ _ _ hm (by kernel_rfl)
  have fit2 : Fit reachBytes v2.cells.toList := by obtain ⟨m, hm⟩ := k2; exact leaves_fit 9 m _ _ _ [.int .i64, .int .i64, .int .i64, .string, .string, .string, .string] hm (by kernel_rfl) (fun n hn => by have := List.all_eq_true.1 hsz _ (DataW.weights_mem_each (j := 2) (t := 29) rfl rfl n hn); simpa using this)
  obtain ⟨y2, rfl⟩ := okWide_cells (Or.inl ⟨_, Try.underlying29⟩) (hval 2 29 v2 rfl rfl)
  simp only [Value.cells] at f2
  simp only [Value.cells] at fit2
  obtain ⟨_, y2_0, rfl, ⟨a2_0, rfl, w2_0⟩, f2_0⟩ := f2.cons
  obtain ⟨_, y2_1, rfl, ⟨a2_1, rfl, w2_1⟩, f2_1⟩ := f2_0.cons
  obtain ⟨_, y2_2, rfl, ⟨a2_2, rfl, w2_2⟩, f2_2⟩ := f2_1.cons
  obtain ⟨_, y2_3, rfl, ⟨a2_3, rfl, w2_3⟩, f2_3⟩ := f2_2.cons
  obtain ⟨_, y2_4, rfl, ⟨a2_4, rfl, w2_4⟩, f2_4⟩ := f2_3.cons
  obtain ⟨_, y2_5, rfl, ⟨a2_5, rfl, w2_5⟩, f2_5⟩ := f2_4.cons
  obtain ⟨_, y2_6, rfl, ⟨a2_6, rfl, w2_6⟩, f2_6⟩ := f2_5.cons
  obtain rfl := f2_6.nil
  have k3 := h3
  have lt3 : ∀ x ∈ p3, x.block < W.heap.size := by obtain ⟨m, hm⟩ := k3; exact DataW.trod_lt m _ _ _ hm
  have f3 : AllOk [.int .i64, .int .i64, .int .i64, .int .i64, .int .i64, .int .i64, .int .i64] v3.cells.toList := by obtain ⟨m, hm⟩ := k3; exact leaves_ok 9 m _ _ _ _ hm (by kernel_rfl)
  obtain ⟨y3, rfl⟩ := okWide_cells (Or.inr ⟨_, _, Try.underlying32⟩) (hval 3 32 v3 rfl rfl)
  simp only [Value.cells] at f3
  obtain ⟨_, y3_0, rfl, ⟨a3_0, rfl, w3_0⟩, f3_0⟩ := f3.cons
  obtain ⟨_, y3_1, rfl, ⟨a3_1, rfl, w3_1⟩, f3_1⟩ := f3_0.cons
  obtain ⟨_, y3_2, rfl, ⟨a3_2, rfl, w3_2⟩, f3_2⟩ := f3_1.cons
  obtain ⟨_, y3_3, rfl, ⟨a3_3, rfl, w3_3⟩, f3_3⟩ := f3_2.cons
  obtain ⟨_, y3_4, rfl, ⟨a3_4, rfl, w3_4⟩, f3_4⟩ := f3_3.cons
  obtain ⟨_, y3_5, rfl, ⟨a3_5, rfl, w3_5⟩, f3_5⟩ := f3_4.cons
  obtain ⟨_, y3_6, rfl, ⟨a3_6, rfl, w3_6⟩, f3_6⟩ := f3_5.cons
  obtain rfl := f3_6.nil
  clear hA0 hval0
  refine (interfReach_rows a0 len0 cap0 b0 a1_0 a1_1 a2_0 a2_1 a2_2 a2_3 a2_4 a2_5 a2_6 a3_0 a3_1 a3_2 a3_3 a3_4 a3_5 a3_6 W w0 y0 c0 m0 w1_0 w1_1 w2_0 w2_1 w2_2 w2_3 w2_4 w2_5 w2_6 fit2 w3_0 w3_1 w3_2 w3_3 w3_4 w3_5 w3_6).mono fun e W' ⟨he, bel⟩ => ?_
  subst he
  exact ⟨_, rfl, _, _, _, [], _, [], hW', trodAll_mk1 (shut_bool Try.underlying4 _), (trodAll_cons_mk (Below.trod laidOut (by kernel_rfl) (of_decide_eq_true (by kernel_rfl)) k0 bel lt0) (trodAll_cons_mk (Below.trod laidOut (by kernel_rfl) (of_decide_eq_true (by kernel_rfl)) k1 bel lt1) (trodAll_cons_mk (Below.trod laidOut (by kernel_rfl) (of_decide_eq_true (by kernel_rfl)) k2 bel lt2) (trodAll_cons_mk (Below.trod laidOut (by kernel_rfl) (of_decide_eq_true (by kernel_rfl)) k3 bel lt3) trodAll_mk0)))), rfl, bel.frame _, fun h => by cases h⟩

theorem over : Rows.interfReachRow.holds Try.pinned (OpenSpec.ofChange Rows.interfReachSpec) :=
  OpenClaim.holds_of_wide 7 Try.f7 rfl rfl rfl rfl rfl rfl rfl ⟨rfl, rfl, rfl, rfl, rfl⟩ rfl rfl rfl rfl rfl (by kernel_rfl) Try.func7 (by kernel_rfl)
    (of_decide_eq_true (by kernel_rfl)) (by unfold Func.isWrapper; first | (rw [if_pos (by decide +kernel)]; kernel_rfl) | (rw [if_neg (by decide +kernel)]; exact ⟨rfl, rfl⟩))
    (fun os started H enc _ => lifted os started H enc)

/-- The statement. -/
theorem proved : Rows.InterfReachSaid := over
#print axioms proved
end Go.Proofs.Ytleagecocffihaa.interfReach
