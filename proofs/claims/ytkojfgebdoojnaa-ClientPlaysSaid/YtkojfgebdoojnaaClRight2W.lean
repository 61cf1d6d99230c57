/-
  The walk of cmd.Right at any command, as far as it answers.
-/
import Derived.Test.YtkojfgebdoojnaaClRightW
import Derived.Deep.RegionWith
import Derived.Deep.CutRange
namespace Go.Proofs.Ytkojfgebdoojnaa
open Go.RowKit
set_option linter.unusedVariables false

set_option maxRecDepth 4000 in
set_option maxHeartbeats 2000000 in
theorem bare_any (k c s : Int) (a b o v : ByteArray) : ∃ b' o' v', ∀ w : World, Calls Try.prog 20 #[.agg #[.int .i64 k, .int .i64 c, .int .i64 s, .string a, .string b, .string o, .string v]] w fun e w' => e = .returned (.agg #[.int .i64 k, .int .i64 c, .int .i64 s, .string a, .string b', .string o', .string v']) ∧ Below w.heap.size w w' := by
  have hcase : (k == 2) = true ∨ ((k == 2) = false ∧ (k == 4) = true) ∨ ((k == 2) = false ∧ (k == 4) = false ∧ (k == 5) = true) ∨ ((k == 2) = false ∧ (k == 4) = false ∧ (k == 5) = false) := by
    simp only [beq_iff_eq, beq_eq_false_iff_ne]; omega
  rcases hcase with e2 | ⟨e2, e4⟩ | ⟨e2, e4, e5⟩ | ⟨e2, e4, e5⟩
  · refine ⟨⟨#[]⟩, ⟨#[]⟩, v, fun w => ?_⟩
    go_enter Try.func20, Try.ntmps20
    go_wp2_with fail
    exact bodyPost_ret (v := .agg #[.int .i64 k, .int .i64 c, .int .i64 s, .string a, .string ⟨#[]⟩, .string ⟨#[]⟩, .string v]) (by simp [results, Try.results20, go_sem]) rfl ⟨rfl, by go_grown⟩
  · refine ⟨⟨#[]⟩, o, v, fun w => ?_⟩
    go_enter Try.func20, Try.ntmps20
    go_upto_region 6 with (fail)
    go_region
    go_wp2_with fail
    exact bodyPost_ret (v := .agg #[.int .i64 k, .int .i64 c, .int .i64 s, .string a, .string ⟨#[]⟩, .string o, .string v]) (by simp [results, Try.results20, go_sem]) rfl ⟨rfl, by go_grown⟩
  · refine ⟨b, ⟨#[]⟩, ⟨#[]⟩, fun w => ?_⟩
    go_enter Try.func20, Try.ntmps20
    go_wp2_with fail
    exact bodyPost_ret (v := .agg #[.int .i64 k, .int .i64 c, .int .i64 s, .string a, .string b, .string ⟨#[]⟩, .string ⟨#[]⟩]) (by simp [results, Try.results20, go_sem]) rfl ⟨rfl, by go_grown⟩
  · refine ⟨⟨#[]⟩, ⟨#[]⟩, ⟨#[]⟩, fun w => ?_⟩
    go_enter Try.func20, Try.ntmps20
    go_wp2_with fail
    exact bodyPost_ret (v := .agg #[.int .i64 k, .int .i64 c, .int .i64 s, .string a, .string ⟨#[]⟩, .string ⟨#[]⟩, .string ⟨#[]⟩]) (by simp [results, Try.results20, go_sem]) rfl ⟨rfl, by go_grown⟩
theorem eq_cmd (a0 a1 a2 b0 b1 b2 : Int) (a3 a4 a5 a6 b3 b4 b5 b6 : ByteArray) (w : World) : (Op.equalIn 10000 27 (.agg #[.int .i64 a0, .int .i64 a1, .int .i64 a2, .string a3, .string a4, .string a5, .string a6]) (.agg #[.int .i64 b0, .int .i64 b1, .int .i64 b2, .string b3, .string b4, .string b5, .string b6])).run Try.prog w = .ok (a0 == b0 && (a1 == b1 && (a2 == b2 && (decide (a3.toList = b3.toList) && (decide (a4.toList = b4.toList) && (decide (a5.toList = b5.toList) && decide (a6.toList = b6.toList))))))) w := by
  rw [show (10000 : Nat) = 9999 + 1 from rfl, run_equalIn_struct w 9999 27 _ _ (by kernel_rfl) (by kernel_rfl)]
  go_simp
  by_cases h0 : a0 = b0
  · by_cases h1 : a1 = b1
    · by_cases h2 : a2 = b2
      · by_cases h3 : a3.toList = b3.toList
        · by_cases h4 : a4.toList = b4.toList
          · by_cases h5 : a5.toList = b5.toList
            · by_cases h6 : a6.toList = b6.toList <;> simp [h0, h1, h2, h3, h4, h5, h6]
            · simp [h0, h1, h2, h3, h4, h5]
          · simp [h0, h1, h2, h3, h4]
        · simp [h0, h1, h2, h3]
      · simp [h0, h1, h2]
    · simp [h0, h1]
  · simp [h0]
theorem eql_ex (k c s : Int) (a b o v : ByteArray) : ∃ q : Bool, ∀ W, (binOp .eql 27 (.agg #[.int .i64 k, .int .i64 c, .int .i64 s, .string a, .string b, .string o, .string v]) (.agg #[.int .i64 0, .int .i64 0, .int .i64 0, .string ⟨#[]⟩, .string ⟨#[]⟩, .string ⟨#[]⟩, .string ⟨#[]⟩])).run Try.prog W = .ok (.bool q) W :=
  ⟨_, fun W => by rw [run_eql_struct, eq_cmd]; rfl⟩
theorem neq_ex (k c s : Int) (a b o v : ByteArray) : ∃ Q : ByteArray → ByteArray → ByteArray → Bool, ∀ b' o' v' W, (binOp .neq 27 (.agg #[.int .i64 k, .int .i64 c, .int .i64 s, .string a, .string b, .string o, .string v]) (.agg #[.int .i64 k, .int .i64 c, .int .i64 s, .string a, .string b', .string o', .string v'])).run Try.prog W = .ok (.bool (Q b' o' v')) W :=
  ⟨fun b' o' v' => _, fun b' o' v' W => by rw [run_neq_struct, eq_cmd]; rfl⟩
set_option maxRecDepth 4000 in
set_option maxHeartbeats 4000000 in
theorem right_any (k c s : Int) (a b o v : ByteArray) (w : World) : Calls Try.prog 17 #[.agg #[.int .i64 k, .int .i64 c, .int .i64 s, .string a, .string b, .string o, .string v]] w fun e w' => (∃ r : Bool, e = .returned (.bool r)) ∧ Below w.heap.size w w' := by
  obtain ⟨q, hq⟩ := eql_ex k c s a b o v
  obtain ⟨b', o', v', hbare⟩ := bare_any k c s a b o v
  obtain ⟨q2, hq2⟩ : ∃ q2 : Bool, ∀ W, (binOp .neq 27 (.agg #[.int .i64 k, .int .i64 c, .int .i64 s, .string a, .string b, .string o, .string v]) (.agg #[.int .i64 k, .int .i64 c, .int .i64 s, .string a, .string b', .string o', .string v'])).run Try.prog W = .ok (.bool q2) W := by
    obtain ⟨Q, hQ⟩ := neq_ex k c s a b o v
    exact ⟨_, hQ b' o' v'⟩
  have KB := Lib.hid hbare; clear hbare
  obtain ⟨p1, h1⟩ : ∃ p : Bool, ∀ W, Calls Try.prog 19 #[.int .i64 k, .int .i64 5] W fun e w' => e = .returned (.bool p) ∧ Below W.heap.size W w' := ⟨_, fun W => within5_any k 5 W⟩
  obtain ⟨p2, h2⟩ : ∃ p : Bool, ∀ W, Calls Try.prog 19 #[.int .i64 c, .int .i64 8] W fun e w' => e = .returned (.bool p) ∧ Below W.heap.size W w' := ⟨_, fun W => within5_any c 8 W⟩
  obtain ⟨p3, h3⟩ : ∃ p : Bool, ∀ W, Calls Try.prog 19 #[.int .i64 s, .int .i64 1099511627776] W fun e w' => e = .returned (.bool p) ∧ Below W.heap.size W w' := ⟨_, fun W => within5_any s 1099511627776 W⟩
  have K1 := Lib.hid h1; have K2 := Lib.hid h2; have K3 := Lib.hid h3
  clear h1 h2 h3
  have hcase : q = true ∨ (q = false ∧ p1 = false) ∨ (q = false ∧ p1 = true ∧ p2 = false) ∨ (q = false ∧ p1 = true ∧ p2 = true ∧ p3 = false) ∨ (q = false ∧ p1 = true ∧ p2 = true ∧ p3 = true ∧ q2 = true) ∨ (q = false ∧ p1 = true ∧ p2 = true ∧ p3 = true ∧ q2 = false) := by
    cases q <;> cases p1 <;> cases p2 <;> cases p3 <;> cases q2 <;> simp
  rcases hcase with rfl | hcase
  · go_enter Try.func17, Try.ntmps17
    go_wp2_with fail
    go_ret
    exact ⟨⟨_, rfl⟩, by go_grown⟩
  rcases hcase with ⟨rfl, rfl⟩ | ⟨rfl, rfl, rfl⟩ | ⟨rfl, rfl, rfl, rfl⟩ | ⟨rfl, rfl, rfl, rfl, rfl⟩ | ⟨rfl, rfl, rfl, rfl, rfl⟩
  all_goals
    go_enter Try.func17, Try.ntmps17
    go_upto_region 3 with (fail)
    clear hq
    go_name_world W hW
    have hX : Holds W w.heap.size 27 [.int .i64 k, .int .i64 c, .int .i64 s, .string a, .string b, .string o, .string v] := by rw [← hW]; exact holds_alloc w _ _
    have HB : Below w.heap.size w W := by rw [← hW]; go_grown
    clear hW
    have x0 := fun d os => hX.grown d os 0
    have x1 := fun d os => hX.grown d os 1
    have x2 := fun d os => hX.grown d os 2
    have x3 := fun d os => hX.grown d os 3
    have x4 := fun d os => hX.grown d os 4
    have x5 := fun d os => hX.grown d os 5
    have x6 := fun d os => hX.grown d os 6
    simp only [List.getElem?_cons_zero, List.getElem?_cons_succ] at x0 x1 x2 x3 x4 x5 x6
    refine wp_region_quiet_below (by kernel_rfl) (by kernel_rfl) ?_
    repeat go_big_quiet_step (first
      | (go_at_call 19; with_reducible exact calls_regrown fun W _ => K1.out W)
      | (go_at_call 19; with_reducible exact calls_regrown fun W _ => K2.out W)
      | (go_at_call 19; with_reducible exact calls_regrown fun W _ => K3.out W)
      | (go_at_call 20; with_reducible exact calls_regrown fun W _ => KB.out W))
    refine wpQuiet_nil ?_
    intro w2 hw'
    have hb2 := below_of_regrown hw'
    have HB2 := Lib.hid (below_next HB hb2)
    have hX2 := hX.below hb2 hX.lt
    clear hw' x0 x1 x2 x3 x4 x5 x6
    have x0 := hX2.cell 0
    have x3 := hX2.cell 3
    have x4 := hX2.cell 4
    have x5 := hX2.cell 5
    have x6 := hX2.cell 6
    simp only [List.getElem?_cons_zero, List.getElem?_cons_succ] at x0 x3 x4 x5 x6
    clear hX hX2 hb2 HB hq2
    go_wp2_with fail
    all_goals
      go_ret
      refine ⟨?_, HB2.out⟩
      first | exact ⟨_, rfl⟩ | rfl | (simp; done) | exact ⟨true, rfl⟩ | exact ⟨false, rfl⟩
end Go.Proofs.Ytkojfgebdoojnaa
