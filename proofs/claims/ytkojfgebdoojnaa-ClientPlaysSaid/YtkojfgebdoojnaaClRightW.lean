/-
  The walk of cmd.Right at the commands of ClientRuns.
-/
import Derived.Test.YtkojfgebdoojnaaClW
namespace Go.Proofs.Ytkojfgebdoojnaa
open Go.RowKit
set_option linter.unusedVariables false

theorem within5_any (n m : Int) (w : World) : Calls Try.prog 19 #[.int .i64 n, .int .i64 m] w fun e w' => e = .returned (.bool (decide (1 ≤ n) && decide (n ≤ m))) ∧ Below w.heap.size w w' := by
  go_enter Try.func19, Try.ntmps19
  go_wp2_with fail
  all_goals
    go_ret
    exact ⟨ret_bool (by first | (simp [*]; done) | (simp; omega)), by go_grown⟩
set_option maxHeartbeats 1000000 in
theorem bare_get (c s : Int) (a : ByteArray) (w : World) : Calls Try.prog 20 #[.agg #[.int .i64 1, .int .i64 c, .int .i64 s, .string a, .string ⟨#[]⟩, .string ⟨#[]⟩, .string ⟨#[]⟩]] w fun e w' => e = .returned (.agg #[.int .i64 1, .int .i64 c, .int .i64 s, .string a, .string ⟨#[]⟩, .string ⟨#[]⟩, .string ⟨#[]⟩]) ∧ Below w.heap.size w w' := by
  go_enter Try.func20, Try.ntmps20
  go_wp2_with fail
  exact bodyPost_ret (v := .agg #[.int .i64 1, .int .i64 c, .int .i64 s, .string a, .string ⟨#[]⟩, .string ⟨#[]⟩, .string ⟨#[]⟩]) (by simp [results, Try.results20, go_sem]) rfl ⟨rfl, by go_grown⟩
set_option maxRecDepth 4000 in
set_option maxHeartbeats 2000000 in
theorem right_get (w : World) : Calls Try.prog 17 #[.agg #[.int .i64 1, .int .i64 2, .int .i64 1, .string ⟨#[97]⟩, .string ⟨#[]⟩, .string ⟨#[]⟩, .string ⟨#[]⟩]] w fun e w' => e = .returned (.bool true) ∧ Below w.heap.size w w' := by
  have k1 := fun W => within5_any 1 5 W
  have k2 := fun W => within5_any 2 8 W
  have k3 := fun W => within5_any 1 1099511627776 W
  have k4 := fun W => bare_get 2 1 ⟨#[97]⟩ W
  simp only [show (decide ((1 : Int) ≤ 1) && decide ((1 : Int) ≤ 5)) = true from by decide] at k1
  simp only [show (decide ((1 : Int) ≤ 2) && decide ((2 : Int) ≤ 8)) = true from by decide] at k2
  simp only [show (decide ((1 : Int) ≤ 1) && decide ((1 : Int) ≤ 1099511627776)) = true from by decide] at k3
  have K1 := Lib.hid k1; have K2 := Lib.hid k2; have K3 := Lib.hid k3; have K4 := Lib.hid k4
  clear k1 k2 k3 k4
  go_enter Try.func17, Try.ntmps17
  go_upto_region 3 with (fail)
  go_name_world W hW
  have hX : Holds W w.heap.size 27 [.int .i64 1, .int .i64 2, .int .i64 1, .string ⟨#[97]⟩, .string ⟨#[]⟩, .string ⟨#[]⟩, .string ⟨#[]⟩] := by rw [← hW]; exact holds_alloc w _ _
  have HB : Below w.heap.size w W := by rw [← hW]; go_grown
  clear hW
  have x0 := fun d os => hX.grown d os 0
  have x1 := fun d os => hX.grown d os 1
  have x2 := fun d os => hX.grown d os 2
  have x3 := fun d os => hX.grown d os 3
  have x4 := fun d os => hX.grown d os 4
  have x5 := fun d os => hX.grown d os 5
  have x6 := fun d os => hX.grown d os 6
  simp only [List.getElem?_cons_zero, List.getElem?_cons_succ] at x0 x1 x2 x3 x4 x5 x6
  refine wp_region_quiet_below (by kernel_rfl) (by kernel_rfl) ?_
  repeat go_big_quiet_step (first
    | (go_at_call 19; with_reducible exact calls_regrown fun W _ => K1.out W)
    | (go_at_call 19; with_reducible exact calls_regrown fun W _ => K2.out W)
    | (go_at_call 19; with_reducible exact calls_regrown fun W _ => K3.out W)
    | (go_at_call 20; with_reducible exact calls_regrown fun W _ => K4.out W))
  refine wpQuiet_nil ?_
  intro w2 hw'
  have hb2 := below_of_regrown hw'
  have HB2 := Lib.hid (below_next HB hb2)
  have hX2 := hX.below hb2 hX.lt
  clear hw' x0 x1 x2 x3 x4 x5 x6
  have x0 := hX2.cell 0
  have x3 := hX2.cell 3
  have x4 := hX2.cell 4
  have x5 := hX2.cell 5
  have x6 := hX2.cell 6
  simp only [List.getElem?_cons_zero, List.getElem?_cons_succ] at x0 x3 x4 x5 x6
  clear hX hX2 hb2 HB
  go_wp2_with fail
  go_ret
  exact ⟨rfl, HB2.out⟩
end Go.Proofs.Ytkojfgebdoojnaa
