/-
  The walk of SpanPoints.
-/
import Derived.Test.YtonnidebpbnpaaaSpanLaws
namespace Go.Proofs.Ytonnidebpbnpaaa
open Go.RowKit

set_option maxHeartbeats 8000000 in
theorem spanPoints_any (a b : ByteArray) (sl sh : ByteArray) (w : World) (ha : a.size ≤ reachBytes) (hb : b.size ≤ reachBytes) (_ : sl.size ≤ maxLen) (_ : sh.size ≤ maxLen) :
    Calls Try.prog 7 #[.string a, .string b, .agg #[.string sl, .string sh]] w fun e w' => e = .returned (.bool true) ∧ Below w.heap.size w w' := by
  have oa := fun W => of_any a W ha
  have ob := fun W => of_any b W hb
  have k1 := fun W => meets_any a (SpanP.succ a) b (SpanP.succ b) W
  simp only [SpanP.l_points] at k1
  have k2 := fun W => empty_any a (SpanP.succ a) W
  simp only [SpanP.l_empty_of] at k2
  have k3 := fun W => has_any sl sh a W
  have k4 := fun W => covers_any sl sh a (SpanP.succ a) W
  simp only [SpanP.l_covers_of] at k4
  have k5 := fun W => has_any a SpanP.nil a W
  simp only [SpanP.l_from_self] at k5
  have k6 := fun W => has_any a SpanP.nil b W
  simp only [SpanP.l_from] at k6
  have k7 := fun W => has_any SpanP.nil b a W
  simp only [SpanP.l_upto] at k7
  simp only [SpanP.nil] at k5 k6 k7
  have OA := Lib.hid oa; have OB := Lib.hid ob; have K1 := Lib.hid k1; have K2 := Lib.hid k2; have K3 := Lib.hid k3; have K4 := Lib.hid k4; have K5 := Lib.hid k5; have K6 := Lib.hid k6; have K7 := Lib.hid k7
  clear oa ob k1 k2 k3 k4 k5 k6 k7
  go_enter Try.func7, Try.ntmps7
  go_wp2_with fail
  refine (OA.out _).mono ?_
  rintro e w1 ⟨rfl, hb1⟩
  go_wp2_with fail
  refine (OB.out _).mono ?_
  rintro e w2 ⟨rfl, hb2⟩
  have hS1 : Holds w1 w.heap.size 23 [.string sl, .string sh] := (holds_alloc w 23 [.string sl, .string sh]).below hb1 (by simp)
  have hS2 := hS1.below hb2 hS1.lt
  have HB : Below w.heap.size w w2 := below_next (below_next (by go_grown) hb1) hb2
  clear hb1 hb2 hS1
  have HC2 := Lib.hid (fun w3 (hb : Below w2.heap.size w2 w3) => hS2.below hb hS2.lt)
  cases hbe2 : b.toList.isEmpty
  all_goals
    have HE := Lib.hid hbe2; clear hbe2
    go_upto_region 2 with (fail)
    go_name_world W hW
    have hA : Holds W w2.heap.size 23 [.string a, .string (SpanP.succ a)] := by rw [← hW]; exact holds_past (holds_alloc w2 _ [_, _]) _
    have hB : Holds W (w2.heap.size + 1) 23 [.string b, .string (SpanP.succ b)] := by rw [← hW]; simpa using holds_alloc (w2.alloc (.cells #[.string a, .string (SpanP.succ a)] 23)) 23 [.string b, .string (SpanP.succ b)]
    have hbw : Below w2.heap.size w2 W := by rw [← hW]; go_grown
    have hS := HC2.out _ hbw
    have HBW := below_next HB hbw
    clear hW
    have a0 := fun d os => hA.grown d os 0
    have a1 := fun d os => hA.grown d os 1
    have b0 := fun d os => hB.grown d os 0
    have b1 := fun d os => hB.grown d os 1
    have s0 := fun d os => hS.grown d os 0
    have s1 := fun d os => hS.grown d os 1
    simp only [List.getElem?_cons_zero, List.getElem?_cons_succ] at a0 a1 b0 b1 s0 s1
    have hbe2 := HE.out
    refine wp_region_quiet_below (by kernel_rfl) (by kernel_rfl) ?_
    repeat go_big_quiet_step (first
      | (go_at_call 12; with_reducible exact calls_regrown fun W _ => K1.out W)
      | (go_at_call 11; with_reducible exact calls_regrown fun W _ => K2.out W)
      | (go_at_call 10; with_reducible exact calls_regrown fun W _ => K3.out W)
      | (go_at_call 13; with_reducible exact calls_regrown fun W _ => K4.out W)
      | (go_at_call 10; with_reducible exact calls_regrown fun W _ => K5.out W)
      | (go_at_call 10; with_reducible exact calls_regrown fun W _ => K6.out W)
      | (go_at_call 10; with_reducible exact calls_regrown fun W _ => K7.out W)
      | (go_at_call 3; with_reducible exact calls_regrown fun W _ => spanRuns_any W))
    refine wpQuiet_nil ?_
    intro w3 hw'
    have HB3 := below_next HBW (below_of_regrown hw')
    clear hw'
    go_wp2
    go_ret
    exact ⟨rfl, HB3⟩
end Go.Proofs.Ytonnidebpbnpaaa
