/-
  The walk of SpanMirrors.
-/
import Derived.Test.YtonnidebpbnpaaaSpanLaws
namespace Go.Proofs.Ytonnidebpbnpaaa
open Go.RowKit

/-- What the contracts say in SpanMirrors, by its Booleans. -/
structure MirC (al ah bl bh cl ch : ByteArray) (ea eb ez m c1 c2 c3 : Bool) : Prop where
  hm : ∀ W, Calls Try.prog 12 #[.agg #[.string al, .string ah], .agg #[.string bl, .string bh]] W fun e w' => e = .returned (.bool m) ∧ Below W.heap.size W w'
  hr : ∀ W, Calls Try.prog 12 #[.agg #[.string bl, .string bh], .agg #[.string al, .string ah]] W fun e w' => e = .returned (.bool m) ∧ Below W.heap.size W w'
  hs : ∀ W, Calls Try.prog 12 #[.agg #[.string al, .string ah], .agg #[.string al, .string ah]] W fun e w' => e = .returned (.bool (!ea)) ∧ Below W.heap.size W w'
  ha : ∀ W, Calls Try.prog 11 #[.agg #[.string al, .string ah]] W fun e w' => e = .returned (.bool ea) ∧ Below W.heap.size W w'
  hb : ∀ W, Calls Try.prog 11 #[.agg #[.string bl, .string bh]] W fun e w' => e = .returned (.bool eb) ∧ Below W.heap.size W w'
  hz : ∀ W, Calls Try.prog 11 #[.agg #[.string (Lib.maxS al bl), .string (SpanP.bothHi ah bh)]] W fun e w' => e = .returned (.bool ez) ∧ Below W.heap.size W w'
  h1 : ∀ W, Calls Try.prog 13 #[.agg #[.string al, .string ah], .agg #[.string bl, .string bh]] W fun e w' => e = .returned (.bool c1) ∧ Below W.heap.size W w'
  h2 : ∀ W, Calls Try.prog 13 #[.agg #[.string bl, .string bh], .agg #[.string cl, .string ch]] W fun e w' => e = .returned (.bool c2) ∧ Below W.heap.size W w'
  h3 : ∀ W, Calls Try.prog 13 #[.agg #[.string al, .string ah], .agg #[.string cl, .string ch]] W fun e w' => e = .returned (.bool c3) ∧ Below W.heap.size W w'
  h4 : ∀ W, Calls Try.prog 13 #[.agg #[.string al, .string ah], .agg #[.string al, .string ah]] W fun e w' => e = .returned (.bool true) ∧ Below W.heap.size W w'
  b1 : ∀ W, Calls Try.prog 14 #[.agg #[.string al, .string ah], .agg #[.string bl, .string bh]] W fun e w' => e = .returned (.agg #[.string (Lib.maxS al bl), .string (SpanP.bothHi ah bh)]) ∧ Below W.heap.size W w'
  b2 : ∀ W, Calls Try.prog 14 #[.agg #[.string bl, .string bh], .agg #[.string al, .string ah]] W fun e w' => e = .returned (.agg #[.string (Lib.maxS al bl), .string (SpanP.bothHi ah bh)]) ∧ Below W.heap.size W w'

set_option maxHeartbeats 16000000 in
theorem mir_core (al ah bl bh cl ch : ByteArray) (ea eb ez m c1 c2 c3 : Bool) (w : World) (hC : MirC al ah bl bh cl ch ea eb ez m c1 c2 c3)
    (hm : m = (!ea && !eb && !ez)) (hlaw : (!(c1 && c2) || c3 || eb) = true) :
    Calls Try.prog 6 #[.agg #[.string al, .string ah], .agg #[.string bl, .string bh], .agg #[.string cl, .string ch]] w fun e w' => e = .returned (.bool true) ∧ Below w.heap.size w w' := by
  have h1 : ea = true ∨ (ea = false ∧ eb = true) ∨ (ea = false ∧ eb = false ∧ ez = true) ∨ (ea = false ∧ eb = false ∧ ez = false) := by
    revert hm hlaw hC; cases ea <;> cases eb <;> cases ez <;> simp
  have h2 : c1 = false ∨ (c1 = true ∧ c2 = false) ∨ (c1 = true ∧ c2 = true ∧ c3 = true) ∨ (c1 = true ∧ c2 = true ∧ c3 = false ∧ eb = true) := by
    clear h1 hm hC; revert hlaw; cases c1 <;> cases c2 <;> cases c3 <;> cases eb <;> simp
  rcases h1 with rfl | ⟨rfl, rfl⟩ | ⟨rfl, rfl, rfl⟩ | ⟨rfl, rfl, rfl⟩ <;> rcases h2 with rfl | ⟨rfl, rfl⟩ | ⟨rfl, rfl, rfl⟩ | ⟨rfl, rfl, rfl, h⟩ <;> first | (exact absurd h (by decide)) | skip
  all_goals
    clear hlaw
    try subst h
    simp only [Bool.not_true, Bool.not_false, Bool.false_and, Bool.and_false, Bool.and_true] at hm
    subst hm
    go_enter Try.func6, Try.ntmps6
    go_upto_region 1 with (fail)
    go_name_world W hW
    have hA : Holds W w.heap.size 23 [.string al, .string ah] := by rw [← hW]; exact (three_boxes w 23 [_, _] [_, _] [_, _]).1
    have hB : Holds W (w.heap.size + 1) 23 [.string bl, .string bh] := by rw [← hW]; exact (three_boxes w 23 [_, _] [_, _] [_, _]).2.1
    have hD : Holds W (w.heap.size + 2) 23 [.string cl, .string ch] := by rw [← hW]; exact (three_boxes w 23 [_, _] [_, _] [_, _]).2.2.1
    have HB : Below w.heap.size w W := by rw [← hW]; go_grown
    clear hW
    have a0 := fun d os => hA.grown d os 0
    have a1 := fun d os => hA.grown d os 1
    have b0 := fun d os => hB.grown d os 0
    have b1 := fun d os => hB.grown d os 1
    simp only [List.getElem?_cons_zero, List.getElem?_cons_succ] at a0 a1 b0 b1
    refine wp_region_quiet_below (by kernel_rfl) (by kernel_rfl) ?_
    repeat go_big_quiet_step (first
      | (go_at_call 12; with_reducible exact calls_regrown fun W _ => hC.hm W)
      | (go_at_call 12; with_reducible exact calls_regrown fun W _ => hC.hr W)
      | (go_at_call 12; with_reducible exact calls_regrown fun W _ => hC.hs W)
      | (go_at_call 11; with_reducible exact calls_regrown fun W _ => hC.ha W)
      | (go_at_call 14; with_reducible exact calls_regrown fun W _ => hC.b1 W)
      | (go_at_call 14; with_reducible exact calls_regrown fun W _ => hC.b2 W))
    refine wpQuiet_nil ?_
    intro w1 hw'
    have hb1 := below_of_regrown hw'
    have hA1 := hA.below hb1 hA.lt
    have hB1 := hB.below hb1 hB.lt
    have hD1 := hD.below hb1 hD.lt
    have HB1 := below_next HB hb1
    clear hw' a0 a1 b0 b1 hA hB hD HB hb1
    go_upto_region 3 with (fail)
    have a0 := fun d os => hA1.grown d os 0
    have a1 := fun d os => hA1.grown d os 1
    have b0 := fun d os => hB1.grown d os 0
    have b1 := fun d os => hB1.grown d os 1
    simp only [List.getElem?_cons_zero, List.getElem?_cons_succ] at a0 a1 b0 b1
    refine wp_region_seq_below ?_
    repeat go_big_quiet_step (first
      | (go_at_call 11; with_reducible exact calls_regrown fun W _ => hC.ha W)
      | (go_at_call 11; with_reducible exact calls_regrown fun W _ => hC.hb W)
      | (go_at_call 11; with_reducible exact calls_regrown fun W _ => hC.hz W)
      | (go_at_call 14; with_reducible exact calls_regrown fun W _ => hC.b1 W))
    refine wpQuiet_nil ?_
    intro w2 hw'
    have hb1 := below_of_regrown hw'
    have hA2 := hA1.below hb1 hA1.lt
    have hB2 := hB1.below hb1 hB1.lt
    have hD2 := hD1.below hb1 hD1.lt
    have HB2 := below_next HB1 hb1
    clear hw' a0 a1 b0 b1 hA1 hB1 hD1 HB1 hb1
    go_upto_region 4 with (fail)
    have a0 := fun d os => hA2.grown d os 0
    have a1 := fun d os => hA2.grown d os 1
    have b0 := fun d os => hB2.grown d os 0
    have b1 := fun d os => hB2.grown d os 1
    have d0 := fun d os => hD2.grown d os 0
    have d1 := fun d os => hD2.grown d os 1
    simp only [List.getElem?_cons_zero, List.getElem?_cons_succ] at a0 a1 b0 b1 d0 d1
    refine wp_region_seq_below ?_
    repeat go_big_quiet_step (first
      | (go_at_call 12; with_reducible exact calls_regrown fun W _ => hC.hm W)
      | (go_at_call 13; with_reducible exact calls_regrown fun W _ => hC.h1 W)
      | (go_at_call 13; with_reducible exact calls_regrown fun W _ => hC.h2 W)
      | (go_at_call 13; with_reducible exact calls_regrown fun W _ => hC.h3 W)
      | (go_at_call 13; with_reducible exact calls_regrown fun W _ => hC.h4 W)
      | (go_at_call 11; with_reducible exact calls_regrown fun W _ => hC.hb W)
      | (go_at_call 3; with_reducible exact calls_regrown fun W _ => spanRuns_any W))
    refine wpQuiet_nil ?_
    intro w3 hw'
    have HB3 := below_next HB2 (below_of_regrown hw')
    clear hw'
    go_wp2
    go_ret
    exact ⟨rfl, HB3⟩

theorem spanMirrors_any (al ah bl bh cl ch : ByteArray) (w : World) (_ : al.size ≤ maxLen) (_ : ah.size ≤ maxLen) (_ : bl.size ≤ maxLen) (_ : bh.size ≤ maxLen) (_ : cl.size ≤ maxLen) (_ : ch.size ≤ maxLen) :
    Calls Try.prog 6 #[.agg #[.string al, .string ah], .agg #[.string bl, .string bh], .agg #[.string cl, .string ch]] w fun e w' => e = .returned (.bool true) ∧ Below w.heap.size w w' := by
  refine mir_core al ah bl bh cl ch (SpanP.empty al ah) (SpanP.empty bl bh) (SpanP.empty (Lib.maxS al bl) (SpanP.bothHi ah bh)) (SpanP.meets al ah bl bh) (SpanP.covers al ah bl bh) (SpanP.covers bl bh cl ch) (SpanP.covers al ah cl ch) w ?_ (SpanP.l_meets_both _ _ _ _) ?_
  · exact ⟨meets_any _ _ _ _, fun W => by rw [SpanP.meets_comm]; exact meets_any _ _ _ _ W, fun W => by rw [← SpanP.meets_self]; exact meets_any _ _ _ _ W, empty_any _ _, empty_any _ _, empty_any _ _, covers_any _ _ _ _, covers_any _ _ _ _, covers_any _ _ _ _,
      fun W => by rw [← SpanP.covers_self al ah]; exact covers_any _ _ _ _ W, both_any _ _ _ _, fun W => by rw [SpanP.max_comm, SpanP.hi_comm]; exact both_any _ _ _ _ W⟩
  · have h := SpanP.covers_trans al ah bl bh cl ch
    cases h1 : SpanP.covers al ah bl bh <;> cases h2 : SpanP.covers bl bh cl ch <;> cases h3 : SpanP.covers al ah cl ch <;> cases h4 : SpanP.empty bl bh <;> simp_all
end Go.Proofs.Ytonnidebpbnpaaa
