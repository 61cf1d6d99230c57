/-
  The walk of SpanKeys.
-/
import Derived.Test.YtonnidebpbnpaaaSpanLaws
namespace Go.Proofs.Ytonnidebpbnpaaa
open Go.RowKit

/-- What the contracts say in SpanKeys, by its Booleans. -/
structure KeysC (al ah bl bh k : ByteArray) (x y z m c e : Bool) : Prop where
  ha : ∀ W, Calls Try.prog 10 #[.agg #[.string al, .string ah], .string k] W fun e w' => e = .returned (.bool x) ∧ Below W.heap.size W w'
  hb : ∀ W, Calls Try.prog 10 #[.agg #[.string bl, .string bh], .string k] W fun e w' => e = .returned (.bool y) ∧ Below W.heap.size W w'
  hz : ∀ W, Calls Try.prog 10 #[.agg #[.string (Lib.maxS al bl), .string (SpanP.bothHi ah bh)], .string k] W fun e w' => e = .returned (.bool z) ∧ Below W.heap.size W w'
  hm : ∀ W, Calls Try.prog 12 #[.agg #[.string al, .string ah], .agg #[.string bl, .string bh]] W fun e w' => e = .returned (.bool m) ∧ Below W.heap.size W w'
  hc : ∀ W, Calls Try.prog 13 #[.agg #[.string al, .string ah], .agg #[.string bl, .string bh]] W fun e w' => e = .returned (.bool c) ∧ Below W.heap.size W w'
  he : ∀ W, Calls Try.prog 11 #[.agg #[.string al, .string ah]] W fun e' w' => e' = .returned (.bool e) ∧ Below W.heap.size W w'
  ho : ∀ W, Calls Try.prog 8 #[.string k] W fun e w' => e = .returned (.agg #[.string k, .string (SpanP.succ k)]) ∧ Below W.heap.size W w'
  h1 : ∀ W, Calls Try.prog 10 #[.agg #[.string k, .string (SpanP.succ k)], .string k] W fun e w' => e = .returned (.bool true) ∧ Below W.heap.size W w'
  h2 : ∀ W, Calls Try.prog 12 #[.agg #[.string al, .string ah], .agg #[.string k, .string (SpanP.succ k)]] W fun e w' => e = .returned (.bool x) ∧ Below W.heap.size W w'
  h3 : ∀ W, Calls Try.prog 13 #[.agg #[.string al, .string ah], .agg #[.string k, .string (SpanP.succ k)]] W fun e w' => e = .returned (.bool x) ∧ Below W.heap.size W w'

set_option maxHeartbeats 8000000 in
theorem keys_core (al ah bl bh k : ByteArray) (x y z m c e : Bool) (w : World) (hC : KeysC al ah bl bh k x y z m c e)
    (hlaw : ((!x || (y == z)) && (!(x && y) || m) && (!(c && y) || x) && (!e || !x)) = true) :
    Calls Try.prog 5 #[.agg #[.string al, .string ah], .agg #[.string bl, .string bh], .string k] w fun e w' => e = .returned (.bool true) ∧ Below w.heap.size w w' := by
  cases x <;> cases y <;> cases z <;> cases m <;> cases c <;> cases e <;> first
    | (exact absurd hlaw (by decide))
    | skip
  all_goals
    clear hlaw
    go_enter Try.func5, Try.ntmps5
    go_upto_region 1 with (fail)
    go_name_world W hW
    have hA : Holds W w.heap.size 23 [.string al, .string ah] := by rw [← hW]; exact holds_past (holds_alloc w _ [_, _]) _
    have hB : Holds W (w.heap.size + 1) 23 [.string bl, .string bh] := by rw [← hW]; simpa using holds_alloc (w.alloc (.cells #[.string al, .string ah] 23)) 23 [.string bl, .string bh]
    have HB : Below w.heap.size w W := by rw [← hW]; go_grown
    clear hW
    have a0 := fun d os => hA.grown d os 0
    have a1 := fun d os => hA.grown d os 1
    have b0 := fun d os => hB.grown d os 0
    have b1 := fun d os => hB.grown d os 1
    simp only [List.getElem?_cons_zero, List.getElem?_cons_succ] at a0 a1 b0 b1
    refine wp_region_quiet_below (by kernel_rfl) (by kernel_rfl) ?_
    repeat go_big_quiet_step (first
      | (go_at_call 10; with_reducible exact calls_regrown fun W _ => hC.ha W)
      | (go_at_call 10; with_reducible exact calls_regrown fun W _ => hC.hb W))
    refine wpQuiet_nil ?_
    intro w1 hw'
    have hb1 := below_of_regrown hw'
    have hA1 := hA.below hb1 hA.lt
    have hB1 := hB.below hb1 hB.lt
    have HB1 := below_next HB hb1
    clear hw' a0 a1 b0 b1 hA hB HB hb1
    go_upto_region 2 with (fail)
    have a0 := fun d os => hA1.grown d os 0
    have a1 := fun d os => hA1.grown d os 1
    have b0 := fun d os => hB1.grown d os 0
    have b1 := fun d os => hB1.grown d os 1
    simp only [List.getElem?_cons_zero, List.getElem?_cons_succ] at a0 a1 b0 b1
    refine wp_region_seq_below ?_
    repeat go_big_quiet_step (first
      | (go_at_call 14; with_reducible exact calls_regrown fun W _ => both_any _ _ _ _ W)
      | (go_at_call 10; with_reducible exact calls_regrown fun W _ => hC.hz W)
      | (go_at_call 12; with_reducible exact calls_regrown fun W _ => hC.hm W)
      | (go_at_call 13; with_reducible exact calls_regrown fun W _ => hC.hc W)
      | (go_at_call 11; with_reducible exact calls_regrown fun W _ => hC.he W))
    refine wpQuiet_nil ?_
    intro w2 hw'
    have hb1 := below_of_regrown hw'
    have hA2 := hA1.below hb1 hA1.lt
    have HB2 := below_next HB1 hb1
    clear hw' a0 a1 b0 b1 hA1 hB1 HB1 hb1
    go_upto_region 4 with (fail)
    have a0 := fun d os => hA2.grown d os 0
    have a1 := fun d os => hA2.grown d os 1
    simp only [List.getElem?_cons_zero, List.getElem?_cons_succ] at a0 a1
    refine wp_region_quiet_below (by kernel_rfl) (by kernel_rfl) ?_
    repeat go_big_quiet_step (first
      | (go_at_call 8; with_reducible exact calls_regrown fun W _ => hC.ho W)
      | (go_at_call 10; with_reducible exact calls_regrown fun W _ => hC.h1 W)
      | (go_at_call 12; with_reducible exact calls_regrown fun W _ => hC.h2 W)
      | (go_at_call 13; with_reducible exact calls_regrown fun W _ => hC.h3 W)
      | (go_at_call 3; with_reducible exact calls_regrown fun W _ => spanRuns_any W))
    refine wpQuiet_nil ?_
    intro w3 hw'
    have HB3 := below_next HB2 (below_of_regrown hw')
    clear hw'
    go_wp2
    go_ret
    exact ⟨rfl, HB3⟩

theorem spanKeys_any (al ah bl bh k : ByteArray) (w : World) (_ : al.size ≤ maxLen) (_ : ah.size ≤ maxLen) (_ : bl.size ≤ maxLen) (_ : bh.size ≤ maxLen) (hk : k.size ≤ reachBytes) :
    Calls Try.prog 5 #[.agg #[.string al, .string ah], .agg #[.string bl, .string bh], .string k] w fun e w' => e = .returned (.bool true) ∧ Below w.heap.size w w' := by
  refine keys_core al ah bl bh k (SpanP.has al ah k) (SpanP.has bl bh k) (SpanP.has (Lib.maxS al bl) (SpanP.bothHi ah bh) k) (SpanP.meets al ah bl bh) (SpanP.covers al ah bl bh) (SpanP.empty al ah) w ?_ ?_
  · exact ⟨has_any _ _ _, has_any _ _ _, has_any _ _ _, meets_any _ _ _ _, covers_any _ _ _ _, empty_any _ _, fun W => of_any k W hk, fun W => by rw [← SpanP.l_own k]; exact has_any _ _ _ W, fun W => by rw [← SpanP.l_meets_of]; exact meets_any _ _ _ _ W, fun W => by rw [← SpanP.l_covers_of]; exact covers_any _ _ _ _ W⟩
  · rw [SpanP.l_both]
    have h1 := SpanP.l_share al ah bl bh k
    have h2 := SpanP.l_cov al ah bl bh k
    have h3 := SpanP.l_none al ah k
    cases hx : SpanP.has al ah k <;> cases hy : SpanP.has bl bh k <;> cases hm : SpanP.meets al ah bl bh <;> cases hc : SpanP.covers al ah bl bh <;> cases he : SpanP.empty al ah <;> simp_all
end Go.Proofs.Ytonnidebpbnpaaa
