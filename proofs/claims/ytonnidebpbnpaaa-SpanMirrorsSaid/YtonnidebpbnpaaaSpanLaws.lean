/-
  The walks of the laws of layer 4.
-/
import Derived.Test.YtonnidebpbnpaaaSpanRunsW
import Derived.Lib.ItoaWalk
import Derived.Test.YtonnidebpbnpaaaSpanPlain
namespace Go.Proofs.Ytonnidebpbnpaaa
open Go.RowKit

theorem holds_past {w : World} {g e : Nat} {L : List Value} (h : Holds w g e L) (o : Obj) : Holds (w.alloc o) g e L := by
  have := h.lt
  exact h.below (B := w.heap.size) ((Below.refl _ _).alloc (Nat.le_refl _) o) this
theorem three_boxes (w : World) (e : Nat) (A B C : List Value) :
    Holds (((w.alloc (.cells A.toArray e)).alloc (.cells B.toArray e)).alloc (.cells C.toArray e)) w.heap.size e A ∧
    Holds (((w.alloc (.cells A.toArray e)).alloc (.cells B.toArray e)).alloc (.cells C.toArray e)) (w.heap.size + 1) e B ∧
    Holds (((w.alloc (.cells A.toArray e)).alloc (.cells B.toArray e)).alloc (.cells C.toArray e)) (w.heap.size + 2) e C ∧
    Below w.heap.size w (((w.alloc (.cells A.toArray e)).alloc (.cells B.toArray e)).alloc (.cells C.toArray e)) := by
  refine ⟨holds_past (holds_past (holds_alloc w e A) _) _, holds_past ?_ _, ?_, by go_grown⟩
  · simpa using holds_alloc (w.alloc (.cells A.toArray e)) e B
  · simpa using holds_alloc ((w.alloc (.cells A.toArray e)).alloc (.cells B.toArray e)) e C

set_option maxHeartbeats 8000000 in
theorem tells_any (al ah bl bh k : ByteArray) (w : World) (hk : k.size ≤ 140737488351232)
    (l1 : SpanP.refEmpty al ah = SpanP.empty al ah) (l2 : SpanP.refMeets al ah bl bh = SpanP.meets al ah bl bh) (l3 : SpanP.refCovers al ah bl bh = SpanP.covers al ah bl bh) :
    Calls Try.prog 4 #[.agg #[.string al, .string ah], .agg #[.string bl, .string bh], .string k] w fun e w' => e = .returned (.bool true) ∧ Below w.heap.size w w' := by
  have hmx := fun W => Lib.run_max_strs (P := Try.prog) W #[9, 9] 9 al bl
  have k15 := fun W => refempty_any al ah W
  have k17 := fun W => refmeets_any al ah bl bh W
  have k18 := fun W => refcovers_any al ah bl bh W
  simp only [l1] at k15
  simp only [l2] at k17
  simp only [l3] at k18
  have k8 := fun W => of_any k W hk
  simp only [SpanP.succ] at k8
  have K8 := Lib.hid k8; have K15 := Lib.hid k15; have K17 := Lib.hid k17; have K18 := Lib.hid k18
  clear k8 k15 k17 k18 l1 l2 l3
  have hk1 : k.size + 1 ≤ 9223372036854775807 := by omega
  go_enter Try.func4, Try.ntmps4
  go_upto_region 4 with (fail)
  all_goals
    go_name_world W hW
    obtain ⟨X, hX, hC⟩ : ∃ X, X = SpanP.bothHi ah bh ∧ Holds W (w.heap.size + 2) 23 [.string (Lib.maxS al bl), .string X] := by
      refine ⟨_, ?_, by rw [← hW]; exact (three_boxes w 23 _ _ [_, _]).2.2.1⟩
      simp_all [SpanP.bothHi, SpanP.emp, SpanP.lt]
    have hA : Holds W w.heap.size 23 [.string al, .string ah] := by rw [← hW]; exact (three_boxes w 23 [_, _] _ _).1
    have hB : Holds W (w.heap.size + 1) 23 [.string bl, .string bh] := by rw [← hW]; exact (three_boxes w 23 _ [_, _] _).2.1
    have HB : Below w.heap.size w W := by rw [← hW]; exact (three_boxes w 23 _ _ _).2.2.2
    subst hX
    clear hW
    have a0 := fun d os => hA.grown d os 0
    have a1 := fun d os => hA.grown d os 1
    have b0 := fun d os => hB.grown d os 0
    have b1 := fun d os => hB.grown d os 1
    have c0 := fun d os => hC.grown d os 0
    have c1 := fun d os => hC.grown d os 1
    simp only [List.getElem?_cons_zero, List.getElem?_cons_succ] at a0 a1 b0 b1 c0 c1
    refine wp_region_quiet_below (by kernel_rfl) (by kernel_rfl) ?_
    repeat go_big_quiet_step (first
      | (go_at_call 8; with_reducible exact calls_regrown fun W _ => K8.out W)
      | (go_at_call 11; with_reducible exact calls_regrown fun W _ => empty_any _ _ W)
      | (go_at_call 15; with_reducible exact calls_regrown fun W _ => K15.out W)
      | (go_at_call 10; with_reducible exact calls_regrown fun W _ => has_any _ _ _ W)
      | (go_at_call 16; with_reducible exact calls_regrown fun W _ => refhas_any _ _ _ W)
      | (go_at_call 12; with_reducible exact calls_regrown fun W _ => meets_any _ _ _ _ W)
      | (go_at_call 17; with_reducible exact calls_regrown fun W _ => K17.out W)
      | (go_at_call 13; with_reducible exact calls_regrown fun W _ => covers_any _ _ _ _ W)
      | (go_at_call 18; with_reducible exact calls_regrown fun W _ => K18.out W)
      | (go_at_call 14; with_reducible exact calls_regrown fun W _ => both_any _ _ _ _ W)
      | (go_at_call 3; with_reducible exact calls_regrown fun W _ => spanRuns_any W))
    refine wpQuiet_nil ?_
    intro w' hw'
    have hbw := below_next HB (below_of_regrown hw')
    clear hw'
    go_wp2
    go_ret
    exact ⟨rfl, hbw⟩

theorem spanTells_any (al ah bl bh k : ByteArray) (w : World) (_ : al.size ≤ maxLen) (_ : ah.size ≤ maxLen) (_ : bl.size ≤ maxLen) (_ : bh.size ≤ maxLen) (hk : k.size ≤ reachBytes) :
    Calls Try.prog 4 #[.agg #[.string al, .string ah], .agg #[.string bl, .string bh], .string k] w fun e w' => e = .returned (.bool true) ∧ Below w.heap.size w w' :=
  tells_any al ah bl bh k w hk (SpanP.l_empty _ _) (SpanP.l_meets _ _ _ _) (SpanP.l_covers _ _ _ _)
end Go.Proofs.Ytonnidebpbnpaaa
