/-
  The law's own small functions: at, of, attr, light.
-/
import Derived.Test.YtleagecocffihaaIfAttrW
import Derived.Test.YtleagecocffihaaIfPruneW
import Derived.Test.YtleagecocffihaaIfLenW
namespace Go.Proofs.Ytleagecocffihaa
open Go.RowKit Go.Maps
set_option linter.unusedVariables false
set_option linter.unusedSimpArgs false

set_option maxRecDepth 4000 in
set_option maxHeartbeats 1000000 in
theorem at_any (r s : Int) (w : World) : Calls Try.prog 10 #[.int .i64 r, .int .i64 s] w fun e w' => e = .returned (.agg #[.int .i64 r, .int .i64 s]) ∧ Below w.heap.size w w' := by
  go_enter Try.func10, Try.ntmps10
  go_wp2_with fail
  exact bodyPost_ret (v := .agg #[.int .i64 r, .int .i64 s]) (by simp [results, Try.results10, go_sem]) rfl ⟨rfl, by go_grown⟩
set_option maxRecDepth 4000 in
set_option maxHeartbeats 1000000 in
theorem of_cmd (k c : Int) (a : ByteArray) (w : World) : Calls Try.prog 11 #[.int .i64 k, .int .i64 c, .string a] w fun e w' => e = .returned (.agg #[.int .i64 k, .int .i64 c, .int .i64 1, .string a, .string ⟨#[]⟩, .string ⟨#[]⟩, .string ⟨#[]⟩]) ∧ Below w.heap.size w w' := by
  go_enter Try.func11, Try.ntmps11
  go_wp2_with fail
  exact bodyPost_ret (v := .agg #[.int .i64 k, .int .i64 c, .int .i64 1, .string a, .string ⟨#[]⟩, .string ⟨#[]⟩, .string ⟨#[]⟩]) (by simp [results, Try.results11, go_sem]) rfl ⟨rfl, by go_grown⟩
/-- The box of attr. -/
structure Ra (w wr : World) (gs n g1 g2 : Nat) (V : Nat → Int) (q : Int) (dd : Nat → Int) : Prop where
  bel : Below w.heap.size w wr
  sl : ∀ i, i < n → wr.cell? ⟨gs, i, none⟩ = some (.int .i64 (V i))
  h1 : Holds wr g1 34 (attL 0 fun _ => 0)
  h2 : Holds wr g2 34 (attL q dd)
  lo : w.heap.size ≤ g1 ∧ w.heap.size ≤ g2
  ne : gs ≠ g2 ∧ g1 ≠ g2
set_option maxRecDepth 4000 in
set_option maxHeartbeats 2000000 in
theorem attr_lit (gs n : Nat) (V : Nat → Int) (q : Int) (w : World) (hn : n ≤ 7) (hgs : gs < w.heap.size) (hs : ∀ i, i < n → w.cell? ⟨gs, i, none⟩ = some (.int .i64 (V i))) :
    Calls Try.prog 14 #[.int .i64 q, .slice (some ⟨gs, 0, none⟩) n n] w fun e w' => e = .returned (.agg (attL q fun j => if j < n then V j else 0).toArray) ∧ Below w.heap.size w w' := by
  go_enter Try.func14, Try.ntmps14
  go_upto_region 2 with (fail)
  go_name_world W hW
  have hB : Below w.heap.size w W := by rw [← hW]; go_grown
  have h1 : Holds W w.heap.size 34 (attL 0 fun _ => 0) := by rw [← hW]; exact holds_past (holds_alloc w _ (attL 0 fun _ => 0)) _
  have h2 : Holds W (w.heap.size + 1) 34 (attL q fun _ => 0) := by
    rw [← hW]
    have := holds_alloc (w.alloc (.cells (attL 0 fun _ => 0).toArray 34)) 34 (attL q fun _ => 0)
    rw [World.size_alloc] at this
    exact this
  have HR := Lib.hid (show Ra w W gs n w.heap.size (w.heap.size + 1) V q (fun j => if j < 0 then V j else 0) from ⟨hB, fun i hi => (hB.cell (p := ⟨gs, i, none⟩) hgs).trans (hs i hi), h1, h2, ⟨by omega, by omega⟩, ⟨by omega, by omega⟩⟩)
  clear hW hB h1 h2 hs
  generalize w.heap.size + 1 = g2 at HR ⊢
  generalize hg1 : w.heap.size = g1 at HR ⊢
  clear hg1
  go_wp2_with fail
  go_loopw [6] (fun i wr => ∃ j : Nat, j ≤ n ∧ i = .int .i64 j ∧ Ra w wr gs n g1 g2 V q (fun t => if t < j then V t else 0)) (fun i _ => n - (intOf i).toNat)
  case atStart => exact ⟨0, by omega, rfl, HR.out⟩
  case round =>
    clear HR
    obtain ⟨j, hj, rfl, hr⟩ := hrel
    have HR := Lib.hid hr; clear hr
    by_cases hjn : j < n
    · have sj := HR.out.sl j hjn
      have dj := HR.out.h2.cell (1 + j)
      rw [show attL q (fun t => if t < j then V t else 0) = Value.int .i64 q :: cutL (fun t => if t < j then V t else 0) from rfl, cut_get _ _ _ (by omega)] at dj
      have df := HR.out.h2.free (1 + j)
      have hS := HR.out.h2.set (1 + j) (.int .i64 (V j))
      rw [att_set _ _ _ (by omega)] at hS
      have hfn : (fun t => if t = j then V j else if t < j then V t else 0) = fun t => if t < j + 1 then V t else 0 := by
        funext t
        by_cases h1 : t = j
        · rw [if_pos h1, if_pos (by omega), h1]
        · rw [if_neg h1]
          by_cases h2 : t < j
          · rw [if_pos h2, if_pos (by omega)]
          · rw [if_neg h2, if_neg (by omega)]
      rw [hfn] at hS
      have HS := Lib.hid hS; clear hS hfn
      have hj7 : j < 7 := by omega
      go_wp2_with fail
      go_roundw
      case rel =>
        have hT := (Touch.refl g2 wr).setCell (1 + j) (.int .i64 (V j))
        exact ⟨j + 1, by omega, by go_num, HR.out.bel.trans (hT.below HR.out.lo.2 HR.out.bel.size), fun i hi => (World.cell?_of_block (hT.block gs (by have := HR.out.bel.size; omega) HR.out.ne.1)).trans (HR.out.sl i hi), HR.out.h1.touch hT HR.out.ne.2, HS.out, HR.out.lo, HR.out.ne⟩
      case measure => simp [intOf]; omega
    · have hjn2 : j = n := by omega
      subst hjn2
      obtain ⟨dd, hdd⟩ : ∃ dd : Nat → Int, dd = fun t => if t < j then V t else 0 := ⟨_, rfl⟩
      have HD := Lib.hid hdd
      have HR := Lib.hid (show Ra w wr gs j g1 g2 V q dd by rw [hdd]; exact HR.out)
      clear hdd
      have a0 := HR.out.h2.cell 0
      have a1 := HR.out.h2.cell 1
      have a2 := HR.out.h2.cell 2
      have a3 := HR.out.h2.cell 3
      have a4 := HR.out.h2.cell 4
      have a5 := HR.out.h2.cell 5
      have a6 := HR.out.h2.cell 6
      have a7 := HR.out.h2.cell 7
      have r0 := HR.out.h1.cell 0
      have r1 := HR.out.h1.cell 1
      have r2 := HR.out.h1.cell 2
      have r3 := HR.out.h1.cell 3
      have r4 := HR.out.h1.cell 4
      have r5 := HR.out.h1.cell 5
      have r6 := HR.out.h1.cell 6
      have r7 := HR.out.h1.cell 7
      simp only [attL, cutL, List.getElem?_cons_zero, List.getElem?_cons_succ] at a0 a1 a2 a3 a4 a5 a6 a7 r0 r1 r2 r3 r4 r5 r6 r7
      have rf := fun i => HR.out.h1.free i
      have hne := HR.out.ne.2
      have hT := (((((((((Touch.refl g1 wr).setCell 0 (.int .i64 q)).setCell 1 (.int .i64 (dd 0))).setCell 2 (.int .i64 (dd 1))).setCell 3 (.int .i64 (dd 2))).setCell 4 (.int .i64 (dd 3))).setCell 5 (.int .i64 (dd 4))).setCell 6 (.int .i64 (dd 5))).setCell 7 (.int .i64 (dd 6)))
      have hS := ((((((((HR.out.h1.set 0 (.int .i64 q)).set 1 (.int .i64 (dd 0))).set 2 (.int .i64 (dd 1))).set 3 (.int .i64 (dd 2))).set 4 (.int .i64 (dd 3))).set 5 (.int .i64 (dd 4))).set 6 (.int .i64 (dd 5))).set 7 (.int .i64 (dd 6)))
      simp only [attL, cutL, List.set_cons_zero, List.set_cons_succ] at hS
      have hB := HR.out.bel.trans (hT.below HR.out.lo.1 HR.out.bel.size)
      have HS := Lib.hid hS; have HB := Lib.hid hB; clear hS hB hT
      go_wp2_with fail
      have hS := HS.out
      have y0 := hS.cell 0
      have y1 := hS.cell 1
      have y2 := hS.cell 2
      have y3 := hS.cell 3
      have y4 := hS.cell 4
      have y5 := hS.cell 5
      have y6 := hS.cell 6
      have y7 := hS.cell 7
      simp only [List.getElem?_cons_zero, List.getElem?_cons_succ] at y0 y1 y2 y3 y4 y5 y6 y7
      exact bodyPost_ret (v := .agg (attL q dd).toArray) (by simp [results, Try.results14, go_sem, y0, y1, y2, y3, y4, y5, y6, y7, attL, cutL]) rfl ⟨by rw [HD.out], HB.out⟩
end Go.Proofs.Ytleagecocffihaa
