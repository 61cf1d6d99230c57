/-
  The walk of QuorumSizes.
-/
import Derived.Test.YtmpefdepcbfcdaaQuRunsW
namespace Go.Proofs.Ytmpefdepcbfcdaa
open Go.RowKit
set_option linter.unusedVariables false
set_option linter.unusedSimpArgs false

def rightI (r s : Int) : Bool := decide (0 ≤ r) && (decide (r < 7) && (decide (1 ≤ s) && decide (s ≤ 1073741824)))
def noopA (r s : Int) : At := if rightI r s = true then ⟨0, fun i => if i = r.toNat then s - 1 else 0⟩ else At.of 0
theorem noop_set (k : Nat) (s : Int) (hk : k < 7) (h : rightI k s = true) : (At.of 0).cells.set (1 + k) (.int .i64 (s - 1)) = (noopA k s).cells := by
  unfold noopA
  rw [if_pos h]
  rcases (show k = 0 ∨ k = 1 ∨ k = 2 ∨ k = 3 ∨ k = 4 ∨ k = 5 ∨ k = 6 by omega) with rfl | rfl | rfl | rfl | rfl | rfl | rfl <;> rfl
theorem zero_get (k : Nat) (hk : k < 7) : (At.of 0).cells[1 + k]? = some (.int .i64 0) := by
  rcases (show k = 0 ∨ k = 1 ∨ k = 2 ∨ k = 3 ∨ k = 4 ∨ k = 5 ∨ k = 6 by omega) with rfl | rfl | rfl | rfl | rfl | rfl | rfl <;> rfl
theorem rightI_cases (r s : Int) : (¬ 0 ≤ r ∧ rightI r s = false) ∨ (0 ≤ r ∧ ¬ r < 7 ∧ rightI r s = false) ∨ (0 ≤ r ∧ r < 7 ∧ ¬ 1 ≤ s ∧ rightI r s = false) ∨ (0 ≤ r ∧ r < 7 ∧ 1 ≤ s ∧ ¬ s ≤ 1073741824 ∧ rightI r s = false) ∨ (0 ≤ r ∧ r < 7 ∧ 1 ≤ s ∧ s ≤ 1073741824 ∧ rightI r s = true) := by
  unfold rightI
  by_cases h1 : 0 ≤ r
  · by_cases h2 : r < 7
    · by_cases h3 : 1 ≤ s
      · by_cases h4 : s ≤ 1073741824
        · exact .inr (.inr (.inr (.inr ⟨h1, h2, h3, h4, by simp [h1, h2, h3, h4]⟩)))
        · exact .inr (.inr (.inr (.inl ⟨h1, h2, h3, h4, by simp [h4]⟩)))
      · exact .inr (.inr (.inl ⟨h1, h2, h3, by simp [h3]⟩))
    · exact .inr (.inl ⟨h1, h2, by simp [h2]⟩)
  · exact .inl ⟨h1, by simp [h1]⟩
theorem right_inst (r s : Int) (w : World) : Calls Try.prog 41 #[.agg #[.int .i64 r, .int .i64 s]] w fun e w' => e = .returned (.bool (rightI r s)) ∧ Below w.heap.size w w' := by
  rcases rightI_cases r s with ⟨h1, hb⟩ | ⟨h1, h2, hb⟩ | ⟨h1, h2, h3, hb⟩ | ⟨h1, h2, h3, h4, hb⟩ | ⟨h1, h2, h3, h4, hb⟩
  all_goals
    rw [hb]
    clear hb
    go_enter Try.func41, Try.ntmps41
    go_wp2_with fail
    go_ret
    exact ⟨rfl, by go_grown⟩
set_option maxRecDepth 4000 in
set_option maxHeartbeats 2000000 in
theorem noop_any (r s : Int) (w : World) : Calls Try.prog 30 #[.agg #[.int .i64 r, .int .i64 s]] w fun e w' => e = .returned (.agg (noopA r s).cells.toArray) ∧ Below w.heap.size w w' := by
  obtain ⟨A, hA⟩ : ∃ A, A = noopA r s := ⟨_, rfl⟩
  rw [← hA]
  have HA0 := Lib.hid hA; clear hA
  go_enter Try.func30, Try.ntmps30
  have hjx : Jx w (((w.alloc (.cells #[.int .i64 r, .int .i64 s] 65)).alloc (.cells #[.int .i64 0, .int .i64 0, .int .i64 0, .int .i64 0, .int .i64 0, .int .i64 0, .int .i64 0, .int .i64 0] 26)).alloc (.cells #[.int .i64 0, .int .i64 0, .int .i64 0, .int .i64 0, .int .i64 0, .int .i64 0, .int .i64 0, .int .i64 0] 26)) (w.heap.size + 1) (w.heap.size + 1 + 1) (At.of 0) := by
    refine ⟨by go_grown, holds_past ?_ _, ?_, by omega, by omega, by omega⟩
    · have := holds_alloc (w.alloc (.cells #[.int .i64 r, .int .i64 s] 65)) 26 (At.of 0).cells
      rw [World.size_alloc] at this
      exact this
    · have := holds_alloc ((w.alloc (.cells #[.int .i64 r, .int .i64 s] 65)).alloc (.cells (At.of 0).cells.toArray 26)) 26 (At.of 0).cells
      rw [World.size_alloc, World.size_alloc] at this
      exact this
  have hi : Holds (((w.alloc (.cells #[.int .i64 r, .int .i64 s] 65)).alloc (.cells #[.int .i64 0, .int .i64 0, .int .i64 0, .int .i64 0, .int .i64 0, .int .i64 0, .int .i64 0, .int .i64 0] 26)).alloc (.cells #[.int .i64 0, .int .i64 0, .int .i64 0, .int .i64 0, .int .i64 0, .int .i64 0, .int .i64 0, .int .i64 0] 26)) w.heap.size 65 [.int .i64 r, .int .i64 s] := holds_past (holds_past (holds_alloc w _ _) _) _
  have HJ0 := Lib.hid hjx; have HI0 := Lib.hid hi; clear hjx hi
  go_wp2_with fail
  refine (right_inst r s _).mono ?_
  rintro e w1 ⟨rfl, hb⟩
  have HI := Lib.hid (HI0.out.below hb HI0.out.lt)
  have HJ := Lib.hid (HJ0.out.below hb)
  clear hb HI0 HJ0
  have i0 := HI.out.cell 0
  have i1 := HI.out.cell 1
  simp only [List.getElem?_cons_zero, List.getElem?_cons_succ] at i0 i1
  have hn1 : ¬ w.heap.size = w.heap.size + 1 := by omega
  generalize w.heap.size = g1 at HJ HI i0 i1 hn1
  generalize g1 + 1 = g2 at HJ hn1 ⊢
  generalize g2 + 1 = g3 at HJ ⊢
  cases hr : rightI r s
  · have HA := Lib.hid (show A = At.of 0 by rw [HA0.out, noopA, if_neg (by rw [hr]; simp)])
    clear HA0 hr
    go_upto_region 4 with (fail)
    obtain ⟨A', hA'⟩ : ∃ A', A' = At.of 0 := ⟨_, rfl⟩
    have HA := Lib.hid (show A = A' by rw [HA.out, hA'])
    have HJ := Lib.hid (show Jx w w1 g2 g3 A' by rw [hA']; exact HJ.out)
    clear hA'
    go_name_world W4 hW4
    have hj := HJ.out
    rw [hW4] at hj
    clear hW4 HJ
    have a0 := hj.a.cell 0
    have a1 := hj.a.cell 1
    have a2 := hj.a.cell 2
    have a3 := hj.a.cell 3
    have a4 := hj.a.cell 4
    have a5 := hj.a.cell 5
    have a6 := hj.a.cell 6
    have a7 := hj.a.cell 7
    have u0 := hj.z.cell 0
    have u1 := hj.z.cell 1
    have u2 := hj.z.cell 2
    have u3 := hj.z.cell 3
    have u4 := hj.z.cell 4
    have u5 := hj.z.cell 5
    have u6 := hj.z.cell 6
    have u7 := hj.z.cell 7
    simp only [At.cells, At.of, List.getElem?_cons_zero, List.getElem?_cons_succ] at a0 a1 a2 a3 a4 a5 a6 a7 u0 u1 u2 u3 u4 u5 u6 u7
    have uf := fun i => hj.z.free i
    have hne := hj.ne
    have HJ := Lib.hid hj; clear hj
    go_wp2_with fail
    clear a0 a1 a2 a3 a4 a5 a6 a7 u0 u1 u2 u3 u4 u5 u6 u7 uf
    have t1 := ((((((((Touch.refl g2 W4).setCell 0 (.int .i64 A'.q)).setCell 1 (.int .i64 (A'.d 0))).setCell 2 (.int .i64 (A'.d 1))).setCell 3 (.int .i64 (A'.d 2))).setCell 4 (.int .i64 (A'.d 3))).setCell 5 (.int .i64 (A'.d 4))).setCell 6 (.int .i64 (A'.d 5))).setCell 7 (.int .i64 (A'.d 6))
    have s1 := ((((((((HJ.out.z).set 0 (.int .i64 A'.q)).set 1 (.int .i64 (A'.d 0))).set 2 (.int .i64 (A'.d 1))).set 3 (.int .i64 (A'.d 2))).set 4 (.int .i64 (A'.d 3))).set 5 (.int .i64 (A'.d 4))).set 6 (.int .i64 (A'.d 5))).set 7 (.int .i64 (A'.d 6))
    simp only [At.cells, At.of, List.set_cons_succ, List.set_cons_zero] at s1
    have b1 := HJ.out.bel.trans (t1.below HJ.out.ge HJ.out.bel.size)
    generalize ((((((((W4.setCell ⟨g2, 0, none⟩ (.int .i64 A'.q)).setCell ⟨g2, 1, none⟩ (.int .i64 (A'.d 0))).setCell ⟨g2, 2, none⟩ (.int .i64 (A'.d 1))).setCell ⟨g2, 3, none⟩ (.int .i64 (A'.d 2))).setCell ⟨g2, 4, none⟩ (.int .i64 (A'.d 3))).setCell ⟨g2, 5, none⟩ (.int .i64 (A'.d 4))).setCell ⟨g2, 6, none⟩ (.int .i64 (A'.d 5))).setCell ⟨g2, 7, none⟩ (.int .i64 (A'.d 6))) = W3 at s1 b1 ⊢
    have y0 := s1.cell 0
    have y1 := s1.cell 1
    have y2 := s1.cell 2
    have y3 := s1.cell 3
    have y4 := s1.cell 4
    have y5 := s1.cell 5
    have y6 := s1.cell 6
    have y7 := s1.cell 7
    simp only [List.getElem?_cons_zero, List.getElem?_cons_succ] at y0 y1 y2 y3 y4 y5 y6 y7
    exact bodyPost_ret (v := .agg A'.cells.toArray) (by simp [results, Try.results30, go_sem, y0, y1, y2, y3, y4, y5, y6, y7, At.cells]) rfl ⟨by rw [HA.out], b1⟩
  · have hr2 : 0 ≤ r ∧ r < 7 ∧ 1 ≤ s ∧ s ≤ 1073741824 := by simp [rightI] at hr; omega
    obtain ⟨h1, h2, h3, h4⟩ := hr2
    obtain ⟨k, rfl⟩ : ∃ k : Nat, r = k := ⟨r.toNat, by omega⟩
    have hk7 : k < 7 := by omega
    have hcell := HJ.out.a.cell (1 + k)
    rw [zero_get k hk7] at hcell
    have hfree := HJ.out.a.free (1 + k)
    have HS := Lib.hid (HJ.out.set (a' := noopA k s) (1 + k) (.int .i64 (s - 1)) (noop_set k s hk7 hr))
    clear hr
    go_upto_region 4 with (fail)
    clear hcell hfree
    obtain ⟨A', hA'⟩ : ∃ A', A' = noopA k s := ⟨_, rfl⟩
    have HA := Lib.hid (show A = A' by rw [HA0.out, hA'])
    have hs := HS.out
    rw [← hA'] at hs
    have HJ := Lib.hid hs
    clear hA' HS hs
    go_name_world W4 hW4
    have hj := HJ.out
    rw [hW4] at hj
    clear hW4 HJ
    have a0 := hj.a.cell 0
    have a1 := hj.a.cell 1
    have a2 := hj.a.cell 2
    have a3 := hj.a.cell 3
    have a4 := hj.a.cell 4
    have a5 := hj.a.cell 5
    have a6 := hj.a.cell 6
    have a7 := hj.a.cell 7
    have u0 := hj.z.cell 0
    have u1 := hj.z.cell 1
    have u2 := hj.z.cell 2
    have u3 := hj.z.cell 3
    have u4 := hj.z.cell 4
    have u5 := hj.z.cell 5
    have u6 := hj.z.cell 6
    have u7 := hj.z.cell 7
    simp only [At.cells, At.of, List.getElem?_cons_zero, List.getElem?_cons_succ] at a0 a1 a2 a3 a4 a5 a6 a7 u0 u1 u2 u3 u4 u5 u6 u7
    have uf := fun i => hj.z.free i
    have hne := hj.ne
    have HJ := Lib.hid hj; clear hj
    go_wp2_with fail
    clear a0 a1 a2 a3 a4 a5 a6 a7 u0 u1 u2 u3 u4 u5 u6 u7 uf
    have t1 := ((((((((Touch.refl g2 W4).setCell 0 (.int .i64 A'.q)).setCell 1 (.int .i64 (A'.d 0))).setCell 2 (.int .i64 (A'.d 1))).setCell 3 (.int .i64 (A'.d 2))).setCell 4 (.int .i64 (A'.d 3))).setCell 5 (.int .i64 (A'.d 4))).setCell 6 (.int .i64 (A'.d 5))).setCell 7 (.int .i64 (A'.d 6))
    have s1 := ((((((((HJ.out.z).set 0 (.int .i64 A'.q)).set 1 (.int .i64 (A'.d 0))).set 2 (.int .i64 (A'.d 1))).set 3 (.int .i64 (A'.d 2))).set 4 (.int .i64 (A'.d 3))).set 5 (.int .i64 (A'.d 4))).set 6 (.int .i64 (A'.d 5))).set 7 (.int .i64 (A'.d 6))
    simp only [At.cells, At.of, List.set_cons_succ, List.set_cons_zero] at s1
    have b1 := HJ.out.bel.trans (t1.below HJ.out.ge HJ.out.bel.size)
    generalize ((((((((W4.setCell ⟨g2, 0, none⟩ (.int .i64 A'.q)).setCell ⟨g2, 1, none⟩ (.int .i64 (A'.d 0))).setCell ⟨g2, 2, none⟩ (.int .i64 (A'.d 1))).setCell ⟨g2, 3, none⟩ (.int .i64 (A'.d 2))).setCell ⟨g2, 4, none⟩ (.int .i64 (A'.d 3))).setCell ⟨g2, 5, none⟩ (.int .i64 (A'.d 4))).setCell ⟨g2, 6, none⟩ (.int .i64 (A'.d 5))).setCell ⟨g2, 7, none⟩ (.int .i64 (A'.d 6))) = W3 at s1 b1 ⊢
    have y0 := s1.cell 0
    have y1 := s1.cell 1
    have y2 := s1.cell 2
    have y3 := s1.cell 3
    have y4 := s1.cell 4
    have y5 := s1.cell 5
    have y6 := s1.cell 6
    have y7 := s1.cell 7
    simp only [List.getElem?_cons_zero, List.getElem?_cons_succ] at y0 y1 y2 y3 y4 y5 y6 y7
    exact bodyPost_ret (v := .agg A'.cells.toArray) (by simp [results, Try.results30, go_sem, y0, y1, y2, y3, y4, y5, y6, y7, At.cells]) rfl ⟨by rw [HA.out], b1⟩
theorem dright_inst (r s : Int) (w : World) : Calls Try.prog 42 #[.agg #[.int .i64 r, .int .i64 s]] w fun e w' => e = .returned (.bool (rightI r s)) ∧ Below w.heap.size w w' := by
  rcases rightI_cases r s with ⟨h1, hb⟩ | ⟨h1, h2, hb⟩ | ⟨h1, h2, h3, hb⟩ | ⟨h1, h2, h3, h4, hb⟩ | ⟨h1, h2, h3, h4, hb⟩
  all_goals
    rw [hb]
    clear hb
    go_enter Try.func42, Try.ntmps42
    go_wp2_with fail
    go_ret
    exact ⟨rfl, by go_grown⟩
set_option maxRecDepth 4000 in
set_option maxHeartbeats 2000000 in
theorem dnoop_any (r s : Int) (w : World) : Calls Try.prog 31 #[.agg #[.int .i64 r, .int .i64 s]] w fun e w' => e = .returned (.agg (noopA r s).cells.toArray) ∧ Below w.heap.size w w' := by
  obtain ⟨A, hA⟩ : ∃ A, A = noopA r s := ⟨_, rfl⟩
  rw [← hA]
  have HA0 := Lib.hid hA; clear hA
  go_enter Try.func31, Try.ntmps31
  have hjx : Jx w (((w.alloc (.cells #[.int .i64 r, .int .i64 s] 65)).alloc (.cells #[.int .i64 0, .int .i64 0, .int .i64 0, .int .i64 0, .int .i64 0, .int .i64 0, .int .i64 0, .int .i64 0] 26)).alloc (.cells #[.int .i64 0, .int .i64 0, .int .i64 0, .int .i64 0, .int .i64 0, .int .i64 0, .int .i64 0, .int .i64 0] 26)) (w.heap.size + 1) (w.heap.size + 1 + 1) (At.of 0) := by
    refine ⟨by go_grown, holds_past ?_ _, ?_, by omega, by omega, by omega⟩
    · have := holds_alloc (w.alloc (.cells #[.int .i64 r, .int .i64 s] 65)) 26 (At.of 0).cells
      rw [World.size_alloc] at this
      exact this
    · have := holds_alloc ((w.alloc (.cells #[.int .i64 r, .int .i64 s] 65)).alloc (.cells (At.of 0).cells.toArray 26)) 26 (At.of 0).cells
      rw [World.size_alloc, World.size_alloc] at this
      exact this
  have hi : Holds (((w.alloc (.cells #[.int .i64 r, .int .i64 s] 65)).alloc (.cells #[.int .i64 0, .int .i64 0, .int .i64 0, .int .i64 0, .int .i64 0, .int .i64 0, .int .i64 0, .int .i64 0] 26)).alloc (.cells #[.int .i64 0, .int .i64 0, .int .i64 0, .int .i64 0, .int .i64 0, .int .i64 0, .int .i64 0, .int .i64 0] 26)) w.heap.size 65 [.int .i64 r, .int .i64 s] := holds_past (holds_past (holds_alloc w _ _) _) _
  have HJ0 := Lib.hid hjx; have HI0 := Lib.hid hi; clear hjx hi
  go_wp2_with fail
  refine (dright_inst r s _).mono ?_
  rintro e w1 ⟨rfl, hb⟩
  have HI := Lib.hid (HI0.out.below hb HI0.out.lt)
  have HJ := Lib.hid (HJ0.out.below hb)
  clear hb HI0 HJ0
  have i0 := HI.out.cell 0
  have i1 := HI.out.cell 1
  simp only [List.getElem?_cons_zero, List.getElem?_cons_succ] at i0 i1
  have hn1 : ¬ w.heap.size = w.heap.size + 1 := by omega
  generalize w.heap.size = g1 at HJ HI i0 i1 hn1
  generalize g1 + 1 = g2 at HJ hn1 ⊢
  generalize g2 + 1 = g3 at HJ ⊢
  cases hr : rightI r s
  · have HA := Lib.hid (show A = At.of 0 by rw [HA0.out, noopA, if_neg (by rw [hr]; simp)])
    clear HA0 hr
    go_upto_region 4 with (fail)
    obtain ⟨A', hA'⟩ : ∃ A', A' = At.of 0 := ⟨_, rfl⟩
    have HA := Lib.hid (show A = A' by rw [HA.out, hA'])
    have HJ := Lib.hid (show Jx w w1 g2 g3 A' by rw [hA']; exact HJ.out)
    clear hA'
    go_name_world W4 hW4
    have hj := HJ.out
    rw [hW4] at hj
    clear hW4 HJ
    have a0 := hj.a.cell 0
    have a1 := hj.a.cell 1
    have a2 := hj.a.cell 2
    have a3 := hj.a.cell 3
    have a4 := hj.a.cell 4
    have a5 := hj.a.cell 5
    have a6 := hj.a.cell 6
    have a7 := hj.a.cell 7
    have u0 := hj.z.cell 0
    have u1 := hj.z.cell 1
    have u2 := hj.z.cell 2
    have u3 := hj.z.cell 3
    have u4 := hj.z.cell 4
    have u5 := hj.z.cell 5
    have u6 := hj.z.cell 6
    have u7 := hj.z.cell 7
    simp only [At.cells, At.of, List.getElem?_cons_zero, List.getElem?_cons_succ] at a0 a1 a2 a3 a4 a5 a6 a7 u0 u1 u2 u3 u4 u5 u6 u7
    have uf := fun i => hj.z.free i
    have hne := hj.ne
    have HJ := Lib.hid hj; clear hj
    go_wp2_with fail
    clear a0 a1 a2 a3 a4 a5 a6 a7 u0 u1 u2 u3 u4 u5 u6 u7 uf
    have t1 := ((((((((Touch.refl g2 W4).setCell 0 (.int .i64 A'.q)).setCell 1 (.int .i64 (A'.d 0))).setCell 2 (.int .i64 (A'.d 1))).setCell 3 (.int .i64 (A'.d 2))).setCell 4 (.int .i64 (A'.d 3))).setCell 5 (.int .i64 (A'.d 4))).setCell 6 (.int .i64 (A'.d 5))).setCell 7 (.int .i64 (A'.d 6))
    have s1 := ((((((((HJ.out.z).set 0 (.int .i64 A'.q)).set 1 (.int .i64 (A'.d 0))).set 2 (.int .i64 (A'.d 1))).set 3 (.int .i64 (A'.d 2))).set 4 (.int .i64 (A'.d 3))).set 5 (.int .i64 (A'.d 4))).set 6 (.int .i64 (A'.d 5))).set 7 (.int .i64 (A'.d 6))
    simp only [At.cells, At.of, List.set_cons_succ, List.set_cons_zero] at s1
    have b1 := HJ.out.bel.trans (t1.below HJ.out.ge HJ.out.bel.size)
    generalize ((((((((W4.setCell ⟨g2, 0, none⟩ (.int .i64 A'.q)).setCell ⟨g2, 1, none⟩ (.int .i64 (A'.d 0))).setCell ⟨g2, 2, none⟩ (.int .i64 (A'.d 1))).setCell ⟨g2, 3, none⟩ (.int .i64 (A'.d 2))).setCell ⟨g2, 4, none⟩ (.int .i64 (A'.d 3))).setCell ⟨g2, 5, none⟩ (.int .i64 (A'.d 4))).setCell ⟨g2, 6, none⟩ (.int .i64 (A'.d 5))).setCell ⟨g2, 7, none⟩ (.int .i64 (A'.d 6))) = W3 at s1 b1 ⊢
    have y0 := s1.cell 0
    have y1 := s1.cell 1
    have y2 := s1.cell 2
    have y3 := s1.cell 3
    have y4 := s1.cell 4
    have y5 := s1.cell 5
    have y6 := s1.cell 6
    have y7 := s1.cell 7
    simp only [List.getElem?_cons_zero, List.getElem?_cons_succ] at y0 y1 y2 y3 y4 y5 y6 y7
    exact bodyPost_ret (v := .agg A'.cells.toArray) (by simp [results, Try.results31, go_sem, y0, y1, y2, y3, y4, y5, y6, y7, At.cells]) rfl ⟨by rw [HA.out], b1⟩
  · have hr2 : 0 ≤ r ∧ r < 7 ∧ 1 ≤ s ∧ s ≤ 1073741824 := by simp [rightI] at hr; omega
    obtain ⟨h1, h2, h3, h4⟩ := hr2
    obtain ⟨k, rfl⟩ : ∃ k : Nat, r = k := ⟨r.toNat, by omega⟩
    have hk7 : k < 7 := by omega
    have hcell := HJ.out.a.cell (1 + k)
    rw [zero_get k hk7] at hcell
    have hfree := HJ.out.a.free (1 + k)
    have HS := Lib.hid (HJ.out.set (a' := noopA k s) (1 + k) (.int .i64 (s - 1)) (noop_set k s hk7 hr))
    clear hr
    go_upto_region 4 with (fail)
    clear hcell hfree
    obtain ⟨A', hA'⟩ : ∃ A', A' = noopA k s := ⟨_, rfl⟩
    have HA := Lib.hid (show A = A' by rw [HA0.out, hA'])
    have hs := HS.out
    rw [← hA'] at hs
    have HJ := Lib.hid hs
    clear hA' HS hs
    go_name_world W4 hW4
    have hj := HJ.out
    rw [hW4] at hj
    clear hW4 HJ
    have a0 := hj.a.cell 0
    have a1 := hj.a.cell 1
    have a2 := hj.a.cell 2
    have a3 := hj.a.cell 3
    have a4 := hj.a.cell 4
    have a5 := hj.a.cell 5
    have a6 := hj.a.cell 6
    have a7 := hj.a.cell 7
    have u0 := hj.z.cell 0
    have u1 := hj.z.cell 1
    have u2 := hj.z.cell 2
    have u3 := hj.z.cell 3
    have u4 := hj.z.cell 4
    have u5 := hj.z.cell 5
    have u6 := hj.z.cell 6
    have u7 := hj.z.cell 7
    simp only [At.cells, At.of, List.getElem?_cons_zero, List.getElem?_cons_succ] at a0 a1 a2 a3 a4 a5 a6 a7 u0 u1 u2 u3 u4 u5 u6 u7
    have uf := fun i => hj.z.free i
    have hne := hj.ne
    have HJ := Lib.hid hj; clear hj
    go_wp2_with fail
    clear a0 a1 a2 a3 a4 a5 a6 a7 u0 u1 u2 u3 u4 u5 u6 u7 uf
    have t1 := ((((((((Touch.refl g2 W4).setCell 0 (.int .i64 A'.q)).setCell 1 (.int .i64 (A'.d 0))).setCell 2 (.int .i64 (A'.d 1))).setCell 3 (.int .i64 (A'.d 2))).setCell 4 (.int .i64 (A'.d 3))).setCell 5 (.int .i64 (A'.d 4))).setCell 6 (.int .i64 (A'.d 5))).setCell 7 (.int .i64 (A'.d 6))
    have s1 := ((((((((HJ.out.z).set 0 (.int .i64 A'.q)).set 1 (.int .i64 (A'.d 0))).set 2 (.int .i64 (A'.d 1))).set 3 (.int .i64 (A'.d 2))).set 4 (.int .i64 (A'.d 3))).set 5 (.int .i64 (A'.d 4))).set 6 (.int .i64 (A'.d 5))).set 7 (.int .i64 (A'.d 6))
    simp only [At.cells, At.of, List.set_cons_succ, List.set_cons_zero] at s1
    have b1 := HJ.out.bel.trans (t1.below HJ.out.ge HJ.out.bel.size)
    generalize ((((((((W4.setCell ⟨g2, 0, none⟩ (.int .i64 A'.q)).setCell ⟨g2, 1, none⟩ (.int .i64 (A'.d 0))).setCell ⟨g2, 2, none⟩ (.int .i64 (A'.d 1))).setCell ⟨g2, 3, none⟩ (.int .i64 (A'.d 2))).setCell ⟨g2, 4, none⟩ (.int .i64 (A'.d 3))).setCell ⟨g2, 5, none⟩ (.int .i64 (A'.d 4))).setCell ⟨g2, 6, none⟩ (.int .i64 (A'.d 5))).setCell ⟨g2, 7, none⟩ (.int .i64 (A'.d 6))) = W3 at s1 b1 ⊢
    have y0 := s1.cell 0
    have y1 := s1.cell 1
    have y2 := s1.cell 2
    have y3 := s1.cell 3
    have y4 := s1.cell 4
    have y5 := s1.cell 5
    have y6 := s1.cell 6
    have y7 := s1.cell 7
    simp only [List.getElem?_cons_zero, List.getElem?_cons_succ] at y0 y1 y2 y3 y4 y5 y6 y7
    exact bodyPost_ret (v := .agg A'.cells.toArray) (by simp [results, Try.results31, go_sem, y0, y1, y2, y3, y4, y5, y6, y7, At.cells]) rfl ⟨by rw [HA.out], b1⟩
theorem dslow_any (K : Nat) (w : World) (hK : K ≤ 1000) : Calls Try.prog 32 #[.int .i64 K] w fun e w' => e = .returned (.int .i64 ((K / 2 + 1 : Nat) : Int)) ∧ Below w.heap.size w w' := by
  go_enter Try.func32, Try.ntmps32
  go_wp2_with fail
  go_ret
  exact ⟨ret_int (by omega), by go_grown⟩
theorem dfast_any (K : Nat) (w : World) (hK : K ≤ 1000) : Calls Try.prog 34 #[.int .i64 K] w fun e w' => e = .returned (.int .i64 ((K : Int) - 1)) ∧ Below w.heap.size w w' := by
  go_enter Try.func34, Try.ntmps34
  go_wp2_with fail
  go_ret
  exact ⟨ret_int (by omega), by go_grown⟩
theorem fits_any (n : Int) (f : Bool) (w : World) (hf : ((n == 3) = true ∧ f = true) ∨ ((n == 3) = false ∧ (n == 5) = true ∧ f = true) ∨ ((n == 3) = false ∧ (n == 5) = false ∧ (n == 7) = true ∧ f = true) ∨ ((n == 3) = false ∧ (n == 5) = false ∧ (n == 7) = false ∧ f = false)) : Calls Try.prog 29 #[.int .i64 n] w fun e w' => e = .returned (.bool f) ∧ Below w.heap.size w w' := by
  rcases hf with ⟨h1, rfl⟩ | ⟨h1, h2, rfl⟩ | ⟨h1, h2, h3, rfl⟩ | ⟨h1, h2, h3, rfl⟩
  all_goals
    go_enter Try.func29, Try.ntmps29
    go_wp2_with fail
    go_ret
    exact ⟨ret_bool (by simp [*]), by go_grown⟩
theorem neq_attr (a b : At) (w : World) : (binOp .neq 26 (.agg #[.int .i64 a.q, .int .i64 (a.d 0), .int .i64 (a.d 1), .int .i64 (a.d 2), .int .i64 (a.d 3), .int .i64 (a.d 4), .int .i64 (a.d 5), .int .i64 (a.d 6)]) (.agg #[.int .i64 b.q, .int .i64 (b.d 0), .int .i64 (b.d 1), .int .i64 (b.d 2), .int .i64 (b.d 3), .int .i64 (b.d 4), .int .i64 (b.d 5), .int .i64 (b.d 6)])).run Try.prog w = .ok (.bool (!a.eqB b)) w := by
  have hd := fun w => eq_deps (a.d 0) (a.d 1) (a.d 2) (a.d 3) (a.d 4) (a.d 5) (a.d 6) (b.d 0) (b.d 1) (b.d 2) (b.d 3) (b.d 4) (b.d 5) (b.d 6) w
  rw [run_neq_struct, show (10000 : Nat) = 9999 + 1 from rfl, run_equalIn_struct w 9999 26 _ _ (by kernel_rfl) (by kernel_rfl)]
  unfold At.eqB
  generalize (a.d 0 == b.d 0 && (a.d 1 == b.d 1 && (a.d 2 == b.d 2 && (a.d 3 == b.d 3 && (a.d 4 == b.d 4 && (a.d 5 == b.d 5 && a.d 6 == b.d 6)))))) = D at hd ⊢
  go_simp
  by_cases h0 : a.q = b.q <;> cases D <;> simp [h0, hd]
theorem At.eqB_self (a : At) : a.eqB a = true := by simp [At.eqB]
set_option maxRecDepth 4000 in
set_option maxHeartbeats 4000000 in
theorem quorumSizes_any (n r s : Int) (w : World) (_ : (Lit.int .i64 n).wf = true) (_ : (Lit.int .i64 r).wf = true) (_ : (Lit.int .i64 s).wf = true) :
    Calls Try.prog 10 #[.int .i64 n, .agg #[.int .i64 r, .int .i64 s]] w fun e w' => e = .returned (.bool true) ∧ Below w.heap.size w w' := by
  have hn := noop_any r s
  have hd := dnoop_any r s
  generalize noopA r s = A at hn hd
  have hneq : ∀ W, (binOp .neq 26 (.agg #[.int .i64 A.q, .int .i64 (A.d 0), .int .i64 (A.d 1), .int .i64 (A.d 2), .int .i64 (A.d 3), .int .i64 (A.d 4), .int .i64 (A.d 5), .int .i64 (A.d 6)]) (.agg #[.int .i64 A.q, .int .i64 (A.d 0), .int .i64 (A.d 1), .int .i64 (A.d 2), .int .i64 (A.d 3), .int .i64 (A.d 4), .int .i64 (A.d 5), .int .i64 (A.d 6)])).run Try.prog W = .ok (.bool false) W := fun W => by rw [neq_attr, At.eqB_self]; rfl
  simp only [At.cells] at hn hd
  have HN := Lib.hid hn; have HD := Lib.hid hd; clear hn hd
  have hcase : n = 3 ∨ n = 5 ∨ n = 7 ∨ ((n == 3) = false ∧ (n == 5) = false ∧ (n == 7) = false) := by
    simp only [beq_eq_false_iff_ne]; omega
  rcases hcase with rfl | rfl | rfl | ⟨e3, e5, e7⟩
  · have HF := Lib.hid (fun W => fits_any 3 true W (.inl ⟨by decide, rfl⟩))
    go_enter Try.func10, Try.ntmps10
    go_upto_region 2 with (fail)
    have hbx := holds_alloc w 65 [.int .i64 r, .int .i64 s]
    have hb0 : Below w.heap.size w (w.alloc (.cells #[.int .i64 r, .int .i64 s] 65)) := by go_grown
    go_name_world W hW
    rw [hW] at hbx hb0
    clear hW
    have HB := Lib.hid hb0; clear hb0
    have i0 := (hbx.grown · · 0)
    have i1 := (hbx.grown · · 1)
    simp only [List.getElem?_cons_zero, List.getElem?_cons_succ] at i0 i1
    clear hbx
    refine wp_region_quiet_below (by kernel_rfl) (by kernel_rfl) ?_
    repeat go_big_quiet_step (first
      | (go_at_call 29; with_reducible exact calls_regrown fun W _ => HF.out W)
      | (go_at_call 30; with_reducible exact calls_regrown fun W _ => HN.out W)
      | (go_at_call 31; with_reducible exact calls_regrown fun W _ => HD.out W))
    refine wpQuiet_nil ?_
    intro w6 hw'
    have HB := Lib.hid (below_next HB.out (below_of_regrown hw'))
    clear hw' i0 i1 HF HN HD hneq
    go_wp2_with fail
    refine (show Calls Try.prog 26 #[.int .i64 3] _ fun e w' => e = .returned (.int .i64 2) ∧ Below _ _ w' from slow_any 3 _ (by omega)).mono ?_
    rintro e w2 ⟨rfl, hb⟩
    have HB := Lib.hid (below_next HB.out hb)
    clear hb
    go_wp2_with fail
    refine (show Calls Try.prog 32 #[.int .i64 3] _ fun e w' => e = .returned (.int .i64 2) ∧ Below _ _ w' from dslow_any 3 _ (by omega)).mono ?_
    rintro e w2 ⟨rfl, hb⟩
    have HB := Lib.hid (below_next HB.out hb)
    clear hb
    go_wp2_with fail
    refine (show Calls Try.prog 33 #[.int .i64 3] _ fun e w' => e = .returned (.int .i64 2) ∧ Below _ _ w' from fast_any 3 _ (by omega)).mono ?_
    rintro e w2 ⟨rfl, hb⟩
    have HB := Lib.hid (below_next HB.out hb)
    clear hb
    go_wp2_with fail
    refine (show Calls Try.prog 34 #[.int .i64 3] _ fun e w' => e = .returned (.int .i64 2) ∧ Below _ _ w' from dfast_any 3 _ (by omega)).mono ?_
    rintro e w2 ⟨rfl, hb⟩
    have HB := Lib.hid (below_next HB.out hb)
    clear hb
    go_wp2_with fail
    refine (show Calls Try.prog 26 #[.int .i64 3] _ fun e w' => e = .returned (.int .i64 2) ∧ Below _ _ w' from slow_any 3 _ (by omega)).mono ?_
    rintro e w2 ⟨rfl, hb⟩
    have HB := Lib.hid (below_next HB.out hb)
    clear hb
    go_wp2_with fail
    refine (show Calls Try.prog 33 #[.int .i64 3] _ fun e w' => e = .returned (.int .i64 2) ∧ Below _ _ w' from fast_any 3 _ (by omega)).mono ?_
    rintro e w2 ⟨rfl, hb⟩
    have HB := Lib.hid (below_next HB.out hb)
    clear hb
    go_wp2_with fail
    refine (quorumRuns_any _).mono ?_
    rintro e w2 ⟨rfl, hb⟩
    have HB := Lib.hid (below_next HB.out hb)
    clear hb
    go_wp2_with fail
    go_ret
    exact ⟨rfl, HB.out⟩
  · have HF := Lib.hid (fun W => fits_any 5 true W (.inr (.inl ⟨by decide, by decide, rfl⟩)))
    go_enter Try.func10, Try.ntmps10
    go_upto_region 2 with (fail)
    have hbx := holds_alloc w 65 [.int .i64 r, .int .i64 s]
    have hb0 : Below w.heap.size w (w.alloc (.cells #[.int .i64 r, .int .i64 s] 65)) := by go_grown
    go_name_world W hW
    rw [hW] at hbx hb0
    clear hW
    have HB := Lib.hid hb0; clear hb0
    have i0 := (hbx.grown · · 0)
    have i1 := (hbx.grown · · 1)
    simp only [List.getElem?_cons_zero, List.getElem?_cons_succ] at i0 i1
    clear hbx
    refine wp_region_quiet_below (by kernel_rfl) (by kernel_rfl) ?_
    repeat go_big_quiet_step (first
      | (go_at_call 29; with_reducible exact calls_regrown fun W _ => HF.out W)
      | (go_at_call 30; with_reducible exact calls_regrown fun W _ => HN.out W)
      | (go_at_call 31; with_reducible exact calls_regrown fun W _ => HD.out W))
    refine wpQuiet_nil ?_
    intro w6 hw'
    have HB := Lib.hid (below_next HB.out (below_of_regrown hw'))
    clear hw' i0 i1 HF HN HD hneq
    go_wp2_with fail
    refine (show Calls Try.prog 26 #[.int .i64 5] _ fun e w' => e = .returned (.int .i64 3) ∧ Below _ _ w' from slow_any 5 _ (by omega)).mono ?_
    rintro e w2 ⟨rfl, hb⟩
    have HB := Lib.hid (below_next HB.out hb)
    clear hb
    go_wp2_with fail
    refine (show Calls Try.prog 32 #[.int .i64 5] _ fun e w' => e = .returned (.int .i64 3) ∧ Below _ _ w' from dslow_any 5 _ (by omega)).mono ?_
    rintro e w2 ⟨rfl, hb⟩
    have HB := Lib.hid (below_next HB.out hb)
    clear hb
    go_wp2_with fail
    refine (show Calls Try.prog 33 #[.int .i64 5] _ fun e w' => e = .returned (.int .i64 4) ∧ Below _ _ w' from fast_any 5 _ (by omega)).mono ?_
    rintro e w2 ⟨rfl, hb⟩
    have HB := Lib.hid (below_next HB.out hb)
    clear hb
    go_wp2_with fail
    refine (show Calls Try.prog 34 #[.int .i64 5] _ fun e w' => e = .returned (.int .i64 4) ∧ Below _ _ w' from dfast_any 5 _ (by omega)).mono ?_
    rintro e w2 ⟨rfl, hb⟩
    have HB := Lib.hid (below_next HB.out hb)
    clear hb
    go_wp2_with fail
    refine (show Calls Try.prog 26 #[.int .i64 5] _ fun e w' => e = .returned (.int .i64 3) ∧ Below _ _ w' from slow_any 5 _ (by omega)).mono ?_
    rintro e w2 ⟨rfl, hb⟩
    have HB := Lib.hid (below_next HB.out hb)
    clear hb
    go_wp2_with fail
    refine (show Calls Try.prog 33 #[.int .i64 5] _ fun e w' => e = .returned (.int .i64 4) ∧ Below _ _ w' from fast_any 5 _ (by omega)).mono ?_
    rintro e w2 ⟨rfl, hb⟩
    have HB := Lib.hid (below_next HB.out hb)
    clear hb
    go_wp2_with fail
    refine (quorumRuns_any _).mono ?_
    rintro e w2 ⟨rfl, hb⟩
    have HB := Lib.hid (below_next HB.out hb)
    clear hb
    go_wp2_with fail
    go_ret
    exact ⟨rfl, HB.out⟩
  · have HF := Lib.hid (fun W => fits_any 7 true W (.inr (.inr (.inl ⟨by decide, by decide, by decide, rfl⟩))))
    go_enter Try.func10, Try.ntmps10
    go_upto_region 2 with (fail)
    have hbx := holds_alloc w 65 [.int .i64 r, .int .i64 s]
    have hb0 : Below w.heap.size w (w.alloc (.cells #[.int .i64 r, .int .i64 s] 65)) := by go_grown
    go_name_world W hW
    rw [hW] at hbx hb0
    clear hW
    have HB := Lib.hid hb0; clear hb0
    have i0 := (hbx.grown · · 0)
    have i1 := (hbx.grown · · 1)
    simp only [List.getElem?_cons_zero, List.getElem?_cons_succ] at i0 i1
    clear hbx
    refine wp_region_quiet_below (by kernel_rfl) (by kernel_rfl) ?_
    repeat go_big_quiet_step (first
      | (go_at_call 29; with_reducible exact calls_regrown fun W _ => HF.out W)
      | (go_at_call 30; with_reducible exact calls_regrown fun W _ => HN.out W)
      | (go_at_call 31; with_reducible exact calls_regrown fun W _ => HD.out W))
    refine wpQuiet_nil ?_
    intro w6 hw'
    have HB := Lib.hid (below_next HB.out (below_of_regrown hw'))
    clear hw' i0 i1 HF HN HD hneq
    go_wp2_with fail
    refine (show Calls Try.prog 26 #[.int .i64 7] _ fun e w' => e = .returned (.int .i64 4) ∧ Below _ _ w' from slow_any 7 _ (by omega)).mono ?_
    rintro e w2 ⟨rfl, hb⟩
    have HB := Lib.hid (below_next HB.out hb)
    clear hb
    go_wp2_with fail
    refine (show Calls Try.prog 32 #[.int .i64 7] _ fun e w' => e = .returned (.int .i64 4) ∧ Below _ _ w' from dslow_any 7 _ (by omega)).mono ?_
    rintro e w2 ⟨rfl, hb⟩
    have HB := Lib.hid (below_next HB.out hb)
    clear hb
    go_wp2_with fail
    refine (show Calls Try.prog 33 #[.int .i64 7] _ fun e w' => e = .returned (.int .i64 6) ∧ Below _ _ w' from fast_any 7 _ (by omega)).mono ?_
    rintro e w2 ⟨rfl, hb⟩
    have HB := Lib.hid (below_next HB.out hb)
    clear hb
    go_wp2_with fail
    refine (show Calls Try.prog 34 #[.int .i64 7] _ fun e w' => e = .returned (.int .i64 6) ∧ Below _ _ w' from dfast_any 7 _ (by omega)).mono ?_
    rintro e w2 ⟨rfl, hb⟩
    have HB := Lib.hid (below_next HB.out hb)
    clear hb
    go_wp2_with fail
    refine (show Calls Try.prog 26 #[.int .i64 7] _ fun e w' => e = .returned (.int .i64 4) ∧ Below _ _ w' from slow_any 7 _ (by omega)).mono ?_
    rintro e w2 ⟨rfl, hb⟩
    have HB := Lib.hid (below_next HB.out hb)
    clear hb
    go_wp2_with fail
    refine (show Calls Try.prog 33 #[.int .i64 7] _ fun e w' => e = .returned (.int .i64 6) ∧ Below _ _ w' from fast_any 7 _ (by omega)).mono ?_
    rintro e w2 ⟨rfl, hb⟩
    have HB := Lib.hid (below_next HB.out hb)
    clear hb
    go_wp2_with fail
    refine (quorumRuns_any _).mono ?_
    rintro e w2 ⟨rfl, hb⟩
    have HB := Lib.hid (below_next HB.out hb)
    clear hb
    go_wp2_with fail
    go_ret
    exact ⟨rfl, HB.out⟩
  · have HF := Lib.hid (fun W => fits_any n false W (.inr (.inr (.inr ⟨e3, e5, e7, rfl⟩))))
    go_enter Try.func10, Try.ntmps10
    go_upto_region 2 with (fail)
    have hbx := holds_alloc w 65 [.int .i64 r, .int .i64 s]
    have hb0 : Below w.heap.size w (w.alloc (.cells #[.int .i64 r, .int .i64 s] 65)) := by go_grown
    go_name_world W hW
    rw [hW] at hbx hb0
    clear hW
    have HB := Lib.hid hb0; clear hb0
    have i0 := (hbx.grown · · 0)
    have i1 := (hbx.grown · · 1)
    simp only [List.getElem?_cons_zero, List.getElem?_cons_succ] at i0 i1
    clear hbx
    refine wp_region_quiet_below (by kernel_rfl) (by kernel_rfl) ?_
    repeat go_big_quiet_step (first
      | (go_at_call 29; with_reducible exact calls_regrown fun W _ => HF.out W)
      | (go_at_call 30; with_reducible exact calls_regrown fun W _ => HN.out W)
      | (go_at_call 31; with_reducible exact calls_regrown fun W _ => HD.out W))
    refine wpQuiet_nil ?_
    intro w6 hw'
    have HB := Lib.hid (below_next HB.out (below_of_regrown hw'))
    clear hw' i0 i1 HF HN HD hneq
    go_wp2_with fail
    refine (quorumRuns_any _).mono ?_
    rintro e w2 ⟨rfl, hb⟩
    have HB := Lib.hid (below_next HB.out hb)
    clear hb
    go_wp2_with fail
    go_ret
    exact ⟨rfl, HB.out⟩
end Go.Proofs.Ytmpefdepcbfcdaa
