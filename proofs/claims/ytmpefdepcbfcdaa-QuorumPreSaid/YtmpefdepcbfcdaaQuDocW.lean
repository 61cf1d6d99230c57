/-
  The walks of the document's Join and Pre.
-/
import Derived.Test.YtmpefdepcbfcdaaQuSizesW
import Derived.Deep.RegionWith
import Derived.Deep.CutRange
namespace Go.Proofs.Ytmpefdepcbfcdaa
open Go.RowKit
set_option linter.unusedVariables false
set_option linter.unusedSimpArgs false

theorem at_get (a : At) (k : Nat) (hk : k < 7) : a.cells[1 + k]? = some (.int .i64 (a.d k)) := by
  rcases (show k = 0 ∨ k = 1 ∨ k = 2 ∨ k = 3 ∨ k = 4 ∨ k = 5 ∨ k = 6 by omega) with rfl | rfl | rfl | rfl | rfl | rfl | rfl <;> rfl
theorem jx_drew {w W : World} {g2 g3 : Nat} {a : At} (h : Jx w W g2 g3 a) : Jx w W.drew g2 g3 a := ⟨h.bel.trans (drew_below _ _), h.z, h.a, h.ge, h.ge2, h.ne⟩
set_option maxRecDepth 4000 in
set_option maxHeartbeats 4000000 in
theorem djoin_any (a b : At) (w : World) : Calls Try.prog 36 #[.agg #[.int .i64 a.q, .int .i64 (a.d 0), .int .i64 (a.d 1), .int .i64 (a.d 2), .int .i64 (a.d 3), .int .i64 (a.d 4), .int .i64 (a.d 5), .int .i64 (a.d 6)], .agg #[.int .i64 b.q, .int .i64 (b.d 0), .int .i64 (b.d 1), .int .i64 (b.d 2), .int .i64 (b.d 3), .int .i64 (b.d 4), .int .i64 (b.d 5), .int .i64 (b.d 6)]] w fun e w' => e = .returned (.agg (a.join b).cells.toArray) ∧ Below w.heap.size w w' := by
  obtain ⟨R, hR⟩ : ∃ R, R = a.join b := ⟨_, rfl⟩
  rw [← hR]
  have HRR := Lib.hid hR; clear hR
  go_enter Try.func36, Try.ntmps36
  have hj0 : Jx w (((w.alloc (.cells #[.int .i64 a.q, .int .i64 (a.d 0), .int .i64 (a.d 1), .int .i64 (a.d 2), .int .i64 (a.d 3), .int .i64 (a.d 4), .int .i64 (a.d 5), .int .i64 (a.d 6)] 26)).alloc (.cells #[.int .i64 b.q, .int .i64 (b.d 0), .int .i64 (b.d 1), .int .i64 (b.d 2), .int .i64 (b.d 3), .int .i64 (b.d 4), .int .i64 (b.d 5), .int .i64 (b.d 6)] 26)).alloc (.cells #[.int .i64 0, .int .i64 0, .int .i64 0, .int .i64 0, .int .i64 0, .int .i64 0, .int .i64 0, .int .i64 0] 26)) (w.heap.size + 1 + 1) w.heap.size a := by
    refine ⟨by go_grown, ?_, holds_past (holds_past (holds_alloc w _ a.cells) _) _, by omega, by omega, by omega⟩
    have := holds_alloc ((w.alloc (.cells a.cells.toArray 26)).alloc (.cells b.cells.toArray 26)) 26 (At.of 0).cells
    rw [World.size_alloc, World.size_alloc] at this
    exact this
  have hb0 : Holds (((w.alloc (.cells #[.int .i64 a.q, .int .i64 (a.d 0), .int .i64 (a.d 1), .int .i64 (a.d 2), .int .i64 (a.d 3), .int .i64 (a.d 4), .int .i64 (a.d 5), .int .i64 (a.d 6)] 26)).alloc (.cells #[.int .i64 b.q, .int .i64 (b.d 0), .int .i64 (b.d 1), .int .i64 (b.d 2), .int .i64 (b.d 3), .int .i64 (b.d 4), .int .i64 (b.d 5), .int .i64 (b.d 6)] 26)).alloc (.cells #[.int .i64 0, .int .i64 0, .int .i64 0, .int .i64 0, .int .i64 0, .int .i64 0, .int .i64 0, .int .i64 0] 26)) (w.heap.size + 1) 26 b.cells := by
    have := holds_alloc (w.alloc (.cells a.cells.toArray 26)) 26 b.cells
    rw [World.size_alloc] at this
    exact holds_past this _
  have HJ0 := Lib.hid hj0; have HB0 := Lib.hid hb0; clear hj0 hb0
  go_upto_region 1 with (fail)
  go_name_world W1 hW1
  have hj1 := HJ0.out
  have hb1 := HB0.out
  rw [hW1] at hj1 hb1
  clear hW1 HJ0 HB0
  have hn1 : ¬ w.heap.size + 1 = w.heap.size := by omega
  have hn2 : ¬ w.heap.size + 1 = w.heap.size + 1 + 1 := by omega
  generalize w.heap.size = g2 at hj1 hb1 hn1 hn2
  generalize g2 + 1 = g3 at hj1 hb1 hn1 hn2 ⊢
  generalize g3 + 1 = g4 at hj1 hn2 ⊢
  have a0 := hj1.a.cell 0
  have b0 := hb1.cell 0
  simp only [At.cells, List.getElem?_cons_zero, List.getElem?_cons_succ] at a0 b0
  have af := hj1.a.free 0
  have hmx : (a.q < b.q ∧ mxI a.q b.q = b.q) ∨ (¬ a.q < b.q ∧ mxI a.q b.q = a.q) := by
    by_cases h : a.q < b.q
    · exact .inl ⟨h, if_pos h⟩
    · exact .inr ⟨h, if_neg h⟩
  have hs0 := hj1.set (a' := joinIn a b 0) 0 (.int .i64 (mxI a.q b.q)) (joinIn_zero a b).symm
  have hsb := fun v => hb1.touch ((Touch.refl g2 W1).setCell 0 v) hn1
  have HS0 := Lib.hid hs0; have HSB := Lib.hid hsb; clear hs0 hsb hj1 hb1
  rcases hmx with ⟨hq, hm⟩ | ⟨hq, hm⟩
  all_goals
    rw [hm] at HS0
    clear hm
    go_wp2_with fail
    clear a0 b0 af
    go_loopw [5] (fun i wr => ∃ q : Nat, q ≤ 7 ∧ i = .int .i64 q ∧ Jx w wr g4 g2 (joinIn a b q) ∧ Holds wr g3 26 b.cells) (fun i _ => 7 - (intOf i).toNat)
    case atStart => exact ⟨0, by omega, rfl, HS0.out, HSB.out _⟩
    case round =>
      clear HS0 HSB
      obtain ⟨q, hq', rfl, hj, hb⟩ := hrel
      by_cases h3 : q < 7
      · have hca := hj.a.cell (1 + q)
        rw [joinIn_get a b q h3] at hca
        have hcb := hb.cell (1 + q)
        rw [at_get b q h3] at hcb
        have hfree := hj.a.free (1 + q)
        have HS := Lib.hid (hj.set (a' := joinIn a b (q + 1)) (1 + q) (.int .i64 (mxI (a.d q) (b.d q))) (joinIn_set a b q h3))
        have HSB := Lib.hid (fun v => hb.touch ((Touch.refl g2 wr).setCell (1 + q) v) hn1)
        clear hj hb
        by_cases h4 : a.d q < b.d q
        · rw [show mxI (a.d q) (b.d q) = b.d q from if_pos h4] at HS
          go_upto_region 5 with (fail)
          go_region
          go_wp2_with fail
          go_roundw
          case rel => exact ⟨q + 1, by omega, by go_num, jx_drew HS.out, HSB.out _⟩
          case measure => simp [intOf]; omega
        · rw [show mxI (a.d q) (b.d q) = a.d q from if_neg h4] at HS
          go_upto_region 5 with (fail)
          go_region
          go_wp2_with fail
          go_roundw
          case rel => exact ⟨q + 1, by omega, by go_num, jx_drew HS.out, HSB.out _⟩
          case measure => simp [intOf]; omega
      · have hq7 : q = 7 := by omega
        subst hq7
        have hj' := hj.cong (joinIn_seven a b)
        obtain ⟨A, hA⟩ : ∃ A, A = a.join b := ⟨_, rfl⟩
        rw [← hA] at hj'
        have HRA := Lib.hid (show R = A by rw [HRR.out, hA])
        have HJ := Lib.hid hj'; clear hj' hA hj hb
        have a0 := HJ.out.a.cell 0
        have a1 := HJ.out.a.cell 1
        have a2 := HJ.out.a.cell 2
        have a3 := HJ.out.a.cell 3
        have a4 := HJ.out.a.cell 4
        have a5 := HJ.out.a.cell 5
        have a6 := HJ.out.a.cell 6
        have a7 := HJ.out.a.cell 7
        have u0 := HJ.out.z.cell 0
        have u1 := HJ.out.z.cell 1
        have u2 := HJ.out.z.cell 2
        have u3 := HJ.out.z.cell 3
        have u4 := HJ.out.z.cell 4
        have u5 := HJ.out.z.cell 5
        have u6 := HJ.out.z.cell 6
        have u7 := HJ.out.z.cell 7
        simp only [At.cells, At.of, List.getElem?_cons_zero, List.getElem?_cons_succ] at a0 a1 a2 a3 a4 a5 a6 a7 u0 u1 u2 u3 u4 u5 u6 u7
        have uf := fun i => HJ.out.z.free i
        have hne := HJ.out.ne
        go_wp2_with fail
        clear a0 a1 a2 a3 a4 a5 a6 a7 u0 u1 u2 u3 u4 u5 u6 u7 uf
        have t1 := ((((((((Touch.refl g4 wr).setCell 0 (.int .i64 A.q)).setCell 1 (.int .i64 (A.d 0))).setCell 2 (.int .i64 (A.d 1))).setCell 3 (.int .i64 (A.d 2))).setCell 4 (.int .i64 (A.d 3))).setCell 5 (.int .i64 (A.d 4))).setCell 6 (.int .i64 (A.d 5))).setCell 7 (.int .i64 (A.d 6))
        have s1 := ((((((((HJ.out.z).set 0 (.int .i64 A.q)).set 1 (.int .i64 (A.d 0))).set 2 (.int .i64 (A.d 1))).set 3 (.int .i64 (A.d 2))).set 4 (.int .i64 (A.d 3))).set 5 (.int .i64 (A.d 4))).set 6 (.int .i64 (A.d 5))).set 7 (.int .i64 (A.d 6))
        simp only [At.cells, At.of, List.set_cons_succ, List.set_cons_zero] at s1
        have b1 := HJ.out.bel.trans (t1.below HJ.out.ge HJ.out.bel.size)
        generalize ((((((((wr.setCell ⟨g4, 0, none⟩ (.int .i64 A.q)).setCell ⟨g4, 1, none⟩ (.int .i64 (A.d 0))).setCell ⟨g4, 2, none⟩ (.int .i64 (A.d 1))).setCell ⟨g4, 3, none⟩ (.int .i64 (A.d 2))).setCell ⟨g4, 4, none⟩ (.int .i64 (A.d 3))).setCell ⟨g4, 5, none⟩ (.int .i64 (A.d 4))).setCell ⟨g4, 6, none⟩ (.int .i64 (A.d 5))).setCell ⟨g4, 7, none⟩ (.int .i64 (A.d 6))) = W3 at s1 b1 ⊢
        have y0 := s1.cell 0
        have y1 := s1.cell 1
        have y2 := s1.cell 2
        have y3 := s1.cell 3
        have y4 := s1.cell 4
        have y5 := s1.cell 5
        have y6 := s1.cell 6
        have y7 := s1.cell 7
        simp only [List.getElem?_cons_zero, List.getElem?_cons_succ] at y0 y1 y2 y3 y4 y5 y6 y7
        exact bodyPost_ret (v := .agg A.cells.toArray) (by simp [results, Try.results36, go_sem, y0, y1, y2, y3, y4, y5, y6, y7, At.cells]) rfl ⟨by rw [HRA.out], b1⟩
end Go.Proofs.Ytmpefdepcbfcdaa
