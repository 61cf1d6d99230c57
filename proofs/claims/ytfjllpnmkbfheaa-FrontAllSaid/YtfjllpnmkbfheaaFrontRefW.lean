/-
  The walks of New, of the document's own Fronts, and of FrontRuns.
-/
import Derived.Test.YtfjllpnmkbfheaaFrontW
import Derived.Deep.RegionHeld3
namespace Go.Proofs.Ytfjllpnmkbfheaa
open Go.RowKit

theorem front_zero (n me : Nat) : (frontCells n me fun _ _ => 0) = [.int .i64 n, .int .i64 me, .int .i64 0, .int .i64 0, .int .i64 0, .int .i64 0, .int .i64 0, .int .i64 0, .int .i64 0, .int .i64 0, .int .i64 0, .int .i64 0, .int .i64 0, .int .i64 0, .int .i64 0, .int .i64 0, .int .i64 0, .int .i64 0, .int .i64 0, .int .i64 0, .int .i64 0, .int .i64 0, .int .i64 0, .int .i64 0, .int .i64 0, .int .i64 0, .int .i64 0, .int .i64 0, .int .i64 0, .int .i64 0, .int .i64 0, .int .i64 0, .int .i64 0, .int .i64 0, .int .i64 0, .int .i64 0, .int .i64 0, .int .i64 0, .int .i64 0, .int .i64 0, .int .i64 0, .int .i64 0, .int .i64 0, .int .i64 0, .int .i64 0, .int .i64 0, .int .i64 0, .int .i64 0, .int .i64 0, .int .i64 0, .int .i64 0] := rfl

set_option maxHeartbeats 1000000 in
theorem new_in (n me : Nat) (w : World) (hn : n = 3 ∨ n = 5 ∨ n = 7) (hme : me < n) :
    Calls Try.prog 7 #[.int .i64 n, .int .i64 me] w fun e w' => ∃ g, e = .returned (.tuple #[.pointer (some ⟨g, 0, none⟩), .int .i64 0]) ∧ w.heap.size ≤ g ∧ FrontAt w' g 44 n me (fun _ _ => 0) ∧ Below w.heap.size w w' := by
  have hme' : ¬ (n : Int) ≤ me := by omega
  rcases hn with rfl | rfl | rfl
  all_goals
    go_enter Try.func7, Try.ntmps7
    go_wp2
    go_ret2
    refine ⟨w.heap.size, rfl, Nat.le_refl _, ⟨?_, by omega⟩, by go_grown⟩
    rw [front_zero]
    exact holds_alloc w _ _

theorem new_out (n me : Int) (w : World) (h : ¬ ((n = 3 ∨ n = 5 ∨ n = 7) ∧ 0 ≤ me ∧ me < n)) :
    Calls Try.prog 7 #[.int .i64 n, .int .i64 me] w fun e w' => e = .returned (.tuple #[.pointer none, .int .i64 1]) ∧ w = w' := by
  by_cases h3 : n = 3
  · subst h3
    by_cases h0 : me < 0
    · go_enter Try.func7, Try.ntmps7
      go_wp2
      go_ret2
      exact ⟨rfl, rfl⟩
    · have h1 : 3 ≤ me := by omega
      go_enter Try.func7, Try.ntmps7
      go_wp2
      go_ret2
      exact ⟨rfl, rfl⟩
  · by_cases h5 : n = 5
    · subst h5
      by_cases h0 : me < 0
      · go_enter Try.func7, Try.ntmps7
        go_wp2
        go_ret2
        exact ⟨rfl, rfl⟩
      · have h1 : 5 ≤ me := by omega
        go_enter Try.func7, Try.ntmps7
        go_wp2
        go_ret2
        exact ⟨rfl, rfl⟩
    · by_cases h7 : n = 7
      · subst h7
        by_cases h0 : me < 0
        · go_enter Try.func7, Try.ntmps7
          go_wp2
          go_ret2
          exact ⟨rfl, rfl⟩
        · have h1 : 7 ≤ me := by omega
          go_enter Try.func7, Try.ntmps7
          go_wp2
          go_ret2
          exact ⟨rfl, rfl⟩
      · have h3' : (n != 3) = true := by simpa using h3
        have h5' : (n != 5) = true := by simpa using h5
        have h7' : (n != 7) = true := by simpa using h7
        clear h3 h5 h7 h
        go_enter Try.func7, Try.ntmps7
        go_wp2
        go_ret2
        exact ⟨rfl, rfl⟩

set_option maxHeartbeats 1000000 in
theorem refright_any (d : Nat → Int) (w : World) :
    Calls Try.prog 15 #[.agg #[.int .i64 (d 0), .int .i64 (d 1), .int .i64 (d 2), .int .i64 (d 3), .int .i64 (d 4), .int .i64 (d 5), .int .i64 (d 6)]] w fun e w' => e = .returned (.bool (FrontP.right d)) ∧ Below w.heap.size w w' := by
  go_enter Try.func15, Try.ntmps15
  go_upto_region 1 with (fail)
  go_name_world W hW
  have hO : Holds W w.heap.size 28 (depCells d) := by rw [← hW]; exact holds_alloc w 28 (depCells d)
  have HB : Below w.heap.size w W := by rw [← hW]; go_grown
  clear hW
  have HO := Lib.hid hO; clear hO
  go_wp2
  go_loop [3] (fun i => ∃ k : Nat, k ≤ 7 ∧ i = .int .i64 k ∧ FrontP.rightTo d k = true) (fun i => 7 - (intOf i).toNat)
  case atStart => exact ⟨0, by omega, rfl, rfl⟩
  case round =>
    obtain ⟨k, hk, rfl, hpre⟩ := hrel
    have HP := Lib.hid hpre; clear hpre
    by_cases hlt : k < 7
    · have hcell := HO.out.cell k
      rw [getElem_deps d k hlt] at hcell
      have HS := Lib.hid (FrontP.rightTo_succ d k); have HF := Lib.hid (FrontP.right_false d k hlt)
      generalize d k = x at hcell HS HF
      go_wp2
      · go_ret
        exact ⟨ret_bool (by rw [HF.out ‹_›]), HB⟩
      · go_round
        case rel => exact ⟨k + 1, by omega, by go_num, by rw [HS.out, HP.out]; simp; omega⟩
        case measure => simp [intOf]; omega
      · go_ret
        exact ⟨ret_bool (by rw [HF.out (.inl ‹_›)]), HB⟩
    · have hk7 : k = 7 := by omega
      subst hk7
      have HP2 := Lib.hid (show FrontP.right d = true from HP.out)
      go_wp2
      go_ret
      exact ⟨ret_bool (by rw [HP2.out]), HB⟩

set_option maxHeartbeats 1000000 in
theorem refhear_in (g n me r : Nat) (F : FrontP.Fr) (d : Nat → Int) (w : World) (h : FrontAt w g 35 n me F) (hr : r < n) (hd : FrontP.right d = true) :
    Calls Try.prog 10 #[.pointer (some ⟨g, 0, none⟩), .int .i64 r, .agg #[.int .i64 (d 0), .int .i64 (d 1), .int .i64 (d 2), .int .i64 (d 3), .int .i64 (d 4), .int .i64 (d 5), .int .i64 (d 6)]] w fun e w' =>
      e = .returned (.bool true) ∧ FrontAt w' g 35 n me (FrontP.hear F r d) ∧ Touch g w w' := by
  have hn := h.n7
  have h0 := h.n0
  have hg := h.lt
  have HF := Lib.hid h
  have R := Lib.hid (fun W => refright_any d W)
  rw [hd] at R
  go_enter Try.func10, Try.ntmps10
  go_wp2_with fail
  refine (R.out _).mono ?_
  rintro e w1 ⟨rfl, hb1⟩
  have hf1 := HF.out.below (below_next (by go_grown) hb1) hg
  have ht1 : Touch g w w1 := .of_below (below_next (by go_grown) hb1)
  have hO1 : Holds w1 w.heap.size 28 (depCells d) := (holds_alloc w 28 (depCells d)).below hb1 (by simp)
  clear hb1
  have HH := Lib.hid (And.intro hf1 (And.intro ht1 hO1))
  clear hf1 ht1 hO1
  go_wp2
  go_loopw [7] (fun i wr => ∃ k : Nat, k ≤ 7 ∧ i = .int .i64 k ∧ FrontAt wr g 35 n me (FrontP.hearTo F r d k) ∧ Touch g w wr ∧ Holds wr w.heap.size 28 (depCells d)) (fun i _ => 7 - (intOf i).toNat)
  case atStart => exact ⟨0, by omega, rfl, by rw [FrontP.hearTo_zero]; exact HH.out.1, HH.out.2.1, HH.out.2.2⟩
  case round =>
    obtain ⟨k, hk, rfl, hfr, htr, hO⟩ := hrel
    by_cases hlt : k < 7
    · have hcell := hfr.at r k (by omega) hlt
      rw [FrontP.hearTo_at] at hcell
      have hcell2 := hO.cell k
      rw [getElem_deps d k hlt] at hcell2
      have hfree := hfr.h.free (2 + r * 7 + k)
      have hs := FrontP.hearTo_succ F r d k
      have HS := Lib.hid hs; clear hs
      have hset := fun v => hfr.h.set (2 + r * 7 + k) (.int .i64 v)
      have HSET := Lib.hid hset; clear hset
      have HK := Lib.hid (And.intro htr hO); clear htr hO hfr
      go_upto_region 6 with (fail)
      go_region
      go_wp2
      go_roundw
      case rel =>
        refine ⟨k + 1, by omega, by go_num, ⟨?_, hn⟩, (HK.out.1.setCell _ _).drew, holds_drew (holds_other HK.out.2 (by omega) _ _)⟩
        have h1 := HSET.out (FrontP.mx (F r k) (d k))
        rw [set_front _ _ _ r k _ (by omega) hlt, ← HS.out] at h1
        exact h1
      case measure => simp [intOf]; omega
    · have hk7 : k = 7 := by omega
      subst hk7
      have HFR := Lib.hid (show FrontAt wr g 35 n me (FrontP.hear F r d) from hfr)
      clear hfr
      go_wp2
      go_ret
      exact ⟨rfl, HFR.out, htr⟩

set_option maxHeartbeats 1000000 in
theorem refhear_out (g n me : Nat) (r : Int) (F : FrontP.Fr) (d : Nat → Int) (w : World) (h : FrontAt w g 35 n me F) (hr : r < 0 ∨ (n : Int) ≤ r) :
    Calls Try.prog 10 #[.pointer (some ⟨g, 0, none⟩), .int .i64 r, .agg #[.int .i64 (d 0), .int .i64 (d 1), .int .i64 (d 2), .int .i64 (d 3), .int .i64 (d 4), .int .i64 (d 5), .int .i64 (d 6)]] w fun e w' =>
      e = .returned (.bool false) ∧ Below w.heap.size w w' := by
  have h0 := h.n0
  have hg := h.lt
  by_cases hr0 : r < 0
  · go_enter Try.func10, Try.ntmps10
    go_wp2_with fail
    go_ret
    exact ⟨rfl, by go_grown⟩
  · have hr1 : (n : Int) ≤ r := by omega
    go_enter Try.func10, Try.ntmps10
    go_wp2_with fail
    go_ret
    exact ⟨rfl, by go_grown⟩

set_option maxHeartbeats 1000000 in
theorem refhear_wrong (g n me r : Nat) (F : FrontP.Fr) (d : Nat → Int) (w : World) (h : FrontAt w g 35 n me F) (hr : r < n) (hd : FrontP.right d = false) :
    Calls Try.prog 10 #[.pointer (some ⟨g, 0, none⟩), .int .i64 r, .agg #[.int .i64 (d 0), .int .i64 (d 1), .int .i64 (d 2), .int .i64 (d 3), .int .i64 (d 4), .int .i64 (d 5), .int .i64 (d 6)]] w fun e w' =>
      e = .returned (.bool false) ∧ Below w.heap.size w w' := by
  have h0 := h.n0
  have hg := h.lt
  have R := Lib.hid (fun W => refright_any d W)
  rw [hd] at R
  go_enter Try.func10, Try.ntmps10
  go_wp2_with fail
  refine (R.out _).mono ?_
  rintro e w1 ⟨rfl, hb1⟩
  have HB : Below w.heap.size w w1 := below_next (by go_grown) hb1
  go_wp2
  go_ret
  exact ⟨rfl, HB⟩

theorem refhear_any (g n me : Nat) (r : Int) (F : FrontP.Fr) (d : Nat → Int) (w : World) (h : FrontAt w g 35 n me F) :
    Calls Try.prog 10 #[.pointer (some ⟨g, 0, none⟩), .int .i64 r, .agg #[.int .i64 (d 0), .int .i64 (d 1), .int .i64 (d 2), .int .i64 (d 3), .int .i64 (d 4), .int .i64 (d 5), .int .i64 (d 6)]] w fun e w' =>
      e = .returned (.bool (FrontP.takes n r d)) ∧ FrontAt w' g 35 n me (FrontP.heard F n r d) ∧ Touch g w w' := by
  unfold FrontP.takes FrontP.heard FrontP.takes
  by_cases hr : 0 ≤ r ∧ r < n
  · obtain ⟨q, rfl⟩ := Int.eq_ofNat_of_zero_le hr.1
    cases hd : FrontP.right d
    · refine (refhear_wrong g n me q F d w h (by omega) hd).mono ?_
      rintro e w' ⟨rfl, hb⟩
      exact ⟨ret_bool (by simp), by simpa using h.below hb h.lt, .of_below hb⟩
    · refine (refhear_in g n me q F d w h (by omega) hd).mono ?_
      rintro e w' ⟨rfl, hf, ht⟩
      have hq : q < n := by omega
      exact ⟨ret_bool (by simp [hq]), by simpa [hq] using hf, ht⟩
  · refine (refhear_out g n me r F d w h (by omega)).mono ?_
    rintro e w' ⟨rfl, hb⟩
    have : (decide (0 ≤ r) && decide (r < (n : Int))) = false := by simp; omega
    exact ⟨ret_bool (by simp [this]), by simpa [this] using h.below hb h.lt, .of_below hb⟩

set_option maxHeartbeats 1000000 in
theorem refstable_any (g n me : Nat) (F : FrontP.Fr) (w : World) (h : FrontAt w g 35 n me F) (hme : me < n) :
    Calls Try.prog 11 #[.pointer (some ⟨g, 0, none⟩)] w fun e w' => e = .returned (depsV (FrontP.stable F n me)) ∧ Below w.heap.size w w' := by
  have hn := h.n7
  have h0 := h.n0
  have hg := h.lt
  have c0 := h.at 0 0 (by omega) (by omega)
  have c1 := h.at 0 1 (by omega) (by omega)
  have c2 := h.at 0 2 (by omega) (by omega)
  have c3 := h.at 0 3 (by omega) (by omega)
  have c4 := h.at 0 4 (by omega) (by omega)
  have c5 := h.at 0 5 (by omega) (by omega)
  have c6 := h.at 0 6 (by omega) (by omega)
  simp only [Nat.zero_mul, Nat.add_zero, Nat.reduceAdd] at c0 c1 c2 c3 c4 c5 c6
  have hstab := FrontP.stable_eq F n me 0 hme (by omega)
  have HST := Lib.hid hstab; clear hstab
  have HF := Lib.hid h; clear h
  go_enter Try.func11, Try.ntmps11
  go_upto_region 2 with (fail)
  go_name_world W hW
  have hO : Holds W (w.heap.size + 1) 28 (depCells (F 0)) := by
    rw [← hW]
    exact (by simpa [depCells] using holds_alloc (w.alloc (.cells #[.int .i64 0, .int .i64 0, .int .i64 0, .int .i64 0, .int .i64 0, .int .i64 0, .int .i64 0] 28)) 28 (depCells (F 0)))
  have hR : Holds W w.heap.size 28 (depCells fun _ => 0) := by
    rw [← hW]
    exact (show Holds _ _ _ _ from holds_past (holds_alloc w 28 (depCells fun _ => 0)) _)
  have HB : Below w.heap.size w W := by rw [← hW]; go_grown
  have HFW := HF.out.below HB hg
  clear hW c0 c1 c2 c3 c4 c5 c6
  have HW := Lib.hid (And.intro hO (And.intro hR (And.intro HB HFW)))
  clear hO hR HB HFW
  go_wp2
  go_loopw [4] (fun i wr => ∃ r : Nat, 1 ≤ r ∧ r ≤ n ∧ i = .int .i64 r ∧ Holds wr (w.heap.size + 1) 28 (depCells (FrontP.leastTo F (F 0) r)) ∧ Holds wr w.heap.size 28 (depCells fun _ => 0) ∧ FrontAt wr g 35 n me F ∧ Below w.heap.size w wr) (fun i _ => n - (intOf i).toNat)
  case atStart => exact ⟨1, by omega, by omega, rfl, by rw [FrontP.least_one]; exact HW.out.1, HW.out.2.1, HW.out.2.2.2, HW.out.2.2.1⟩
  case round =>
    obtain ⟨r, hr1, hr, rfl, hO, hR, hF, HB⟩ := hrel
    have h0 := hF.n0
    have hgW := hF.lt
    by_cases hlt : r < n
    · have HH := Lib.hid (And.intro hO (And.intro hR (And.intro HB hF)))
      clear hO hR HB hF
      go_wp2
      obtain ⟨wo, hwo⟩ : ∃ wo : World, wo = wr := ⟨_, rfl⟩
      rw [← hwo] at HH ⊢
      clear hwo h0 hgW
      go_loopw [5] (fun i wr => ∃ k : Nat, k ≤ 7 ∧ i = .int .i64 k ∧ Holds wr (w.heap.size + 1) 28 (depCells (FrontP.leastIn F (F 0) r k)) ∧ Holds wr w.heap.size 28 (depCells fun _ => 0) ∧ FrontAt wr g 35 n me F ∧ Below w.heap.size w wr) (fun i _ => 7 - (intOf i).toNat)
      case atStart => exact ⟨0, by omega, rfl, by rw [FrontP.leastIn_zero]; exact HH.out.1, HH.out.2.1, HH.out.2.2.2, HH.out.2.2.1⟩
      case round =>
        obtain ⟨k, hk, rfl, hO, hR, hF, HB⟩ := hrel
        clear HH
        by_cases hlt2 : k < 7
        · have hcell := hO.cell k
          rw [getElem_deps _ k hlt2, FrontP.leastIn_at] at hcell
          have hfree := hO.free k
          have hcell2 := hF.at r k (by omega) hlt2
          have hset := fun v => hO.set k (.int .i64 v)
          have HSET := Lib.hid hset; clear hset
          have HS := Lib.hid (FrontP.leastIn_succ F (F 0) r k)
          have HK := Lib.hid (And.intro hR (And.intro HB hF))
          clear hO hR HB hF
          go_upto_region 8 with (fail)
          go_region
          go_wp2
          go_roundw
          case rel =>
            refine ⟨k + 1, by omega, by go_num, ?_, holds_drew (holds_other HK.out.1 (by omega) _ _), ⟨holds_drew (holds_other HK.out.2.2.h (by omega) _ _), hn⟩, (HK.out.2.1.setCell (by simp) _).drew⟩
            have h1 := HSET.out (FrontP.mn (FrontP.leastTo F (F 0) r k) (F r k))
            rw [set_deps _ k _ hlt2, ← HS.out] at h1
            exact h1
          case measure => simp [intOf]; omega
        · have hk7 : k = 7 := by omega
          subst hk7
          have HK := Lib.hid (And.intro hO (And.intro hR (And.intro HB hF)))
          clear hO hR HB hF
          go_wp2
          go_roundw
          case rel => exact ⟨r + 1, by omega, by omega, by go_num, by have := HK.out.1; simpa [depCells, FrontP.leastIn] using this, HK.out.2.1, HK.out.2.2.2, HK.out.2.2.1⟩
          case measure => simp [intOf]; omega
    · have hrn : r = n := by omega
      subst hrn
      have o0 := hO.cell 0
      have o1 := hO.cell 1
      have o2 := hO.cell 2
      have o3 := hO.cell 3
      have o4 := hO.cell 4
      have o5 := hO.cell 5
      have o6 := hO.cell 6
      have r0 := hR.cell 0
      have r1 := hR.cell 1
      have r2 := hR.cell 2
      have r3 := hR.cell 3
      have r4 := hR.cell 4
      have r5 := hR.cell 5
      have r6 := hR.cell 6
      simp only [depCells, List.getElem?_cons_zero, List.getElem?_cons_succ] at o0 o1 o2 o3 o4 o5 o6 r0 r1 r2 r3 r4 r5 r6
      have f0 := hR.free 0
      have f1 := hR.free 1
      have f2 := hR.free 2
      have f3 := hR.free 3
      have f4 := hR.free 4
      have f5 := hR.free 5
      have f6 := hR.free 6
      have HK := Lib.hid (And.intro hR HB)
      clear hO hR HB hF
      go_wp2
      have H7 := ((((((HK.out.1.set 0 (.int .i64 (FrontP.leastTo F (F 0) r 0))).set 1 (.int .i64 (FrontP.leastTo F (F 0) r 1))).set 2 (.int .i64 (FrontP.leastTo F (F 0) r 2))).set 3 (.int .i64 (FrontP.leastTo F (F 0) r 3))).set 4 (.int .i64 (FrontP.leastTo F (F 0) r 4))).set 5 (.int .i64 (FrontP.leastTo F (F 0) r 5))).set 6 (.int .i64 (FrontP.leastTo F (F 0) r 6))
      have HB := HK.out.2
      exact bodyPost_ret (v := depsV (FrontP.stable F r 0)) (results_cell_row rfl _ _ w.heap.size 28 (depCells (FrontP.leastTo F (F 0) r)).toArray (0, 0) _ rfl H7 Try.underlying28 rfl (by kernel_rfl)) rfl ⟨by rw [HST.out], by go_grown⟩

end Go.Proofs.Ytfjllpnmkbfheaa
