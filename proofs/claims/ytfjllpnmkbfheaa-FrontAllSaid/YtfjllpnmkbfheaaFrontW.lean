/-
  The walks of package front.
-/
import Derived.Test.YtfjllpnmkbfheaaCommon
import Derived.Test.YtfjllpnmkbfheaaFrontP
import Derived.BigRegion
import Derived.Lib.ItoaWalk
namespace Go.Proofs.Ytfjllpnmkbfheaa
open Go.RowKit

/-- The cells of a Fronts: n, me, and seven rows of seven. -/
def frontCells (n me : Nat) (F : FrontP.Fr) : List Value := .int .i64 n :: .int .i64 me :: (List.range 49).map fun j => .int .i64 (F (j / 7) (j % 7))
theorem getElem_front (n me : Nat) (F : FrontP.Fr) (r i : Nat) (hr : r < 7) (hi : i < 7) : (frontCells n me F)[2 + r * 7 + i]? = some (.int .i64 (F r i)) := by
  have e1 : (r * 7 + i) / 7 = r := by omega
  have e2 : (r * 7 + i) % 7 = i := by omega
  rw [show 2 + r * 7 + i = (r * 7 + i) + 1 + 1 from by omega, frontCells, List.getElem?_cons_succ, List.getElem?_cons_succ, List.getElem?_map, List.getElem?_range (by omega)]
  simp [e1, e2]
theorem set_front (n me : Nat) (F : FrontP.Fr) (r i : Nat) (v : Int) (_hr : r < 7) (hi : i < 7) :
    (frontCells n me F).set (2 + r * 7 + i) (.int .i64 v) = frontCells n me (fun q j => if q = r ∧ j = i then v else F q j) := by
  rw [show 2 + r * 7 + i = (r * 7 + i) + 1 + 1 from by omega, frontCells, List.set_cons_succ, List.set_cons_succ, frontCells]
  congr 2
  apply List.ext_getElem?
  intro j
  rw [List.getElem?_set, List.getElem?_map]
  by_cases hj : j < 49
  · rw [List.getElem?_map, List.getElem?_range hj]
    by_cases hji : r * 7 + i = j
    · subst hji
      rw [if_pos rfl, if_pos (by simp; omega)]
      have e1 : (r * 7 + i) / 7 = r := by omega
      have e2 : (r * 7 + i) % 7 = i := by omega
      simp [e1, e2]
    · rw [if_neg hji]
      have : ¬ (j / 7 = r ∧ j % 7 = i) := by omega
      simp [this]
  · rw [List.getElem?_map, List.getElem?_eq_none (by simp; omega)]
    split
    · rw [if_neg (by simp; omega)]; rfl
    · rfl
/-- A value of type Deps. -/
def depsV (d : Nat → Int) : Value := .agg #[.int .i64 (d 0), .int .i64 (d 1), .int .i64 (d 2), .int .i64 (d 3), .int .i64 (d 4), .int .i64 (d 5), .int .i64 (d 6)]
def depCells (d : Nat → Int) : List Value := [.int .i64 (d 0), .int .i64 (d 1), .int .i64 (d 2), .int .i64 (d 3), .int .i64 (d 4), .int .i64 (d 5), .int .i64 (d 6)]
theorem getElem_deps (d : Nat → Int) (k : Nat) (hk : k < 7) : (depCells d)[k]? = some (.int .i64 (d k)) := by
  rcases (show k = 0 ∨ k = 1 ∨ k = 2 ∨ k = 3 ∨ k = 4 ∨ k = 5 ∨ k = 6 by omega) with rfl | rfl | rfl | rfl | rfl | rfl | rfl <;> rfl
theorem set_deps (d : Nat → Int) (k : Nat) (v : Int) (hk : k < 7) : (depCells d).set k (.int .i64 v) = depCells fun i => if i = k then v else d i := by
  rcases (show k = 0 ∨ k = 1 ∨ k = 2 ∨ k = 3 ∨ k = 4 ∨ k = 5 ∨ k = 6 by omega) with rfl | rfl | rfl | rfl | rfl | rfl | rfl <;> simp [depCells]
theorem holds_drew {w : World} {g e : Nat} {L : List Value} (h : Holds w g e L) : Holds w.drew g e L := h
theorem holds_other {w : World} {g g' e : Nat} {L : List Value} (h : Holds w g' e L) (hg : g' ≠ g) (i : Nat) (v : Value) : Holds (w.setCell ⟨g, i, none⟩ v) g' e L := by
  unfold Holds at *
  rw [Below.heap_setCell _ _ _ _ hg]; exact h
theorem holds_past {w : World} {g e : Nat} {L : List Value} (h : Holds w g e L) (o : Obj) : Holds (w.alloc o) g e L := by
  have := h.lt
  exact h.below (B := w.heap.size) ((Below.refl _ _).alloc (Nat.le_refl _) o) this
structure FrontAt (w : World) (g e n me : Nat) (F : FrontP.Fr) : Prop where
  h : Holds w g e (frontCells n me F)
  n7 : n ≤ 7
theorem FrontAt.n0 {w : World} {g e n me : Nat} {F : FrontP.Fr} (h : FrontAt w g e n me F) : w.cell? ⟨g, 0, none⟩ = some (.int .i64 n) := h.h.cell 0
theorem FrontAt.me1 {w : World} {g e n me : Nat} {F : FrontP.Fr} (h : FrontAt w g e n me F) : w.cell? ⟨g, 1, none⟩ = some (.int .i64 me) := h.h.cell 1
theorem FrontAt.at {w : World} {g e n me : Nat} {F : FrontP.Fr} (h : FrontAt w g e n me F) (r i : Nat) (hr : r < 7) (hi : i < 7) : w.cell? ⟨g, 2 + r * 7 + i, none⟩ = some (.int .i64 (F r i)) := by
  rw [h.h.cell]; exact getElem_front n me F r i hr hi
theorem FrontAt.lt {w : World} {g e n me : Nat} {F : FrontP.Fr} (h : FrontAt w g e n me F) : g < w.heap.size := h.h.lt
theorem FrontAt.below {w w' : World} {g e n me B : Nat} {F : FrontP.Fr} (h : FrontAt w g e n me F) (hb : Below B w w') (hg : g < B) : FrontAt w' g e n me F := ⟨h.h.below hb hg, h.n7⟩

set_option maxHeartbeats 1000000 in
theorem of_in (g n me r : Nat) (F : FrontP.Fr) (w : World) (h : FrontAt w g 44 n me F) (hr : r < n) :
    Calls Try.prog 12 #[.pointer (some ⟨g, 0, none⟩), .int .i64 r] w fun e w' => e = .returned (depsV (F r)) ∧ Below w.heap.size w w' := by
  have hn := h.n7
  have h0 := h.n0
  have hg := h.lt
  have c0 := h.at r 0 (by omega) (by omega)
  have c1 := h.at r 1 (by omega) (by omega)
  have c2 := h.at r 2 (by omega) (by omega)
  have c3 := h.at r 3 (by omega) (by omega)
  have c4 := h.at r 4 (by omega) (by omega)
  have c5 := h.at r 5 (by omega) (by omega)
  have c6 := h.at r 6 (by omega) (by omega)
  rw [Nat.add_zero] at c0
  go_enter Try.func12, Try.ntmps12
  go_wp2
  exact bodyPost_ret (v := depsV (F r)) (by simp [results, Try.results12, go_sem, depsV]) rfl ⟨rfl, by go_grown⟩

theorem idx_deps (d : Nat → Int) (k : Nat) (hk : k < 7) (w : World) :
    (Instr.index 28 (.agg #[.int .i64 (d 0), .int .i64 (d 1), .int .i64 (d 2), .int .i64 (d 3), .int .i64 (d 4), .int .i64 (d 5), .int .i64 (d 6)]) (.int .i64 k)).run Try.prog w = .ok (.int .i64 (d k)) w := by
  rcases (show k = 0 ∨ k = 1 ∨ k = 2 ∨ k = 3 ∨ k = 4 ∨ k = 5 ∨ k = 6 by omega) with rfl | rfl | rfl | rfl | rfl | rfl | rfl <;> kernel_rfl

set_option maxHeartbeats 1000000 in
theorem right_any (s : Int) (d : Nat → Int) (w : World) (hs : s = 0) :
    Calls Try.prog 14 #[.agg #[.int .i64 s, .int .i64 (d 0), .int .i64 (d 1), .int .i64 (d 2), .int .i64 (d 3), .int .i64 (d 4), .int .i64 (d 5), .int .i64 (d 6)]] w fun e w' => e = .returned (.bool (FrontP.right d)) ∧ Below w.heap.size w w' := by
  subst hs
  go_enter Try.func14, Try.ntmps14
  go_wp2
  go_loop [7] (fun i => ∃ k : Nat, k ≤ 7 ∧ i = .int .i64 k ∧ FrontP.rightTo d k = true) (fun i => 7 - (intOf i).toNat)
  case atStart => exact ⟨0, by omega, rfl, rfl⟩
  case round =>
    obtain ⟨k, hk, rfl, hpre⟩ := hrel
    have HP := Lib.hid hpre; clear hpre
    by_cases hlt : k < 7
    · have hidx := idx_deps d k hlt
      have hs := FrontP.rightTo_succ d k
      have hf := FrontP.right_false d k hlt
      have HS := Lib.hid hs; have HF := Lib.hid hf; clear hs hf
      generalize d k = x at hidx HS HF
      go_wp2
      · go_ret
        exact ⟨ret_bool (by rw [HF.out ‹_›]), by go_grown⟩
      · go_round
        case rel => exact ⟨k + 1, by omega, by go_num, by rw [HS.out, HP.out]; simp; omega⟩
        case measure => simp [intOf]; omega
      · go_ret
        exact ⟨ret_bool (by rw [HF.out (.inl ‹_›)]), by go_grown⟩
    · have hk7 : k = 7 := by omega
      subst hk7
      have HP2 := Lib.hid (show FrontP.right d = true from HP.out)
      go_wp2
      go_ret
      exact ⟨ret_bool (by rw [HP2.out]), by go_grown⟩

set_option maxHeartbeats 1000000 in
theorem hear_in (g n me r : Nat) (F : FrontP.Fr) (d : Nat → Int) (w : World) (h : FrontAt w g 44 n me F) (hr : r < n) (hd : FrontP.right d = true) :
    Calls Try.prog 8 #[.pointer (some ⟨g, 0, none⟩), .int .i64 r, .agg #[.int .i64 (d 0), .int .i64 (d 1), .int .i64 (d 2), .int .i64 (d 3), .int .i64 (d 4), .int .i64 (d 5), .int .i64 (d 6)]] w fun e w' =>
      e = .returned (.bool true) ∧ FrontAt w' g 44 n me (FrontP.hear F r d) ∧ Touch g w w' := by
  have hn := h.n7
  have h0 := h.n0
  have hg := h.lt
  have HF := Lib.hid h
  have R := Lib.hid (fun W => right_any 0 d W rfl)
  rw [hd] at R
  go_enter Try.func8, Try.ntmps8
  go_wp2_with fail
  refine (R.out _).mono ?_
  rintro e w1 ⟨rfl, hb1⟩
  have hf1 := HF.out.below (below_next (by go_grown) hb1) hg
  have ht1 : Touch g w w1 := .of_below (below_next (by go_grown) hb1)
  obtain ⟨hc1, hz1⟩ := bcell hb1
  go_wp2
  go_loopw [26] (fun i wr => ∃ k : Nat, k ≤ 7 ∧ i = .int .i64 k ∧ FrontAt wr g 44 n me (FrontP.hearTo F r d k) ∧ Touch g w wr) (fun i _ => 7 - (intOf i).toNat)
  case atStart => exact ⟨0, by omega, rfl, by rw [FrontP.hearTo_zero]; exact hf1, ht1⟩
  case round =>
    obtain ⟨k, hk, rfl, hfr, htr⟩ := hrel
    clear hc1 hz1 hb1
    by_cases hlt : k < 7
    · have hidx := idx_deps d k hlt
      have hcell := hfr.at r k (by omega) hlt
      rw [FrontP.hearTo_at] at hcell
      have hfree := hfr.h.free (2 + r * 7 + k)
      have hs := FrontP.hearTo_succ F r d k
      have HS := Lib.hid hs; clear hs
      have hset := fun v => hfr.h.set (2 + r * 7 + k) (.int .i64 v)
      have HSET := Lib.hid hset; clear hset
      go_upto_region 6 with (fail)
      go_region
      go_wp2
      go_roundw
      case rel =>
        refine ⟨k + 1, by omega, by go_num, ⟨?_, hn⟩, (htr.setCell _ _).drew⟩
        have h1 := HSET.out (FrontP.mx (F r k) (d k))
        rw [set_front _ _ _ r k _ (by omega) hlt, ← HS.out] at h1
        exact h1
      case measure => simp [intOf]; omega
    · have hk7 : k = 7 := by omega
      subst hk7
      have HFR := Lib.hid (show FrontAt wr g 44 n me (FrontP.hear F r d) from hfr)
      clear hfr
      go_wp2
      go_ret
      exact ⟨rfl, HFR.out, htr⟩

set_option maxHeartbeats 1000000 in
theorem hear_out (g n me : Nat) (r : Int) (F : FrontP.Fr) (d : Nat → Int) (w : World) (h : FrontAt w g 44 n me F) (hr : r < 0 ∨ (n : Int) ≤ r) :
    Calls Try.prog 8 #[.pointer (some ⟨g, 0, none⟩), .int .i64 r, .agg #[.int .i64 (d 0), .int .i64 (d 1), .int .i64 (d 2), .int .i64 (d 3), .int .i64 (d 4), .int .i64 (d 5), .int .i64 (d 6)]] w fun e w' =>
      e = .returned (.bool false) ∧ Below w.heap.size w w' := by
  have h0 := h.n0
  have hg := h.lt
  by_cases hr0 : r < 0
  · go_enter Try.func8, Try.ntmps8
    go_wp2_with fail
    go_ret
    exact ⟨rfl, by go_grown⟩
  · have hr1 : (n : Int) ≤ r := by omega
    go_enter Try.func8, Try.ntmps8
    go_wp2_with fail
    go_ret
    exact ⟨rfl, by go_grown⟩

set_option maxHeartbeats 1000000 in
theorem hear_wrong (g n me r : Nat) (F : FrontP.Fr) (d : Nat → Int) (w : World) (h : FrontAt w g 44 n me F) (hr : r < n) (hd : FrontP.right d = false) :
    Calls Try.prog 8 #[.pointer (some ⟨g, 0, none⟩), .int .i64 r, .agg #[.int .i64 (d 0), .int .i64 (d 1), .int .i64 (d 2), .int .i64 (d 3), .int .i64 (d 4), .int .i64 (d 5), .int .i64 (d 6)]] w fun e w' =>
      e = .returned (.bool false) ∧ Below w.heap.size w w' := by
  have h0 := h.n0
  have hg := h.lt
  have R := Lib.hid (fun W => right_any 0 d W rfl)
  rw [hd] at R
  go_enter Try.func8, Try.ntmps8
  go_wp2_with fail
  refine (R.out _).mono ?_
  rintro e w1 ⟨rfl, hb1⟩
  have HB : Below w.heap.size w w1 := below_next (by go_grown) hb1
  go_wp2
  go_ret
  exact ⟨rfl, HB⟩

/-- Hear, whatever it is told. -/
theorem hear_any (g n me : Nat) (r : Int) (F : FrontP.Fr) (d : Nat → Int) (w : World) (h : FrontAt w g 44 n me F) :
    Calls Try.prog 8 #[.pointer (some ⟨g, 0, none⟩), .int .i64 r, .agg #[.int .i64 (d 0), .int .i64 (d 1), .int .i64 (d 2), .int .i64 (d 3), .int .i64 (d 4), .int .i64 (d 5), .int .i64 (d 6)]] w fun e w' =>
      e = .returned (.bool (FrontP.takes n r d)) ∧ FrontAt w' g 44 n me (FrontP.heard F n r d) ∧ Touch g w w' := by
  unfold FrontP.takes FrontP.heard FrontP.takes
  by_cases hr : 0 ≤ r ∧ r < n
  · obtain ⟨q, rfl⟩ := Int.eq_ofNat_of_zero_le hr.1
    cases hd : FrontP.right d
    · refine (hear_wrong g n me q F d w h (by omega) hd).mono ?_
      rintro e w' ⟨rfl, hb⟩
      exact ⟨ret_bool (by simp), by simpa using h.below hb h.lt, .of_below hb⟩
    · refine (hear_in g n me q F d w h (by omega) hd).mono ?_
      rintro e w' ⟨rfl, hf, ht⟩
      have hq : q < n := by omega
      exact ⟨ret_bool (by simp [hq]), by simpa [hq] using hf, ht⟩
  · refine (hear_out g n me r F d w h (by omega)).mono ?_
    rintro e w' ⟨rfl, hb⟩
    have : (decide (0 ≤ r) && decide (r < (n : Int))) = false := by simp; omega
    exact ⟨ret_bool (by simp [this]), by simpa [this] using h.below hb h.lt, .of_below hb⟩

theorem of_any (g n me : Nat) (r : Int) (F : FrontP.Fr) (w : World) (h : FrontAt w g 44 n me F) (hr : r < 0 ∨ (n : Int) ≤ r) :
    Calls Try.prog 12 #[.pointer (some ⟨g, 0, none⟩), .int .i64 r] w fun e w' => e = .returned (depsV fun _ => 0) ∧ Below w.heap.size w w' := by
  have h0 := h.n0
  have hg := h.lt
  by_cases hr0 : r < 0
  · go_enter Try.func12, Try.ntmps12
    go_wp2_with fail
    exact bodyPost_ret (v := depsV fun _ => 0) (by simp [results, Try.results12, go_sem, depsV]) rfl ⟨rfl, by go_grown⟩
  · have hr1 : (n : Int) ≤ r := by omega
    go_enter Try.func12, Try.ntmps12
    go_wp2_with fail
    exact bodyPost_ret (v := depsV fun _ => 0) (by simp [results, Try.results12, go_sem, depsV]) rfl ⟨rfl, by go_grown⟩

set_option maxHeartbeats 1000000 in
theorem stable_any (g n me : Nat) (F : FrontP.Fr) (w : World) (h : FrontAt w g 44 n me F) (hme : me < n) :
    Calls Try.prog 9 #[.pointer (some ⟨g, 0, none⟩)] w fun e w' => e = .returned (depsV (FrontP.stable F n me)) ∧ Below w.heap.size w w' := by
  have hn := h.n7
  have h0 := h.n0
  have hm := h.me1
  have hg := h.lt
  have c0 := h.at me 0 (by omega) (by omega)
  have c1 := h.at me 1 (by omega) (by omega)
  have c2 := h.at me 2 (by omega) (by omega)
  have c3 := h.at me 3 (by omega) (by omega)
  have c4 := h.at me 4 (by omega) (by omega)
  have c5 := h.at me 5 (by omega) (by omega)
  have c6 := h.at me 6 (by omega) (by omega)
  rw [Nat.add_zero] at c0
  have HF := Lib.hid h; clear h
  go_enter Try.func9, Try.ntmps9
  go_upto_region 1 with (fail)
  go_region
  go_upto_region 2 with (fail)
  go_name_world W hW
  have hO : Holds W (w.heap.size + 1) 28 (depCells (F me)) := by
    rw [← hW]
    exact holds_drew (by simpa [depCells] using holds_alloc (w.alloc (.cells #[.int .i64 0, .int .i64 0, .int .i64 0, .int .i64 0, .int .i64 0, .int .i64 0, .int .i64 0] 28)) 28 (depCells (F me)))
  have hR : Holds W w.heap.size 28 (depCells fun _ => 0) := by
    rw [← hW]
    exact (show Holds _ _ _ _ from holds_past (holds_alloc w 28 (depCells fun _ => 0)) _)
  have HB : Below w.heap.size w W := by rw [← hW]; go_grown
  have HFW := HF.out.below HB hg
  clear hW c0 c1 c2 c3 c4 c5 c6
  have h0 := HFW.n0
  have hgW := HFW.lt
  have HW := Lib.hid (And.intro hO (And.intro hR (And.intro HB HFW)))
  clear hO hR HB HFW
  go_wp2
  go_loopw [20] (fun i wr => ∃ r : Nat, r ≤ n ∧ i = .int .i64 r ∧ Holds wr (w.heap.size + 1) 28 (depCells (FrontP.leastTo F (F me) r)) ∧ Holds wr w.heap.size 28 (depCells fun _ => 0) ∧ FrontAt wr g 44 n me F ∧ Below w.heap.size w wr) (fun i _ => n - (intOf i).toNat)
  case atStart => exact ⟨0, by omega, rfl, HW.out.1, HW.out.2.1, HW.out.2.2.2, HW.out.2.2.1⟩
  case round =>
    obtain ⟨r, hr, rfl, hO, hR, hF, HB⟩ := hrel
    by_cases hlt : r < n
    · have c0 := hF.at r 0 (by omega) (by omega)
      have c1 := hF.at r 1 (by omega) (by omega)
      have c2 := hF.at r 2 (by omega) (by omega)
      have c3 := hF.at r 3 (by omega) (by omega)
      have c4 := hF.at r 4 (by omega) (by omega)
      have c5 := hF.at r 5 (by omega) (by omega)
      have c6 := hF.at r 6 (by omega) (by omega)
      rw [Nat.add_zero] at c0
      have HH := Lib.hid (And.intro hO (And.intro hR (And.intro HB hF)))
      clear hO hR HB hF
      go_wp2
      clear c0 c1 c2 c3 c4 c5 c6
      obtain ⟨wo, hwo⟩ : ∃ wo : World, wo = wr := ⟨_, rfl⟩
      rw [← hwo] at HH ⊢
      clear hwo
      go_loopw [29] (fun i wr => ∃ k : Nat, k ≤ 7 ∧ i = .int .i64 k ∧ Holds wr (w.heap.size + 1) 28 (depCells (FrontP.leastIn F (F me) r k)) ∧ Holds wr w.heap.size 28 (depCells fun _ => 0) ∧ FrontAt wr g 44 n me F ∧ Below w.heap.size w wr) (fun i _ => 7 - (intOf i).toNat)
      case atStart => exact ⟨0, by omega, rfl, by rw [FrontP.leastIn_zero]; exact HH.out.1, HH.out.2.1, HH.out.2.2.2, HH.out.2.2.1⟩
      case round =>
        obtain ⟨k, hk, rfl, hO, hR, hF, HB⟩ := hrel
        clear HH
        by_cases hlt2 : k < 7
        · have hidx := idx_deps (F r) k hlt2
          have hcell := hO.cell k
          rw [getElem_deps _ k hlt2, FrontP.leastIn_at] at hcell
          have hfree := hO.free k
          have hset := fun v => hO.set k (.int .i64 v)
          have HSET := Lib.hid hset; clear hset
          have HS := Lib.hid (FrontP.leastIn_succ F (F me) r k)
          have HK := Lib.hid (And.intro hR (And.intro HB hF))
          clear hO hR HB hF
          go_wp2
          go_roundw
          case rel =>
            refine ⟨k + 1, by omega, by go_num, ?_, holds_other HK.out.1 (by omega) _ _, ⟨holds_other HK.out.2.2.h (by omega) _ _, hn⟩, HK.out.2.1.setCell (by simp) _⟩
            have h1 := HSET.out (FrontP.mn (FrontP.leastTo F (F me) r k) (F r k))
            rw [set_deps _ k _ hlt2, ← HS.out] at h1
            exact h1
          case measure => simp [intOf]; omega
        · have hk7 : k = 7 := by omega
          subst hk7
          have HK := Lib.hid (And.intro hO (And.intro hR (And.intro HB hF)))
          clear hO hR HB hF
          go_wp2
          go_roundw
          case rel => exact ⟨r + 1, by omega, by go_num, by have := HK.out.1; simpa [depCells, FrontP.leastIn] using this, HK.out.2.1, HK.out.2.2.2, HK.out.2.2.1⟩
          case measure => simp [intOf]; omega
    · have hrn : r = n := by omega
      subst hrn
      have o0 := hO.cell 0
      have o1 := hO.cell 1
      have o2 := hO.cell 2
      have o3 := hO.cell 3
      have o4 := hO.cell 4
      have o5 := hO.cell 5
      have o6 := hO.cell 6
      have r0 := hR.cell 0
      have r1 := hR.cell 1
      have r2 := hR.cell 2
      have r3 := hR.cell 3
      have r4 := hR.cell 4
      have r5 := hR.cell 5
      have r6 := hR.cell 6
      simp only [depCells, List.getElem?_cons_zero, List.getElem?_cons_succ] at o0 o1 o2 o3 o4 o5 o6 r0 r1 r2 r3 r4 r5 r6
      have f0 := hR.free 0
      have f1 := hR.free 1
      have f2 := hR.free 2
      have f3 := hR.free 3
      have f4 := hR.free 4
      have f5 := hR.free 5
      have f6 := hR.free 6
      have HK := Lib.hid (And.intro hR HB)
      clear hO hR HB hF
      go_wp2
      have H7 := ((((((HK.out.1.set 0 (.int .i64 (FrontP.leastTo F (F me) r 0))).set 1 (.int .i64 (FrontP.leastTo F (F me) r 1))).set 2 (.int .i64 (FrontP.leastTo F (F me) r 2))).set 3 (.int .i64 (FrontP.leastTo F (F me) r 3))).set 4 (.int .i64 (FrontP.leastTo F (F me) r 4))).set 5 (.int .i64 (FrontP.leastTo F (F me) r 5))).set 6 (.int .i64 (FrontP.leastTo F (F me) r 6))
      have HB := HK.out.2
      exact bodyPost_ret (v := depsV (FrontP.stable F r me)) (results_cell_row rfl _ _ w.heap.size 28 (depCells (FrontP.leastTo F (F me) r)).toArray (0, 0) _ rfl H7 Try.underlying28 rfl (by kernel_rfl)) rfl ⟨rfl, by go_grown⟩
end Go.Proofs.Ytfjllpnmkbfheaa
