/-
  The walks of package span.
-/
import Derived.Test.YtonnidebpbnpaaaCommon
import Derived.Test.YtonnidebpbnpaaaSpanOrd
import Derived.Laws.StructEq
namespace Go.Proofs.Ytonnidebpbnpaaa
open Go.RowKit

set_option maxHeartbeats 400000 in
theorem under_any (k hi : ByteArray) (w : World) : Calls Try.prog 19 #[.string k, .string hi] w fun e w' => e = .returned (.bool (SpanP.under k hi)) ∧ w = w' := by
  go_enter Try.func19, Try.ntmps19
  go_wp2
  · go_ret
    exact ⟨ret_bool (by simp [SpanP.under, SpanP.emp, ‹hi.toList = []›]), rfl⟩
  · go_ret
    exact ⟨rfl, rfl⟩

set_option maxHeartbeats 400000 in
theorem empty_any (lo hi : ByteArray) (w : World) : Calls Try.prog 11 #[.agg #[.string lo, .string hi]] w fun e w' => e = .returned (.bool (SpanP.empty lo hi)) ∧ Below w.heap.size w w' := by
  go_enter Try.func11, Try.ntmps11
  go_wp2_with (go_at_call 19; refine (under_any _ _ _).mono ?_; rintro e w' ⟨rfl, rfl⟩)
  go_ret
  exact ⟨rfl, by go_grown⟩

set_option maxHeartbeats 400000 in
theorem of_any (k : ByteArray) (w : World) (hk : k.size ≤ 140737488351232) : Calls Try.prog 8 #[.string k] w fun e w' => e = .returned (.agg #[.string k, .string (SpanP.succ k)]) ∧ Below w.heap.size w w' := by
  go_enter Try.func8, Try.ntmps8
  go_wp2
  exact bodyPost_ret (v := .agg #[.string k, .string (SpanP.succ k)]) (by simp [results, Try.results8, go_sem, SpanP.succ]) rfl ⟨rfl, by go_grown⟩

set_option maxHeartbeats 400000 in
theorem lawof_any (lo hi : ByteArray) (w : World) : Calls Try.prog 9 #[.string lo, .string hi] w fun e w' => e = .returned (.agg #[.string lo, .string hi]) ∧ Below w.heap.size w w' := by
  go_enter Try.func9, Try.ntmps9
  go_wp2
  exact bodyPost_ret (v := .agg #[.string lo, .string hi]) (by simp [results, Try.results9, go_sem]) rfl ⟨rfl, by go_grown⟩

set_option maxHeartbeats 800000 in
theorem has_any (lo hi k : ByteArray) (w : World) : Calls Try.prog 10 #[.agg #[.string lo, .string hi], .string k] w fun e w' => e = .returned (.bool (SpanP.has lo hi k)) ∧ Below w.heap.size w w' := by
  have hfin : ∀ b, SpanP.lt k lo = b → SpanP.has lo hi k = (!b && SpanP.under k hi) := fun b h => by rw [SpanP.has, h]
  have U := fun W => under_any k hi W
  have hb : ∃ b, Op.bytesLess k.toList lo.toList = b := ⟨_, rfl⟩
  obtain ⟨b, hb⟩ := hb
  have H := Lib.hid (hfin b hb)
  generalize SpanP.under k hi = u at U H
  have U := Lib.hid U
  cases b
  all_goals
    go_enter Try.func10, Try.ntmps10
    go_wp2_with (go_at_call 19; refine (U.out _).mono ?_; rintro e w' ⟨rfl, rfl⟩)
    go_ret
    exact ⟨ret_bool (by rw [H.out]; rfl), by go_grown⟩

set_option maxHeartbeats 1600000 in
theorem meets_any (al ah bl bh : ByteArray) (w : World) : Calls Try.prog 12 #[.agg #[.string al, .string ah], .agg #[.string bl, .string bh]] w fun e w' => e = .returned (.bool (SpanP.meets al ah bl bh)) ∧ Below w.heap.size w w' := by
  have hfin : SpanP.meets al ah bl bh = (!SpanP.empty al ah && !SpanP.empty bl bh && SpanP.under al bh && SpanP.under bl ah) := rfl
  have E1 := fun W => empty_any al ah W
  have E2 := fun W => empty_any bl bh W
  have U1 := fun W => under_any al bh W
  have U2 := fun W => under_any bl ah W
  generalize SpanP.meets al ah bl bh = m at hfin
  generalize SpanP.empty al ah = e1 at E1 hfin
  generalize SpanP.empty bl bh = e2 at E2 hfin
  generalize SpanP.under al bh = u1 at U1 hfin
  generalize SpanP.under bl ah = u2 at U2 hfin
  have H := Lib.hid hfin; clear hfin
  have E1 := Lib.hid E1; have E2 := Lib.hid E2; have U1 := Lib.hid U1; have U2 := Lib.hid U2
  go_enter Try.func12, Try.ntmps12
  go_wp2_with fail
  refine (E1.out _).mono ?_
  rintro e w1 ⟨rfl, hb1⟩
  obtain ⟨hc1, hf1⟩ := bcell hb1
  have HB1 : Below w.heap.size w w1 := below_next (by go_grown) hb1
  cases e1
  · go_wp2_with fail
    refine (E2.out _).mono ?_
    rintro e w2 ⟨rfl, hb2⟩
    have hz := hb1.size
    simp at hz
    have hz0 : w.heap.size < w1.heap.size := by omega
    have hz1 : w.heap.size + 1 < w1.heap.size := by omega
    obtain ⟨hc2, hf2⟩ := bcell hb2
    have HB2 : Below w.heap.size w w2 := below_next HB1 hb2
    cases e2
    · go_wp2_with fail
      refine (U1.out _).mono ?_
      rintro e w3 ⟨rfl, rfl⟩
      cases u1
      · go_wp2_with fail
        go_ret
        exact ⟨ret_bool (by rw [H.out]; rfl), HB2⟩
      · go_wp2_with fail
        refine (U2.out _).mono ?_
        rintro e w3 ⟨rfl, rfl⟩
        go_wp2_with fail
        go_ret
        exact ⟨ret_bool (by rw [H.out]; rfl), HB2⟩
    · go_wp2_with fail
      go_ret
      exact ⟨ret_bool (by rw [H.out]; rfl), HB2⟩
  · go_wp2_with fail
    go_ret
    exact ⟨ret_bool (by rw [H.out]; rfl), HB1⟩

set_option maxHeartbeats 1600000 in
theorem covers_any (al ah bl bh : ByteArray) (w : World) : Calls Try.prog 13 #[.agg #[.string al, .string ah], .agg #[.string bl, .string bh]] w fun e w' => e = .returned (.bool (SpanP.covers al ah bl bh)) ∧ Below w.heap.size w w' := by
  have hfin : SpanP.covers al ah bl bh = (SpanP.empty bl bh || (!Op.bytesLess bl.toList al.toList && (ah.toList.isEmpty || (!bh.toList.isEmpty && (Op.bytesLess bh.toList ah.toList || bh.toList == ah.toList))))) := rfl
  have E1 := fun W => empty_any bl bh W
  generalize SpanP.covers al ah bl bh = m at hfin
  generalize SpanP.empty bl bh = e1 at E1 hfin
  have E1 := Lib.hid E1
  have H := Lib.hid hfin; clear hfin
  go_enter Try.func13, Try.ntmps13
  go_wp2_with fail
  refine (E1.out _).mono ?_
  rintro e w1 ⟨rfl, hb1⟩
  obtain ⟨hc1, hf1⟩ := bcell hb1
  have HB1 : Below w.heap.size w w1 := below_next (by go_grown) hb1
  cases e1
  · go_wp2_with fail
    all_goals go_ret
    all_goals exact ⟨ret_bool (by rw [H.out]; simp [*]), HB1⟩
  · go_wp2_with fail
    go_ret
    exact ⟨ret_bool (by rw [H.out]; rfl), HB1⟩

set_option maxHeartbeats 1600000 in
theorem both_any (al ah bl bh : ByteArray) (w : World) : Calls Try.prog 14 #[.agg #[.string al, .string ah], .agg #[.string bl, .string bh]] w fun e w' => e = .returned (.agg #[.string (Lib.maxS al bl), .string (SpanP.bothHi ah bh)]) ∧ Below w.heap.size w w' := by
  have hmx := fun W => Lib.run_max_strs (P := Try.prog) W #[9, 9] 9 al bl
  go_enter Try.func14, Try.ntmps14
  go_wp2
  all_goals
    refine bodyPost_ret (v := .agg #[.string (Lib.maxS al bl), .string (SpanP.bothHi ah bh)]) ?_ rfl ⟨rfl, by go_grown⟩
    simp_all [results, Try.results14, go_sem, SpanP.bothHi, SpanP.emp, SpanP.lt]

/-! ### The document's own -/
set_option maxHeartbeats 800000 in
theorem refempty_any (lo hi : ByteArray) (w : World) : Calls Try.prog 15 #[.agg #[.string lo, .string hi]] w fun e w' => e = .returned (.bool (SpanP.refEmpty lo hi)) ∧ Below w.heap.size w w' := by
  go_enter Try.func15, Try.ntmps15
  go_wp2
  all_goals go_ret
  all_goals exact ⟨ret_bool (by simp [SpanP.refEmpty, SpanP.emp, SpanP.lt, SpanP.same, *]), by go_grown⟩

set_option maxHeartbeats 800000 in
theorem refhas_any (lo hi k : ByteArray) (w : World) : Calls Try.prog 16 #[.agg #[.string lo, .string hi], .string k] w fun e w' => e = .returned (.bool (SpanP.has lo hi k)) ∧ Below w.heap.size w w' := by
  go_enter Try.func16, Try.ntmps16
  go_wp2
  all_goals go_ret
  all_goals exact ⟨ret_bool (by simp [SpanP.has, SpanP.under, SpanP.emp, SpanP.lt, *]), by go_grown⟩

set_option maxHeartbeats 1600000 in
theorem refmeets_any (al ah bl bh : ByteArray) (w : World) : Calls Try.prog 17 #[.agg #[.string al, .string ah], .agg #[.string bl, .string bh]] w fun e w' => e = .returned (.bool (SpanP.refMeets al ah bl bh)) ∧ Below w.heap.size w w' := by
  have hfin : SpanP.refMeets al ah bl bh = (!(SpanP.refEmpty al ah || SpanP.refEmpty bl bh) && ((ah.toList.isEmpty || Op.bytesLess bl.toList ah.toList) && (bh.toList.isEmpty || Op.bytesLess al.toList bh.toList))) := rfl
  have E1 := fun W => refempty_any al ah W
  have E2 := fun W => refempty_any bl bh W
  generalize SpanP.refMeets al ah bl bh = m at hfin
  generalize SpanP.refEmpty al ah = e1 at E1 hfin
  generalize SpanP.refEmpty bl bh = e2 at E2 hfin
  have H := Lib.hid hfin; clear hfin
  have E1 := Lib.hid E1; have E2 := Lib.hid E2
  go_enter Try.func17, Try.ntmps17
  go_wp2_with fail
  refine (E1.out _).mono ?_
  rintro e w1 ⟨rfl, hb1⟩
  obtain ⟨hc1, hf1⟩ := bcell hb1
  have HB1 : Below w.heap.size w w1 := below_next (by go_grown) hb1
  cases e1
  · go_wp2_with fail
    refine (E2.out _).mono ?_
    rintro e w2 ⟨rfl, hb2⟩
    have hz := hb1.size
    simp at hz
    have hz0 : w.heap.size < w1.heap.size := by omega
    have hz1 : w.heap.size + 1 < w1.heap.size := by omega
    obtain ⟨hc2, hf2⟩ := bcell hb2
    have HB2 : Below w.heap.size w w2 := below_next HB1 hb2
    cases e2
    · go_wp2_with fail
      all_goals go_ret
      all_goals exact ⟨ret_bool (by rw [H.out]; simp [*]), HB2⟩
    · go_wp2_with fail
      go_ret
      exact ⟨ret_bool (by rw [H.out]; simp), HB2⟩
  · go_wp2_with fail
    go_ret
    exact ⟨ret_bool (by rw [H.out]; simp), HB1⟩

set_option maxHeartbeats 1600000 in
theorem refcovers_any (al ah bl bh : ByteArray) (w : World) : Calls Try.prog 18 #[.agg #[.string al, .string ah], .agg #[.string bl, .string bh]] w fun e w' => e = .returned (.bool (SpanP.refCovers al ah bl bh)) ∧ Below w.heap.size w w' := by
  have hfin : SpanP.refCovers al ah bl bh = (SpanP.refEmpty bl bh || (!Op.bytesLess bl.toList al.toList && (ah.toList.isEmpty || (!bh.toList.isEmpty && (Op.bytesLess bh.toList ah.toList || bh.toList == ah.toList))))) := rfl
  have E1 := fun W => refempty_any bl bh W
  generalize SpanP.refCovers al ah bl bh = m at hfin
  generalize SpanP.refEmpty bl bh = e1 at E1 hfin
  have E1 := Lib.hid E1
  have H := Lib.hid hfin; clear hfin
  go_enter Try.func18, Try.ntmps18
  go_wp2_with fail
  refine (E1.out _).mono ?_
  rintro e w1 ⟨rfl, hb1⟩
  obtain ⟨hc1, hf1⟩ := bcell hb1
  have HB1 : Below w.heap.size w w1 := below_next (by go_grown) hb1
  cases e1
  · go_wp2_with fail
    all_goals go_ret
    all_goals exact ⟨ret_bool (by rw [H.out]; simp [*]), HB1⟩
  · go_wp2_with fail
    go_ret
    exact ⟨ret_bool (by rw [H.out]; simp), HB1⟩
end Go.Proofs.Ytonnidebpbnpaaa
