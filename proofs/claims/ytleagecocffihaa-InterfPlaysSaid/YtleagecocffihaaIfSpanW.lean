/-
  The walks of span that interf wants.
-/
import Derived.Test.YtleagecocffihaaCommon
import Derived.Test.YtleagecocffihaaSpanOrd
import Derived.Laws.StructEq
namespace Go.Proofs.Ytleagecocffihaa
open Go.RowKit

set_option maxHeartbeats 400000 in
theorem under_any (k hi : ByteArray) (w : World) : Calls Try.prog 40 #[.string k, .string hi] w fun e w' => e = .returned (.bool (SpanP.under k hi)) ∧ w = w' := by
  go_enter Try.func40, Try.ntmps40
  go_wp2
  · go_ret
    exact ⟨ret_bool (by simp [SpanP.under, SpanP.emp, ‹hi.toList = []›]), rfl⟩
  · go_ret
    exact ⟨rfl, rfl⟩

set_option maxHeartbeats 400000 in
theorem empty_any (lo hi : ByteArray) (w : World) : Calls Try.prog 39 #[.agg #[.string lo, .string hi]] w fun e w' => e = .returned (.bool (SpanP.empty lo hi)) ∧ Below w.heap.size w w' := by
  go_enter Try.func39, Try.ntmps39
  go_wp2_with (go_at_call 40; refine (under_any _ _ _).mono ?_; rintro e w' ⟨rfl, rfl⟩)
  go_ret
  exact ⟨rfl, by go_grown⟩

set_option maxHeartbeats 400000 in
theorem of_any (k : ByteArray) (w : World) (hk : k.size ≤ 140737488351232) : Calls Try.prog 38 #[.string k] w fun e w' => e = .returned (.agg #[.string k, .string (SpanP.succ k)]) ∧ Below w.heap.size w w' := by
  go_enter Try.func38, Try.ntmps38
  go_wp2
  exact bodyPost_ret (v := .agg #[.string k, .string (SpanP.succ k)]) (by simp [results, Try.results38, go_sem, SpanP.succ]) rfl ⟨rfl, by go_grown⟩

set_option maxHeartbeats 1600000 in
theorem meets_any (al ah bl bh : ByteArray) (w : World) : Calls Try.prog 34 #[.agg #[.string al, .string ah], .agg #[.string bl, .string bh]] w fun e w' => e = .returned (.bool (SpanP.meets al ah bl bh)) ∧ Below w.heap.size w w' := by
  have hfin : SpanP.meets al ah bl bh = (!SpanP.empty al ah && !SpanP.empty bl bh && SpanP.under al bh && SpanP.under bl ah) := rfl
  have E1 := fun W => empty_any al ah W
  have E2 := fun W => empty_any bl bh W
  have U1 := fun W => under_any al bh W
  have U2 := fun W => under_any bl ah W
  generalize SpanP.meets al ah bl bh = m at hfin
  generalize SpanP.empty al ah = e1 at E1 hfin
  generalize SpanP.empty bl bh = e2 at E2 hfin
  generalize SpanP.under al bh = u1 at U1 hfin
  generalize SpanP.under bl ah = u2 at U2 hfin
  have H := Lib.hid hfin; clear hfin
  have E1 := Lib.hid E1; have E2 := Lib.hid E2; have U1 := Lib.hid U1; have U2 := Lib.hid U2
  go_enter Try.func34, Try.ntmps34
  go_wp2_with fail
  refine (E1.out _).mono ?_
  rintro e w1 ⟨rfl, hb1⟩
  obtain ⟨hc1, hf1⟩ := bcell hb1
  have HB1 : Below w.heap.size w w1 := below_next (by go_grown) hb1
  cases e1
  · go_wp2_with fail
    refine (E2.out _).mono ?_
    rintro e w2 ⟨rfl, hb2⟩
    have hz := hb1.size
    simp at hz
    have hz0 : w.heap.size < w1.heap.size := by omega
    have hz1 : w.heap.size + 1 < w1.heap.size := by omega
    obtain ⟨hc2, hf2⟩ := bcell hb2
    have HB2 : Below w.heap.size w w2 := below_next HB1 hb2
    cases e2
    · go_wp2_with fail
      refine (U1.out _).mono ?_
      rintro e w3 ⟨rfl, rfl⟩
      cases u1
      · go_wp2_with fail
        go_ret
        exact ⟨ret_bool (by rw [H.out]; rfl), HB2⟩
      · go_wp2_with fail
        refine (U2.out _).mono ?_
        rintro e w3 ⟨rfl, rfl⟩
        go_wp2_with fail
        go_ret
        exact ⟨ret_bool (by rw [H.out]; rfl), HB2⟩
    · go_wp2_with fail
      go_ret
      exact ⟨ret_bool (by rw [H.out]; rfl), HB2⟩
  · go_wp2_with fail
    go_ret
    exact ⟨ret_bool (by rw [H.out]; rfl), HB1⟩

set_option maxHeartbeats 800000 in
theorem refempty_any (lo hi : ByteArray) (w : World) : Calls Try.prog 41 #[.agg #[.string lo, .string hi]] w fun e w' => e = .returned (.bool (SpanP.refEmpty lo hi)) ∧ Below w.heap.size w w' := by
  go_enter Try.func41, Try.ntmps41
  go_wp2
  all_goals go_ret
  all_goals exact ⟨ret_bool (by simp [SpanP.refEmpty, SpanP.emp, SpanP.lt, SpanP.same, *]), by go_grown⟩

set_option maxHeartbeats 1600000 in
theorem refmeets_any (al ah bl bh : ByteArray) (w : World) : Calls Try.prog 37 #[.agg #[.string al, .string ah], .agg #[.string bl, .string bh]] w fun e w' => e = .returned (.bool (SpanP.refMeets al ah bl bh)) ∧ Below w.heap.size w w' := by
  have hfin : SpanP.refMeets al ah bl bh = (!(SpanP.refEmpty al ah || SpanP.refEmpty bl bh) && ((ah.toList.isEmpty || Op.bytesLess bl.toList ah.toList) && (bh.toList.isEmpty || Op.bytesLess al.toList bh.toList))) := rfl
  have E1 := fun W => refempty_any al ah W
  have E2 := fun W => refempty_any bl bh W
  generalize SpanP.refMeets al ah bl bh = m at hfin
  generalize SpanP.refEmpty al ah = e1 at E1 hfin
  generalize SpanP.refEmpty bl bh = e2 at E2 hfin
  have H := Lib.hid hfin; clear hfin
  have E1 := Lib.hid E1; have E2 := Lib.hid E2
  go_enter Try.func37, Try.ntmps37
  go_wp2_with fail
  refine (E1.out _).mono ?_
  rintro e w1 ⟨rfl, hb1⟩
  obtain ⟨hc1, hf1⟩ := bcell hb1
  have HB1 : Below w.heap.size w w1 := below_next (by go_grown) hb1
  cases e1
  · go_wp2_with fail
    refine (E2.out _).mono ?_
    rintro e w2 ⟨rfl, hb2⟩
    have hz := hb1.size
    simp at hz
    have hz0 : w.heap.size < w1.heap.size := by omega
    have hz1 : w.heap.size + 1 < w1.heap.size := by omega
    obtain ⟨hc2, hf2⟩ := bcell hb2
    have HB2 : Below w.heap.size w w2 := below_next HB1 hb2
    cases e2
    · go_wp2_with fail
      all_goals go_ret
      all_goals exact ⟨ret_bool (by rw [H.out]; simp [*]), HB2⟩
    · go_wp2_with fail
      go_ret
      exact ⟨ret_bool (by rw [H.out]; simp), HB2⟩
  · go_wp2_with fail
    go_ret
    exact ⟨ret_bool (by rw [H.out]; simp), HB1⟩
end Go.Proofs.Ytleagecocffihaa
