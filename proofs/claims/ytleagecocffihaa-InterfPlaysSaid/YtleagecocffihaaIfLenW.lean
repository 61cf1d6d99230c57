/-
  Len and Cut of the index.
-/
import Derived.Test.YtleagecocffihaaIfIxW
namespace Go.Proofs.Ytleagecocffihaa
open Go.RowKit Go.Maps
set_option linter.unusedVariables false
set_option linter.unusedSimpArgs false

set_option maxRecDepth 4000 in
set_option maxHeartbeats 2000000 in
theorem len_any (g b n : Nat) (d : Nat → Int) (l : List Ent) (w : World) (h : IxAt w g b n d l) :
    Calls Try.prog 15 #[.pointer (some ⟨g, 0, none⟩)] w fun e w' => e = .returned (.int .i64 l.length) ∧ Below w.heap.size w w' := by
  have m0 := h.ix.cell 0
  simp only [List.getElem?_cons_zero] at m0
  obtain ⟨D, hown, hl⟩ := h.map
  have hs := hl.size
  clear hl h
  go_enter Try.func15, Try.ntmps15
  go_wp2_with (at_len; refine wpList_len_own _ rfl _ 60 rfl 26 64 Try.underlying60 readN b n D rfl hown ?_)
  go_ret
  exact ⟨rfl, by go_grown⟩
set_option maxRecDepth 4000 in
set_option maxHeartbeats 2000000 in
theorem cut_any (g b n : Nat) (d : Nat → Int) (l : List Ent) (w : World) (h : IxAt w g b n d l) :
    Calls Try.prog 22 #[.pointer (some ⟨g, 0, none⟩)] w fun e w' => e = .returned (.agg (cutL d).toArray) ∧ Below w.heap.size w w' := by
  have hg := h.ix.lt
  have c1 := h.ix.cell 1
  have c2 := h.ix.cell 2
  have c3 := h.ix.cell 3
  have c4 := h.ix.cell 4
  have c5 := h.ix.cell 5
  have c6 := h.ix.cell 6
  have c7 := h.ix.cell 7
  simp only [cutL, List.getElem?_cons_zero, List.getElem?_cons_succ] at c1 c2 c3 c4 c5 c6 c7
  clear h
  go_enter Try.func22, Try.ntmps22
  go_wp2_with fail
  exact bodyPost_ret (v := .agg (cutL d).toArray) (by simp [results, Try.results22, go_sem, cutL]) rfl ⟨rfl, by go_grown⟩
end Go.Proofs.Ytleagecocffihaa
