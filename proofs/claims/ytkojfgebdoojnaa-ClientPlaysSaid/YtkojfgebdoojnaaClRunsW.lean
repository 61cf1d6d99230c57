/-
  The walk of ClientRuns.
-/
import Derived.Test.YtkojfgebdoojnaaClRightW
namespace Go.Proofs.Ytkojfgebdoojnaa
open Go.RowKit
set_option linter.unusedVariables false

abbrev xa : Cm := ⟨1, 2, 1, ⟨#[97]⟩, ⟨#[]⟩, ⟨#[]⟩, ⟨#[]⟩⟩
theorem begin_a (g : Nat) (w : World) (h : CAt w g 2 0 Cm.zero false 0 0) :
    Calls Try.prog 8 #[.pointer (some ⟨g, 0, none⟩), .agg #[.int .i64 1, .int .i64 0, .int .i64 0, .string ⟨#[97]⟩, .string ⟨#[]⟩, .string ⟨#[]⟩, .string ⟨#[]⟩], .int .i64 1] w fun e w' =>
      e = .returned (.tuple #[.agg #[.int .i64 1, .int .i64 2, .int .i64 1, .string ⟨#[97]⟩, .string ⟨#[]⟩, .string ⟨#[]⟩, .string ⟨#[]⟩], .bool true]) ∧ CAt w' g 2 1 xa true 1 0 ∧ Touch g w w' :=
  begin_yes g 2 0 Cm.zero ⟨1, 0, 0, ⟨#[97]⟩, ⟨#[]⟩, ⟨#[]⟩, ⟨#[]⟩⟩ 0 0 1 w h (by omega) (by decide) (by omega) (fun W => right_get W)
set_option maxRecDepth 4000 in
set_option maxHeartbeats 1000000 in
theorem begin_waits (g : Nat) (id seq : Int) (y x : Cm) (tg0 ticks tg : Int) (w : World) (h : CAt w g id seq y true tg0 ticks) (hs : 0 ≤ seq ∧ seq ≤ 1000000000) :
    Calls Try.prog 8 #[.pointer (some ⟨g, 0, none⟩), .agg #[.int .i64 x.k, .int .i64 x.c, .int .i64 x.s, .string x.a, .string x.b, .string x.o, .string x.v], .int .i64 tg] w fun e w' =>
      e = .returned (.tuple #[.agg Cm.zero.cells.toArray, .bool false]) ∧ Below w.heap.size w w' := by
  have c0 := h.cell 0
  have c1 := h.cell 1
  have c9 := h.cell 9
  have hg := h.lt
  simp only [clientCells, List.getElem?_cons_zero, List.getElem?_cons_succ] at c0 c1 c9
  clear h
  obtain ⟨hs0, hs1⟩ := hs
  have hsw : IntKind.i64.wrap (seq + 1) = seq + 1 := IntWalk.i64_in _ (by omega)
  go_enter Try.func8, Try.ntmps8
  go_upto_region 1 with (fail)
  go_region
  clear hsw
  go_wp2_with fail
  exact bodyPost_ret (v := .tuple #[.agg Cm.zero.cells.toArray, .bool false]) (by simp [results, Try.results8, go_sem, Cm.zero, Cm.cells]; try rfl) rfl ⟨rfl, by go_grown⟩
/-- The client and the box of the call. -/
structure Cs (w W : World) (g bx : Nat) (waits : Bool) (tg t : Int) : Prop where
  bel : Below w.heap.size w W
  c : CAt W g 2 1 xa waits tg t
  h : Holds W bx 27 xa.cells
  ge : w.heap.size ≤ g
  ne : bx ≠ g
theorem Cs.below {w W W' : World} {g bx : Nat} {waits : Bool} {tg t : Int} (h : Cs w W g bx waits tg t) (hb : Below W.heap.size W W') : Cs w W' g bx waits tg t :=
  ⟨h.bel.trans (hb.mono h.bel.size), h.c.below hb h.c.lt, h.h.below hb h.h.lt, h.ge, h.ne⟩
theorem Cs.touch {w W W' : World} {g bx : Nat} {waits waits' : Bool} {tg t tg' t' : Int} (h : Cs w W g bx waits tg t) (ht : Touch g W W') (hc : CAt W' g 2 1 xa waits' tg' t') : Cs w W' g bx waits' tg' t' :=
  ⟨h.bel.trans (ht.below h.ge h.bel.size), hc, h.h.touch ht h.ne, h.ge, h.ne⟩
set_option maxRecDepth 4000 in
set_option maxHeartbeats 2000000 in
theorem clientRuns_any (w : World) : Calls Try.prog 3 #[] w fun e w' => e = .returned (.bool true) ∧ Below w.heap.size w w' := by
  go_enter Try.func3, Try.ntmps3
  go_wp2_with fail
  refine (new_in 2 w (by omega)).mono ?_
  rintro e w1 ⟨rfl, hc, hb1⟩
  obtain ⟨g, hg⟩ : ∃ g, g = w.heap.size := ⟨_, rfl⟩
  rw [← hg] at hc ⊢
  have HC := Lib.hid hc; clear hc
  have HB := Lib.hid hb1; clear hb1
  have hge : w.heap.size ≤ g := by omega
  clear hg
  go_wp2_with fail
  refine (begin_a g w1 HC.out).mono ?_
  rintro e w2 ⟨rfl, hc, ht⟩
  have hs : Cs w (w2.alloc (.cells xa.cells.toArray 27)) g w2.heap.size true 1 0 :=
    ⟨(HB.out.trans (ht.below hge HB.out.size)).trans ((show Below w2.heap.size w2 _ by go_grown).mono (HB.out.trans (ht.below hge HB.out.size)).size), holds_past hc _, holds_alloc w2 _ _, hge, by have := hc.lt; omega⟩
  have HS := Lib.hid hs; clear hs hc ht HC HB
  obtain ⟨bx, hbx⟩ : ∃ bx, bx = w2.heap.size := ⟨_, rfl⟩
  go_wp2_with fail
  rw [← hbx] at HS ⊢
  clear hbx
  refine (begin_waits g 2 1 xa ⟨1, 0, 0, ⟨#[98]⟩, ⟨#[]⟩, ⟨#[]⟩, ⟨#[]⟩⟩ 1 0 1 _ HS.out.c (by omega)).mono ?_
  rintro e w3 ⟨rfl, hb3⟩
  have HS := Lib.hid (HS.out.below hb3); clear hb3
  unfold Cm.zero Cm.cells
  go_wp2_with fail
  go_loopw [7] (fun i wr => ∃ k : Nat, k ≤ 19 ∧ i = .int .i64 k ∧ Cs w wr g bx true 1 k) (fun i _ => 19 - (intOf i).toNat)
  case atStart => exact ⟨0, by omega, rfl, HS.out.below (by go_grown)⟩
  case round =>
    clear HS
    obtain ⟨k, hk, rfl, hst⟩ := hrel
    have HS := Lib.hid hst; clear hst
    by_cases hlt : k < 19
    · go_wp2_with fail
      refine (tick_idle g 2 1 xa 1 k 3 wr HS.out.c (by omega) (by omega) (by omega)).mono ?_
      rintro e w5 ⟨rfl, hc, ht⟩
      have HS := Lib.hid (HS.out.touch ht hc); clear hc ht
      unfold Cm.zero Cm.cells
      go_wp2_with fail
      go_roundw
      case rel => exact ⟨k + 1, by omega, by go_num, HS.out.below (by go_grown)⟩
      case measure => simp [intOf]; omega
    · have hk19 : k = 19 := by omega
      subst hk19
      have hk := tick_ask g 2 1 xa 1 19 3 wr HS.out.c (by omega) (by omega) (by omega) (by omega) (by decide)
      rw [show ((1 : Int) + 1) % 3 = 2 from by decide, show ((19 : Int) + 1) = 20 from by decide] at hk
      have HK := Lib.hid hk; clear hk
      go_wp2_with fail
      refine HK.out.mono ?_
      rintro e w5 ⟨rfl, hc, ht⟩
      have HS := Lib.hid (HS.out.touch ht hc); clear hc ht HK
      have hy : Holds (w5.alloc (.cells xa.cells.toArray 27)) w5.heap.size 27 xa.cells := holds_alloc w5 _ _
      have HS6 := Lib.hid (HS.out.below (show Below w5.heap.size w5 (w5.alloc (.cells xa.cells.toArray 27)) by go_grown))
      have HY := Lib.hid hy; clear hy
      have hyg : w5.heap.size ≠ g := by have := HS.out.c.lt; omega
      obtain ⟨by', hby⟩ : ∃ b, b = w5.heap.size := ⟨_, rfl⟩
      unfold Cm.cells
      go_wp2_with fail
      rw [← hby] at HY hyg ⊢
      clear hby HS
      refine (tell_yes g 2 1 xa 2 20 _ _ _ _ _ _ HS6.out.c).mono ?_
      rintro e w7 ⟨rfl, hc, ht⟩
      have HS := Lib.hid (HS6.out.touch ht hc)
      have HY := Lib.hid (HY.out.touch ht hyg)
      clear hc ht HS6
      go_wp2_with fail
      refine (tell_no g 2 1 xa false 2 20 2 1 _ _ _ _ _ _ HS.out.c (.inl rfl)).mono ?_
      rintro e w8 ⟨rfl, hb8⟩
      have HS := Lib.hid (HS.out.below hb8)
      have HY := Lib.hid (HY.out.below hb8 HY.out.lt)
      clear hb8
      go_wp2_with fail
      refine (new_out 0 _ (by omega)).mono ?_
      rintro e w9 ⟨rfl, hb9⟩
      have HS := Lib.hid (HS.out.below hb9)
      have HY := Lib.hid (HY.out.below hb9 HY.out.lt)
      clear hb9
      have x0 := HS.out.h.cell 0
      have x1 := HS.out.h.cell 1
      have x2 := HS.out.h.cell 2
      have x3 := HS.out.h.cell 3
      have x4 := HS.out.h.cell 4
      have x5 := HS.out.h.cell 5
      have x6 := HS.out.h.cell 6
      have y0 := HY.out.cell 0
      have y1 := HY.out.cell 1
      have y2 := HY.out.cell 2
      have y3 := HY.out.cell 3
      have y4 := HY.out.cell 4
      have y5 := HY.out.cell 5
      have y6 := HY.out.cell 6
      simp only [Cm.cells, List.getElem?_cons_zero, List.getElem?_cons_succ] at x0 x1 x2 x3 x4 x5 x6 y0 y1 y2 y3 y4 y5 y6
      go_wp2_with fail
      go_ret
      exact ⟨rfl, HS.out.bel⟩
end Go.Proofs.Ytkojfgebdoojnaa
