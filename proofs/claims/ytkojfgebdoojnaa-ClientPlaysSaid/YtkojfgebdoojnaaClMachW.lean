/-
  The client and the document's client as one machine without a program.
-/
import Derived.Test.YtkojfgebdoojnaaClFunW
namespace Go.Proofs.Ytkojfgebdoojnaa
open Go.RowKit
set_option linter.unusedVariables false

abbrev DAt (w : World) (g : Nat) (id seq : Int) (x : Cm) (waits : Bool) (target ticks : Int) : Prop := Holds w g 41 (clientCells id seq x waits target ticks)
set_option maxRecDepth 4000 in
set_option maxHeartbeats 4000000 in
theorem begin_not (g : Nat) (id seq : Int) (y x : Cm) (tg0 ticks tg : Int) (w : World) (h : CAt w g id seq y false tg0 ticks) (hs : 0 ≤ seq ∧ seq ≤ 1000000000) (r : Bool)
    (hr : ∀ W, Calls Try.prog 17 #[.agg #[.int .i64 x.k, .int .i64 id, .int .i64 (seq + 1), .string x.a, .string x.b, .string x.o, .string x.v]] W fun e w' => e = .returned (.bool r) ∧ Below W.heap.size W w')
    (hn : r = false ∨ (r = true ∧ (x.k == 0) = false ∧ tg < 0) ∨ (r = true ∧ (x.k == 0) = false ∧ ¬ tg < 0 ∧ 7 ≤ tg)) :
    Calls Try.prog 8 #[.pointer (some ⟨g, 0, none⟩), .agg #[.int .i64 x.k, .int .i64 x.c, .int .i64 x.s, .string x.a, .string x.b, .string x.o, .string x.v], .int .i64 tg] w fun e w' =>
      e = .returned (.tuple #[.agg Cm.zero.cells.toArray, .bool false]) ∧ Below w.heap.size w w' := by
  obtain ⟨k, c, s, a, b, o, v⟩ := x
  simp only at hr hn ⊢
  have c0 := h.cell 0
  have c1 := h.cell 1
  have c9 := h.cell 9
  have hg := h.lt
  have hf := fun i => h.free i
  simp only [clientCells, List.getElem?_cons_zero, List.getElem?_cons_succ] at c0 c1 c9
  have hH := Lib.hid h; clear h
  have hF := Lib.hid hf; clear hf
  obtain ⟨hs0, hs1⟩ := hs
  have hsw : IntKind.i64.wrap (seq + 1) = seq + 1 := IntWalk.i64_in _ (by omega)
  have HR := Lib.hid hr; clear hr
  go_enter Try.func8, Try.ntmps8
  go_upto_region 1 with (fail)
  go_region
  go_upto_region 2 with (fail)
  clear hsw
  go_name_world W hW
  have hG : CAt W g id seq y false tg0 ticks := by rw [← hW]; exact holds_past (holds_past hH.out _) _
  have hX : Holds W w.heap.size 27 [.int .i64 k, .int .i64 id, .int .i64 (seq + 1), .string a, .string b, .string o, .string v] := by rw [← hW]; exact holds_past (holds_alloc w _ _) _
  have hZ : Holds W (w.heap.size + 1) 27 Cm.zero.cells := by
    rw [← hW]
    have := holds_alloc (w.alloc (.cells #[.int .i64 k, .int .i64 id, .int .i64 (seq + 1), .string a, .string b, .string o, .string v] 27)) 27 Cm.zero.cells
    rw [World.size_alloc] at this
    exact this
  have hT : Touch g w W := by rw [← hW]; exact Touch.of_below (by go_grown)
  have hW0 : Below w.heap.size w W := by rw [← hW]; go_grown
  clear hW c0 c1 c9
  have c9 := hG.cell 9
  have x0 := hX.cell 0
  have x1 := hX.cell 1
  have x2 := hX.cell 2
  have x3 := hX.cell 3
  have x4 := hX.cell 4
  have x5 := hX.cell 5
  have x6 := hX.cell 6
  simp only [clientCells, List.getElem?_cons_zero, List.getElem?_cons_succ] at c9 x0 x1 x2 x3 x4 x5 x6
  have hBW : Below w.heap.size w W := hW0
  have HG := Lib.hid hG; have HX := Lib.hid hX; have HZ := Lib.hid hZ; have HT := Lib.hid hT; have HBW := Lib.hid hBW
  clear hBW hW0
  clear hG hX hZ hT
  go_wp2_with fail
  refine (HR.out _).mono ?_
  rintro e w5 ⟨rfl, hb5⟩
  have HBW := Lib.hid (below_next HBW.out hb5)
  have HG := Lib.hid (HG.out.below hb5 HG.out.lt)
  have HX := Lib.hid (HX.out.below hb5 HX.out.lt)
  have HZ := Lib.hid (HZ.out.below hb5 HZ.out.lt)
  have HT := Lib.hid (HT.out.next hb5)
  have hs5 := hb5.size
  clear hb5 c9 x0 x1 x2 x3 x4 x5 x6
  have x0 := HX.out.cell 0
  have x1 := HX.out.cell 1
  have x2 := HX.out.cell 2
  have x3 := HX.out.cell 3
  have x4 := HX.out.cell 4
  have x5 := HX.out.cell 5
  have x6 := HX.out.cell 6
  simp only [List.getElem?_cons_zero, List.getElem?_cons_succ] at x0 x1 x2 x3 x4 x5 x6
  have gc := fun i => HG.out.cell i
  have gf := fun i => HG.out.free i
  have zf := fun i => HZ.out.free i
  have g1 := gc 1
  have g2 := gc 2
  have g3 := gc 3
  have g4 := gc 4
  have g5 := gc 5
  have g6 := gc 6
  have g7 := gc 7
  have g8 := gc 8
  have g9 := gc 9
  have g10 := gc 10
  have g11 := gc 11
  have z0 := HZ.out.cell 0
  have z1 := HZ.out.cell 1
  have z2 := HZ.out.cell 2
  have z3 := HZ.out.cell 3
  have z4 := HZ.out.cell 4
  have z5 := HZ.out.cell 5
  have z6 := HZ.out.cell 6
  simp only [clientCells, Cm.zero, Cm.cells, List.getElem?_cons_zero, List.getElem?_cons_succ] at g1 g2 g3 g4 g5 g6 g7 g8 g9 g10 g11 z0 z1 z2 z3 z4 z5 z6
  clear gc
  have hne1 : ¬ g = w.heap.size := by omega
  have hne2 : ¬ w.heap.size = g := by omega
  have hne3 : ¬ g = w.heap.size + 1 := by omega
  have hne4 : ¬ w.heap.size + 1 = g := by omega
  rcases hn with rfl | ⟨rfl, ek, h1⟩ | ⟨rfl, ek, h1, h2⟩
  all_goals
    clear g1 g2 g3 g4 g5 g6 g7 g8 g9 g10 g11 gf
    go_wp2_with fail
    have hZ3 := ((((((HZ.out.set 0 (.int .i64 0)).set 1 (.int .i64 0)).set 2 (.int .i64 0)).set 3 (.string ⟨#[]⟩)).set 4 (.string ⟨#[]⟩)).set 5 (.string ⟨#[]⟩)).set 6 (.string ⟨#[]⟩)
    simp only [Cm.zero, Cm.cells, List.set_cons_succ, List.set_cons_zero] at hZ3
    have hT4 := (((((((Touch.refl (w.heap.size + 1) w5).setCell 0 (.int .i64 0)).setCell 1 (.int .i64 0)).setCell 2 (.int .i64 0)).setCell 3 (.string ⟨#[]⟩)).setCell 4 (.string ⟨#[]⟩)).setCell 5 (.string ⟨#[]⟩)).setCell 6 (.string ⟨#[]⟩)
    have hB4 := HBW.out.trans (hT4.below (B := w.heap.size) (by omega) HBW.out.size)
    have y0 := hZ3.cell 0
    have y1 := hZ3.cell 1
    have y2 := hZ3.cell 2
    have y3 := hZ3.cell 3
    have y4 := hZ3.cell 4
    have y5 := hZ3.cell 5
    have y6 := hZ3.cell 6
    simp only [List.getElem?_cons_zero, List.getElem?_cons_succ] at y0 y1 y2 y3 y4 y5 y6
    clear x0 x1 x2 x3 x4 x5 x6 z0 z1 z2 z3 z4 z5 z6 zf
    refine bodyPost_ret (v := .tuple #[.agg Cm.zero.cells.toArray, .bool false]) ?_ rfl ⟨rfl, hB4⟩
    generalize (((((((w5.setCell ⟨w.heap.size + 1, 0, none⟩ (.int .i64 0)).setCell ⟨w.heap.size + 1, 1, none⟩ (.int .i64 0)).setCell ⟨w.heap.size + 1, 2, none⟩ (.int .i64 0)).setCell ⟨w.heap.size + 1, 3, none⟩ (.string ⟨#[]⟩)).setCell ⟨w.heap.size + 1, 4, none⟩ (.string ⟨#[]⟩)).setCell ⟨w.heap.size + 1, 5, none⟩ (.string ⟨#[]⟩)).setCell ⟨w.heap.size + 1, 6, none⟩ (.string ⟨#[]⟩)) = W3 at y0 y1 y2 y3 y4 y5 y6 ⊢
    simp [results, Try.results8, go_sem, y0, y1, y2, y3, y4, y5, y6, Cm.zero, Cm.cells]
    try rfl
set_option maxRecDepth 4000 in
set_option maxHeartbeats 4000000 in
theorem dbegin_not (g : Nat) (id seq : Int) (y x : Cm) (tg0 ticks tg : Int) (w : World) (h : DAt w g id seq y false tg0 ticks) (hs : 0 ≤ seq ∧ seq ≤ 1000000000) (r : Bool)
    (hr : ∀ W, Calls Try.prog 18 #[.agg #[.int .i64 x.k, .int .i64 id, .int .i64 (seq + 1), .string x.a, .string x.b, .string x.o, .string x.v]] W fun e w' => e = .returned (.bool r) ∧ Below W.heap.size W w')
    (hn : r = false ∨ (r = true ∧ (x.k == 0) = false ∧ tg < 0) ∨ (r = true ∧ (x.k == 0) = false ∧ ¬ tg < 0 ∧ 7 ≤ tg)) :
    Calls Try.prog 11 #[.pointer (some ⟨g, 0, none⟩), .agg #[.int .i64 x.k, .int .i64 x.c, .int .i64 x.s, .string x.a, .string x.b, .string x.o, .string x.v], .int .i64 tg] w fun e w' =>
      e = .returned (.tuple #[.agg Cm.zero.cells.toArray, .bool false]) ∧ Below w.heap.size w w' := by
  obtain ⟨k, c, s, a, b, o, v⟩ := x
  simp only at hr hn ⊢
  have c0 := h.cell 0
  have c1 := h.cell 1
  have c9 := h.cell 9
  have hg := h.lt
  have hf := fun i => h.free i
  simp only [clientCells, List.getElem?_cons_zero, List.getElem?_cons_succ] at c0 c1 c9
  have hH := Lib.hid h; clear h
  have hF := Lib.hid hf; clear hf
  obtain ⟨hs0, hs1⟩ := hs
  have hsw : IntKind.i64.wrap (seq + 1) = seq + 1 := IntWalk.i64_in _ (by omega)
  have HR := Lib.hid hr; clear hr
  go_enter Try.func11, Try.ntmps11
  go_upto_region 1 with (fail)
  go_region
  go_upto_region 2 with (fail)
  clear hsw
  go_name_world W hW
  have hG : DAt W g id seq y false tg0 ticks := by rw [← hW]; exact holds_past (holds_past hH.out _) _
  have hX : Holds W w.heap.size 27 [.int .i64 k, .int .i64 id, .int .i64 (seq + 1), .string a, .string b, .string o, .string v] := by rw [← hW]; exact holds_past (holds_alloc w _ _) _
  have hZ : Holds W (w.heap.size + 1) 27 Cm.zero.cells := by
    rw [← hW]
    have := holds_alloc (w.alloc (.cells #[.int .i64 k, .int .i64 id, .int .i64 (seq + 1), .string a, .string b, .string o, .string v] 27)) 27 Cm.zero.cells
    rw [World.size_alloc] at this
    exact this
  have hT : Touch g w W := by rw [← hW]; exact Touch.of_below (by go_grown)
  have hW0 : Below w.heap.size w W := by rw [← hW]; go_grown
  clear hW c0 c1 c9
  have c9 := hG.cell 9
  have x0 := hX.cell 0
  have x1 := hX.cell 1
  have x2 := hX.cell 2
  have x3 := hX.cell 3
  have x4 := hX.cell 4
  have x5 := hX.cell 5
  have x6 := hX.cell 6
  simp only [clientCells, List.getElem?_cons_zero, List.getElem?_cons_succ] at c9 x0 x1 x2 x3 x4 x5 x6
  have hBW : Below w.heap.size w W := hW0
  have HG := Lib.hid hG; have HX := Lib.hid hX; have HZ := Lib.hid hZ; have HT := Lib.hid hT; have HBW := Lib.hid hBW
  clear hBW hW0
  clear hG hX hZ hT
  go_wp2_with fail
  refine (HR.out _).mono ?_
  rintro e w5 ⟨rfl, hb5⟩
  have HBW := Lib.hid (below_next HBW.out hb5)
  have HG := Lib.hid (HG.out.below hb5 HG.out.lt)
  have HX := Lib.hid (HX.out.below hb5 HX.out.lt)
  have HZ := Lib.hid (HZ.out.below hb5 HZ.out.lt)
  have HT := Lib.hid (HT.out.next hb5)
  have hs5 := hb5.size
  clear hb5 c9 x0 x1 x2 x3 x4 x5 x6
  have x0 := HX.out.cell 0
  have x1 := HX.out.cell 1
  have x2 := HX.out.cell 2
  have x3 := HX.out.cell 3
  have x4 := HX.out.cell 4
  have x5 := HX.out.cell 5
  have x6 := HX.out.cell 6
  simp only [List.getElem?_cons_zero, List.getElem?_cons_succ] at x0 x1 x2 x3 x4 x5 x6
  have gc := fun i => HG.out.cell i
  have gf := fun i => HG.out.free i
  have zf := fun i => HZ.out.free i
  have g1 := gc 1
  have g2 := gc 2
  have g3 := gc 3
  have g4 := gc 4
  have g5 := gc 5
  have g6 := gc 6
  have g7 := gc 7
  have g8 := gc 8
  have g9 := gc 9
  have g10 := gc 10
  have g11 := gc 11
  have z0 := HZ.out.cell 0
  have z1 := HZ.out.cell 1
  have z2 := HZ.out.cell 2
  have z3 := HZ.out.cell 3
  have z4 := HZ.out.cell 4
  have z5 := HZ.out.cell 5
  have z6 := HZ.out.cell 6
  simp only [clientCells, Cm.zero, Cm.cells, List.getElem?_cons_zero, List.getElem?_cons_succ] at g1 g2 g3 g4 g5 g6 g7 g8 g9 g10 g11 z0 z1 z2 z3 z4 z5 z6
  clear gc
  have hne1 : ¬ g = w.heap.size := by omega
  have hne2 : ¬ w.heap.size = g := by omega
  have hne3 : ¬ g = w.heap.size + 1 := by omega
  have hne4 : ¬ w.heap.size + 1 = g := by omega
  rcases hn with rfl | ⟨rfl, ek, h1⟩ | ⟨rfl, ek, h1, h2⟩
  all_goals
    clear g1 g2 g3 g4 g5 g6 g7 g8 g9 g10 g11 gf
    go_wp2_with fail
    have hZ3 := ((((((HZ.out.set 0 (.int .i64 0)).set 1 (.int .i64 0)).set 2 (.int .i64 0)).set 3 (.string ⟨#[]⟩)).set 4 (.string ⟨#[]⟩)).set 5 (.string ⟨#[]⟩)).set 6 (.string ⟨#[]⟩)
    simp only [Cm.zero, Cm.cells, List.set_cons_succ, List.set_cons_zero] at hZ3
    have hT4 := (((((((Touch.refl (w.heap.size + 1) w5).setCell 0 (.int .i64 0)).setCell 1 (.int .i64 0)).setCell 2 (.int .i64 0)).setCell 3 (.string ⟨#[]⟩)).setCell 4 (.string ⟨#[]⟩)).setCell 5 (.string ⟨#[]⟩)).setCell 6 (.string ⟨#[]⟩)
    have hB4 := HBW.out.trans (hT4.below (B := w.heap.size) (by omega) HBW.out.size)
    have y0 := hZ3.cell 0
    have y1 := hZ3.cell 1
    have y2 := hZ3.cell 2
    have y3 := hZ3.cell 3
    have y4 := hZ3.cell 4
    have y5 := hZ3.cell 5
    have y6 := hZ3.cell 6
    simp only [List.getElem?_cons_zero, List.getElem?_cons_succ] at y0 y1 y2 y3 y4 y5 y6
    clear x0 x1 x2 x3 x4 x5 x6 z0 z1 z2 z3 z4 z5 z6 zf
    refine bodyPost_ret (v := .tuple #[.agg Cm.zero.cells.toArray, .bool false]) ?_ rfl ⟨rfl, hB4⟩
    generalize (((((((w5.setCell ⟨w.heap.size + 1, 0, none⟩ (.int .i64 0)).setCell ⟨w.heap.size + 1, 1, none⟩ (.int .i64 0)).setCell ⟨w.heap.size + 1, 2, none⟩ (.int .i64 0)).setCell ⟨w.heap.size + 1, 3, none⟩ (.string ⟨#[]⟩)).setCell ⟨w.heap.size + 1, 4, none⟩ (.string ⟨#[]⟩)).setCell ⟨w.heap.size + 1, 5, none⟩ (.string ⟨#[]⟩)).setCell ⟨w.heap.size + 1, 6, none⟩ (.string ⟨#[]⟩)) = W3 at y0 y1 y2 y3 y4 y5 y6 ⊢
    simp [results, Try.results11, go_sem, y0, y1, y2, y3, y4, y5, y6, Cm.zero, Cm.cells]
    try rfl
set_option maxRecDepth 4000 in
set_option maxHeartbeats 4000000 in
theorem dbegin_yes (g : Nat) (id seq : Int) (y x : Cm) (tg0 ticks tg : Int) (w : World) (h : DAt w g id seq y false tg0 ticks) (hs : 0 ≤ seq ∧ seq ≤ 1000000000) (hk : x.k ≠ 0) (htg : 0 ≤ tg ∧ tg < 7)
    (hr : ∀ W, Calls Try.prog 18 #[.agg #[.int .i64 x.k, .int .i64 id, .int .i64 (seq + 1), .string x.a, .string x.b, .string x.o, .string x.v]] W fun e w' => e = .returned (.bool true) ∧ Below W.heap.size W w') :
    Calls Try.prog 11 #[.pointer (some ⟨g, 0, none⟩), .agg #[.int .i64 x.k, .int .i64 x.c, .int .i64 x.s, .string x.a, .string x.b, .string x.o, .string x.v], .int .i64 tg] w fun e w' =>
      e = .returned (.tuple #[.agg #[.int .i64 x.k, .int .i64 id, .int .i64 (seq + 1), .string x.a, .string x.b, .string x.o, .string x.v], .bool true]) ∧ DAt w' g id (seq + 1) ⟨x.k, id, seq + 1, x.a, x.b, x.o, x.v⟩ true tg 0 ∧ Touch g w w' := by
  obtain ⟨k, c, s, a, b, o, v⟩ := x
  simp only at hk hr ⊢
  have c0 := h.cell 0
  have c1 := h.cell 1
  have c9 := h.cell 9
  have hg := h.lt
  have hf := fun i => h.free i
  simp only [clientCells, List.getElem?_cons_zero, List.getElem?_cons_succ] at c0 c1 c9
  have hH := Lib.hid h; clear h
  have hF := Lib.hid hf; clear hf
  have HR := Lib.hid hr; clear hr
  obtain ⟨hs0, hs1⟩ := hs
  obtain ⟨ht0, ht1⟩ := htg
  have ek : (k == 0) = false := by simpa using hk
  have et : decide (tg < 0) = false := by simp; omega
  have et7 : decide (7 ≤ tg) = false := by simp; omega
  clear hk
  have hsw : IntKind.i64.wrap (seq + 1) = seq + 1 := IntWalk.i64_in _ (by omega)
  go_enter Try.func11, Try.ntmps11
  go_upto_region 1 with (fail)
  go_region
  go_upto_region 2 with (fail)
  clear hsw
  go_name_world W hW
  have hG : DAt W g id seq y false tg0 ticks := by rw [← hW]; exact holds_past (holds_past hH.out _) _
  have hX : Holds W w.heap.size 27 [.int .i64 k, .int .i64 id, .int .i64 (seq + 1), .string a, .string b, .string o, .string v] := by rw [← hW]; exact holds_past (holds_alloc w _ _) _
  have hZ : Holds W (w.heap.size + 1) 27 Cm.zero.cells := by
    rw [← hW]
    have := holds_alloc (w.alloc (.cells #[.int .i64 k, .int .i64 id, .int .i64 (seq + 1), .string a, .string b, .string o, .string v] 27)) 27 Cm.zero.cells
    rw [World.size_alloc] at this
    exact this
  have hT : Touch g w W := by rw [← hW]; exact Touch.of_below (by go_grown)
  clear hW c0 c1 c9
  have c9 := hG.cell 9
  have x0 := hX.cell 0
  have x1 := hX.cell 1
  have x2 := hX.cell 2
  have x3 := hX.cell 3
  have x4 := hX.cell 4
  have x5 := hX.cell 5
  have x6 := hX.cell 6
  simp only [clientCells, List.getElem?_cons_zero, List.getElem?_cons_succ] at c9 x0 x1 x2 x3 x4 x5 x6
  have HG := Lib.hid hG; have HX := Lib.hid hX; have HZ := Lib.hid hZ; have HT := Lib.hid hT
  clear hG hX hZ hT
  go_wp2_with fail
  refine (HR.out _).mono ?_
  rintro e w5 ⟨rfl, hb5⟩
  have HG := Lib.hid (HG.out.below hb5 HG.out.lt)
  have HX := Lib.hid (HX.out.below hb5 HX.out.lt)
  have HZ := Lib.hid (HZ.out.below hb5 HZ.out.lt)
  have HT := Lib.hid (HT.out.next hb5)
  have hs5 := hb5.size
  clear hb5 c9 x0 x1 x2 x3 x4 x5 x6 HR
  have x0 := HX.out.cell 0
  have x1 := HX.out.cell 1
  have x2 := HX.out.cell 2
  have x3 := HX.out.cell 3
  have x4 := HX.out.cell 4
  have x5 := HX.out.cell 5
  have x6 := HX.out.cell 6
  simp only [List.getElem?_cons_zero, List.getElem?_cons_succ] at x0 x1 x2 x3 x4 x5 x6
  have gc := fun i => HG.out.cell i
  have gf := fun i => HG.out.free i
  have zf := fun i => HZ.out.free i
  have g1 := gc 1
  have g2 := gc 2
  have g3 := gc 3
  have g4 := gc 4
  have g5 := gc 5
  have g6 := gc 6
  have g7 := gc 7
  have g8 := gc 8
  have g9 := gc 9
  have g10 := gc 10
  have g11 := gc 11
  have z0 := HZ.out.cell 0
  have z1 := HZ.out.cell 1
  have z2 := HZ.out.cell 2
  have z3 := HZ.out.cell 3
  have z4 := HZ.out.cell 4
  have z5 := HZ.out.cell 5
  have z6 := HZ.out.cell 6
  simp only [clientCells, Cm.zero, Cm.cells, List.getElem?_cons_zero, List.getElem?_cons_succ] at g1 g2 g3 g4 g5 g6 g7 g8 g9 g10 g11 z0 z1 z2 z3 z4 z5 z6
  clear gc
  have hne1 : ¬ g = w.heap.size := by omega
  have hne2 : ¬ w.heap.size = g := by omega
  have hne3 : ¬ g = w.heap.size + 1 := by omega
  have hne4 : ¬ w.heap.size + 1 = g := by omega
  go_upto_region 4 with (fail)
  go_region
  go_upto_region 5 with (fail)
  go_name_world W2 hW2
  have hT2 : Touch g w5 W2 := by
    rw [← hW2]
    exact ((((((((((((Touch.refl g w5).setCell 1 _).setCell 2 _).setCell 3 _).setCell 4 _).setCell 5 _).setCell 6 _).setCell 7 _).setCell 8 _).setCell 9 _).setCell 10 _).setCell 11 _).drew
  have hG2 : DAt W2 g id (seq + 1) ⟨k, id, seq + 1, a, b, o, v⟩ true tg 0 := by
    rw [← hW2]
    have := ((((((((((HG.out.set 1 (.int .i64 (seq + 1))).set 2 (.int .i64 k)).set 3 (.int .i64 id)).set 4 (.int .i64 (seq + 1))).set 5 (.string a)).set 6 (.string b)).set 7 (.string o)).set 8 (.string v)).set 9 (.bool true)).set 10 (.int .i64 tg)).set 11 (.int .i64 0)
    simp only [clientCells, List.set_cons_succ, List.set_cons_zero] at this
    exact holds_drew this
  have hX2 := HX.out.touch hT2 hne2
  have hZ2 := HZ.out.touch hT2 hne4
  have hT3 := HT.out.trans hT2
  have HG2 := Lib.hid hG2; have HZ2 := Lib.hid hZ2; have HT3 := Lib.hid hT3
  clear hW2 g1 g2 g3 g4 g5 g6 g7 g8 g9 g10 g11 gf z0 z1 z2 z3 z4 z5 z6 zf x0 x1 x2 x3 x4 x5 x6 hG2 hZ2 hT3 hT2
  have x0 := hX2.cell 0
  have x1 := hX2.cell 1
  have x2 := hX2.cell 2
  have x3 := hX2.cell 3
  have x4 := hX2.cell 4
  have x5 := hX2.cell 5
  have x6 := hX2.cell 6
  have z0 := HZ2.out.cell 0
  have z1 := HZ2.out.cell 1
  have z2 := HZ2.out.cell 2
  have z3 := HZ2.out.cell 3
  have z4 := HZ2.out.cell 4
  have z5 := HZ2.out.cell 5
  have z6 := HZ2.out.cell 6
  have zf := fun i => HZ2.out.free i
  simp only [Cm.zero, Cm.cells, List.getElem?_cons_zero, List.getElem?_cons_succ] at x0 x1 x2 x3 x4 x5 x6 z0 z1 z2 z3 z4 z5 z6
  clear hX2
  go_wp2_with fail
  have hZ3 := ((((((HZ2.out.set 0 (.int .i64 k)).set 1 (.int .i64 id)).set 2 (.int .i64 (seq + 1))).set 3 (.string a)).set 4 (.string b)).set 5 (.string o)).set 6 (.string v)
  simp only [Cm.zero, Cm.cells, List.set_cons_succ, List.set_cons_zero] at hZ3
  have hT4 := (((((((Touch.refl (w.heap.size + 1) W2).setCell 0 (.int .i64 k)).setCell 1 (.int .i64 id)).setCell 2 (.int .i64 (seq + 1))).setCell 3 (.string a)).setCell 4 (.string b)).setCell 5 (.string o)).setCell 6 (.string v)
  have hG3 := HG2.out.touch hT4 hne3
  have hB4 := hT4.below (B := w.heap.size) (by omega) HT3.out.size
  have hT5 := HT3.out.then hB4
  have y0 := hZ3.cell 0
  have y1 := hZ3.cell 1
  have y2 := hZ3.cell 2
  have y3 := hZ3.cell 3
  have y4 := hZ3.cell 4
  have y5 := hZ3.cell 5
  have y6 := hZ3.cell 6
  simp only [List.getElem?_cons_zero, List.getElem?_cons_succ] at y0 y1 y2 y3 y4 y5 y6
  clear x0 x1 x2 x3 x4 x5 x6 z0 z1 z2 z3 z4 z5 z6 zf
  refine bodyPost_ret (v := .tuple #[.agg #[.int .i64 k, .int .i64 id, .int .i64 (seq + 1), .string a, .string b, .string o, .string v], .bool true]) ?_ rfl ⟨rfl, hG3, hT5⟩
  generalize (((((((W2.setCell ⟨w.heap.size + 1, 0, none⟩ (.int .i64 k)).setCell ⟨w.heap.size + 1, 1, none⟩ (.int .i64 id)).setCell ⟨w.heap.size + 1, 2, none⟩ (.int .i64 (seq + 1))).setCell ⟨w.heap.size + 1, 3, none⟩ (.string a)).setCell ⟨w.heap.size + 1, 4, none⟩ (.string b)).setCell ⟨w.heap.size + 1, 5, none⟩ (.string o)).setCell ⟨w.heap.size + 1, 6, none⟩ (.string v)) = W3 at y0 y1 y2 y3 y4 y5 y6 ⊢
  simp [results, Try.results11, go_sem, y0, y1, y2, y3, y4, y5, y6]
set_option maxRecDepth 4000 in
set_option maxHeartbeats 4000000 in
theorem dbegin_waits (g : Nat) (id seq : Int) (y x : Cm) (tg0 ticks tg : Int) (w : World) (h : DAt w g id seq y true tg0 ticks) (hs : 0 ≤ seq ∧ seq ≤ 1000000000) :
    Calls Try.prog 11 #[.pointer (some ⟨g, 0, none⟩), .agg #[.int .i64 x.k, .int .i64 x.c, .int .i64 x.s, .string x.a, .string x.b, .string x.o, .string x.v], .int .i64 tg] w fun e w' =>
      e = .returned (.tuple #[.agg Cm.zero.cells.toArray, .bool false]) ∧ Below w.heap.size w w' := by
  have c0 := h.cell 0
  have c1 := h.cell 1
  have c9 := h.cell 9
  have hg := h.lt
  simp only [clientCells, List.getElem?_cons_zero, List.getElem?_cons_succ] at c0 c1 c9
  clear h
  obtain ⟨hs0, hs1⟩ := hs
  have hsw : IntKind.i64.wrap (seq + 1) = seq + 1 := IntWalk.i64_in _ (by omega)
  go_enter Try.func11, Try.ntmps11
  go_upto_region 1 with (fail)
  go_region
  clear hsw
  go_wp2_with fail
  exact bodyPost_ret (v := .tuple #[.agg Cm.zero.cells.toArray, .bool false]) (by simp [results, Try.results11, go_sem, Cm.zero, Cm.cells]; try rfl) rfl ⟨rfl, by go_grown⟩
set_option maxRecDepth 4000 in
set_option maxHeartbeats 4000000 in
theorem tick_ask2 (g : Nat) (id seq : Int) (x : Cm) (target ticks n : Int) (w : World) (h : CAt w g id seq x true target ticks) (hn : 1 ≤ n) (hn7 : n ≤ 9223372036854775807) (htg : 0 ≤ target ∧ target ≤ 9223372036854775806) (ht : 0 ≤ ticks ∧ ticks ≤ 1000000000) (h20 : (ticks + 1) % 20 = 0) :
    Calls Try.prog 9 #[.pointer (some ⟨g, 0, none⟩), .int .i64 n] w fun e w' => e = .returned (.tuple #[.agg x.cells.toArray, .int .i64 ((target + 1) % n), .bool true]) ∧ CAt w' g id seq x true ((target + 1) % n) (ticks + 1) ∧ Touch g w w' := by
  have c2 := h.cell 2
  have c3 := h.cell 3
  have c4 := h.cell 4
  have c5 := h.cell 5
  have c6 := h.cell 6
  have c7 := h.cell 7
  have c8 := h.cell 8
  have c9 := h.cell 9
  have c10 := h.cell 10
  have c11 := h.cell 11
  have f10 := h.free 10
  have f11 := h.free 11
  have hg := h.lt
  obtain ⟨ht0, ht1⟩ := ht
  obtain ⟨hg0, hg1⟩ := htg
  simp only [clientCells, List.getElem?_cons_zero, List.getElem?_cons_succ] at c2 c3 c4 c5 c6 c7 c8 c9 c10 c11
  have hH := Lib.hid h; clear h
  have h20b : ((ticks + 1) % 20 != 0) = false := by simp; exact h20
  clear h20
  go_enter Try.func9, Try.ntmps9
  go_upto_region 7 with (fail)
  go_region
  go_wp2_with fail
  have hs := (hH.out.set 11 (.int .i64 (ticks + 1))).set 10 (.int .i64 ((target + 1) % n))
  simp only [clientCells, List.set_cons_succ, List.set_cons_zero] at hs
  have hA : Holds ((((w.setCell ⟨g, 11, none⟩ (.int .i64 (ticks + 1))).setCell ⟨g, 10, none⟩ (.int .i64 ((target + 1) % n))).alloc (.cells x.cells.toArray 27)).drew) g 54 (clientCells id seq x true ((target + 1) % n) (ticks + 1)) := holds_past hs _
  exact bodyPost_ret (v := .tuple #[.agg x.cells.toArray, .int .i64 ((target + 1) % n), .bool true]) (by simp [results, Try.results9, go_sem, Cm.cells]; try rfl) rfl ⟨rfl, hA, ((((Touch.refl g w).setCell 11 _).setCell 10 _).next (by go_grown)).drew⟩
set_option maxRecDepth 4000 in
set_option maxHeartbeats 4000000 in
theorem dtick_ask2 (g : Nat) (id seq : Int) (x : Cm) (target ticks n : Int) (w : World) (h : DAt w g id seq x true target ticks) (hn : 1 ≤ n) (hn7 : n ≤ 9223372036854775807) (htg : 0 ≤ target ∧ target ≤ 9223372036854775806) (ht : 0 ≤ ticks ∧ ticks ≤ 1000000000) (h20 : (ticks + 1) % 20 = 0) :
    Calls Try.prog 14 #[.pointer (some ⟨g, 0, none⟩), .int .i64 n] w fun e w' => e = .returned (.tuple #[.agg x.cells.toArray, .int .i64 ((target + 1) % n), .bool true]) ∧ DAt w' g id seq x true ((target + 1) % n) (ticks + 1) ∧ Touch g w w' := by
  have c2 := h.cell 2
  have c3 := h.cell 3
  have c4 := h.cell 4
  have c5 := h.cell 5
  have c6 := h.cell 6
  have c7 := h.cell 7
  have c8 := h.cell 8
  have c9 := h.cell 9
  have c10 := h.cell 10
  have c11 := h.cell 11
  have f10 := h.free 10
  have f11 := h.free 11
  have hg := h.lt
  obtain ⟨ht0, ht1⟩ := ht
  obtain ⟨hg0, hg1⟩ := htg
  simp only [clientCells, List.getElem?_cons_zero, List.getElem?_cons_succ] at c2 c3 c4 c5 c6 c7 c8 c9 c10 c11
  have hH := Lib.hid h; clear h
  have h20b : ((ticks + 1) % 20 != 0) = false := by simp; exact h20
  clear h20
  go_enter Try.func14, Try.ntmps14
  go_upto_region 7 with (fail)
  go_region
  go_wp2_with fail
  have hs := (hH.out.set 11 (.int .i64 (ticks + 1))).set 10 (.int .i64 ((target + 1) % n))
  simp only [clientCells, List.set_cons_succ, List.set_cons_zero] at hs
  have hA : Holds ((((w.setCell ⟨g, 11, none⟩ (.int .i64 (ticks + 1))).setCell ⟨g, 10, none⟩ (.int .i64 ((target + 1) % n))).alloc (.cells x.cells.toArray 27)).drew) g 41 (clientCells id seq x true ((target + 1) % n) (ticks + 1)) := holds_past hs _
  exact bodyPost_ret (v := .tuple #[.agg x.cells.toArray, .int .i64 ((target + 1) % n), .bool true]) (by simp [results, Try.results14, go_sem, Cm.cells]; try rfl) rfl ⟨rfl, hA, ((((Touch.refl g w).setCell 11 _).setCell 10 _).next (by go_grown)).drew⟩
set_option maxRecDepth 4000 in
set_option maxHeartbeats 4000000 in
theorem dtick_idle (g : Nat) (id seq : Int) (x : Cm) (target ticks n : Int) (w : World) (h : DAt w g id seq x true target ticks) (hn : 1 ≤ n) (ht : 0 ≤ ticks ∧ ticks ≤ 1000000000) (h20 : ¬ (ticks + 1) % 20 = 0) :
    Calls Try.prog 14 #[.pointer (some ⟨g, 0, none⟩), .int .i64 n] w fun e w' => e = .returned (.tuple #[.agg Cm.zero.cells.toArray, .int .i64 0, .bool false]) ∧ DAt w' g id seq x true target (ticks + 1) ∧ Touch g w w' := by
  have c9 := h.cell 9
  have c11 := h.cell 11
  have f11 := h.free 11
  have hg := h.lt
  obtain ⟨ht0, ht1⟩ := ht
  simp only [clientCells, List.getElem?_cons_zero, List.getElem?_cons_succ] at c9 c11
  have hH := Lib.hid h; clear h
  go_enter Try.func14, Try.ntmps14
  go_wp2_with fail
  have hs := hH.out.set 11 (.int .i64 (ticks + 1))
  simp only [clientCells, List.set_cons_succ, List.set_cons_zero] at hs
  have hA : Holds ((w.setCell ⟨g, 11, none⟩ (.int .i64 (ticks + 1))).alloc (.cells Cm.zero.cells.toArray 27)) g 41 (clientCells id seq x true target (ticks + 1)) := holds_past hs _
  exact bodyPost_ret (v := .tuple #[.agg Cm.zero.cells.toArray, .int .i64 0, .bool false]) (by simp [results, Try.results14, go_sem, Cm.zero, Cm.cells]; try rfl) rfl ⟨rfl, hA, ((Touch.refl g w).setCell 11 _).next (by go_grown)⟩
set_option maxRecDepth 4000 in
set_option maxHeartbeats 4000000 in
theorem dtick_no (g : Nat) (id seq : Int) (x : Cm) (waits : Bool) (target ticks n : Int) (w : World) (h : DAt w g id seq x waits target ticks) (hn : waits = false) :
    Calls Try.prog 14 #[.pointer (some ⟨g, 0, none⟩), .int .i64 n] w fun e w' => e = .returned (.tuple #[.agg Cm.zero.cells.toArray, .int .i64 0, .bool false]) ∧ Below w.heap.size w w' := by
  have c9 := h.cell 9
  have hg := h.lt
  simp only [clientCells, List.getElem?_cons_zero, List.getElem?_cons_succ] at c9
  subst hn
  go_enter Try.func14, Try.ntmps14
  go_wp2_with fail
  exact bodyPost_ret (v := .tuple #[.agg Cm.zero.cells.toArray, .int .i64 0, .bool false]) (by simp [results, Try.results14, go_sem, Cm.zero, Cm.cells]; try rfl) rfl ⟨rfl, by go_grown⟩
set_option maxRecDepth 4000 in
set_option maxHeartbeats 4000000 in
theorem dtell_yes (g : Nat) (id seq : Int) (x : Cm) (target ticks : Int) (r0 r1 r2 r3 r4 : Value) (w : World) (h : DAt w g id seq x true target ticks) :
    Calls Try.prog 12 #[.pointer (some ⟨g, 0, none⟩), .agg #[.int .i64 id, .int .i64 seq, r0, r1, r2, r3, r4]] w fun e w' => e = .returned (.bool true) ∧ DAt w' g id seq x false target ticks ∧ Touch g w w' := by
  have c0 := h.cell 0
  have c1 := h.cell 1
  have c9 := h.cell 9
  have f9 := h.free 9
  have hg := h.lt
  simp only [clientCells, List.getElem?_cons_zero, List.getElem?_cons_succ] at c0 c1 c9
  have hH := Lib.hid h; clear h
  have e0 : (id != id) = false := by simp
  have e1 : (seq != seq) = false := by simp
  go_enter Try.func12, Try.ntmps12
  go_upto_region 1 with (fail)
  go_region
  go_wp2_with fail
  have hs := hH.out.set 9 (.bool false)
  simp only [clientCells, List.set_cons_succ, List.set_cons_zero] at hs
  have hA : Holds (((w.setCell ⟨g, 9, none⟩ (.bool false)).alloc (.cells #[.int .i64 id, .int .i64 seq, r0, r1, r2, r3, r4] 37)).drew) g 41 (clientCells id seq x false target ticks) := holds_past hs _
  go_ret
  exact ⟨rfl, hA, (((Touch.refl g w).setCell 9 _).next (by go_grown)).drew⟩
set_option maxRecDepth 4000 in
set_option maxHeartbeats 4000000 in
theorem dtell_no (g : Nat) (id seq : Int) (x : Cm) (waits : Bool) (target ticks c s : Int) (r0 r1 r2 r3 r4 : Value) (w : World) (h : DAt w g id seq x waits target ticks) (hn : waits = false ∨ c ≠ id ∨ s ≠ seq) :
    Calls Try.prog 12 #[.pointer (some ⟨g, 0, none⟩), .agg #[.int .i64 c, .int .i64 s, r0, r1, r2, r3, r4]] w fun e w' => e = .returned (.bool false) ∧ Below w.heap.size w w' := by
  have c0 := h.cell 0
  have c1 := h.cell 1
  have c9 := h.cell 9
  have hg := h.lt
  simp only [clientCells, List.getElem?_cons_zero, List.getElem?_cons_succ] at c0 c1 c9
  clear h
  have hcase : waits = false ∨ (waits = true ∧ (c != id) = true) ∨ (waits = true ∧ (c != id) = false ∧ (s != seq) = true) := by
    cases waits
    · exact .inl rfl
    · by_cases hc : c = id
      · refine .inr (.inr ⟨rfl, by simp [hc], ?_⟩)
        rcases hn with h | h | h
        · cases h
        · exact absurd hc h
        · simp [h]
      · exact .inr (.inl ⟨rfl, by simp [hc]⟩)
  clear hn
  rcases hcase with rfl | ⟨rfl, e0⟩ | ⟨rfl, e0, e1⟩
  all_goals
    go_enter Try.func12, Try.ntmps12
    go_upto_region 1 with (fail)
    go_region
    go_wp2_with fail
    go_ret
    exact ⟨rfl, by go_grown⟩
end Go.Proofs.Ytkojfgebdoojnaa
