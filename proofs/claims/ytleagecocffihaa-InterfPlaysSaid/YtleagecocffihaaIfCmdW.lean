/-
  The walks of the commands' functions: the keys that they touch, whether they write, whether they clash; the document's too.
-/
import Derived.Test.YtleagecocffihaaClP
import Derived.Test.YtleagecocffihaaIfSpanW
import Derived.Lib.ItoaWalk
namespace Go.Proofs.Ytleagecocffihaa
open Go.RowKit
set_option linter.unusedVariables false
set_option linter.unusedSimpArgs false

theorem holds_past {w : World} {g e : Nat} {L : List Value} (h : Holds w g e L) (o : Obj) : Holds (w.alloc o) g e L := by
  have := h.lt
  exact h.below (B := w.heap.size) ((Below.refl _ _).alloc (Nat.le_refl _) o) this
/-- The keys that a command touches; false: none. -/
def keysC (x : Cm) : ByteArray × ByteArray × Bool := if x.k = 1 ∨ x.k = 2 ∨ x.k = 3 ∨ x.k = 4 then (x.a, SpanP.succ x.a, true) else if x.k = 5 then (x.a, x.b, true) else (⟨#[]⟩, ⟨#[]⟩, false)
def writesC (x : Cm) : Bool := x.k == 2 || (x.k == 3 || x.k == 4)
def clashC (x y : Cm) : Bool := (keysC x).2.2 && (keysC y).2.2 && (x.c == y.c || ((writesC x || writesC y) && SpanP.meets (keysC x).1 (keysC x).2.1 (keysC y).1 (keysC y).2.1))
def rclashC (x y : Cm) : Bool := (keysC x).2.2 && (keysC y).2.2 && (x.c == y.c || ((writesC x || writesC y) && SpanP.refMeets (keysC x).1 (keysC x).2.1 (keysC y).1 (keysC y).2.1))
set_option maxRecDepth 4000 in
set_option maxHeartbeats 2000000 in
theorem keys_any (x : Cm) (w : World) (ha : x.a.size ≤ 1000000) : Calls Try.prog 32 #[.agg #[.int .i64 x.k, .int .i64 x.c, .int .i64 x.s, .string x.a, .string x.b, .string x.o, .string x.v]] w fun e w' => e = .returned (.tuple #[.agg #[.string (keysC x).1, .string (keysC x).2.1], .bool (keysC x).2.2]) ∧ Below w.heap.size w w' := by
  obtain ⟨k, c, s, a, b, o, v⟩ := x
  simp only at ha
  have hc : (k = 1 ∨ k = 2 ∨ k = 3 ∨ k = 4) ∨ k = 5 ∨ ((k == 1) = false ∧ (k == 2) = false ∧ (k == 3) = false ∧ (k == 4) = false ∧ (k == 5) = false) := by
    simp only [beq_eq_false_iff_ne, ne_eq]
    omega
  rcases hc with hk | rfl | ⟨e1, e2, e3, e4, e5⟩
  · have hkk : keysC ⟨k, c, s, a, b, o, v⟩ = (a, SpanP.succ a, true) := by unfold keysC; rw [if_pos (by simp; omega)]
    rw [hkk]
    clear hkk
    rcases hk with rfl | rfl | rfl | rfl
    · go_enter Try.func32, Try.ntmps32
      go_wp2_with fail
      refine (of_any a _ (by omega)).mono ?_
      rintro e w1 ⟨rfl, hb⟩
      have hz := holds_alloc (w.alloc (.cells #[.int .i64 1, .int .i64 c, .int .i64 s, .string a, .string b, .string o, .string v] 29)) 68 [.string ⟨#[]⟩, .string ⟨#[]⟩]
      rw [World.size_alloc] at hz
      have hz1 := hz.below hb (by simp)
      have z0 := hz1.cell 0
      have z1 := hz1.cell 1
      have zf := fun i => hz1.free i
      simp only [List.getElem?_cons_zero, List.getElem?_cons_succ] at z0 z1
      have HB := Lib.hid (below_next (show Below w.heap.size w _ by go_grown) hb)
      clear hb hz
      have HZ := Lib.hid hz1; clear hz1
      go_wp2_with fail
      have hs := (HZ.out.set 0 (.string a)).set 1 (.string (SpanP.succ a))
      simp only [List.set_cons_zero, List.set_cons_succ] at hs
      have s0 := hs.cell 0
      have s1 := hs.cell 1
      simp only [List.getElem?_cons_zero, List.getElem?_cons_succ] at s0 s1
      have hB := HB.out
      exact bodyPost_ret (v := .tuple #[.agg #[.string a, .string (SpanP.succ a)], .bool true]) (by simp [results, Try.results32, go_sem, s0, s1]) rfl ⟨rfl, by go_grown⟩
    · go_enter Try.func32, Try.ntmps32
      go_wp2_with fail
      refine (of_any a _ (by omega)).mono ?_
      rintro e w1 ⟨rfl, hb⟩
      have hz := holds_alloc (w.alloc (.cells #[.int .i64 2, .int .i64 c, .int .i64 s, .string a, .string b, .string o, .string v] 29)) 68 [.string ⟨#[]⟩, .string ⟨#[]⟩]
      rw [World.size_alloc] at hz
      have hz1 := hz.below hb (by simp)
      have z0 := hz1.cell 0
      have z1 := hz1.cell 1
      have zf := fun i => hz1.free i
      simp only [List.getElem?_cons_zero, List.getElem?_cons_succ] at z0 z1
      have HB := Lib.hid (below_next (show Below w.heap.size w _ by go_grown) hb)
      clear hb hz
      have HZ := Lib.hid hz1; clear hz1
      go_wp2_with fail
      have hs := (HZ.out.set 0 (.string a)).set 1 (.string (SpanP.succ a))
      simp only [List.set_cons_zero, List.set_cons_succ] at hs
      have s0 := hs.cell 0
      have s1 := hs.cell 1
      simp only [List.getElem?_cons_zero, List.getElem?_cons_succ] at s0 s1
      have hB := HB.out
      exact bodyPost_ret (v := .tuple #[.agg #[.string a, .string (SpanP.succ a)], .bool true]) (by simp [results, Try.results32, go_sem, s0, s1]) rfl ⟨rfl, by go_grown⟩
    · go_enter Try.func32, Try.ntmps32
      go_wp2_with fail
      refine (of_any a _ (by omega)).mono ?_
      rintro e w1 ⟨rfl, hb⟩
      have hz := holds_alloc (w.alloc (.cells #[.int .i64 3, .int .i64 c, .int .i64 s, .string a, .string b, .string o, .string v] 29)) 68 [.string ⟨#[]⟩, .string ⟨#[]⟩]
      rw [World.size_alloc] at hz
      have hz1 := hz.below hb (by simp)
      have z0 := hz1.cell 0
      have z1 := hz1.cell 1
      have zf := fun i => hz1.free i
      simp only [List.getElem?_cons_zero, List.getElem?_cons_succ] at z0 z1
      have HB := Lib.hid (below_next (show Below w.heap.size w _ by go_grown) hb)
      clear hb hz
      have HZ := Lib.hid hz1; clear hz1
      go_wp2_with fail
      have hs := (HZ.out.set 0 (.string a)).set 1 (.string (SpanP.succ a))
      simp only [List.set_cons_zero, List.set_cons_succ] at hs
      have s0 := hs.cell 0
      have s1 := hs.cell 1
      simp only [List.getElem?_cons_zero, List.getElem?_cons_succ] at s0 s1
      have hB := HB.out
      exact bodyPost_ret (v := .tuple #[.agg #[.string a, .string (SpanP.succ a)], .bool true]) (by simp [results, Try.results32, go_sem, s0, s1]) rfl ⟨rfl, by go_grown⟩
    · go_enter Try.func32, Try.ntmps32
      go_wp2_with fail
      refine (of_any a _ (by omega)).mono ?_
      rintro e w1 ⟨rfl, hb⟩
      have hz := holds_alloc (w.alloc (.cells #[.int .i64 4, .int .i64 c, .int .i64 s, .string a, .string b, .string o, .string v] 29)) 68 [.string ⟨#[]⟩, .string ⟨#[]⟩]
      rw [World.size_alloc] at hz
      have hz1 := hz.below hb (by simp)
      have z0 := hz1.cell 0
      have z1 := hz1.cell 1
      have zf := fun i => hz1.free i
      simp only [List.getElem?_cons_zero, List.getElem?_cons_succ] at z0 z1
      have HB := Lib.hid (below_next (show Below w.heap.size w _ by go_grown) hb)
      clear hb hz
      have HZ := Lib.hid hz1; clear hz1
      go_wp2_with fail
      have hs := (HZ.out.set 0 (.string a)).set 1 (.string (SpanP.succ a))
      simp only [List.set_cons_zero, List.set_cons_succ] at hs
      have s0 := hs.cell 0
      have s1 := hs.cell 1
      simp only [List.getElem?_cons_zero, List.getElem?_cons_succ] at s0 s1
      have hB := HB.out
      exact bodyPost_ret (v := .tuple #[.agg #[.string a, .string (SpanP.succ a)], .bool true]) (by simp [results, Try.results32, go_sem, s0, s1]) rfl ⟨rfl, by go_grown⟩
  · have hkk : keysC ⟨5, c, s, a, b, o, v⟩ = (a, b, true) := by unfold keysC; rw [if_neg (by simp), if_pos rfl]
    rw [hkk]
    clear hkk
    go_enter Try.func32, Try.ntmps32
    go_wp2_with fail
    exact bodyPost_ret (v := .tuple #[.agg #[.string a, .string b], .bool true]) (by simp [results, Try.results32, go_sem]) rfl ⟨rfl, by go_grown⟩
  · have hkk : keysC ⟨k, c, s, a, b, o, v⟩ = (⟨#[]⟩, ⟨#[]⟩, false) := by
      simp only [beq_eq_false_iff_ne, ne_eq] at e1 e2 e3 e4 e5
      unfold keysC
      rw [if_neg (by simp only; omega), if_neg (by simp only; omega)]
    rw [hkk]
    clear hkk
    go_enter Try.func32, Try.ntmps32
    go_wp2_with fail
    exact bodyPost_ret (v := .tuple #[.agg #[.string ⟨#[]⟩, .string ⟨#[]⟩], .bool false]) (by simp [results, Try.results32, go_sem]) rfl ⟨rfl, by go_grown⟩
set_option maxRecDepth 4000 in
set_option maxHeartbeats 2000000 in
theorem writes_any (x : Cm) (w : World) : Calls Try.prog 33 #[.agg #[.int .i64 x.k, .int .i64 x.c, .int .i64 x.s, .string x.a, .string x.b, .string x.o, .string x.v]] w fun e w' => e = .returned (.bool (writesC x)) ∧ Below w.heap.size w w' := by
  obtain ⟨k, c, s, a, b, o, v⟩ := x
  have hc : ((k == 2) = true ∧ writesC ⟨k, c, s, a, b, o, v⟩ = true) ∨ ((k == 2) = false ∧ (k == 3) = true ∧ writesC ⟨k, c, s, a, b, o, v⟩ = true) ∨ ((k == 2) = false ∧ (k == 3) = false ∧ (k == 4) = true ∧ writesC ⟨k, c, s, a, b, o, v⟩ = true) ∨ ((k == 2) = false ∧ (k == 3) = false ∧ (k == 4) = false ∧ writesC ⟨k, c, s, a, b, o, v⟩ = false) := by
    unfold writesC
    simp only
    cases (k == 2) <;> cases (k == 3) <;> cases (k == 4) <;> simp
  rcases hc with ⟨e1, e⟩ | ⟨e1, e2, e⟩ | ⟨e1, e2, e3, e⟩ | ⟨e1, e2, e3, e⟩
  all_goals
    rw [e]
    clear e
    go_enter Try.func33, Try.ntmps33
    go_wp2_with fail
    go_ret
    exact ⟨ret_bool (by simp [*]), by go_grown⟩
set_option maxRecDepth 4000 in
set_option maxHeartbeats 4000000 in
theorem clash_any (x y : Cm) (w : World) (ha : x.a.size ≤ 1000000) (hb : y.a.size ≤ 1000000) : Calls Try.prog 24 #[.agg #[.int .i64 x.k, .int .i64 x.c, .int .i64 x.s, .string x.a, .string x.b, .string x.o, .string x.v], .agg #[.int .i64 y.k, .int .i64 y.c, .int .i64 y.s, .string y.a, .string y.b, .string y.o, .string y.v]] w fun e w' => e = .returned (.bool (clashC x y)) ∧ Below w.heap.size w w' := by
  have K1 := fun W => keys_any x W ha
  have K2 := fun W => keys_any y W hb
  have W1 := fun W => writes_any x W
  have W2 := fun W => writes_any y W
  have M := fun W => meets_any (keysC x).1 (keysC x).2.1 (keysC y).1 (keysC y).2.1 W
  have hR : clashC x y = ((keysC x).2.2 && (keysC y).2.2 && (x.c == y.c || ((writesC x || writesC y) && SpanP.meets (keysC x).1 (keysC x).2.1 (keysC y).1 (keysC y).2.1))) := rfl
  generalize SpanP.meets (keysC x).1 (keysC x).2.1 (keysC y).1 (keysC y).2.1 = m at M hR
  generalize writesC x = w1 at W1 hR
  generalize writesC y = w2 at W2 hR
  generalize keysC x = kx at K1 M hR
  generalize keysC y = ky at K2 M hR
  obtain ⟨p1, p2, p⟩ := kx
  obtain ⟨q1, q2, q⟩ := ky
  simp only at K1 K2 M hR
  rw [hR]
  clear hR
  have HK1 := Lib.hid K1; have HK2 := Lib.hid K2; have HW1 := Lib.hid W1; have HW2 := Lib.hid W2; have HM := Lib.hid M
  clear K1 K2 W1 W2 M
  have hxy : ((x.c == y.c) = true) ∨ ((x.c == y.c) = false) := by cases (x.c == y.c) <;> simp
  go_enter Try.func24, Try.ntmps24
  have hbx : Holds ((w.alloc (.cells x.cells.toArray 29)).alloc (.cells y.cells.toArray 29)) w.heap.size 29 x.cells := holds_past (holds_alloc w _ _) _
  have hby : Holds ((w.alloc (.cells x.cells.toArray 29)).alloc (.cells y.cells.toArray 29)) (w.heap.size + 1) 29 y.cells := by
    have := holds_alloc (w.alloc (.cells x.cells.toArray 29)) 29 y.cells
    rwa [World.size_alloc] at this
  have hb0 : Below w.heap.size w ((w.alloc (.cells x.cells.toArray 29)).alloc (.cells y.cells.toArray 29)) := by go_grown
  unfold Cm.cells at hbx hby hb0
  go_wp2_with fail
  refine (HK1.out _).mono ?_
  rintro e w3 ⟨rfl, hb3⟩
  have HX := Lib.hid (hbx.below hb3 hbx.lt); have HY := Lib.hid (hby.below hb3 hby.lt); have HB := Lib.hid (below_next hb0 hb3)
  clear hbx hby hb0 hb3
  generalize w.heap.size + 1 = gy at HY ⊢
  generalize w.heap.size = gx at HX ⊢
  have y0 := HY.out.cell 0
  have y1 := HY.out.cell 1
  have y2 := HY.out.cell 2
  have y3 := HY.out.cell 3
  have y4 := HY.out.cell 4
  have y5 := HY.out.cell 5
  have y6 := HY.out.cell 6
  simp only [List.getElem?_cons_zero, List.getElem?_cons_succ] at y0 y1 y2 y3 y4 y5 y6
  have ylt := HY.out.lt
  have xlt := HX.out.lt
  go_wp2_with fail
  refine (HK2.out _).mono ?_
  rintro e w4 ⟨rfl, hb4⟩
  have hp0 := holds_alloc w3 68 [.string p1, .string p2]
  have HP := Lib.hid (hp0.below hb4 hp0.lt)
  have hx1 := holds_past HX.out (.cells #[.string p1, .string p2] 68)
  have HX1 := Lib.hid (hx1.below hb4 hx1.lt)
  have hy1 := holds_past HY.out (.cells #[.string p1, .string p2] 68)
  have HY1 := Lib.hid (hy1.below hb4 hy1.lt)
  have HB1 := Lib.hid ((HB.out.alloc HB.out.size (.cells #[.string p1, .string p2] 68)).trans (hb4.mono (by have := HB.out.size; simp; omega)))
  clear hx1 hy1 hp0 hb4 y0 y1 y2 y3 y4 y5 y6 ylt xlt HX HY HB
  generalize w3.heap.size = gp at HP ⊢
  have x0 := HX1.out.cell 0
  have x1 := HX1.out.cell 1
  have x2 := HX1.out.cell 2
  have x3 := HX1.out.cell 3
  have x4 := HX1.out.cell 4
  have x5 := HX1.out.cell 5
  have x6 := HX1.out.cell 6
  have y0 := HY1.out.cell 0
  have y1 := HY1.out.cell 1
  have y2 := HY1.out.cell 2
  have y3 := HY1.out.cell 3
  have y4 := HY1.out.cell 4
  have y5 := HY1.out.cell 5
  have y6 := HY1.out.cell 6
  simp only [List.getElem?_cons_zero, List.getElem?_cons_succ] at x0 x1 x2 x3 x4 x5 x6 y0 y1 y2 y3 y4 y5 y6
  have xlt := HX1.out.lt
  have ylt := HY1.out.lt
  have plt := HP.out.lt
  have hbs := HB1.out.size
  clear HK1 HK2
  cases p
  · go_wp2_with fail
    have hB := HB1.out
    go_ret
    exact ⟨ret_bool (by simp), by go_grown⟩
  cases q
  · go_wp2_with fail
    have hB := HB1.out
    go_ret
    exact ⟨ret_bool (by simp), by go_grown⟩
  rcases hxy with hc | hc
  · go_wp2_with fail
    have hB := HB1.out
    go_ret
    exact ⟨ret_bool (by simp [hc]), by go_grown⟩
  · go_wp2_with fail
    refine (HW1.out _).mono ?_
    rintro e w5 ⟨rfl, hb5⟩
    have hcc := Lib.hid hc
    clear x0 x1 x2 x3 x4 x5 x6 y0 y1 y2 y3 y4 y5 y6 hc
    have hq0 := holds_alloc w4 68 [.string q1, .string q2]
    have HQ2 := Lib.hid (hq0.below hb5 hq0.lt)
    have hp0 := holds_past HP.out (.cells #[.string q1, .string q2] 68)
    have HP2 := Lib.hid (hp0.below hb5 hp0.lt)
    have hy1 := holds_past HY1.out (.cells #[.string q1, .string q2] 68)
    have HY2 := Lib.hid (hy1.below hb5 hy1.lt)
    have HB2 := Lib.hid ((HB1.out.alloc HB1.out.size (.cells #[.string q1, .string q2] 68)).trans (hb5.mono (by simp; omega)))
    clear hq0 hp0 hy1 hb5 xlt ylt plt hbs HX1 HY1 HP HB1
    generalize w4.heap.size = gq at HQ2 ⊢
    have hbs := HB2.out.size
    have plt := HP2.out.lt
    have qlt := HQ2.out.lt
    cases w1
    · -- the first writes nothing
      have y0 := HY2.out.cell 0
      have y1 := HY2.out.cell 1
      have y2 := HY2.out.cell 2
      have y3 := HY2.out.cell 3
      have y4 := HY2.out.cell 4
      have y5 := HY2.out.cell 5
      have y6 := HY2.out.cell 6
      simp only [List.getElem?_cons_zero, List.getElem?_cons_succ] at y0 y1 y2 y3 y4 y5 y6
      go_wp2_with fail
      refine (HW2.out _).mono ?_
      rintro e w6 ⟨rfl, hb6⟩
      clear y0 y1 y2 y3 y4 y5 y6
      have HB3 := Lib.hid (HB2.out.trans (hb6.mono hbs))
      have HP3 := Lib.hid (HP2.out.below hb6 plt)
      have HQ3 := Lib.hid (HQ2.out.below hb6 qlt)
      have hbs3 := HB3.out.size
      cases w2
      · go_wp2_with fail
        have hB := HB3.out
        go_ret
        exact ⟨ret_bool (by simp [hcc.out]), by go_grown⟩
      have s0 := HP3.out.cell 0
      have s1 := HP3.out.cell 1
      have t0 := HQ3.out.cell 0
      have t1 := HQ3.out.cell 1
      simp only [List.getElem?_cons_zero, List.getElem?_cons_succ] at s0 s1 t0 t1
      go_wp2_with fail
      refine (HM.out _).mono ?_
      rintro e w7 ⟨rfl, hb7⟩
      have HB4 := Lib.hid (HB3.out.trans (hb7.mono hbs3))
      clear hb7
      cases m
      all_goals
        go_wp2_with fail
        have hB := HB4.out
        go_ret
        exact ⟨ret_bool (by simp [hcc.out]), by go_grown⟩
    · -- the first writes
      have s0 := HP2.out.cell 0
      have s1 := HP2.out.cell 1
      have t0 := HQ2.out.cell 0
      have t1 := HQ2.out.cell 1
      simp only [List.getElem?_cons_zero, List.getElem?_cons_succ] at s0 s1 t0 t1
      go_wp2_with fail
      refine (HM.out _).mono ?_
      rintro e w7 ⟨rfl, hb7⟩
      have HB4 := Lib.hid (HB2.out.trans (hb7.mono hbs))
      clear hb7
      cases m
      all_goals
        go_wp2_with fail
        have hB := HB4.out
        go_ret
        exact ⟨ret_bool (by simp [hcc.out]), by go_grown⟩
set_option maxRecDepth 4000 in
set_option maxHeartbeats 2000000 in
theorem dkeys_any (x : Cm) (w : World) (ha : x.a.size ≤ 1000000) : Calls Try.prog 35 #[.agg #[.int .i64 x.k, .int .i64 x.c, .int .i64 x.s, .string x.a, .string x.b, .string x.o, .string x.v]] w fun e w' => e = .returned (.tuple #[.agg #[.string (keysC x).1, .string (keysC x).2.1], .bool (keysC x).2.2]) ∧ Below w.heap.size w w' := by
  obtain ⟨k, c, s, a, b, o, v⟩ := x
  simp only at ha
  have hc : (k = 1 ∨ k = 2 ∨ k = 3 ∨ k = 4) ∨ k = 5 ∨ ((k == 1) = false ∧ (k == 2) = false ∧ (k == 3) = false ∧ (k == 4) = false ∧ (k == 5) = false) := by
    simp only [beq_eq_false_iff_ne, ne_eq]
    omega
  rcases hc with hk | rfl | ⟨e1, e2, e3, e4, e5⟩
  · have hkk : keysC ⟨k, c, s, a, b, o, v⟩ = (a, SpanP.succ a, true) := by unfold keysC; rw [if_pos (by simp; omega)]
    rw [hkk]
    clear hkk
    rcases hk with rfl | rfl | rfl | rfl
    · go_enter Try.func35, Try.ntmps35
      go_wp2_with fail
      exact bodyPost_ret (v := .tuple #[.agg #[.string a, .string (SpanP.succ a)], .bool true]) (by simp [results, Try.results35, go_sem, SpanP.succ]) rfl ⟨rfl, by go_grown⟩
    · go_enter Try.func35, Try.ntmps35
      go_wp2_with fail
      exact bodyPost_ret (v := .tuple #[.agg #[.string a, .string (SpanP.succ a)], .bool true]) (by simp [results, Try.results35, go_sem, SpanP.succ]) rfl ⟨rfl, by go_grown⟩
    · go_enter Try.func35, Try.ntmps35
      go_wp2_with fail
      exact bodyPost_ret (v := .tuple #[.agg #[.string a, .string (SpanP.succ a)], .bool true]) (by simp [results, Try.results35, go_sem, SpanP.succ]) rfl ⟨rfl, by go_grown⟩
    · go_enter Try.func35, Try.ntmps35
      go_wp2_with fail
      exact bodyPost_ret (v := .tuple #[.agg #[.string a, .string (SpanP.succ a)], .bool true]) (by simp [results, Try.results35, go_sem, SpanP.succ]) rfl ⟨rfl, by go_grown⟩
  · have hkk : keysC ⟨5, c, s, a, b, o, v⟩ = (a, b, true) := by unfold keysC; rw [if_neg (by simp), if_pos rfl]
    rw [hkk]
    clear hkk
    go_enter Try.func35, Try.ntmps35
    go_wp2_with fail
    exact bodyPost_ret (v := .tuple #[.agg #[.string a, .string b], .bool true]) (by simp [results, Try.results35, go_sem]) rfl ⟨rfl, by go_grown⟩
  · have hkk : keysC ⟨k, c, s, a, b, o, v⟩ = (⟨#[]⟩, ⟨#[]⟩, false) := by
      simp only [beq_eq_false_iff_ne, ne_eq] at e1 e2 e3 e4 e5
      unfold keysC
      rw [if_neg (by simp only; omega), if_neg (by simp only; omega)]
    rw [hkk]
    clear hkk
    go_enter Try.func35, Try.ntmps35
    go_wp2_with fail
    exact bodyPost_ret (v := .tuple #[.agg #[.string ⟨#[]⟩, .string ⟨#[]⟩], .bool false]) (by simp [results, Try.results35, go_sem]) rfl ⟨rfl, by go_grown⟩
set_option maxRecDepth 4000 in
set_option maxHeartbeats 2000000 in
theorem dwrites_any (x : Cm) (w : World) : Calls Try.prog 36 #[.agg #[.int .i64 x.k, .int .i64 x.c, .int .i64 x.s, .string x.a, .string x.b, .string x.o, .string x.v]] w fun e w' => e = .returned (.bool (writesC x)) ∧ Below w.heap.size w w' := by
  obtain ⟨k, c, s, a, b, o, v⟩ := x
  have hc : ((k == 2) = true ∧ writesC ⟨k, c, s, a, b, o, v⟩ = true) ∨ ((k == 2) = false ∧ (k == 3) = true ∧ writesC ⟨k, c, s, a, b, o, v⟩ = true) ∨ ((k == 2) = false ∧ (k == 3) = false ∧ (k == 4) = true ∧ writesC ⟨k, c, s, a, b, o, v⟩ = true) ∨ ((k == 2) = false ∧ (k == 3) = false ∧ (k == 4) = false ∧ writesC ⟨k, c, s, a, b, o, v⟩ = false) := by
    unfold writesC
    simp only
    cases (k == 2) <;> cases (k == 3) <;> cases (k == 4) <;> simp
  rcases hc with ⟨e1, e⟩ | ⟨e1, e2, e⟩ | ⟨e1, e2, e3, e⟩ | ⟨e1, e2, e3, e⟩
  all_goals
    rw [e]
    clear e
    go_enter Try.func36, Try.ntmps36
    go_wp2_with fail
    go_ret
    exact ⟨ret_bool (by simp [*]), by go_grown⟩
set_option maxRecDepth 4000 in
set_option maxHeartbeats 4000000 in
theorem dclash_any (x y : Cm) (w : World) (ha : x.a.size ≤ 1000000) (hb : y.a.size ≤ 1000000) : Calls Try.prog 29 #[.agg #[.int .i64 x.k, .int .i64 x.c, .int .i64 x.s, .string x.a, .string x.b, .string x.o, .string x.v], .agg #[.int .i64 y.k, .int .i64 y.c, .int .i64 y.s, .string y.a, .string y.b, .string y.o, .string y.v]] w fun e w' => e = .returned (.bool (rclashC x y)) ∧ Below w.heap.size w w' := by
  have K1 := fun W => dkeys_any x W ha
  have K2 := fun W => dkeys_any y W hb
  have W1 := fun W => dwrites_any x W
  have W2 := fun W => dwrites_any y W
  have M := fun W => refmeets_any (keysC x).1 (keysC x).2.1 (keysC y).1 (keysC y).2.1 W
  have hR : rclashC x y = ((keysC x).2.2 && (keysC y).2.2 && (x.c == y.c || ((writesC x || writesC y) && SpanP.refMeets (keysC x).1 (keysC x).2.1 (keysC y).1 (keysC y).2.1))) := rfl
  generalize SpanP.refMeets (keysC x).1 (keysC x).2.1 (keysC y).1 (keysC y).2.1 = m at M hR
  generalize writesC x = w1 at W1 hR
  generalize writesC y = w2 at W2 hR
  generalize keysC x = kx at K1 M hR
  generalize keysC y = ky at K2 M hR
  obtain ⟨p1, p2, p⟩ := kx
  obtain ⟨q1, q2, q⟩ := ky
  simp only at K1 K2 M hR
  rw [hR]
  clear hR
  have HK1 := Lib.hid K1; have HK2 := Lib.hid K2; have HW1 := Lib.hid W1; have HW2 := Lib.hid W2; have HM := Lib.hid M
  clear K1 K2 W1 W2 M
  have hxy : ((x.c == y.c) = true) ∨ ((x.c == y.c) = false) := by cases (x.c == y.c) <;> simp
  go_enter Try.func29, Try.ntmps29
  have hbx : Holds ((w.alloc (.cells x.cells.toArray 29)).alloc (.cells y.cells.toArray 29)) w.heap.size 29 x.cells := holds_past (holds_alloc w _ _) _
  have hby : Holds ((w.alloc (.cells x.cells.toArray 29)).alloc (.cells y.cells.toArray 29)) (w.heap.size + 1) 29 y.cells := by
    have := holds_alloc (w.alloc (.cells x.cells.toArray 29)) 29 y.cells
    rwa [World.size_alloc] at this
  have hb0 : Below w.heap.size w ((w.alloc (.cells x.cells.toArray 29)).alloc (.cells y.cells.toArray 29)) := by go_grown
  unfold Cm.cells at hbx hby hb0
  go_wp2_with fail
  refine (HK1.out _).mono ?_
  rintro e w3 ⟨rfl, hb3⟩
  have HX := Lib.hid (hbx.below hb3 hbx.lt); have HY := Lib.hid (hby.below hb3 hby.lt); have HB := Lib.hid (below_next hb0 hb3)
  clear hbx hby hb0 hb3
  generalize w.heap.size + 1 = gy at HY ⊢
  generalize w.heap.size = gx at HX ⊢
  have y0 := HY.out.cell 0
  have y1 := HY.out.cell 1
  have y2 := HY.out.cell 2
  have y3 := HY.out.cell 3
  have y4 := HY.out.cell 4
  have y5 := HY.out.cell 5
  have y6 := HY.out.cell 6
  simp only [List.getElem?_cons_zero, List.getElem?_cons_succ] at y0 y1 y2 y3 y4 y5 y6
  have ylt := HY.out.lt
  have xlt := HX.out.lt
  go_wp2_with fail
  refine (HK2.out _).mono ?_
  rintro e w4 ⟨rfl, hb4⟩
  have hp0 := holds_alloc w3 68 [.string p1, .string p2]
  have HP := Lib.hid (hp0.below hb4 hp0.lt)
  have hx1 := holds_past HX.out (.cells #[.string p1, .string p2] 68)
  have HX1 := Lib.hid (hx1.below hb4 hx1.lt)
  have hy1 := holds_past HY.out (.cells #[.string p1, .string p2] 68)
  have HY1 := Lib.hid (hy1.below hb4 hy1.lt)
  have HB1 := Lib.hid ((HB.out.alloc HB.out.size (.cells #[.string p1, .string p2] 68)).trans (hb4.mono (by have := HB.out.size; simp; omega)))
  clear hx1 hy1 hp0 hb4 y0 y1 y2 y3 y4 y5 y6 ylt xlt HX HY HB
  generalize w3.heap.size = gp at HP ⊢
  have x0 := HX1.out.cell 0
  have x1 := HX1.out.cell 1
  have x2 := HX1.out.cell 2
  have x3 := HX1.out.cell 3
  have x4 := HX1.out.cell 4
  have x5 := HX1.out.cell 5
  have x6 := HX1.out.cell 6
  have y0 := HY1.out.cell 0
  have y1 := HY1.out.cell 1
  have y2 := HY1.out.cell 2
  have y3 := HY1.out.cell 3
  have y4 := HY1.out.cell 4
  have y5 := HY1.out.cell 5
  have y6 := HY1.out.cell 6
  simp only [List.getElem?_cons_zero, List.getElem?_cons_succ] at x0 x1 x2 x3 x4 x5 x6 y0 y1 y2 y3 y4 y5 y6
  have xlt := HX1.out.lt
  have ylt := HY1.out.lt
  have plt := HP.out.lt
  have hbs := HB1.out.size
  clear HK1 HK2
  cases p
  · go_wp2_with fail
    have hB := HB1.out
    go_ret
    exact ⟨ret_bool (by simp), by go_grown⟩
  cases q
  · go_wp2_with fail
    have hB := HB1.out
    go_ret
    exact ⟨ret_bool (by simp), by go_grown⟩
  rcases hxy with hc | hc
  · go_wp2_with fail
    have hB := HB1.out
    go_ret
    exact ⟨ret_bool (by simp [hc]), by go_grown⟩
  · go_wp2_with fail
    refine (HW1.out _).mono ?_
    rintro e w5 ⟨rfl, hb5⟩
    have hcc := Lib.hid hc
    clear x0 x1 x2 x3 x4 x5 x6 y0 y1 y2 y3 y4 y5 y6 hc
    have hq0 := holds_alloc w4 68 [.string q1, .string q2]
    have HQ2 := Lib.hid (hq0.below hb5 hq0.lt)
    have hp0 := holds_past HP.out (.cells #[.string q1, .string q2] 68)
    have HP2 := Lib.hid (hp0.below hb5 hp0.lt)
    have hy1 := holds_past HY1.out (.cells #[.string q1, .string q2] 68)
    have HY2 := Lib.hid (hy1.below hb5 hy1.lt)
    have HB2 := Lib.hid ((HB1.out.alloc HB1.out.size (.cells #[.string q1, .string q2] 68)).trans (hb5.mono (by simp; omega)))
    clear hq0 hp0 hy1 hb5 xlt ylt plt hbs HX1 HY1 HP HB1
    generalize w4.heap.size = gq at HQ2 ⊢
    have hbs := HB2.out.size
    have plt := HP2.out.lt
    have qlt := HQ2.out.lt
    cases w1
    · -- the first writes nothing
      have y0 := HY2.out.cell 0
      have y1 := HY2.out.cell 1
      have y2 := HY2.out.cell 2
      have y3 := HY2.out.cell 3
      have y4 := HY2.out.cell 4
      have y5 := HY2.out.cell 5
      have y6 := HY2.out.cell 6
      simp only [List.getElem?_cons_zero, List.getElem?_cons_succ] at y0 y1 y2 y3 y4 y5 y6
      go_wp2_with fail
      refine (HW2.out _).mono ?_
      rintro e w6 ⟨rfl, hb6⟩
      clear y0 y1 y2 y3 y4 y5 y6
      have HB3 := Lib.hid (HB2.out.trans (hb6.mono hbs))
      have HP3 := Lib.hid (HP2.out.below hb6 plt)
      have HQ3 := Lib.hid (HQ2.out.below hb6 qlt)
      have hbs3 := HB3.out.size
      cases w2
      · go_wp2_with fail
        have hB := HB3.out
        go_ret
        exact ⟨ret_bool (by simp [hcc.out]), by go_grown⟩
      have s0 := HP3.out.cell 0
      have s1 := HP3.out.cell 1
      have t0 := HQ3.out.cell 0
      have t1 := HQ3.out.cell 1
      simp only [List.getElem?_cons_zero, List.getElem?_cons_succ] at s0 s1 t0 t1
      go_wp2_with fail
      refine (HM.out _).mono ?_
      rintro e w7 ⟨rfl, hb7⟩
      have HB4 := Lib.hid (HB3.out.trans (hb7.mono hbs3))
      clear hb7
      cases m
      all_goals
        go_wp2_with fail
        have hB := HB4.out
        go_ret
        exact ⟨ret_bool (by simp [hcc.out]), by go_grown⟩
    · -- the first writes
      have s0 := HP2.out.cell 0
      have s1 := HP2.out.cell 1
      have t0 := HQ2.out.cell 0
      have t1 := HQ2.out.cell 1
      simp only [List.getElem?_cons_zero, List.getElem?_cons_succ] at s0 s1 t0 t1
      go_wp2_with fail
      refine (HM.out _).mono ?_
      rintro e w7 ⟨rfl, hb7⟩
      have HB4 := Lib.hid (HB2.out.trans (hb7.mono hbs))
      clear hb7
      cases m
      all_goals
        go_wp2_with fail
        have hB := HB4.out
        go_ret
        exact ⟨ret_bool (by simp [hcc.out]), by go_grown⟩
end Go.Proofs.Ytleagecocffihaa
