/-
  The walk of ClientRound (begun).
-/
import Derived.Test.YtkojfgebdoojnaaClAskW
import Derived.Deep.CutRange
import Derived.Deep.RegionWith
namespace Go.Proofs.Ytkojfgebdoojnaa
open Go.RowKit
set_option linter.unusedVariables false

theorem wf64 {n : Int} (h : (Lit.int .i64 n).wf = true) : -9223372036854775808 ≤ n ∧ n ≤ 9223372036854775807 := by
  simp [Lit.wf, IntKind.min, IntKind.max, IntKind.signed, IntKind.bits] at h
  omega
/-- Begin, told with one end. -/
theorem begin_one (g : Nat) (id seq : Int) (y x : Cm) (tg0 ticks tg : Int) (w : World) (h : CAt w g id seq y false tg0 ticks) (hs : 0 ≤ seq ∧ seq ≤ 1000000000) (htg : 0 ≤ tg ∧ tg < 7) :
    Calls Try.prog 8 #[.pointer (some ⟨g, 0, none⟩), .agg #[.int .i64 x.k, .int .i64 x.c, .int .i64 x.s, .string x.a, .string x.b, .string x.o, .string x.v], .int .i64 tg] w fun e w' =>
      ∃ (z : Cm) (r : Bool), e = .returned (.tuple #[.agg #[.int .i64 z.k, .int .i64 z.c, .int .i64 z.s, .string z.a, .string z.b, .string z.o, .string z.v], .bool r]) ∧ ((r = true ∧ z = ⟨x.k, id, seq + 1, x.a, x.b, x.o, x.v⟩ ∧ CAt w' g id (seq + 1) ⟨x.k, id, seq + 1, x.a, x.b, x.o, x.v⟩ true tg 0) ∨ (r = false ∧ CAt w' g id seq y false tg0 ticks)) ∧ Touch g w w' := by
  refine (begin_any g id seq y x tg0 ticks tg w h hs htg).mono ?_
  rintro e w' (⟨rfl, h1, h2⟩ | ⟨rfl, h2⟩)
  · exact ⟨_, true, rfl, .inl ⟨rfl, rfl, h1⟩, h2⟩
  · exact ⟨Cm.zero, false, rfl, .inr ⟨rfl, h.below h2 h.lt⟩, Touch.of_below h2⟩
theorem begin_box (g bz : Nat) (id seq : Int) (y x : Cm) (tg0 ticks tg : Int) (w : World) (h : CAt w g id seq y false tg0 ticks) (hz : Holds w bz 27 Cm.zero.cells) (hne : bz ≠ g) (hs : 0 ≤ seq ∧ seq ≤ 1000000000) (htg : 0 ≤ tg ∧ tg < 7) :
    Calls Try.prog 8 #[.pointer (some ⟨g, 0, none⟩), .agg #[.int .i64 x.k, .int .i64 x.c, .int .i64 x.s, .string x.a, .string x.b, .string x.o, .string x.v], .int .i64 tg] w fun e w' =>
      ∃ (z : Cm) (r : Bool), e = .returned (.tuple #[.agg #[.int .i64 z.k, .int .i64 z.c, .int .i64 z.s, .string z.a, .string z.b, .string z.o, .string z.v], .bool r]) ∧ Holds w' bz 27 Cm.zero.cells ∧
        w'.cell? ⟨bz, 0, none⟩ = some (.int .i64 0) ∧ w'.cell? ⟨bz, 1, none⟩ = some (.int .i64 0) ∧ w'.cell? ⟨bz, 2, none⟩ = some (.int .i64 0) ∧ w'.cell? ⟨bz, 3, none⟩ = some (.string ⟨#[]⟩) ∧ w'.cell? ⟨bz, 4, none⟩ = some (.string ⟨#[]⟩) ∧ w'.cell? ⟨bz, 5, none⟩ = some (.string ⟨#[]⟩) ∧ w'.cell? ⟨bz, 6, none⟩ = some (.string ⟨#[]⟩) ∧ (∀ i, w'.frozen? ⟨bz, i, none⟩ = false) ∧
        ((r = true ∧ z = ⟨x.k, id, seq + 1, x.a, x.b, x.o, x.v⟩ ∧ CAt w' g id (seq + 1) ⟨x.k, id, seq + 1, x.a, x.b, x.o, x.v⟩ true tg 0) ∨ (r = false ∧ CAt w' g id seq y false tg0 ticks)) ∧ Touch g w w' := by
  refine (begin_one g id seq y x tg0 ticks tg w h hs htg).mono ?_
  rintro e w' ⟨z, r, rfl, hc, ht⟩
  have hz' := hz.touch ht hne
  exact ⟨z, r, rfl, hz', hz'.cell 0, hz'.cell 1, hz'.cell 2, hz'.cell 3, hz'.cell 4, hz'.cell 5, hz'.cell 6, fun i => hz'.free i, hc, ht⟩
/-- The client and the box of the call behind Begin. -/
structure Rd (w W : World) (g bx : Nat) (d : Int) (call : Cm) (m : Int) (z : Cm) (r : Bool) : Prop where
  bel : Below w.heap.size w W
  h : Holds W bx 27 z.cells
  ne : bx ≠ g
  ge : w.heap.size ≤ bx
  ge2 : w.heap.size ≤ g
  c : (r = true ∧ z = call ∧ CAt W g d 1 call true m 0) ∨ (r = false ∧ CAt W g d 0 Cm.zero false 0 0)
theorem Rd.fresh {w w3 w4 : World} {g : Nat} {d : Int} {call : Cm} {m : Int} {z : Cm} {r : Bool} (hb : Below w.heap.size w w3) (hg : g < w3.heap.size) (hgw : w.heap.size ≤ g)
    (hc : (r = true ∧ z = call ∧ CAt w4 g d 1 call true m 0) ∨ (r = false ∧ CAt w4 g d 0 Cm.zero false 0 0)) (ht : Touch g w3.drew w4) :
    Rd w (w4.alloc (.cells #[.int .i64 z.k, .int .i64 z.c, .int .i64 z.s, .string z.a, .string z.b, .string z.o, .string z.v] 27)) g w4.heap.size d call m z r := by
  have hs0 := hb.size
  have hs' : w3.heap.size ≤ w4.heap.size := ht.size
  refine ⟨?_, holds_alloc w4 _ _, by omega, by omega, hgw, ?_⟩
  · have h1 : Below w.heap.size w w3.drew := hb.trans ⟨rfl, rfl, rfl, Nat.le_refl _, fun _ _ => rfl⟩
    have h2 := ht.below (B := w.heap.size) hgw h1.size
    exact (h1.trans h2).alloc (by omega) _
  · rcases hc with ⟨a, b, c⟩ | ⟨a, c⟩
    · exact .inl ⟨a, b, holds_past c _⟩
    · exact .inr ⟨a, holds_past c _⟩
theorem Rd.box {w w3 w4 : World} {g : Nat} {o : Obj} {d : Int} {call : Cm} {m : Int} {z : Cm} {r : Bool} (hb : Below w.heap.size w w3) (hg : g < w3.heap.size) (hgw : w.heap.size ≤ g) (hz : Holds w4 w3.heap.size 27 Cm.zero.cells)
    (hc : (r = true ∧ z = call ∧ CAt w4 g d 1 call true m 0) ∨ (r = false ∧ CAt w4 g d 0 Cm.zero false 0 0)) (ht : Touch g (w3.alloc o).drew w4) :
    Rd w (((((((w4.setCell ⟨w3.heap.size, 0, none⟩ (.int .i64 z.k)).setCell ⟨w3.heap.size, 1, none⟩ (.int .i64 z.c)).setCell ⟨w3.heap.size, 2, none⟩ (.int .i64 z.s)).setCell ⟨w3.heap.size, 3, none⟩ (.string z.a)).setCell ⟨w3.heap.size, 4, none⟩ (.string z.b)).setCell ⟨w3.heap.size, 5, none⟩ (.string z.o)).setCell ⟨w3.heap.size, 6, none⟩ (.string z.v)) g w3.heap.size d call m z r := by
  have hs0 := hb.size
  have hT := (((((((Touch.refl w3.heap.size w4).setCell 0 (.int .i64 z.k)).setCell 1 (.int .i64 z.c)).setCell 2 (.int .i64 z.s)).setCell 3 (.string z.a)).setCell 4 (.string z.b)).setCell 5 (.string z.o)).setCell 6 (.string z.v)
  have hZ := ((((((hz.set 0 (.int .i64 z.k)).set 1 (.int .i64 z.c)).set 2 (.int .i64 z.s)).set 3 (.string z.a)).set 4 (.string z.b)).set 5 (.string z.o)).set 6 (.string z.v)
  simp only [Cm.zero, Cm.cells, List.set_cons_succ, List.set_cons_zero] at hZ
  refine ⟨?_, hZ, by omega, hs0, hgw, ?_⟩
  · have h1 : Below w.heap.size w (w3.alloc o).drew := (hb.alloc (by omega) o).trans ⟨rfl, rfl, rfl, Nat.le_refl _, fun _ _ => rfl⟩
    have h2 := ht.below (B := w.heap.size) hgw h1.size
    have h3 := h1.trans h2
    exact h3.trans (hT.below (B := w.heap.size) hs0 h3.size)
  · rcases hc with ⟨a, b, c⟩ | ⟨a, c⟩
    · exact .inl ⟨a, b, c.touch hT (by omega)⟩
    · exact .inr ⟨a, c.touch hT (by omega)⟩
/-- A row of seven integers, by a function. -/
def sevCells (f : Nat → Int) : List Value := [.int .i64 (f 0), .int .i64 (f 1), .int .i64 (f 2), .int .i64 (f 3), .int .i64 (f 4), .int .i64 (f 5), .int .i64 (f 6)]
theorem getElem_sev (d : Nat → Int) (k : Nat) (hk : k < 7) : (sevCells d)[k]? = some (.int .i64 (d k)) := by
  rcases (show k = 0 ∨ k = 1 ∨ k = 2 ∨ k = 3 ∨ k = 4 ∨ k = 5 ∨ k = 6 by omega) with rfl | rfl | rfl | rfl | rfl | rfl | rfl <;> rfl
theorem set_sev (d : Nat → Int) (k : Nat) (v : Int) (hk : k < 7) : (sevCells d).set k (.int .i64 v) = sevCells fun i => if i = k then v else d i := by
  rcases (show k = 0 ∨ k = 1 ∨ k = 2 ∨ k = 3 ∨ k = 4 ∨ k = 5 ∨ k = 6 by omega) with rfl | rfl | rfl | rfl | rfl | rfl | rfl <;> simp [sevCells]
/-- The client, the box of the call, and how often who was asked. -/
structure Ld (w W : World) (g bx ba : Nat) (d : Int) (call : Cm) (F : Nat → Int) (tg j : Int) : Prop where
  bel : Below w.heap.size w W
  h : Holds W bx 27 call.cells
  ha : Holds W ba 48 (sevCells F)
  c : CAt W g d 1 call true tg j
  ne : bx ≠ g
  na : ba ≠ g
  nb : ba ≠ bx
  ge : w.heap.size ≤ bx
  ge2 : w.heap.size ≤ g
  ge3 : w.heap.size ≤ ba
theorem Ld.below {w W W' : World} {g bx ba : Nat} {d : Int} {call : Cm} {F : Nat → Int} {tg j : Int} (h : Ld w W g bx ba d call F tg j) (hb : Below W.heap.size W W') : Ld w W' g bx ba d call F tg j :=
  ⟨h.bel.trans (hb.mono h.bel.size), h.h.below hb h.h.lt, h.ha.below hb h.ha.lt, h.c.below hb h.c.lt, h.ne, h.na, h.nb, h.ge, h.ge2, h.ge3⟩
theorem Ld.touch {w W W' : World} {g bx ba : Nat} {d : Int} {call : Cm} {F : Nat → Int} {tg j tg' j' : Int} (h : Ld w W g bx ba d call F tg j) (ht : Touch g W W') (hc : CAt W' g d 1 call true tg' j') : Ld w W' g bx ba d call F tg' j' :=
  ⟨h.bel.trans (ht.below h.ge2 h.bel.size), h.h.touch ht h.ne, h.ha.touch ht h.na, hc, h.ne, h.na, h.nb, h.ge, h.ge2, h.ge3⟩
theorem Ld.set {w W : World} {g bx ba : Nat} {d : Int} {call : Cm} {F : Nat → Int} {tg j : Int} (h : Ld w W g bx ba d call F tg j) (k : Nat) (hk : k < 7) (v : Int) : Ld w (W.setCell ⟨ba, k, none⟩ (.int .i64 v)) g bx ba d call (fun i => if i = k then v else F i) tg j := by
  have hT := (Touch.refl ba W).setCell k (.int .i64 v)
  have h1 := h.ha.set k (.int .i64 v)
  rw [set_sev F k v hk] at h1
  exact ⟨h.bel.trans (hT.below h.ge3 h.bel.size), h.h.touch hT (Ne.symm h.nb), h1, h.c.touch hT (Ne.symm h.na), h.ne, h.na, h.nb, h.ge, h.ge2, h.ge3⟩
theorem tick_at (g : Nat) (d : Int) (x : Cm) (T K j : Nat) (w : World) (h : CAt w g d 1 x true (T : Int) (j : Int)) (hT : T < K) (hK : 3 ≤ K ∧ K ≤ 7) (hj : j ≤ 140) (h20 : (j + 1) % 20 = 0) :
    Calls Try.prog 9 #[.pointer (some ⟨g, 0, none⟩), .int .i64 K] w fun e w' => e = .returned (.tuple #[.agg #[.int .i64 x.k, .int .i64 x.c, .int .i64 x.s, .string x.a, .string x.b, .string x.o, .string x.v], .int .i64 (((T + 1) % K : Nat) : Int), .bool true]) ∧ CAt w' g d 1 x true (((T + 1) % K : Nat) : Int) ((j + 1 : Nat) : Int) ∧ Touch g w w' := by
  have := tick_ask g d 1 x T j K w h (by omega) (by omega) (by omega) (by omega) (by omega)
  simp only [Int.natCast_emod, Int.natCast_add] at this ⊢
  exact this
theorem tick_not (g : Nat) (d : Int) (x : Cm) (T K j : Nat) (w : World) (h : CAt w g d 1 x true (T : Int) (j : Int)) (hK : 3 ≤ K) (hj : j ≤ 140) (h20 : ¬ (j + 1) % 20 = 0) :
    Calls Try.prog 9 #[.pointer (some ⟨g, 0, none⟩), .int .i64 K] w fun e w' => e = .returned (.tuple #[.agg #[.int .i64 0, .int .i64 0, .int .i64 0, .string ⟨#[]⟩, .string ⟨#[]⟩, .string ⟨#[]⟩, .string ⟨#[]⟩], .int .i64 0, .bool false]) ∧ CAt w' g d 1 x true (T : Int) ((j + 1 : Nat) : Int) ∧ Touch g w w' := by
  have := tick_idle g d 1 x T j K w h (by omega) (by omega) (by omega)
  simp only [Int.natCast_add] at this ⊢
  exact this
set_option maxRecDepth 4000 in
set_option maxHeartbeats 4000000 in
theorem clientRound_any (id n tg : Int) (x : Cm) (w : World) (hid : (Lit.int .i64 id).wf = true) (hn : (Lit.int .i64 n).wf = true) (htg : (Lit.int .i64 tg).wf = true) :
    Calls Try.prog 5 #[.int .i64 id, .int .i64 n, .int .i64 tg, .agg #[.int .i64 x.k, .int .i64 x.c, .int .i64 x.s, .string x.a, .string x.b, .string x.o, .string x.v]] w fun e w' => e = .returned (.bool true) ∧ Below w.heap.size w w' := by
  obtain ⟨k, c, s, a, b, o, v⟩ := x
  simp only
  go_enter Try.func5, Try.ntmps5
  go_wp2_with fail
  refine (within_any id 1 8 _ (wf64 hid) (by omega) (by omega) (by omega)).mono ?_
  rintro e w1 ⟨rfl, hw1⟩
  obtain ⟨d, hd⟩ : ∃ d : Int, d = 1 + id % (8 - 1 + 1) := ⟨_, rfl⟩
  rw [← hd]
  have hd1 : 1 ≤ d ∧ d ≤ 8 := by omega
  have hX : Holds w1 w.heap.size 27 [.int .i64 k, .int .i64 c, .int .i64 s, .string a, .string b, .string o, .string v] := by rw [← hw1]; exact holds_alloc w _ _
  have HB := Lib.hid (show Below w.heap.size w w1 by rw [← hw1]; go_grown)
  have hs00 := hX.lt
  clear hw1
  have HD := Lib.hid hd; clear hd
  go_wp2_with fail
  refine (new_in d _ hd1).mono ?_
  rintro e w2 ⟨rfl, hc, hb2⟩
  have hs01 := hc.lt
  have HC := Lib.hid hc; clear hc
  have HX := Lib.hid (hX.below hb2 hX.lt); clear hX
  have HB := Lib.hid (below_next HB.out hb2)
  have hs1 := HB.out.size
  clear hb2
  go_wp2_with fail
  refine (within_nat n 0 2 _ (wf64 hn) (by omega) (by omega) (by omega)).mono ?_
  rintro e w3 ⟨⟨k0, hk0, hk2, rfl⟩, hw3⟩
  have hL : Holds w3 w2.heap.size 3 [.int .i64 3, .int .i64 5, .int .i64 7] := by rw [← hw3]; exact holds_alloc w2 _ _
  have hb3 : Below w2.heap.size w2 w3 := by rw [← hw3]; go_grown
  clear hw3
  obtain ⟨K, hK, hc0⟩ : ∃ K : Nat, (K = 3 ∨ K = 5 ∨ K = 7) ∧ w3.cell? ⟨w2.heap.size, k0, none⟩ = some (.int .i64 K) := by
    rcases (show k0 = 0 ∨ k0 = 1 ∨ k0 = 2 by omega) with rfl | rfl | rfl
    · exact ⟨3, by omega, hL.cell 0⟩
    · exact ⟨5, by omega, hL.cell 1⟩
    · exact ⟨7, by omega, hL.cell 2⟩
  have hK1 : 3 ≤ K := by omega
  have hK7 : K ≤ 7 := by omega
  have hs02 := hb3.size
  have HC := Lib.hid (HC.out.below hb3 HC.out.lt)
  have HX := Lib.hid (HX.out.below hb3 HX.out.lt)
  have HB := Lib.hid (below_next HB.out hb3)
  clear hK hL hb3
  go_upto_region 5 with (fail)
  generalize hx : w.heap.size = bX at HX
  generalize hgg : w1.heap.size = g at HC
  have hgX : w.heap.size ≤ bX := by omega
  have hgG : w.heap.size ≤ g := by omega
  have hnX : bX ≠ g := by have := HX.out.lt; omega
  have hsX : bX < w3.heap.size := HX.out.lt
  have hsG : g < w3.heap.size := HC.out.lt
  have x0 := HX.out.cell 0
  have x1 := HX.out.cell 1
  have x2 := HX.out.cell 2
  have x3 := HX.out.cell 3
  have x4 := HX.out.cell 4
  have x5 := HX.out.cell 5
  have x6 := HX.out.cell 6
  simp only [List.getElem?_cons_zero, List.getElem?_cons_succ] at x0 x1 x2 x3 x4 x5 x6
  obtain ⟨m, hm⟩ : ∃ m : Int, m = 0 + tg % ((K : Int) - 1 - 0 + 1) := ⟨_, rfl⟩
  have hm0 : 0 ≤ m ∧ m < K := by have h1 := Int.emod_nonneg tg (show ((K : Int) - 1 - 0 + 1) ≠ 0 by omega); have h2 := Int.emod_lt_of_pos tg (show 0 < ((K : Int) - 1 - 0 + 1) by omega); omega
  have hwk : IntKind.i64.wrap ((K : Int) - 1) = (K : Int) - 1 := IntWalk.i64_in _ (by omega)
  have kw : (∀ W, Calls Try.prog 13 #[.int .i64 tg, .int .i64 0, .int .i64 ((K : Int) - 1)] W fun e w' => e = .returned (.int .i64 m) ∧ W = w') := (fun W => by rw [hm]; exact within_any tg 0 ((K : Int) - 1) W (wf64 htg) (by omega) (by omega) (by omega))
  have KW := Lib.hid kw; clear kw
  have HM := Lib.hid hm; clear hm
  go_cut [12, 13] from 20 to 115 (fun x y wx => ∃ (bx : Nat) (z : Cm) (r : Bool), x = .pointer (some ⟨bx, 0, none⟩) ∧ y = .bool r ∧ Rd w wx g bx d ⟨k, d, 1, a, b, o, v⟩ m z r)
  case first =>
    have b1 := begin_one g d 0 Cm.zero ⟨k, c, s, a, b, o, v⟩ 0 0 m w3.drew (holds_drew HC.out) (by omega) (by omega)
    have b2 := begin_box g w3.heap.size d 0 Cm.zero ⟨k, c, s, a, b, o, v⟩ 0 0 m (w3.alloc (.cells #[.int .i64 0, .int .i64 0, .int .i64 0, .string ⟨#[]⟩, .string ⟨#[]⟩, .string ⟨#[]⟩, .string ⟨#[]⟩] 27)).drew (holds_drew (holds_past HC.out _)) (holds_drew (holds_alloc w3 _ _)) (by omega) (by omega) (by omega)
    simp only [Int.zero_add] at b1 b2
    have B1 := Lib.hid b1; clear b1
    have B2 := Lib.hid b2; clear b2
    go_region_with (first
      | (go_at_call 13; refine (KW.out _).mono ?_; rintro e w' ⟨rfl, rfl⟩)
      | (go_at_call 8; with_reducible refine B2.out.mono ?_; rintro e w4 ⟨z, r, rfl, hz, z0, z1, z2, z3, z4, z5, z6, zf, hcz, ht⟩)
      | (go_at_call 8; with_reducible refine B1.out.mono ?_; rintro e w4 ⟨z, r, rfl, hcz, ht⟩))
    all_goals (go_wp2_with fail; go_meet)
    all_goals refine ⟨_, z, r, rfl, rfl, ?_⟩
    all_goals first
      | (have hz' := hz; with_reducible exact Rd.box HB.out hsG hgG hz' hcz ht)
      | with_reducible exact Rd.fresh HB.out hsG hgG hcz ht
      | (go_show; sorry)
  case rest =>
    obtain ⟨bx, z, r, rfl, rfl, hrd⟩ := hcut
    clear x0 x1 x2 x3 x4 x5 x6 HX HB HC hnX hsX hsG hgX hs00 hs01 hs02 KW hx hgg
    obtain ⟨hbel, hbox, hne, hge, hge2, hc⟩ := hrd
    have HBX := Lib.hid hbox; have HB := Lib.hid hbel
    clear hbox hbel
    rcases hc with ⟨rfl, rfl, hc⟩ | ⟨rfl, hc⟩
    · obtain ⟨t0, ht0⟩ : ∃ t0 : Nat, m = t0 := ⟨m.toNat, by omega⟩
      subst ht0
      have ht7 : t0 < K := by omega
      have hLd : ∀ W, W = wc.alloc (.cells #[.int .i64 0, .int .i64 0, .int .i64 0, .int .i64 0, .int .i64 0, .int .i64 0, .int .i64 0] 48) → Ld w W g bx wc.heap.size d ⟨k, d, 1, a, b, o, v⟩ (fun i => (asked t0 K (0 / 20) i : Int)) (((t0 + 0 / 20) % K : Nat) : Int) ((0 : Nat) : Int) := by
        rintro W rfl
        have h1 := hc.lt
        have h2 := HBX.out.lt
        have h3 := HB.out.size
        refine ⟨HB.out.alloc h3 _, holds_past HBX.out _, holds_alloc wc _ _, ?_, hne, by omega, by omega, hge, hge2, h3⟩
        rw [show (((t0 + 0 / 20) % K : Nat) : Int) = (t0 : Int) by rw [show t0 + 0 / 20 = t0 by omega, Nat.mod_eq_of_lt ht7]]
        exact holds_past hc _
      have HLD := Lib.hid hLd; clear hLd hc
      obtain ⟨ba, hba⟩ : ∃ ba, ba = wc.heap.size := ⟨_, rfl⟩
      rw [← hba] at HLD
      go_wp2_with fail
      rw [← hba]
      go_loopw [15] (fun i wr => ∃ j : Nat, j ≤ K * 20 ∧ i = .int .i64 j ∧ Ld w wr g bx ba d ⟨k, d, 1, a, b, o, v⟩ (fun i => (asked t0 K (j / 20) i : Int)) (((t0 + j / 20) % K : Nat) : Int) (j : Int)) (fun i _ => K * 20 - (intOf i).toNat)
      case atStart => exact ⟨0, by omega, rfl, HLD.out _ rfl⟩
      case round =>
        clear HLD hba
        obtain ⟨j, hj, rfl, hl⟩ := hrel
        obtain ⟨T, hT⟩ : ∃ T, T = (t0 + j / 20) % K := ⟨_, rfl⟩
        have hTK : T < K := by rw [hT]; exact Nat.mod_lt _ (by omega)
        rw [← hT] at hl
        have HT := Lib.hid hT; clear hT
        by_cases hlt : j < K * 20
        · have hj140 : j ≤ 140 := by omega
          by_cases h20 : (j + 1) % 20 = 0
          · have h1 := tick_at g d ⟨k, d, 1, a, b, o, v⟩ T K j wr hl.c hTK (by omega) hj140 h20
            have HL := Lib.hid hl; clear hl
            obtain ⟨u, hu⟩ : ∃ u, u = (T + 1) % K := ⟨_, rfl⟩
            have huK : u < K := by rw [hu]; exact Nat.mod_lt _ (by omega)
            rw [← hu] at h1
            have HU := Lib.hid (show u = (t0 + (j / 20 + 1)) % K by rw [hu, HT.out, Nat.mod_add_mod]; rfl)
            clear hu
            have H1 := Lib.hid h1; clear h1
            have hneq : ∀ W, (binOp .neq 27 (.agg #[.int .i64 k, .int .i64 d, .int .i64 1, .string a, .string b, .string o, .string v]) (.agg #[.int .i64 k, .int .i64 d, .int .i64 1, .string a, .string b, .string o, .string v])).run Try.prog W = .ok (.bool false) W := by
              intro W
              rw [run_neq_struct, eq_cmd]
              simp
            go_wp2_with fail
            refine H1.out.mono ?_
            rintro e w5 ⟨rfl, hc5, ht5⟩
            have hl5 := HL.out.touch ht5 hc5
            clear hc5 ht5 H1 HL
            go_upto_region 13 with (fail)
            go_name_world W hW
            have hl6 : Ld w W g bx ba d ⟨k, d, 1, a, b, o, v⟩ (fun i => (asked t0 K (j / 20) i : Int)) (u : Int) ((j + 1 : Nat) : Int) := by rw [← hW]; exact hl5.below (by go_grown)
            have hy : Holds W w5.heap.size 27 [.int .i64 k, .int .i64 d, .int .i64 1, .string a, .string b, .string o, .string v] := by rw [← hW]; exact holds_alloc w5 _ _
            clear hW hl5
            have x0 := hl6.h.cell 0
            have x1 := hl6.h.cell 1
            have x2 := hl6.h.cell 2
            have x3 := hl6.h.cell 3
            have x4 := hl6.h.cell 4
            have x5 := hl6.h.cell 5
            have x6 := hl6.h.cell 6
            have y0 := hy.cell 0
            have y1 := hy.cell 1
            have y2 := hy.cell 2
            have y3 := hy.cell 3
            have y4 := hy.cell 4
            have y5 := hy.cell 5
            have y6 := hy.cell 6
            simp only [Cm.cells, List.getElem?_cons_zero, List.getElem?_cons_succ] at x0 x1 x2 x3 x4 x5 x6 y0 y1 y2 y3 y4 y5 y6
            have au := hl6.ha.cell u
            have af := hl6.ha.free u
            rw [getElem_sev _ u (by omega)] at au
            have hle := asked_le t0 K (j / 20) u (by omega) (by omega)
            have HA := Lib.hid (show asked t0 K (j / 20) u = asked t0 K (j / 20) u from rfl)
            have HS := Lib.hid hl6; clear hl6 hy
            generalize hq : asked t0 K (j / 20) u = q at au hle
            have HQ := Lib.hid hq; clear hq HA
            go_wp2_with fail
            go_roundw
            case rel =>
              refine ⟨j + 1, by omega, by go_num, ?_⟩
              rw [show (j + 1) / 20 = j / 20 + 1 by omega, ← HU.out]
              have h1 := HS.out.set u (by omega) ((q : Int) + 1)
              rw [show (fun i => if i = u then (q : Int) + 1 else (asked t0 K (j / 20) i : Int)) = (fun i => (asked t0 K (j / 20 + 1) i : Int)) from ?_] at h1
              · exact h1
              · funext i
                show _ = ((asked t0 K (j / 20) i + if (t0 + (j / 20 + 1)) % K = i then 1 else 0 : Nat) : Int)
                rw [← HU.out]
                by_cases hi : i = u
                · subst hi
                  rw [if_pos rfl, if_pos rfl, HQ.out]
                  rfl
                · rw [if_neg hi, if_neg (fun h => hi h.symm)]
                  rfl
            case measure => simp [intOf]; omega
          · have h1 := tick_not g d ⟨k, d, 1, a, b, o, v⟩ T K j wr hl.c (by omega) hj140 h20
            have HL := Lib.hid hl; clear hl
            have H1 := Lib.hid h1; clear h1
            go_wp2_with fail
            refine H1.out.mono ?_
            rintro e w5 ⟨rfl, hc5, ht5⟩
            have hl5 := HL.out.touch ht5 hc5
            clear hc5 ht5 H1 HL
            have HS := Lib.hid hl5; clear hl5
            go_wp2_with fail
            go_roundw
            case rel =>
              refine ⟨j + 1, by omega, by go_num, ?_⟩
              rw [show (j + 1) / 20 = j / 20 by omega, ← HT.out]
              exact HS.out.below (by go_grown)
            case measure => simp [intOf]; omega
        · have hjK : j = K * 20 := by omega
          subst hjK
          have hK20 : K * 20 / 20 = K := by omega
          rw [hK20] at hl
          have HS := Lib.hid hl; clear hl hK20 HT
          have x1 := HS.out.h.cell 1
          have x2 := HS.out.h.cell 2
          simp only [Cm.cells, List.getElem?_cons_zero, List.getElem?_cons_succ] at x1 x2
          go_wp2_with fail
          go_loop [19] (fun i => ∃ q : Nat, q ≤ K ∧ i = .int .i64 q) (fun i => K - (intOf i).toNat)
          case atStart => exact ⟨0, by omega, rfl⟩
          case round =>
            obtain ⟨q, hq, rfl⟩ := hrel
            by_cases hqK : q < K
            · have aq := HS.out.ha.cell q
              rw [getElem_sev _ q (by omega), asked_all t0 K q hqK] at aq
              rw [show ((1 : Nat) : Int) = 1 from rfl] at aq
              go_wp2_with fail
              go_round
              case rel => exact ⟨q + 1, by omega, by go_num⟩
              case measure => simp [intOf]; omega
            · have hqq : q = K := by omega
              subst hqq
              go_upto_region 22 with (fail)
              clear x1 x2
              have x1 := fun d' os => HS.out.h.grown d' os 1
              have x2 := fun d' os => HS.out.h.grown d' os 2
              simp only [Cm.cells, List.getElem?_cons_zero, List.getElem?_cons_succ] at x1 x2
              have kw : ∀ W, Calls Try.prog 13 #[.int .i64 id, .int .i64 1, .int .i64 8] W fun e w' => e = .returned (.int .i64 d) ∧ Below W.heap.size W w' := fun W => (within_any id 1 8 W (wf64 hid) (by omega) (by omega) (by omega)).mono (by rintro e w' ⟨rfl, rfl⟩; exact ⟨by rw [HD.out], Below.refl _ _⟩)
              have KW := Lib.hid kw; clear kw
              refine wp_region_quiet_below (by kernel_rfl) (by kernel_rfl) ?_
              repeat go_big_quiet_step (first
                | (go_at_call 13; with_reducible exact calls_regrown fun W _ => KW.out W)
                | (go_at_call 3; with_reducible exact calls_regrown fun W _ => clientRuns_any W))
              refine wpQuiet_nil ?_
              intro w6 hw'
              have hb6 := below_of_regrown hw'
              have HBB := Lib.hid (HS.out.below hb6).bel
              clear hw' x1 x2 hb6
              go_wp2_with fail
              go_ret
              exact ⟨rfl, HBB.out⟩
    · have HC := Lib.hid hc; clear hc
      go_wp2_with fail
      refine (seq_any g d 0 Cm.zero false 0 0 _ HC.out).mono ?_
      rintro e w5 ⟨rfl, hb⟩
      have HC := Lib.hid (HC.out.below hb HC.out.lt)
      have HB := Lib.hid (below_next HB.out hb)
      clear hb
      go_wp2_with fail
      refine (waits_any g d 0 Cm.zero false 0 0 _ HC.out).mono ?_
      rintro e w6 ⟨rfl, hb⟩
      have HB := Lib.hid (below_next HB.out hb)
      clear hb
      go_wp2_with fail
      refine (clientRuns_any _).mono ?_
      rintro e w7 ⟨rfl, hb⟩
      have HB := Lib.hid (below_next HB.out hb)
      clear hb
      go_wp2_with fail
      go_ret
      exact ⟨rfl, HB.out⟩
theorem clientRound_flat (id n tg k c s : Int) (a b o v : ByteArray) (w : World) (hid : (Lit.int .i64 id).wf = true) (hn : (Lit.int .i64 n).wf = true) (htg : (Lit.int .i64 tg).wf = true) (_ : (Lit.int .i64 k).wf = true) (_ : (Lit.int .i64 c).wf = true) (_ : (Lit.int .i64 s).wf = true) (_ : a.size ≤ maxLen) (_ : b.size ≤ maxLen) (_ : o.size ≤ maxLen) (_ : v.size ≤ maxLen) :
    Calls Try.prog 5 #[.int .i64 id, .int .i64 n, .int .i64 tg, .agg #[.int .i64 k, .int .i64 c, .int .i64 s, .string a, .string b, .string o, .string v]] w fun e w' => e = .returned (.bool true) ∧ Below w.heap.size w w' :=
  clientRound_any id n tg ⟨k, c, s, a, b, o, v⟩ w hid hn htg
end Go.Proofs.Ytkojfgebdoojnaa
