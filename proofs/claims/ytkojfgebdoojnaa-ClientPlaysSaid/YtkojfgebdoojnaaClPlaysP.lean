/-
  Both clients and what lies beside them; ClientPlays at a number that is none.
-/
import Derived.Test.YtkojfgebdoojnaaClSameW
import Derived.Test.YtkojfgebdoojnaaClOtherW
import Derived.Deep.CutRange
import Derived.Deep.RegionHeld3
namespace Go.Proofs.Ytkojfgebdoojnaa
open Go.RowKit
set_option linter.unusedVariables false

def askLeaves : List Leaf := .int .i64 :: .int .i64 :: .int .i64 :: (cmdLeaves ++ ansLeaves)
theorem ask_of {l : List Value} (h : AllOk askLeaves l) : ∃ (kd n tg : Int) (x : Cm) (c q y : Int) (f : Bool) (v : ByteArray) (r : Int) (p : Option Addr) (pl pc : Nat),
    l = [.int .i64 kd, .int .i64 n, .int .i64 tg, .int .i64 x.k, .int .i64 x.c, .int .i64 x.s, .string x.a, .string x.b, .string x.o, .string x.v, .int .i64 c, .int .i64 q, .int .i64 y, .bool f, .string v, .int .i64 r, .slice p pl pc] ∧ (Lit.int .i64 n).wf = true := by
  unfold askLeaves cmdLeaves ansLeaves at h
  simp only [List.cons_append, List.nil_append] at h
  obtain ⟨_, _, rfl, ⟨kd, rfl, _⟩, h0⟩ := h.cons
  obtain ⟨_, _, rfl, ⟨n, rfl, hn⟩, h1⟩ := h0.cons
  obtain ⟨_, _, rfl, ⟨tg, rfl, _⟩, h2⟩ := h1.cons
  obtain ⟨_, _, rfl, ⟨xk, rfl, _⟩, h3⟩ := h2.cons
  obtain ⟨_, _, rfl, ⟨xc, rfl, _⟩, h4⟩ := h3.cons
  obtain ⟨_, _, rfl, ⟨xs, rfl, _⟩, h5⟩ := h4.cons
  obtain ⟨_, _, rfl, ⟨xa, rfl, _⟩, h6⟩ := h5.cons
  obtain ⟨_, _, rfl, ⟨xb, rfl, _⟩, h7⟩ := h6.cons
  obtain ⟨_, _, rfl, ⟨xo, rfl, _⟩, h8⟩ := h7.cons
  obtain ⟨_, _, rfl, ⟨xv, rfl, _⟩, h9⟩ := h8.cons
  obtain ⟨_, _, rfl, ⟨c, rfl, _⟩, h10⟩ := h9.cons
  obtain ⟨_, _, rfl, ⟨q, rfl, _⟩, h11⟩ := h10.cons
  obtain ⟨_, _, rfl, ⟨y, rfl, _⟩, h12⟩ := h11.cons
  obtain ⟨_, _, rfl, ⟨f, rfl⟩, h13⟩ := h12.cons
  obtain ⟨_, _, rfl, ⟨v, rfl, _⟩, h14⟩ := h13.cons
  obtain ⟨_, _, rfl, ⟨r, rfl, _⟩, h15⟩ := h14.cons
  obtain ⟨_, _, rfl, ⟨p, pl, pc, rfl⟩, h16⟩ := h15.cons
  obtain rfl := h16.nil
  exact ⟨kd, n, tg, ⟨xk, xc, xs, xa, xb, xo, xv⟩, c, q, y, f, v, r, p, pl, pc, rfl, hn⟩
/-- Both clients, and what lies beside them. -/
structure Pk (w W : World) (g gd : Nat) (s1 s2 : Cl) (K : List (Nat × TypeId × List Value)) : Prop where
  bel : Below w.heap.size w W
  c : Holds W g 54 s1.cells
  d : Holds W gd 41 s2.cells
  ge : w.heap.size ≤ g
  ge2 : w.heap.size ≤ gd
  ne : g ≠ gd
  k : ∀ x ∈ K, Holds W x.1 x.2.1 x.2.2 ∧ x.1 ≠ g ∧ x.1 ≠ gd
theorem Pk.below {w W W' : World} {g gd : Nat} {s1 s2 : Cl} {K : List (Nat × TypeId × List Value)} (h : Pk w W g gd s1 s2 K) (hb : Below W.heap.size W W') : Pk w W' g gd s1 s2 K :=
  ⟨h.bel.trans (hb.mono h.bel.size), h.c.below hb h.c.lt, h.d.below hb h.d.lt, h.ge, h.ge2, h.ne, fun x hx => by obtain ⟨h1, h2, h3⟩ := h.k x hx; exact ⟨h1.below hb h1.lt, h2, h3⟩⟩
theorem Pk.touch1 {w W W' : World} {g gd : Nat} {s1 s2 s' : Cl} {K : List (Nat × TypeId × List Value)} (h : Pk w W g gd s1 s2 K) (ht : Touch g W W') (hc : Holds W' g 54 s'.cells) : Pk w W' g gd s' s2 K :=
  ⟨h.bel.trans (ht.below h.ge h.bel.size), hc, h.d.touch ht (Ne.symm h.ne), h.ge, h.ge2, h.ne, fun x hx => by obtain ⟨h1, h2, h3⟩ := h.k x hx; exact ⟨h1.touch ht h2, h2, h3⟩⟩
theorem Pk.touch2 {w W W' : World} {g gd : Nat} {s1 s2 s' : Cl} {K : List (Nat × TypeId × List Value)} (h : Pk w W g gd s1 s2 K) (ht : Touch gd W W') (hc : Holds W' gd 41 s'.cells) : Pk w W' g gd s1 s' K :=
  ⟨h.bel.trans (ht.below h.ge2 h.bel.size), h.c.touch ht h.ne, hc, h.ge, h.ge2, h.ne, fun x hx => by obtain ⟨h1, h2, h3⟩ := h.k x hx; exact ⟨h1.touch ht h3, h2, h3⟩⟩
theorem Pk.add {w W : World} {g gd : Nat} {s1 s2 : Cl} {K : List (Nat × TypeId × List Value)} (h : Pk w W g gd s1 s2 K) (e : TypeId) (L : List Value) : Pk w (W.alloc (.cells L.toArray e)) g gd s1 s2 ((W.heap.size, e, L) :: K) := by
  have h1 := h.below (W' := W.alloc (.cells L.toArray e)) (by go_grown)
  refine ⟨h1.bel, h1.c, h1.d, h.ge, h.ge2, h.ne, fun x hx => ?_⟩
  rcases List.mem_cons.1 hx with rfl | hx
  · exact ⟨holds_alloc W e L, by have := h.c.lt; simp only; omega, by have := h.d.lt; simp only; omega⟩
  · exact h1.k x hx
theorem Pk.less {w W : World} {g gd : Nat} {s1 s2 : Cl} {K : List (Nat × TypeId × List Value)} (h : Pk w W g gd s1 s2 K) : Pk w W g gd s1 s2 [] :=
  ⟨h.bel, h.c, h.d, h.ge, h.ge2, h.ne, fun x hx => by cases hx⟩
theorem Pk.begin1 {w W : World} {g gd : Nat} {s1 s2 : Cl} {K : List (Nat × TypeId × List Value)} (h : Pk w W g gd s1 s2 K) (ho : s1.Ok 100 100000) (x : Cm) (tg : Int) :
    Calls Try.prog 8 #[.pointer (some ⟨g, 0, none⟩), .agg #[.int .i64 x.k, .int .i64 x.c, .int .i64 x.s, .string x.a, .string x.b, .string x.o, .string x.v], .int .i64 tg] W fun e w' => e = .returned (.tuple #[.agg (s1.given x tg).cells.toArray, .bool (s1.takes x tg)]) ∧ Pk w w' g gd (s1.begun x tg) s2 K :=
  (begin_fun g s1 x tg W h.c ho).mono fun e w' ⟨he, hc, ht⟩ => ⟨he, h.touch1 ht hc⟩
theorem Pk.begin2 {w W : World} {g gd : Nat} {s1 s2 : Cl} {K : List (Nat × TypeId × List Value)} (h : Pk w W g gd s1 s2 K) (ho : s2.Ok 100 100000) (x : Cm) (tg : Int) :
    Calls Try.prog 11 #[.pointer (some ⟨gd, 0, none⟩), .agg #[.int .i64 x.k, .int .i64 x.c, .int .i64 x.s, .string x.a, .string x.b, .string x.o, .string x.v], .int .i64 tg] W fun e w' => e = .returned (.tuple #[.agg (s2.given x tg).cells.toArray, .bool (s2.takes x tg)]) ∧ Pk w w' g gd s1 (s2.begun x tg) K :=
  (dbegin_fun gd s2 x tg W h.d ho).mono fun e w' ⟨he, hc, ht⟩ => ⟨he, h.touch2 ht hc⟩
theorem Pk.tell1 {w W : World} {g gd : Nat} {s1 s2 : Cl} {K : List (Nat × TypeId × List Value)} (h : Pk w W g gd s1 s2 K) (c q : Int) (r0 r1 r2 r3 r4 : Value) :
    Calls Try.prog 10 #[.pointer (some ⟨g, 0, none⟩), .agg #[.int .i64 c, .int .i64 q, r0, r1, r2, r3, r4]] W fun e w' => e = .returned (.bool (s1.hears c q)) ∧ Pk w w' g gd (s1.told c q) s2 K :=
  (tell_fun g s1 c q r0 r1 r2 r3 r4 W h.c).mono fun e w' ⟨he, hc, ht⟩ => ⟨he, h.touch1 ht hc⟩
theorem Pk.tell2 {w W : World} {g gd : Nat} {s1 s2 : Cl} {K : List (Nat × TypeId × List Value)} (h : Pk w W g gd s1 s2 K) (c q : Int) (r0 r1 r2 r3 r4 : Value) :
    Calls Try.prog 12 #[.pointer (some ⟨gd, 0, none⟩), .agg #[.int .i64 c, .int .i64 q, r0, r1, r2, r3, r4]] W fun e w' => e = .returned (.bool (s2.hears c q)) ∧ Pk w w' g gd s1 (s2.told c q) K :=
  (dtell_fun gd s2 c q r0 r1 r2 r3 r4 W h.d).mono fun e w' ⟨he, hc, ht⟩ => ⟨he, h.touch2 ht hc⟩
theorem Pk.tick1 {w W : World} {g gd : Nat} {s1 s2 : Cl} {K : List (Nat × TypeId × List Value)} (h : Pk w W g gd s1 s2 K) (ho : s1.Ok 100 100000) (n : Int) (hn : 1 ≤ n ∧ n ≤ 9223372036854775807) :
    Calls Try.prog 9 #[.pointer (some ⟨g, 0, none⟩), .int .i64 n] W fun e w' => e = .returned (.tuple #[.agg s1.asked.cells.toArray, .int .i64 (s1.whom n), .bool s1.asks]) ∧ Pk w w' g gd (s1.ticked n) s2 K :=
  (tick_fun g s1 n W h.c ho hn).mono fun e w' ⟨he, hc, ht⟩ => ⟨he, h.touch1 ht hc⟩
theorem Pk.tick2 {w W : World} {g gd : Nat} {s1 s2 : Cl} {K : List (Nat × TypeId × List Value)} (h : Pk w W g gd s1 s2 K) (ho : s2.Ok 100 100000) (n : Int) (hn : 1 ≤ n ∧ n ≤ 9223372036854775807) :
    Calls Try.prog 14 #[.pointer (some ⟨gd, 0, none⟩), .int .i64 n] W fun e w' => e = .returned (.tuple #[.agg s2.asked.cells.toArray, .int .i64 (s2.whom n), .bool s2.asks]) ∧ Pk w w' g gd s1 (s2.ticked n) K :=
  (dtick_fun gd s2 n W h.d ho hn).mono fun e w' ⟨he, hc, ht⟩ => ⟨he, h.touch2 ht hc⟩
set_option maxRecDepth 4000 in
set_option maxHeartbeats 1000000 in
theorem clientPlays_out (id n : Int) (a : Option Addr) (len cap : Nat) (w : World) (h : id < 1 ∨ 8 < id) :
    Calls Try.prog 4 #[.int .i64 id, .int .i64 n, .slice a len cap] w fun e w' => e = .returned (.bool true) ∧ Below w.heap.size w w' := by
  have h2 : id < 1 ∨ (¬ id < 1 ∧ 8 < id) := by omega
  have H := Lib.hid h; clear h
  rcases h2 with h | ⟨h, h2⟩
  all_goals
    go_enter Try.func4, Try.ntmps4
    go_wp2_with fail
    refine (new_out id w H.out).mono ?_
    rintro e w1 ⟨rfl, hb1⟩
    go_wp2_with fail
    refine (clientRuns_any _).mono ?_
    rintro e w2 ⟨rfl, hb2⟩
    have HB := below_next hb1 hb2
    go_wp2_with fail
    go_ret
    exact ⟨rfl, HB⟩
end Go.Proofs.Ytkojfgebdoojnaa
