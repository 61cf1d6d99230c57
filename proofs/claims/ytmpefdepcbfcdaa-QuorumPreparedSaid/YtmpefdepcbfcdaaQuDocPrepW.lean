/-
  The walk of the document's own Prepared.
-/
import Derived.Test.YtmpefdepcbfcdaaQuIntSW
import Derived.Test.YtmpefdepcbfcdaaQuSlowP
import Derived.Test.YtmpefdepcbfcdaaQuPrepW
import Derived.Test.YtmpefdepcbfcdaaQuSizesW
import Derived.Test.YtmpefdepcbfcdaaQuSlowW
import Derived.Lib.ItoaWalk
namespace Go.Proofs.Ytmpefdepcbfcdaa
open Go.RowKit
set_option linter.unusedVariables false
set_option linter.unusedSimpArgs false

theorem dbelow_any (e1 r1 e2 r2 : Int) (w : World) : Calls Try.prog 39 #[.agg #[.int .i64 e1, .int .i64 r1], .agg #[.int .i64 e2, .int .i64 r2]] w fun e w' => e = .returned (.bool (below e1 r1 e2 r2)) ∧ Below w.heap.size w w' := by
  have hcase : (e1 < e2 ∧ below e1 r1 e2 r2 = true) ∨ (¬ e1 < e2 ∧ (e1 == e2) = false ∧ below e1 r1 e2 r2 = false) ∨ (¬ e1 < e2 ∧ (e1 == e2) = true ∧ below e1 r1 e2 r2 = decide (r1 < r2)) := by
    unfold below
    by_cases h1 : e1 < e2
    · exact .inl ⟨h1, by simp [h1]⟩
    · by_cases h2 : e1 = e2
      · exact .inr (.inr ⟨h1, by simp [h2], by simp [h2]⟩)
      · exact .inr (.inl ⟨h1, by simp [h2], by simp [h1, h2]⟩)
  rcases hcase with ⟨h1, hb⟩ | ⟨h1, h2, hb⟩ | ⟨h1, h2, hb⟩
  all_goals
    rw [hb]
    clear hb
    go_enter Try.func39, Try.ntmps39
    go_wp2_with fail
    go_ret
    exact ⟨ret_bool (by simp [*]), by go_grown⟩
/-- What the document keeps while it looks for the best, and for the first. -/
def someC (S : Nat → Sd) (k : Nat) : Sd := if bestTo S 1 k < 0 then zeroSd 0 else S (bestTo S 1 k).toNat
def firstC (S : Nat → Sd) (o : Int) (k : Nat) : Sd := if sameTo S o k = 0 then zeroSd 0 else S (firstTo S o k).toNat
theorem someC_next (S : Nat → Sd) (k : Nat) : someC S (k + 1) = if takes S 1 (bestTo S 1 k) k = true then S k else someC S k := by
  unfold someC
  rw [bestTo_succ]
  by_cases h : takes S 1 (bestTo S 1 k) k = true
  · rw [if_pos h, if_pos h, if_neg (by omega), Int.toNat_natCast]
  · rw [if_neg h, if_neg h]
theorem firstTo_zero (S : Nat → Sd) (o : Int) (k : Nat) (h : sameTo S o k = 0) : firstTo S o k = -1 := by
  induction k with
  | zero => rfl
  | succ k ih =>
    unfold sameTo at h
    by_cases hc : counts S o k = true
    · rw [if_pos hc] at h; omega
    · unfold firstTo
      rw [if_neg (fun h2 => hc h2.1)]
      exact ih (by omega)
theorem firstC_next (S : Nat → Sd) (o : Int) (k : Nat) : firstC S o (k + 1) = if counts S o k = true ∧ sameTo S o k = 0 then S k else firstC S o k := by
  have hlt := firstTo_lt S o k
  have eS : sameTo S o (k + 1) = sameTo S o k + if counts S o k = true then 1 else 0 := rfl
  have eF : firstTo S o (k + 1) = if counts S o k = true ∧ firstTo S o k < 0 then (k : Int) else firstTo S o k := rfl
  have hz := firstTo_zero S o k
  unfold firstC
  rw [eS, eF]
  generalize sameTo S o k = sm at *
  generalize firstTo S o k = fi at *
  by_cases hc : counts S o k = true
  · by_cases h0 : sm = 0
    · have hf := hz h0
      rw [if_pos hc, if_neg (by omega), if_pos ⟨hc, by omega⟩, if_pos ⟨hc, h0⟩, Int.toNat_natCast]
    · have := hlt.2.2 (by omega)
      rw [if_pos hc, if_neg (by omega), if_neg (fun h => by omega), if_neg (fun h => h0 h.2), if_neg h0]
  · simp [hc]
/-- The boxes of the answer, and the two cells. -/
structure Dq (w W : World) (g7 g8 g12 g13 : Nat) (A F : Sd) : Prop where
  bx : Bx w W g7 g8 Cm.zero (At.of 0)
  h12 : Holds W g12 34 (celL A)
  h13 : Holds W g13 34 (celL F)
  n1 : g7 < g12
  n2 : g8 < g12
  n3 : g12 < g13
theorem Dq.below {w W W' : World} {g7 g8 g12 g13 : Nat} {A F : Sd} (h : Dq w W g7 g8 g12 g13 A F) (hb : Below W.heap.size W W') : Dq w W' g7 g8 g12 g13 A F :=
  ⟨h.bx.below hb, h.h12.below hb h.h12.lt, h.h13.below hb h.h13.lt, h.n1, h.n2, h.n3⟩
theorem Dq.bel {w W : World} {g7 g8 g12 g13 : Nat} {A F : Sd} (h : Dq w W g7 g8 g12 g13 A F) : Below w.heap.size w W := h.bx.bel
theorem Dq.put12 {w W : World} {g7 g8 g12 g13 : Nat} {A F : Sd} (h : Dq w W g7 g8 g12 g13 A F) (L : Sd) : Dq w (W.setRow g12 (celL L).toArray) g7 g8 g12 g13 L F := by
  have n1 := h.n1; have n2 := h.n2; have n3 := h.n3; have hge := h.bx.ge
  refine ⟨⟨below_setRow h.bx.bel (by omega) _, ?_, ?_, h.bx.ge, h.bx.ge2, h.bx.ne⟩, setRow_heap _ _ _ _ _ _ h.h12, ?_, n1, n2, n3⟩
  · unfold Holds; rw [setRow_other _ _ _ _ (by omega)]; exact h.bx.x
  · unfold Holds; rw [setRow_other _ _ _ _ (by omega)]; exact h.bx.a
  · unfold Holds; rw [setRow_other _ _ _ _ (by omega)]; exact h.h13
theorem Dq.put13 {w W : World} {g7 g8 g12 g13 : Nat} {A F : Sd} (h : Dq w W g7 g8 g12 g13 A F) (L : Sd) : Dq w (W.setRow g13 (celL L).toArray) g7 g8 g12 g13 A L := by
  have n1 := h.n1; have n2 := h.n2; have n3 := h.n3; have hge := h.bx.ge
  refine ⟨⟨below_setRow h.bx.bel (by omega) _, ?_, ?_, h.bx.ge, h.bx.ge2, h.bx.ne⟩, ?_, setRow_heap _ _ _ _ _ _ h.h13, n1, n2, n3⟩
  · unfold Holds; rw [setRow_other _ _ _ _ (by omega)]; exact h.bx.x
  · unfold Holds; rw [setRow_other _ _ _ _ (by omega)]; exact h.bx.a
  · unfold Holds; rw [setRow_other _ _ _ _ (by omega)]; exact h.h12
theorem holds_setRow {W : World} {g k : Nat} {e : TypeId} {L : List Value} (h : Holds W k e L) (hk : k ≠ g) (cs : Array Value) : Holds (W.setRow g cs) k e L := by
  unfold Holds; rw [setRow_other _ _ _ _ hk]; exact h
set_option maxRecDepth 4000 in
set_option maxHeartbeats 40000000 in
theorem dprepared_any (K : Nat) (o : Int) (a : Option Addr) (len cap : Nat) (S : Nat → Sd) (w : World) (hS : IsRows w a len 22 fun i => (S i).cells) (hlc : len ≤ cap) (hK3 : 3 ≤ K) (hK : K ≤ 7) :
    Calls Try.prog 22 #[.int .i64 K, .int .i64 o, .slice a len cap] w fun e w' =>
      e = .returned (.tuple #[.int .i64 (prepared K o S len).1, .agg (prepared K o S len).2.1.cells.toArray, .agg (prepared K o S len).2.2.cells.toArray]) ∧ Below w.heap.size w w' := by
  have HV := Lib.hid hS
  have hm : len ≤ maxLen := hS.1
  unfold maxLen at hm
  clear hS
  obtain ⟨R, hR⟩ : ∃ R, R = prepared K o S len := ⟨_, rfl⟩
  rw [← hR]
  have HR := Lib.hid hR; clear hR
  go_enter Try.func22, Try.ntmps22
  go_wp2_with fail
  have HB0 := Lib.hid (show Bx w ((w.alloc (.cells #[.int .i64 0, .int .i64 0, .int .i64 0, .string ⟨#[]⟩, .string ⟨#[]⟩, .string ⟨#[]⟩, .string ⟨#[]⟩] 32)).alloc (.cells #[.int .i64 0, .int .i64 0, .int .i64 0, .int .i64 0, .int .i64 0, .int .i64 0, .int .i64 0, .int .i64 0] 26)) w.heap.size (w.heap.size + 1) Cm.zero (At.of 0) from
    ⟨by go_grown, holds_past (holds_alloc w _ Cm.zero.cells) _, by have := holds_alloc (w.alloc (.cells Cm.zero.cells.toArray 32)) 26 (At.of 0).cells; rw [World.size_alloc] at this; exact this, Nat.le_refl _, by omega, by omega⟩)
  refine (dslow_any K _ (by omega)).mono ?_
  rintro e w1 ⟨rfl, hb⟩
  have HB := Lib.hid (HB0.out.below hb)
  clear hb HB0
  generalize w.heap.size = g7 at HB
  generalize g7 + 1 = g8 at HB ⊢
  by_cases hshort : len < K / 2 + 1
  · have hs2 : (len : Int) < ((K / 2 + 1 : Nat) : Int) := by omega
    have z0 := HB.out.x.cell 0
    have z1 := HB.out.x.cell 1
    have z2 := HB.out.x.cell 2
    have z3 := HB.out.x.cell 3
    have z4 := HB.out.x.cell 4
    have z5 := HB.out.x.cell 5
    have z6 := HB.out.x.cell 6
    have u0 := HB.out.a.cell 0
    have u1 := HB.out.a.cell 1
    have u2 := HB.out.a.cell 2
    have u3 := HB.out.a.cell 3
    have u4 := HB.out.a.cell 4
    have u5 := HB.out.a.cell 5
    have u6 := HB.out.a.cell 6
    have u7 := HB.out.a.cell 7
    simp only [Cm.cells, At.cells, Cm.zero, At.of, List.getElem?_cons_zero, List.getElem?_cons_succ] at z0 z1 z2 z3 z4 z5 z6 u0 u1 u2 u3 u4 u5 u6 u7
    have zf := fun i => HB.out.x.free i
    have uf := fun i => HB.out.a.free i
    have hne := HB.out.ne
    have hne' := Ne.symm hne
    go_wp2_with fail
    clear z0 z1 z2 z3 z4 z5 z6 u0 u1 u2 u3 u4 u5 u6 u7 zf uf
    have HE : Bx w ((((((((((((((((w1.setCell ⟨g7, 0, none⟩ (.int .i64 0)).setCell ⟨g7, 1, none⟩ (.int .i64 0)).setCell ⟨g7, 2, none⟩ (.int .i64 0)).setCell ⟨g7, 3, none⟩ (.string ⟨#[]⟩)).setCell ⟨g7, 4, none⟩ (.string ⟨#[]⟩)).setCell ⟨g7, 5, none⟩ (.string ⟨#[]⟩)).setCell ⟨g7, 6, none⟩ (.string ⟨#[]⟩)).setCell ⟨g8, 0, none⟩ (.int .i64 0)).setCell ⟨g8, 1, none⟩ (.int .i64 0)).setCell ⟨g8, 2, none⟩ (.int .i64 0)).setCell ⟨g8, 3, none⟩ (.int .i64 0)).setCell ⟨g8, 4, none⟩ (.int .i64 0)).setCell ⟨g8, 5, none⟩ (.int .i64 0)).setCell ⟨g8, 6, none⟩ (.int .i64 0)).setCell ⟨g8, 7, none⟩ (.int .i64 0))) g7 g8 Cm.zero (At.of 0) := (HB.out.set Cm.zero (At.of 0))
    generalize (((((((((((((((w1.setCell ⟨g7, 0, none⟩ (.int .i64 0)).setCell ⟨g7, 1, none⟩ (.int .i64 0)).setCell ⟨g7, 2, none⟩ (.int .i64 0)).setCell ⟨g7, 3, none⟩ (.string ⟨#[]⟩)).setCell ⟨g7, 4, none⟩ (.string ⟨#[]⟩)).setCell ⟨g7, 5, none⟩ (.string ⟨#[]⟩)).setCell ⟨g7, 6, none⟩ (.string ⟨#[]⟩)).setCell ⟨g8, 0, none⟩ (.int .i64 0)).setCell ⟨g8, 1, none⟩ (.int .i64 0)).setCell ⟨g8, 2, none⟩ (.int .i64 0)).setCell ⟨g8, 3, none⟩ (.int .i64 0)).setCell ⟨g8, 4, none⟩ (.int .i64 0)).setCell ⟨g8, 5, none⟩ (.int .i64 0)).setCell ⟨g8, 6, none⟩ (.int .i64 0)).setCell ⟨g8, 7, none⟩ (.int .i64 0)) = W3 at HE ⊢
    have y0 := HE.x.cell 0
    have y1 := HE.x.cell 1
    have y2 := HE.x.cell 2
    have y3 := HE.x.cell 3
    have y4 := HE.x.cell 4
    have y5 := HE.x.cell 5
    have y6 := HE.x.cell 6
    have q0 := HE.a.cell 0
    have q1 := HE.a.cell 1
    have q2 := HE.a.cell 2
    have q3 := HE.a.cell 3
    have q4 := HE.a.cell 4
    have q5 := HE.a.cell 5
    have q6 := HE.a.cell 6
    have q7 := HE.a.cell 7
    simp only [Cm.cells, At.cells, List.getElem?_cons_zero, List.getElem?_cons_succ] at y0 y1 y2 y3 y4 y5 y6 q0 q1 q2 q3 q4 q5 q6 q7
    have hr : R = (0, Cm.zero, (At.of 0)) := by rw [HR.out]; rw [prepared, if_pos hshort]
    rw [hr]
    exact bodyPost_ret (v := .tuple #[.int .i64 0, .agg (Cm.zero).cells.toArray, .agg ((At.of 0)).cells.toArray]) (by simp [results, Try.results22, go_sem, y0, y1, y2, y3, y4, y5, y6, q0, q1, q2, q3, q4, q5, q6, q7, Cm.cells, At.cells, Cm.zero, At.of]) rfl ⟨rfl, HE.bel⟩
  · have hs2 : ¬ (len : Int) < ((K / 2 + 1 : Nat) : Int) := by omega
    have HS := Lib.hid hshort; clear hshort
    go_wp2_with fail
    go_loopw [9] (fun i wr => ∃ k : Nat, k ≤ len ∧ i = .int .i64 k ∧ comTo S k = none ∧ Bx w wr g7 g8 Cm.zero (At.of 0)) (fun i _ => len - (intOf i).toNat)
    case atStart => exact ⟨0, by omega, rfl, rfl, HB.out⟩
    case round =>
      clear HB
      obtain ⟨k, hk, rfl, hcom, hbw⟩ := hrel
      have HC := Lib.hid hcom; clear hcom
      have HB := Lib.hid hbw; clear hbw
      by_cases h1 : k < len
      · obtain ⟨b, off, rfl, hlt⟩ := HV.out.spot (by omega)
        have c1 := HV.out.at HB.out.bel h1 1 (by omega)
        simp only [Sd.cells, Cm.cells, At.cells, List.cons_append, List.nil_append, List.getElem?_cons_zero, List.getElem?_cons_succ, Nat.add_zero] at c1
        by_cases h3 : (S k).st = 3
        · have e3 : ((S k).st == 3) = true := by simp [h3]
          have c6 := HV.out.at HB.out.bel h1 6 (by omega)
          have c7 := HV.out.at HB.out.bel h1 7 (by omega)
          have c8 := HV.out.at HB.out.bel h1 8 (by omega)
          have c9 := HV.out.at HB.out.bel h1 9 (by omega)
          have c10 := HV.out.at HB.out.bel h1 10 (by omega)
          have c11 := HV.out.at HB.out.bel h1 11 (by omega)
          have c12 := HV.out.at HB.out.bel h1 12 (by omega)
          have c13 := HV.out.at HB.out.bel h1 13 (by omega)
          have c14 := HV.out.at HB.out.bel h1 14 (by omega)
          have c15 := HV.out.at HB.out.bel h1 15 (by omega)
          have c16 := HV.out.at HB.out.bel h1 16 (by omega)
          have c17 := HV.out.at HB.out.bel h1 17 (by omega)
          have c18 := HV.out.at HB.out.bel h1 18 (by omega)
          have c19 := HV.out.at HB.out.bel h1 19 (by omega)
          have c20 := HV.out.at HB.out.bel h1 20 (by omega)
          simp only [Sd.cells, Cm.cells, At.cells, List.cons_append, List.nil_append, List.getElem?_cons_zero, List.getElem?_cons_succ, Nat.add_zero] at c6 c7 c8 c9 c10 c11 c12 c13 c14 c15 c16 c17 c18 c19 c20
          have z0 := HB.out.x.cell 0
          have z1 := HB.out.x.cell 1
          have z2 := HB.out.x.cell 2
          have z3 := HB.out.x.cell 3
          have z4 := HB.out.x.cell 4
          have z5 := HB.out.x.cell 5
          have z6 := HB.out.x.cell 6
          have u0 := HB.out.a.cell 0
          have u1 := HB.out.a.cell 1
          have u2 := HB.out.a.cell 2
          have u3 := HB.out.a.cell 3
          have u4 := HB.out.a.cell 4
          have u5 := HB.out.a.cell 5
          have u6 := HB.out.a.cell 6
          have u7 := HB.out.a.cell 7
          simp only [Cm.cells, At.cells, Cm.zero, At.of, List.getElem?_cons_zero, List.getElem?_cons_succ] at z0 z1 z2 z3 z4 z5 z6 u0 u1 u2 u3 u4 u5 u6 u7
          have zf := fun i => HB.out.x.free i
          have uf := fun i => HB.out.a.free i
          have hne := HB.out.ne
          have hne' := Ne.symm hne
          go_upto_region 7 with (fail)
          go_region
          go_wp2_with fail
          clear z0 z1 z2 z3 z4 z5 z6 u0 u1 u2 u3 u4 u5 u6 u7 zf uf c6 c7 c8 c9 c10 c11 c12 c13 c14 c15 c16 c17 c18 c19 c20
          have HE : Bx w ((((((((((((((((wr.setCell ⟨g7, 0, none⟩ (.int .i64 (S k).x.k)).setCell ⟨g7, 1, none⟩ (.int .i64 (S k).x.c)).setCell ⟨g7, 2, none⟩ (.int .i64 (S k).x.s)).setCell ⟨g7, 3, none⟩ (.string (S k).x.a)).setCell ⟨g7, 4, none⟩ (.string (S k).x.b)).setCell ⟨g7, 5, none⟩ (.string (S k).x.o)).setCell ⟨g7, 6, none⟩ (.string (S k).x.v)).setCell ⟨g8, 0, none⟩ (.int .i64 (S k).a.q)).setCell ⟨g8, 1, none⟩ (.int .i64 ((S k).a.d 0))).setCell ⟨g8, 2, none⟩ (.int .i64 ((S k).a.d 1))).setCell ⟨g8, 3, none⟩ (.int .i64 ((S k).a.d 2))).setCell ⟨g8, 4, none⟩ (.int .i64 ((S k).a.d 3))).setCell ⟨g8, 5, none⟩ (.int .i64 ((S k).a.d 4))).setCell ⟨g8, 6, none⟩ (.int .i64 ((S k).a.d 5))).setCell ⟨g8, 7, none⟩ (.int .i64 ((S k).a.d 6))).drew) g7 g8 (S k).x (S k).a := (HB.out.set (S k).x (S k).a).drew
          generalize (((((((((((((((wr.setCell ⟨g7, 0, none⟩ (.int .i64 (S k).x.k)).setCell ⟨g7, 1, none⟩ (.int .i64 (S k).x.c)).setCell ⟨g7, 2, none⟩ (.int .i64 (S k).x.s)).setCell ⟨g7, 3, none⟩ (.string (S k).x.a)).setCell ⟨g7, 4, none⟩ (.string (S k).x.b)).setCell ⟨g7, 5, none⟩ (.string (S k).x.o)).setCell ⟨g7, 6, none⟩ (.string (S k).x.v)).setCell ⟨g8, 0, none⟩ (.int .i64 (S k).a.q)).setCell ⟨g8, 1, none⟩ (.int .i64 ((S k).a.d 0))).setCell ⟨g8, 2, none⟩ (.int .i64 ((S k).a.d 1))).setCell ⟨g8, 3, none⟩ (.int .i64 ((S k).a.d 2))).setCell ⟨g8, 4, none⟩ (.int .i64 ((S k).a.d 3))).setCell ⟨g8, 5, none⟩ (.int .i64 ((S k).a.d 4))).setCell ⟨g8, 6, none⟩ (.int .i64 ((S k).a.d 5))).setCell ⟨g8, 7, none⟩ (.int .i64 ((S k).a.d 6))).drew = W3 at HE ⊢
          have y0 := HE.x.cell 0
          have y1 := HE.x.cell 1
          have y2 := HE.x.cell 2
          have y3 := HE.x.cell 3
          have y4 := HE.x.cell 4
          have y5 := HE.x.cell 5
          have y6 := HE.x.cell 6
          have q0 := HE.a.cell 0
          have q1 := HE.a.cell 1
          have q2 := HE.a.cell 2
          have q3 := HE.a.cell 3
          have q4 := HE.a.cell 4
          have q5 := HE.a.cell 5
          have q6 := HE.a.cell 6
          have q7 := HE.a.cell 7
          simp only [Cm.cells, At.cells, List.getElem?_cons_zero, List.getElem?_cons_succ] at y0 y1 y2 y3 y4 y5 y6 q0 q1 q2 q3 q4 q5 q6 q7
          have hr : R = (1, (S k).x, (S k).a) := by rw [HR.out]; rw [prepared, if_neg HS.out, comTo_at HC.out h3 h1]
          rw [hr]
          exact bodyPost_ret (v := .tuple #[.int .i64 1, .agg ((S k).x).cells.toArray, .agg ((S k).a).cells.toArray]) (by simp [results, Try.results22, go_sem, y0, y1, y2, y3, y4, y5, y6, q0, q1, q2, q3, q4, q5, q6, q7, Cm.cells, At.cells, Cm.zero, At.of]) rfl ⟨rfl, HE.bel⟩
        · have e3 : ((S k).st == 3) = false := by simp [h3]
          have HC := Lib.hid (comTo_next HC.out h3)
          go_wp2_with fail
          go_roundw
          case rel => exact ⟨k + 1, by omega, by go_num, HC.out, HB.out⟩
          case measure => simp [intOf]; omega
      · have hkl : k = len := by omega
        subst hkl
        go_wp2_with fail
        go_loopw [10, 11] (fun at' i wr => ∃ j : Nat, j ≤ k ∧ i = .int .i64 j ∧ at' = .int .i64 (bestTo S 2 j) ∧ Bx w wr g7 g8 Cm.zero (At.of 0)) (fun _ i _ => k - (intOf i).toNat)
        case atStart => exact ⟨0, by omega, rfl, rfl, HB.out⟩
        case round =>
          clear HB
          obtain ⟨j, hj, rfl, rfl, hbw⟩ := hrel
          have HB := Lib.hid hbw; clear hbw
          by_cases h2 : j < k
          · obtain ⟨b, off, rfl, hlt⟩ := HV.out.spot (by omega)
            have b1 := fun d os => HV.out.at (HB.out.bel.trans ((below_regrown wr d os).mono HB.out.bel.size)) h2 1 (by omega)
            have b4 := fun d os => HV.out.at (HB.out.bel.trans ((below_regrown wr d os).mono HB.out.bel.size)) h2 4 (by omega)
            have b5 := fun d os => HV.out.at (HB.out.bel.trans ((below_regrown wr d os).mono HB.out.bel.size)) h2 5 (by omega)
            simp only [Sd.cells, List.getElem?_cons_zero, List.getElem?_cons_succ, Nat.add_assoc, Nat.reduceAdd] at b1 b4 b5
            simp only [← Nat.add_assoc] at b1 b4 b5
            have hlt2 := bestTo_lt S 2 j
            have HBS := Lib.hid (bestTo_succ S 2 j)
            go_upto_region 12 with (fail)
            generalize hbt : bestTo S 2 j = at' at hlt2 HBS ⊢
            clear hbt
            by_cases h4 : (S j).st = 2
            · by_cases h3 : at' < 0
              · have e2 : ((S j).st == 2) = true := by simp [h4]
                have ht : takes S 2 at' j = true := by simp [takes, h4, h3]
                rw [ht] at HBS
                clear ht
                refine wp_region_quiet_below (by kernel_rfl) (by kernel_rfl) ?_
                repeat go_big_quiet_step (fail)
                refine wpQuiet_nil ?_
                intro w5 hw'
                have HB := Lib.hid (HB.out.below (below_of_regrown hw'))
                clear hw' b1 b4 b5
                go_wp2_with fail
                go_roundw
                case rel => exact ⟨j + 1, by omega, by go_num, by rw [HBS.out, if_pos rfl], HB.out⟩
                case measure => simp [intOf]; omega
              · obtain ⟨m, hm⟩ : ∃ m : Nat, at' = m := ⟨at'.toNat, by omega⟩
                subst hm
                have hmk : m < k := by omega
                have c4 := fun d os => HV.out.at (HB.out.bel.trans ((below_regrown wr d os).mono HB.out.bel.size)) hmk 4 (by omega)
                have c5 := fun d os => HV.out.at (HB.out.bel.trans ((below_regrown wr d os).mono HB.out.bel.size)) hmk 5 (by omega)
                simp only [Sd.cells, List.getElem?_cons_zero, List.getElem?_cons_succ] at c4 c5
                have e2 : ((S j).st == 2) = true := by simp [h4]
                have ht : takes S 2 m j = below (S m).ve (S m).vr (S j).ve (S j).vr := by rw [takes, decide_eq_false h3]; simp [h4]
                rw [ht] at HBS
                clear ht h4
                have hbw := dbelow_any (S m).ve (S m).vr (S j).ve (S j).vr
                generalize (S j).st = s1, (S j).ve = v1, (S j).vr = v2, (S m).ve = v3, (S m).vr = v4 at *
                generalize below v3 v4 v1 v2 = q at hbw HBS
                have HBW := Lib.hid hbw; clear hbw
                refine wp_region_quiet_below (by kernel_rfl) (by kernel_rfl) ?_
                repeat go_big_quiet_step (first | (go_at_call 39; with_reducible exact calls_regrown fun W _ => HBW.out W))
                refine wpQuiet_nil ?_
                intro w5 hw'
                have HB := Lib.hid (HB.out.below (below_of_regrown hw'))
                clear hw' b1 b4 b5 c4 c5 HBW
                cases q
                all_goals
                  go_wp2_with fail
                  go_roundw
                  case rel => exact ⟨j + 1, by omega, by go_num, by rw [HBS.out]; rfl, HB.out⟩
                  case measure => simp [intOf]; omega
            · have e2 : ((S j).st == 2) = false := by simp [h4]
              have ht : takes S 2 at' j = false := by simp [takes, h4]
              rw [ht] at HBS
              clear ht
              refine wp_region_quiet_below (by kernel_rfl) (by kernel_rfl) ?_
              repeat go_big_quiet_step (fail)
              refine wpQuiet_nil ?_
              intro w5 hw'
              have HB := Lib.hid (HB.out.below (below_of_regrown hw'))
              clear hw' b1 b4 b5
              go_wp2_with fail
              go_roundw
              case rel => exact ⟨j + 1, by omega, by go_num, by rw [HBS.out]; rfl, HB.out⟩
              case measure => simp [intOf]; omega
          · have hjk : j = k := by omega
            subst hjk
            -- the best of those that have accepted
            have ht2 := bestTo_lt S 2 j
            have HP := Lib.hid (show prepared K o S j = (if 0 ≤ bestTo S 2 j then (2, (S (bestTo S 2 j).toNat).x, (S (bestTo S 2 j).toNat).a) else if bestTo S 1 j < 0 then (4, Cm.zero, At.of 0) else if thereTo S o j = false ∧ K / 2 ≤ sameTo S o j then (2, (S (firstTo S o j).toNat).x, (S (firstTo S o j).toNat).a) else (3, (S (bestTo S 1 j).toNat).x, (S (bestTo S 1 j).toNat).a)) by rw [prepared, if_neg HS.out, HC.out])
            rw [HP.out] at HR
            clear HP HC HS
            generalize bestTo S 2 j = t2 at *
            by_cases h2' : 0 ≤ t2
            · obtain ⟨m, rfl⟩ : ∃ m : Nat, t2 = m := ⟨t2.toNat, by omega⟩
              have hml : m < j := by omega
              obtain ⟨b, off, rfl, hlt⟩ := HV.out.spot (by omega)
              have c6 := HV.out.at HB.out.bel hml 6 (by omega)
              have c7 := HV.out.at HB.out.bel hml 7 (by omega)
              have c8 := HV.out.at HB.out.bel hml 8 (by omega)
              have c9 := HV.out.at HB.out.bel hml 9 (by omega)
              have c10 := HV.out.at HB.out.bel hml 10 (by omega)
              have c11 := HV.out.at HB.out.bel hml 11 (by omega)
              have c12 := HV.out.at HB.out.bel hml 12 (by omega)
              have c13 := HV.out.at HB.out.bel hml 13 (by omega)
              have c14 := HV.out.at HB.out.bel hml 14 (by omega)
              have c15 := HV.out.at HB.out.bel hml 15 (by omega)
              have c16 := HV.out.at HB.out.bel hml 16 (by omega)
              have c17 := HV.out.at HB.out.bel hml 17 (by omega)
              have c18 := HV.out.at HB.out.bel hml 18 (by omega)
              have c19 := HV.out.at HB.out.bel hml 19 (by omega)
              have c20 := HV.out.at HB.out.bel hml 20 (by omega)
              simp only [Sd.cells, Cm.cells, At.cells, List.cons_append, List.nil_append, List.getElem?_cons_zero, List.getElem?_cons_succ, Nat.add_zero] at c6 c7 c8 c9 c10 c11 c12 c13 c14 c15 c16 c17 c18 c19 c20
              have z0 := HB.out.x.cell 0
              have z1 := HB.out.x.cell 1
              have z2 := HB.out.x.cell 2
              have z3 := HB.out.x.cell 3
              have z4 := HB.out.x.cell 4
              have z5 := HB.out.x.cell 5
              have z6 := HB.out.x.cell 6
              have u0 := HB.out.a.cell 0
              have u1 := HB.out.a.cell 1
              have u2 := HB.out.a.cell 2
              have u3 := HB.out.a.cell 3
              have u4 := HB.out.a.cell 4
              have u5 := HB.out.a.cell 5
              have u6 := HB.out.a.cell 6
              have u7 := HB.out.a.cell 7
              simp only [Cm.cells, At.cells, Cm.zero, At.of, List.getElem?_cons_zero, List.getElem?_cons_succ] at z0 z1 z2 z3 z4 z5 z6 u0 u1 u2 u3 u4 u5 u6 u7
              have zf := fun i => HB.out.x.free i
              have uf := fun i => HB.out.a.free i
              have hne := HB.out.ne
              have hne' := Ne.symm hne
              go_upto_region 15 with (fail)
              go_region
              go_wp2_with fail
              clear z0 z1 z2 z3 z4 z5 z6 u0 u1 u2 u3 u4 u5 u6 u7 zf uf c6 c7 c8 c9 c10 c11 c12 c13 c14 c15 c16 c17 c18 c19 c20
              have HE : Bx w ((((((((((((((((wr.setCell ⟨g7, 0, none⟩ (.int .i64 (S m).x.k)).setCell ⟨g7, 1, none⟩ (.int .i64 (S m).x.c)).setCell ⟨g7, 2, none⟩ (.int .i64 (S m).x.s)).setCell ⟨g7, 3, none⟩ (.string (S m).x.a)).setCell ⟨g7, 4, none⟩ (.string (S m).x.b)).setCell ⟨g7, 5, none⟩ (.string (S m).x.o)).setCell ⟨g7, 6, none⟩ (.string (S m).x.v)).setCell ⟨g8, 0, none⟩ (.int .i64 (S m).a.q)).setCell ⟨g8, 1, none⟩ (.int .i64 ((S m).a.d 0))).setCell ⟨g8, 2, none⟩ (.int .i64 ((S m).a.d 1))).setCell ⟨g8, 3, none⟩ (.int .i64 ((S m).a.d 2))).setCell ⟨g8, 4, none⟩ (.int .i64 ((S m).a.d 3))).setCell ⟨g8, 5, none⟩ (.int .i64 ((S m).a.d 4))).setCell ⟨g8, 6, none⟩ (.int .i64 ((S m).a.d 5))).setCell ⟨g8, 7, none⟩ (.int .i64 ((S m).a.d 6))).drew) g7 g8 (S m).x (S m).a := (HB.out.set (S m).x (S m).a).drew
              generalize (((((((((((((((wr.setCell ⟨g7, 0, none⟩ (.int .i64 (S m).x.k)).setCell ⟨g7, 1, none⟩ (.int .i64 (S m).x.c)).setCell ⟨g7, 2, none⟩ (.int .i64 (S m).x.s)).setCell ⟨g7, 3, none⟩ (.string (S m).x.a)).setCell ⟨g7, 4, none⟩ (.string (S m).x.b)).setCell ⟨g7, 5, none⟩ (.string (S m).x.o)).setCell ⟨g7, 6, none⟩ (.string (S m).x.v)).setCell ⟨g8, 0, none⟩ (.int .i64 (S m).a.q)).setCell ⟨g8, 1, none⟩ (.int .i64 ((S m).a.d 0))).setCell ⟨g8, 2, none⟩ (.int .i64 ((S m).a.d 1))).setCell ⟨g8, 3, none⟩ (.int .i64 ((S m).a.d 2))).setCell ⟨g8, 4, none⟩ (.int .i64 ((S m).a.d 3))).setCell ⟨g8, 5, none⟩ (.int .i64 ((S m).a.d 4))).setCell ⟨g8, 6, none⟩ (.int .i64 ((S m).a.d 5))).setCell ⟨g8, 7, none⟩ (.int .i64 ((S m).a.d 6))).drew = W3 at HE ⊢
              have y0 := HE.x.cell 0
              have y1 := HE.x.cell 1
              have y2 := HE.x.cell 2
              have y3 := HE.x.cell 3
              have y4 := HE.x.cell 4
              have y5 := HE.x.cell 5
              have y6 := HE.x.cell 6
              have q0 := HE.a.cell 0
              have q1 := HE.a.cell 1
              have q2 := HE.a.cell 2
              have q3 := HE.a.cell 3
              have q4 := HE.a.cell 4
              have q5 := HE.a.cell 5
              have q6 := HE.a.cell 6
              have q7 := HE.a.cell 7
              simp only [Cm.cells, At.cells, List.getElem?_cons_zero, List.getElem?_cons_succ] at y0 y1 y2 y3 y4 y5 y6 q0 q1 q2 q3 q4 q5 q6 q7
              have hr : R = (2, (S m).x, (S m).a) := by rw [HR.out]; rw [if_pos (show (0 : Int) ≤ (m : Int) by omega), Int.toNat_natCast]
              rw [hr]
              exact bodyPost_ret (v := .tuple #[.int .i64 2, .agg ((S m).x).cells.toArray, .agg ((S m).a).cells.toArray]) (by simp [results, Try.results22, go_sem, y0, y1, y2, y3, y4, y5, y6, q0, q1, q2, q3, q4, q5, q6, q7, Cm.cells, At.cells, Cm.zero, At.of]) rfl ⟨rfl, HE.bel⟩
            · have H2 := Lib.hid h2'
              have hm2 : ¬ (0 : Int) ≤ t2 := h2'
              have hl7 := HB.out.x.lt
              have hl8 := HB.out.a.lt
              go_upto_region 17 with (first
                | (refine wpList_lays (w := wr) rfl 34 rfl (.pointer (some ⟨wr.heap.size, 0, none⟩)) (.cells (celL (zeroSd 0)).toArray 34) (by kernel_rfl) ?_)
                | (refine wpList_lays (w := wr.alloc (.cells (celL (zeroSd 0)).toArray 34)) rfl 34 rfl (.pointer (some ⟨(wr.alloc (.cells (celL (zeroSd 0)).toArray 34)).heap.size, 0, none⟩)) (.cells (celL (zeroSd 0)).toArray 34) (by kernel_rfl) ?_))
              have hD : Dq w ((wr.alloc (.cells (celL (zeroSd 0)).toArray 34)).alloc (.cells (celL (zeroSd 0)).toArray 34)) g7 g8 wr.heap.size (wr.alloc (.cells (celL (zeroSd 0)).toArray 34)).heap.size (someC S 0) (firstC S o 0) :=
                ⟨HB.out.below (by go_grown), holds_past (holds_alloc wr _ _) _, holds_alloc _ _ _, hl7, hl8, by rw [World.size_alloc]; omega⟩
              generalize (wr.alloc (.cells (celL (zeroSd 0)).toArray 34)).heap.size = g13 at hD ⊢
              generalize wr.heap.size = g12 at hD ⊢
              go_name_world W0 hW0
              rw [hW0] at hD
              clear hW0 hl7 hl8
              have HD := Lib.hid hD; clear hD HB
              go_wp2_with fail
              go_loopw [14, 15, 16] (fun th c i wr => ∃ k : Nat, k ≤ j ∧ i = .int .i64 k ∧ th = .bool (thereTo S o k) ∧ c = .int .i64 (sameTo S o k : Nat) ∧ Dq w wr g7 g8 g12 g13 (someC S k) (firstC S o k)) (fun _ _ i _ => j - (intOf i).toNat)
              case atStart => exact ⟨0, by omega, rfl, rfl, rfl, HD.out⟩
              case round =>
                clear HD
                obtain ⟨k, hk, rfl, rfl, rfl, hd⟩ := hrel
                have HD := Lib.hid hd; clear hd
                by_cases h3 : k < j
                · obtain ⟨b, off, rfl, hlt⟩ := HV.out.spot (by omega)
                  have HTH := Lib.hid (show thereTo S o (k + 1) = (thereTo S o k || (S k).r == o) from rfl)
                  have HSM := Lib.hid (show sameTo S o (k + 1) = sameTo S o k + if counts S o k = true then 1 else 0 from rfl)
                  have HSC := Lib.hid (someC_next S k)
                  have HFC := Lib.hid (firstC_next S o k)
                  have hsl := sameTo_le S o k
                  have hb1 := bestTo_some S 1 k
                  have hsd : (bestTo S 1 k < 0 ∧ (someC S k).st = 0) ∨ (¬ bestTo S 1 k < 0 ∧ (someC S k).st = 1 ∧ someC S k = S (bestTo S 1 k).toNat) := by
                    unfold someC
                    rcases hb1 with ⟨h, _⟩ | ⟨m, _, h, hs⟩
                    · rw [h]; exact .inl ⟨by omega, by simp [zeroSd]⟩
                    · rw [h]; exact .inr ⟨by omega, by rw [if_neg (by omega), Int.toNat_natCast]; exact hs, by rw [if_neg (by omega)]⟩
                  clear hb1
                  have hrg : wr.rangeAt b (off + k * 22 + 1) (celL (S k)) := fun u v hu => by
                    have := HV.out.range HD.out.bel h3 (u + 1) v (by rw [sd_cel]; exact hu)
                    rw [Nat.add_assoc, Nat.add_comm 1 u]; exact this
                  have HRG := Lib.hid hrg; clear hrg
                  go_upto_region 22 with (first
                    | (refine wpList_load_mid rfl 34 _ rfl b (off + k * 22 + 1) rfl _ _ HRG.out Try.underlying34 rfl (by kernel_rfl) ?_)
                    | (refine wpList_store_new rfl 34 _ _ rfl rfl _ _ (celL (S k)).toArray rfl rfl (by kernel_rfl) (by kernel_rfl) (celL_all _) ?_))
                  have hx := holds_alloc wr 34 (celL (S k))
                  have hd := HD.out.below (show Below wr.heap.size wr (wr.alloc (.cells (celL (S k)).toArray 34)) by go_grown)
                  have hl13 := HD.out.h13.lt
                  generalize wr.heap.size = gx at hx hl13 ⊢
                  go_name_world W3 hW3
                  rw [hW3] at hx hd
                  clear hW3 HRG
                  have HD := Lib.hid hd; have HX := Lib.hid hx; clear hd hx
                  have c0 := HV.out.at HD.out.bel h3 0 (by omega)
                  simp only [Sd.cells, List.getElem?_cons_zero, Nat.add_zero] at c0
                  generalize thereTo S o k = th at HTH ⊢
                  generalize hXe : S k = X at HTH HX c0 HSC HFC ⊢
                  have HXE := Lib.hid hXe; clear hXe
                  go_cut [14] from 108 to 147 (fun t wx => t = .bool (thereTo S o (k + 1)) ∧ wx = W3)
                  case first =>
                    cases th
                    · by_cases hro : X.r = o
                      · have e1 : (X.r == o) = true := by simp [hro]
                        rw [e1] at HTH
                        clear hro
                        go_wp2_with fail
                        go_meet
                        exact ⟨by rw [HTH.out]; rfl, rfl⟩
                      · have e1 : (X.r == o) = false := by simp [hro]
                        rw [e1] at HTH
                        clear hro
                        go_wp2_with fail
                        go_meet
                        exact ⟨by rw [HTH.out]; rfl, rfl⟩
                    · go_wp2_with fail
                      go_meet
                      exact ⟨by rw [HTH.out]; rfl, rfl⟩
                  case rest =>
                    obtain ⟨rfl, rfl⟩ := hcut
                    clear HTH c0
                    have x0 := HX.out.cell 0
                    simp only [celL, List.getElem?_cons_zero] at x0
                    by_cases hst : X.st = 1
                    · have e1 : (X.st == 1) = true := by simp [hst]
                      have e2 : (X.st != 1) = false := by simp [hst]
                      have HST := Lib.hid hst; clear hst
                      have s0 := HD.out.h12.cell 0
                      have s3 := HD.out.h12.cell 3
                      have s4 := HD.out.h12.cell 4
                      have x3 := HX.out.cell 3
                      have x4 := HX.out.cell 4
                      simp only [celL, List.getElem?_cons_zero, List.getElem?_cons_succ] at s0 s3 s4 x3 x4
                      rcases hsd with ⟨hb0, hs0⟩ | ⟨hb0, hs0, hsm⟩
                      · have ht : takes S 1 (bestTo S 1 k) k = true := by unfold takes; rw [HXE.out, HST.out]; simp [hb0]
                        rw [if_pos ht] at HSC
                        have e3 : ((someC S k).st == 0) = true := by simp [hs0]
                        clear ht hb0 hs0
                        have HXR := Lib.hid (holds_range HX.out)
                        go_upto_region 26 with (first
                          | (refine wpList_load_mid rfl 34 _ rfl gx 0 rfl _ _ HXR.out Try.underlying34 rfl (by kernel_rfl) ?_)
                          | (refine wpList_store_row rfl 34 _ _ rfl rfl g12 _ (celL X).toArray 34 HD.out.h12 rfl rfl (by kernel_rfl) (by kernel_rfl) (celL_all _) ?_))
                        have hd := HD.out.put12 X
                        have hx := holds_setRow HX.out (show gx ≠ g12 by have := HD.out.n3; omega) (celL X).toArray
                        go_name_world W5 hW5
                        rw [hW5] at hd hx
                        clear hW5 HXR
                        have HD := Lib.hid hd; have HX := Lib.hid hx; clear hd hx
                        clear s0 s3 s4 x0 x3 x4 e1 e2 e3
                        have c0 := HV.out.at HD.out.bel h3 0 (by omega)
                        simp only [Sd.cells, List.getElem?_cons_zero, Nat.add_zero] at c0
                        rw [HXE.out] at c0
                        have x20 := HX.out.cell 20
                        simp only [celL, List.getElem?_cons_zero, List.getElem?_cons_succ] at x20
                        by_cases hro : X.r = o
                        · have e1 : (X.r == o) = true := by simp [hro]
                          have e2 : (X.r != o) = false := by simp [hro]
                          have hcn : counts S o k = false := by unfold counts; rw [HXE.out]; simp [hro]
                          rw [hcn] at HSM HFC
                          clear hcn hro
                          go_wp2_with fail
                          go_roundw
                          case rel => exact ⟨k + 1, by omega, by go_num, rfl, by rw [HSM.out]; simp, by rw [HSC.out, HFC.out]; simp only [Bool.false_eq_true, if_false, false_and]; exact HD.out⟩
                          case measure => simp [intOf]; omega
                        · have e1 : (X.r == o) = false := by simp [hro]
                          have e2 : (X.r != o) = true := by simp [hro]
                          have hcn : counts S o k = X.same := by unfold counts; rw [HXE.out, HST.out]; simp [hro]
                          rw [hcn] at HSM HFC
                          clear hcn hro
                          generalize X.same = sme at x20 HSM HFC
                          cases sme
                          · go_wp2_with fail
                            go_roundw
                            case rel => exact ⟨k + 1, by omega, by go_num, rfl, by rw [HSM.out]; simp, by rw [HSC.out, HFC.out]; simp only [Bool.false_eq_true, if_false, false_and]; exact HD.out⟩
                            case measure => simp [intOf]; omega
                          · by_cases hz : sameTo S o k = 0
                            · have e4 : (((sameTo S o k : Nat) : Int) == 0) = true := by simp [hz]
                              rw [if_pos ⟨rfl, hz⟩] at HFC
                              have HZ := Lib.hid hz; clear hz
                              have HXR := Lib.hid (holds_range HX.out)
                              generalize hsn : sameTo S o k = sn at e4 HSM hsl ⊢
                              clear hsn
                              go_wp2_with (first
                                | (refine wpList_load_mid rfl 34 _ rfl gx 0 rfl _ _ HXR.out Try.underlying34 rfl (by kernel_rfl) ?_)
                                | (refine wpList_store_row rfl 34 _ _ rfl rfl g13 _ (celL X).toArray 34 HD.out.h13 rfl rfl (by kernel_rfl) (by kernel_rfl) (celL_all _) ?_))
                              have HD := Lib.hid (HD.out.put13 X)
                              go_roundw
                              case rel => exact ⟨k + 1, by omega, by go_num, rfl, by rw [HSM.out]; simp, by rw [HSC.out, HFC.out]; exact HD.out⟩
                              case measure => simp [intOf]; omega
                            · have e4 : (((sameTo S o k : Nat) : Int) == 0) = false := by simp [hz]
                              rw [if_neg (fun h => hz h.2)] at HFC
                              clear hz
                              generalize hsn : sameTo S o k = sn at e4 HSM hsl ⊢
                              clear hsn
                              go_wp2_with fail
                              go_roundw
                              case rel => exact ⟨k + 1, by omega, by go_num, rfl, by rw [HSM.out]; simp, by rw [HSC.out, HFC.out]; exact HD.out⟩
                              case measure => simp [intOf]; omega
                      · have e3 : ((someC S k).st == 0) = false := by simp [hs0]
                        have ht : takes S 1 (bestTo S 1 k) k = below (someC S k).ve (someC S k).vr X.ve X.vr := by unfold takes; rw [HXE.out, HST.out, hsm, decide_eq_false hb0]; simp
                        rw [ht] at HSC
                        have hdb := fun W => dbelow_any (someC S k).ve (someC S k).vr X.ve X.vr W
                        generalize hq : below (someC S k).ve (someC S k).vr X.ve X.vr = q at hdb HSC
                        have HDB := Lib.hid hdb; clear hdb hq ht hb0 hs0 hsm
                        go_wp2_with fail
                        refine (HDB.out _).mono ?_
                        rintro e w5 ⟨rfl, hb⟩
                        have HX := Lib.hid (HX.out.below hb HX.out.lt)
                        have HD := Lib.hid (HD.out.below hb)
                        clear hb HDB s0 s3 s4 x0 x3 x4 e1 e2 e3
                        cases q
                        · rw [if_neg (by simp)] at HSC
                          generalize hW5 : w5 = W5 at HX HD ⊢
                          clear hW5
                          have c0 := HV.out.at HD.out.bel h3 0 (by omega)
                          simp only [Sd.cells, List.getElem?_cons_zero, Nat.add_zero] at c0
                          rw [HXE.out] at c0
                          have x20 := HX.out.cell 20
                          simp only [celL, List.getElem?_cons_zero, List.getElem?_cons_succ] at x20
                          by_cases hro : X.r = o
                          · have e1 : (X.r == o) = true := by simp [hro]
                            have e2 : (X.r != o) = false := by simp [hro]
                            have hcn : counts S o k = false := by unfold counts; rw [HXE.out]; simp [hro]
                            rw [hcn] at HSM HFC
                            clear hcn hro
                            go_wp2_with fail
                            go_roundw
                            case rel => exact ⟨k + 1, by omega, by go_num, rfl, by rw [HSM.out]; simp, by rw [HSC.out, HFC.out]; simp only [Bool.false_eq_true, if_false, false_and]; exact HD.out⟩
                            case measure => simp [intOf]; omega
                          · have e1 : (X.r == o) = false := by simp [hro]
                            have e2 : (X.r != o) = true := by simp [hro]
                            have hcn : counts S o k = X.same := by unfold counts; rw [HXE.out, HST.out]; simp [hro]
                            rw [hcn] at HSM HFC
                            clear hcn hro
                            generalize X.same = sme at x20 HSM HFC
                            cases sme
                            · go_wp2_with fail
                              go_roundw
                              case rel => exact ⟨k + 1, by omega, by go_num, rfl, by rw [HSM.out]; simp, by rw [HSC.out, HFC.out]; simp only [Bool.false_eq_true, if_false, false_and]; exact HD.out⟩
                              case measure => simp [intOf]; omega
                            · by_cases hz : sameTo S o k = 0
                              · have e4 : (((sameTo S o k : Nat) : Int) == 0) = true := by simp [hz]
                                rw [if_pos ⟨rfl, hz⟩] at HFC
                                have HZ := Lib.hid hz; clear hz
                                have HXR := Lib.hid (holds_range HX.out)
                                generalize hsn : sameTo S o k = sn at e4 HSM hsl ⊢
                                clear hsn
                                go_wp2_with (first
                                  | (refine wpList_load_mid rfl 34 _ rfl gx 0 rfl _ _ HXR.out Try.underlying34 rfl (by kernel_rfl) ?_)
                                  | (refine wpList_store_row rfl 34 _ _ rfl rfl g13 _ (celL X).toArray 34 HD.out.h13 rfl rfl (by kernel_rfl) (by kernel_rfl) (celL_all _) ?_))
                                have HD := Lib.hid (HD.out.put13 X)
                                go_roundw
                                case rel => exact ⟨k + 1, by omega, by go_num, rfl, by rw [HSM.out]; simp, by rw [HSC.out, HFC.out]; exact HD.out⟩
                                case measure => simp [intOf]; omega
                              · have e4 : (((sameTo S o k : Nat) : Int) == 0) = false := by simp [hz]
                                rw [if_neg (fun h => hz h.2)] at HFC
                                clear hz
                                generalize hsn : sameTo S o k = sn at e4 HSM hsl ⊢
                                clear hsn
                                go_wp2_with fail
                                go_roundw
                                case rel => exact ⟨k + 1, by omega, by go_num, rfl, by rw [HSM.out]; simp, by rw [HSC.out, HFC.out]; exact HD.out⟩
                                case measure => simp [intOf]; omega
                        · rw [if_pos rfl] at HSC
                          have HXR := Lib.hid (holds_range HX.out)
                          go_upto_region 26 with (first
                            | (refine wpList_load_mid rfl 34 _ rfl gx 0 rfl _ _ HXR.out Try.underlying34 rfl (by kernel_rfl) ?_)
                            | (refine wpList_store_row rfl 34 _ _ rfl rfl g12 _ (celL X).toArray 34 HD.out.h12 rfl rfl (by kernel_rfl) (by kernel_rfl) (celL_all _) ?_))
                          have hd := HD.out.put12 X
                          have hx := holds_setRow HX.out (show gx ≠ g12 by have := HD.out.n3; omega) (celL X).toArray
                          go_name_world W5 hW5
                          rw [hW5] at hd hx
                          clear hW5 HXR
                          have HD := Lib.hid hd; have HX := Lib.hid hx; clear hd hx
                          have c0 := HV.out.at HD.out.bel h3 0 (by omega)
                          simp only [Sd.cells, List.getElem?_cons_zero, Nat.add_zero] at c0
                          rw [HXE.out] at c0
                          have x20 := HX.out.cell 20
                          simp only [celL, List.getElem?_cons_zero, List.getElem?_cons_succ] at x20
                          by_cases hro : X.r = o
                          · have e1 : (X.r == o) = true := by simp [hro]
                            have e2 : (X.r != o) = false := by simp [hro]
                            have hcn : counts S o k = false := by unfold counts; rw [HXE.out]; simp [hro]
                            rw [hcn] at HSM HFC
                            clear hcn hro
                            go_wp2_with fail
                            go_roundw
                            case rel => exact ⟨k + 1, by omega, by go_num, rfl, by rw [HSM.out]; simp, by rw [HSC.out, HFC.out]; simp only [Bool.false_eq_true, if_false, false_and]; exact HD.out⟩
                            case measure => simp [intOf]; omega
                          · have e1 : (X.r == o) = false := by simp [hro]
                            have e2 : (X.r != o) = true := by simp [hro]
                            have hcn : counts S o k = X.same := by unfold counts; rw [HXE.out, HST.out]; simp [hro]
                            rw [hcn] at HSM HFC
                            clear hcn hro
                            generalize X.same = sme at x20 HSM HFC
                            cases sme
                            · go_wp2_with fail
                              go_roundw
                              case rel => exact ⟨k + 1, by omega, by go_num, rfl, by rw [HSM.out]; simp, by rw [HSC.out, HFC.out]; simp only [Bool.false_eq_true, if_false, false_and]; exact HD.out⟩
                              case measure => simp [intOf]; omega
                            · by_cases hz : sameTo S o k = 0
                              · have e4 : (((sameTo S o k : Nat) : Int) == 0) = true := by simp [hz]
                                rw [if_pos ⟨rfl, hz⟩] at HFC
                                have HZ := Lib.hid hz; clear hz
                                have HXR := Lib.hid (holds_range HX.out)
                                generalize hsn : sameTo S o k = sn at e4 HSM hsl ⊢
                                clear hsn
                                go_wp2_with (first
                                  | (refine wpList_load_mid rfl 34 _ rfl gx 0 rfl _ _ HXR.out Try.underlying34 rfl (by kernel_rfl) ?_)
                                  | (refine wpList_store_row rfl 34 _ _ rfl rfl g13 _ (celL X).toArray 34 HD.out.h13 rfl rfl (by kernel_rfl) (by kernel_rfl) (celL_all _) ?_))
                                have HD := Lib.hid (HD.out.put13 X)
                                go_roundw
                                case rel => exact ⟨k + 1, by omega, by go_num, rfl, by rw [HSM.out]; simp, by rw [HSC.out, HFC.out]; exact HD.out⟩
                                case measure => simp [intOf]; omega
                              · have e4 : (((sameTo S o k : Nat) : Int) == 0) = false := by simp [hz]
                                rw [if_neg (fun h => hz h.2)] at HFC
                                clear hz
                                generalize hsn : sameTo S o k = sn at e4 HSM hsl ⊢
                                clear hsn
                                go_wp2_with fail
                                go_roundw
                                case rel => exact ⟨k + 1, by omega, by go_num, rfl, by rw [HSM.out]; simp, by rw [HSC.out, HFC.out]; exact HD.out⟩
                                case measure => simp [intOf]; omega
                    · have e1 : (X.st == 1) = false := by simp [hst]
                      have e2 : (X.st != 1) = true := by simp [hst]
                      have hcn : counts S o k = false := by unfold counts; rw [HXE.out]; simp [hst]
                      have htk : takes S 1 (bestTo S 1 k) k = false := by unfold takes; rw [HXE.out]; simp [hst]
                      rw [hcn] at HSM HFC
                      rw [htk] at HSC
                      clear hcn htk hst hsd
                      go_wp2_with fail
                      go_roundw
                      case rel => exact ⟨k + 1, by omega, by go_num, rfl, by rw [HSM.out]; simp, by rw [HSC.out, HFC.out]; simp only [Bool.false_eq_true, if_false, false_and]; exact HD.out⟩
                      case measure => simp [intOf]; omega
                · have hkj : k = j := by omega
                  subst hkj
                  have HB := Lib.hid HD.out.bx
                  have hf := firstTo_lt S o k
                  have hr := HR.out
                  rw [if_neg (show ¬ (0 : Int) ≤ t2 by have := H2.out; omega)] at hr
                  have s0 := HD.out.h12.cell 0
                  simp only [celL, List.getElem?_cons_zero] at s0
                  rcases bestTo_some S 1 k with ⟨hb0, _⟩ | ⟨m, hmk, hb0, hms⟩
                  · rw [if_pos (show bestTo S 1 k < 0 by omega)] at hr
                    have HR := Lib.hid hr; clear hr
                    have hs0 : (someC S k).st = 0 := by unfold someC; rw [if_pos (by omega)]; rfl
                    have e3 : ((someC S k).st == 0) = true := by simp [hs0]
                    clear hs0 hb0
                    have z0 := HB.out.x.cell 0
                    have z1 := HB.out.x.cell 1
                    have z2 := HB.out.x.cell 2
                    have z3 := HB.out.x.cell 3
                    have z4 := HB.out.x.cell 4
                    have z5 := HB.out.x.cell 5
                    have z6 := HB.out.x.cell 6
                    have u0 := HB.out.a.cell 0
                    have u1 := HB.out.a.cell 1
                    have u2 := HB.out.a.cell 2
                    have u3 := HB.out.a.cell 3
                    have u4 := HB.out.a.cell 4
                    have u5 := HB.out.a.cell 5
                    have u6 := HB.out.a.cell 6
                    have u7 := HB.out.a.cell 7
                    simp only [Cm.cells, At.cells, Cm.zero, At.of, List.getElem?_cons_zero, List.getElem?_cons_succ] at z0 z1 z2 z3 z4 z5 z6 u0 u1 u2 u3 u4 u5 u6 u7
                    have zf := fun i => HB.out.x.free i
                    have uf := fun i => HB.out.a.free i
                    have hne := HB.out.ne
                    have hne' := Ne.symm hne
                    go_wp2_with fail
                    clear s0 e3 z0 z1 z2 z3 z4 z5 z6 u0 u1 u2 u3 u4 u5 u6 u7 zf uf
                    have HE : Bx w ((((((((((((((((wr.setCell ⟨g7, 0, none⟩ (.int .i64 0)).setCell ⟨g7, 1, none⟩ (.int .i64 0)).setCell ⟨g7, 2, none⟩ (.int .i64 0)).setCell ⟨g7, 3, none⟩ (.string ⟨#[]⟩)).setCell ⟨g7, 4, none⟩ (.string ⟨#[]⟩)).setCell ⟨g7, 5, none⟩ (.string ⟨#[]⟩)).setCell ⟨g7, 6, none⟩ (.string ⟨#[]⟩)).setCell ⟨g8, 0, none⟩ (.int .i64 0)).setCell ⟨g8, 1, none⟩ (.int .i64 0)).setCell ⟨g8, 2, none⟩ (.int .i64 0)).setCell ⟨g8, 3, none⟩ (.int .i64 0)).setCell ⟨g8, 4, none⟩ (.int .i64 0)).setCell ⟨g8, 5, none⟩ (.int .i64 0)).setCell ⟨g8, 6, none⟩ (.int .i64 0)).setCell ⟨g8, 7, none⟩ (.int .i64 0))) g7 g8 Cm.zero (At.of 0) := (HB.out.set Cm.zero (At.of 0))
                    generalize (((((((((((((((wr.setCell ⟨g7, 0, none⟩ (.int .i64 0)).setCell ⟨g7, 1, none⟩ (.int .i64 0)).setCell ⟨g7, 2, none⟩ (.int .i64 0)).setCell ⟨g7, 3, none⟩ (.string ⟨#[]⟩)).setCell ⟨g7, 4, none⟩ (.string ⟨#[]⟩)).setCell ⟨g7, 5, none⟩ (.string ⟨#[]⟩)).setCell ⟨g7, 6, none⟩ (.string ⟨#[]⟩)).setCell ⟨g8, 0, none⟩ (.int .i64 0)).setCell ⟨g8, 1, none⟩ (.int .i64 0)).setCell ⟨g8, 2, none⟩ (.int .i64 0)).setCell ⟨g8, 3, none⟩ (.int .i64 0)).setCell ⟨g8, 4, none⟩ (.int .i64 0)).setCell ⟨g8, 5, none⟩ (.int .i64 0)).setCell ⟨g8, 6, none⟩ (.int .i64 0)).setCell ⟨g8, 7, none⟩ (.int .i64 0)) = W3 at HE ⊢
                    have y0 := HE.x.cell 0
                    have y1 := HE.x.cell 1
                    have y2 := HE.x.cell 2
                    have y3 := HE.x.cell 3
                    have y4 := HE.x.cell 4
                    have y5 := HE.x.cell 5
                    have y6 := HE.x.cell 6
                    have q0 := HE.a.cell 0
                    have q1 := HE.a.cell 1
                    have q2 := HE.a.cell 2
                    have q3 := HE.a.cell 3
                    have q4 := HE.a.cell 4
                    have q5 := HE.a.cell 5
                    have q6 := HE.a.cell 6
                    have q7 := HE.a.cell 7
                    simp only [Cm.cells, At.cells, List.getElem?_cons_zero, List.getElem?_cons_succ] at y0 y1 y2 y3 y4 y5 y6 q0 q1 q2 q3 q4 q5 q6 q7
                    have hr : R = (4, Cm.zero, (At.of 0)) := by rw [HR.out]; skip
                    rw [hr]
                    exact bodyPost_ret (v := .tuple #[.int .i64 4, .agg (Cm.zero).cells.toArray, .agg ((At.of 0)).cells.toArray]) (by simp [results, Try.results22, go_sem, y0, y1, y2, y3, y4, y5, y6, q0, q1, q2, q3, q4, q5, q6, q7, Cm.cells, At.cells, Cm.zero, At.of]) rfl ⟨rfl, HE.bel⟩
                  · rw [if_neg (show ¬ bestTo S 1 k < 0 by omega)] at hr
                    have hsc : someC S k = S m := by unfold someC; rw [if_neg (by omega), hb0, Int.toNat_natCast]
                    have e3 : ((someC S k).st == 0) = false := by rw [hsc, hms]; rfl
                    by_cases h5 : thereTo S o k = false ∧ K / 2 ≤ sameTo S o k
                    · rw [if_pos h5] at hr
                      obtain ⟨h6, h7⟩ := h5
                      have hfc : firstC S o k = S (firstTo S o k).toNat := by unfold firstC; rw [if_neg (by omega)]
                      rw [← hfc] at hr
                      have HR := Lib.hid hr; clear hr
                      have HF := Lib.hid HD.out.h13
                      have h8 : (K : Int) / 2 ≤ ((sameTo S o k : Nat) : Int) := by omega
                      generalize firstC S o k = F at HR HF
                      rw [h6]
                      generalize sameTo S o k = sn at h8 ⊢
                      generalize someC S k = A at s0 e3
                      clear hsc hfc hf HD
                      have c5 := HF.out.cell 5
                      have c6 := HF.out.cell 6
                      have c7 := HF.out.cell 7
                      have c8 := HF.out.cell 8
                      have c9 := HF.out.cell 9
                      have c10 := HF.out.cell 10
                      have c11 := HF.out.cell 11
                      have c12 := HF.out.cell 12
                      have c13 := HF.out.cell 13
                      have c14 := HF.out.cell 14
                      have c15 := HF.out.cell 15
                      have c16 := HF.out.cell 16
                      have c17 := HF.out.cell 17
                      have c18 := HF.out.cell 18
                      have c19 := HF.out.cell 19
                      simp only [celL, List.getElem?_cons_zero, List.getElem?_cons_succ] at c5 c6 c7 c8 c9 c10 c11 c12 c13 c14 c15 c16 c17 c18 c19
                      have z0 := HB.out.x.cell 0
                      have z1 := HB.out.x.cell 1
                      have z2 := HB.out.x.cell 2
                      have z3 := HB.out.x.cell 3
                      have z4 := HB.out.x.cell 4
                      have z5 := HB.out.x.cell 5
                      have z6 := HB.out.x.cell 6
                      have u0 := HB.out.a.cell 0
                      have u1 := HB.out.a.cell 1
                      have u2 := HB.out.a.cell 2
                      have u3 := HB.out.a.cell 3
                      have u4 := HB.out.a.cell 4
                      have u5 := HB.out.a.cell 5
                      have u6 := HB.out.a.cell 6
                      have u7 := HB.out.a.cell 7
                      simp only [Cm.cells, At.cells, Cm.zero, At.of, List.getElem?_cons_zero, List.getElem?_cons_succ] at z0 z1 z2 z3 z4 z5 z6 u0 u1 u2 u3 u4 u5 u6 u7
                      have zf := fun i => HB.out.x.free i
                      have uf := fun i => HB.out.a.free i
                      have hne := HB.out.ne
                      have hne' := Ne.symm hne
                      go_upto_region 33 with (fail)
                      go_region
                      go_wp2_with fail
                      clear s0 e3 z0 z1 z2 z3 z4 z5 z6 u0 u1 u2 u3 u4 u5 u6 u7 zf uf c5 c6 c7 c8 c9 c10 c11 c12 c13 c14 c15 c16 c17 c18 c19
                      have HE : Bx w ((((((((((((((((wr.setCell ⟨g7, 0, none⟩ (.int .i64 F.x.k)).setCell ⟨g7, 1, none⟩ (.int .i64 F.x.c)).setCell ⟨g7, 2, none⟩ (.int .i64 F.x.s)).setCell ⟨g7, 3, none⟩ (.string F.x.a)).setCell ⟨g7, 4, none⟩ (.string F.x.b)).setCell ⟨g7, 5, none⟩ (.string F.x.o)).setCell ⟨g7, 6, none⟩ (.string F.x.v)).setCell ⟨g8, 0, none⟩ (.int .i64 F.a.q)).setCell ⟨g8, 1, none⟩ (.int .i64 (F.a.d 0))).setCell ⟨g8, 2, none⟩ (.int .i64 (F.a.d 1))).setCell ⟨g8, 3, none⟩ (.int .i64 (F.a.d 2))).setCell ⟨g8, 4, none⟩ (.int .i64 (F.a.d 3))).setCell ⟨g8, 5, none⟩ (.int .i64 (F.a.d 4))).setCell ⟨g8, 6, none⟩ (.int .i64 (F.a.d 5))).setCell ⟨g8, 7, none⟩ (.int .i64 (F.a.d 6))).drew) g7 g8 F.x F.a := (HB.out.set F.x F.a).drew
                      generalize (((((((((((((((wr.setCell ⟨g7, 0, none⟩ (.int .i64 F.x.k)).setCell ⟨g7, 1, none⟩ (.int .i64 F.x.c)).setCell ⟨g7, 2, none⟩ (.int .i64 F.x.s)).setCell ⟨g7, 3, none⟩ (.string F.x.a)).setCell ⟨g7, 4, none⟩ (.string F.x.b)).setCell ⟨g7, 5, none⟩ (.string F.x.o)).setCell ⟨g7, 6, none⟩ (.string F.x.v)).setCell ⟨g8, 0, none⟩ (.int .i64 F.a.q)).setCell ⟨g8, 1, none⟩ (.int .i64 (F.a.d 0))).setCell ⟨g8, 2, none⟩ (.int .i64 (F.a.d 1))).setCell ⟨g8, 3, none⟩ (.int .i64 (F.a.d 2))).setCell ⟨g8, 4, none⟩ (.int .i64 (F.a.d 3))).setCell ⟨g8, 5, none⟩ (.int .i64 (F.a.d 4))).setCell ⟨g8, 6, none⟩ (.int .i64 (F.a.d 5))).setCell ⟨g8, 7, none⟩ (.int .i64 (F.a.d 6))).drew = W3 at HE ⊢
                      have y0 := HE.x.cell 0
                      have y1 := HE.x.cell 1
                      have y2 := HE.x.cell 2
                      have y3 := HE.x.cell 3
                      have y4 := HE.x.cell 4
                      have y5 := HE.x.cell 5
                      have y6 := HE.x.cell 6
                      have q0 := HE.a.cell 0
                      have q1 := HE.a.cell 1
                      have q2 := HE.a.cell 2
                      have q3 := HE.a.cell 3
                      have q4 := HE.a.cell 4
                      have q5 := HE.a.cell 5
                      have q6 := HE.a.cell 6
                      have q7 := HE.a.cell 7
                      simp only [Cm.cells, At.cells, List.getElem?_cons_zero, List.getElem?_cons_succ] at y0 y1 y2 y3 y4 y5 y6 q0 q1 q2 q3 q4 q5 q6 q7
                      have hr : R = (2, F.x, F.a) := by rw [HR.out]; skip
                      rw [hr]
                      exact bodyPost_ret (v := .tuple #[.int .i64 2, .agg (F.x).cells.toArray, .agg (F.a).cells.toArray]) (by simp [results, Try.results22, go_sem, y0, y1, y2, y3, y4, y5, y6, q0, q1, q2, q3, q4, q5, q6, q7, Cm.cells, At.cells, Cm.zero, At.of]) rfl ⟨rfl, HE.bel⟩
                    · rw [if_neg h5] at hr
                      have h6 : thereTo S o k = true ∨ (thereTo S o k = false ∧ ¬ (K : Int) / 2 ≤ ((sameTo S o k : Nat) : Int)) := by
                        cases ht : thereTo S o k
                        · exact .inr ⟨rfl, fun h => h5 ⟨ht, by omega⟩⟩
                        · exact .inl rfl
                      rw [hb0, Int.toNat_natCast, ← hsc] at hr
                      have HR := Lib.hid hr; clear hr
                      have HF := Lib.hid HD.out.h12
                      clear hf HD h5 hsc
                      generalize someC S k = A at HR HF s0 e3
                      generalize sameTo S o k = sn at h6 ⊢
                      rcases h6 with h6 | ⟨h6, h7⟩
                      all_goals
                        rw [h6]
                        clear h6
                        have c5 := HF.out.cell 5
                        have c6 := HF.out.cell 6
                        have c7 := HF.out.cell 7
                        have c8 := HF.out.cell 8
                        have c9 := HF.out.cell 9
                        have c10 := HF.out.cell 10
                        have c11 := HF.out.cell 11
                        have c12 := HF.out.cell 12
                        have c13 := HF.out.cell 13
                        have c14 := HF.out.cell 14
                        have c15 := HF.out.cell 15
                        have c16 := HF.out.cell 16
                        have c17 := HF.out.cell 17
                        have c18 := HF.out.cell 18
                        have c19 := HF.out.cell 19
                        simp only [celL, List.getElem?_cons_zero, List.getElem?_cons_succ] at c5 c6 c7 c8 c9 c10 c11 c12 c13 c14 c15 c16 c17 c18 c19
                        have z0 := HB.out.x.cell 0
                        have z1 := HB.out.x.cell 1
                        have z2 := HB.out.x.cell 2
                        have z3 := HB.out.x.cell 3
                        have z4 := HB.out.x.cell 4
                        have z5 := HB.out.x.cell 5
                        have z6 := HB.out.x.cell 6
                        have u0 := HB.out.a.cell 0
                        have u1 := HB.out.a.cell 1
                        have u2 := HB.out.a.cell 2
                        have u3 := HB.out.a.cell 3
                        have u4 := HB.out.a.cell 4
                        have u5 := HB.out.a.cell 5
                        have u6 := HB.out.a.cell 6
                        have u7 := HB.out.a.cell 7
                        simp only [Cm.cells, At.cells, Cm.zero, At.of, List.getElem?_cons_zero, List.getElem?_cons_succ] at z0 z1 z2 z3 z4 z5 z6 u0 u1 u2 u3 u4 u5 u6 u7
                        have zf := fun i => HB.out.x.free i
                        have uf := fun i => HB.out.a.free i
                        have hne := HB.out.ne
                        have hne' := Ne.symm hne
                        go_upto_region 34 with (fail)
                        go_region
                        go_wp2_with fail
                        clear s0 e3 z0 z1 z2 z3 z4 z5 z6 u0 u1 u2 u3 u4 u5 u6 u7 zf uf c5 c6 c7 c8 c9 c10 c11 c12 c13 c14 c15 c16 c17 c18 c19
                        have HE : Bx w ((((((((((((((((wr.setCell ⟨g7, 0, none⟩ (.int .i64 A.x.k)).setCell ⟨g7, 1, none⟩ (.int .i64 A.x.c)).setCell ⟨g7, 2, none⟩ (.int .i64 A.x.s)).setCell ⟨g7, 3, none⟩ (.string A.x.a)).setCell ⟨g7, 4, none⟩ (.string A.x.b)).setCell ⟨g7, 5, none⟩ (.string A.x.o)).setCell ⟨g7, 6, none⟩ (.string A.x.v)).setCell ⟨g8, 0, none⟩ (.int .i64 A.a.q)).setCell ⟨g8, 1, none⟩ (.int .i64 (A.a.d 0))).setCell ⟨g8, 2, none⟩ (.int .i64 (A.a.d 1))).setCell ⟨g8, 3, none⟩ (.int .i64 (A.a.d 2))).setCell ⟨g8, 4, none⟩ (.int .i64 (A.a.d 3))).setCell ⟨g8, 5, none⟩ (.int .i64 (A.a.d 4))).setCell ⟨g8, 6, none⟩ (.int .i64 (A.a.d 5))).setCell ⟨g8, 7, none⟩ (.int .i64 (A.a.d 6))).drew) g7 g8 A.x A.a := (HB.out.set A.x A.a).drew
                        generalize (((((((((((((((wr.setCell ⟨g7, 0, none⟩ (.int .i64 A.x.k)).setCell ⟨g7, 1, none⟩ (.int .i64 A.x.c)).setCell ⟨g7, 2, none⟩ (.int .i64 A.x.s)).setCell ⟨g7, 3, none⟩ (.string A.x.a)).setCell ⟨g7, 4, none⟩ (.string A.x.b)).setCell ⟨g7, 5, none⟩ (.string A.x.o)).setCell ⟨g7, 6, none⟩ (.string A.x.v)).setCell ⟨g8, 0, none⟩ (.int .i64 A.a.q)).setCell ⟨g8, 1, none⟩ (.int .i64 (A.a.d 0))).setCell ⟨g8, 2, none⟩ (.int .i64 (A.a.d 1))).setCell ⟨g8, 3, none⟩ (.int .i64 (A.a.d 2))).setCell ⟨g8, 4, none⟩ (.int .i64 (A.a.d 3))).setCell ⟨g8, 5, none⟩ (.int .i64 (A.a.d 4))).setCell ⟨g8, 6, none⟩ (.int .i64 (A.a.d 5))).setCell ⟨g8, 7, none⟩ (.int .i64 (A.a.d 6))).drew = W3 at HE ⊢
                        have y0 := HE.x.cell 0
                        have y1 := HE.x.cell 1
                        have y2 := HE.x.cell 2
                        have y3 := HE.x.cell 3
                        have y4 := HE.x.cell 4
                        have y5 := HE.x.cell 5
                        have y6 := HE.x.cell 6
                        have q0 := HE.a.cell 0
                        have q1 := HE.a.cell 1
                        have q2 := HE.a.cell 2
                        have q3 := HE.a.cell 3
                        have q4 := HE.a.cell 4
                        have q5 := HE.a.cell 5
                        have q6 := HE.a.cell 6
                        have q7 := HE.a.cell 7
                        simp only [Cm.cells, At.cells, List.getElem?_cons_zero, List.getElem?_cons_succ] at y0 y1 y2 y3 y4 y5 y6 q0 q1 q2 q3 q4 q5 q6 q7
                        have hr : R = (3, A.x, A.a) := by rw [HR.out]; skip
                        rw [hr]
                        exact bodyPost_ret (v := .tuple #[.int .i64 3, .agg (A.x).cells.toArray, .agg (A.a).cells.toArray]) (by simp [results, Try.results22, go_sem, y0, y1, y2, y3, y4, y5, y6, q0, q1, q2, q3, q4, q5, q6, q7, Cm.cells, At.cells, Cm.zero, At.of]) rfl ⟨rfl, HE.bel⟩
end Go.Proofs.Ytmpefdepcbfcdaa
