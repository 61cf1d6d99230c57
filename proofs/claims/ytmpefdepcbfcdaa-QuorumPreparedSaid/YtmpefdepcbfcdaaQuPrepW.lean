/-
  The walk of Prepared.
-/
import Derived.Test.YtmpefdepcbfcdaaQuBestW
import Derived.Deep.CutRange
namespace Go.Proofs.Ytmpefdepcbfcdaa
open Go.RowKit
set_option linter.unusedVariables false
set_option linter.unusedSimpArgs false

theorem Cm.cells_one (x : Cm) : x.cells.toArray.all (·.oneCell') = true := by simp [Cm.cells, Value.oneCell']
/-- The two boxes of the answer. -/
structure Bx (w W : World) (g7 g8 : Nat) (x : Cm) (a : At) : Prop where
  bel : Below w.heap.size w W
  x : Holds W g7 32 x.cells
  a : Holds W g8 26 a.cells
  ge : w.heap.size ≤ g7
  ge2 : w.heap.size ≤ g8
  ne : g7 ≠ g8
theorem Bx.below {w W W' : World} {g7 g8 : Nat} {x : Cm} {a : At} (h : Bx w W g7 g8 x a) (hb : Below W.heap.size W W') : Bx w W' g7 g8 x a :=
  ⟨h.bel.trans (hb.mono h.bel.size), h.x.below hb h.x.lt, h.a.below hb h.a.lt, h.ge, h.ge2, h.ne⟩
theorem Bx.drew {w W : World} {g7 g8 : Nat} {x : Cm} {a : At} (h : Bx w W g7 g8 x a) : Bx w W.drew g7 g8 x a := ⟨h.bel.trans ⟨rfl, rfl, rfl, Nat.le_refl _, fun _ _ => rfl⟩, h.x, h.a, h.ge, h.ge2, h.ne⟩
theorem Bx.set {w W : World} {g7 g8 : Nat} {x0 : Cm} {a0 : At} (h : Bx w W g7 g8 x0 a0) (x : Cm) (a : At) : Bx w (((((((((((((((W.setCell ⟨g7, 0, none⟩ (.int .i64 x.k)).setCell ⟨g7, 1, none⟩ (.int .i64 x.c)).setCell ⟨g7, 2, none⟩ (.int .i64 x.s)).setCell ⟨g7, 3, none⟩ (.string x.a)).setCell ⟨g7, 4, none⟩ (.string x.b)).setCell ⟨g7, 5, none⟩ (.string x.o)).setCell ⟨g7, 6, none⟩ (.string x.v)).setCell ⟨g8, 0, none⟩ (.int .i64 a.q)).setCell ⟨g8, 1, none⟩ (.int .i64 (a.d 0))).setCell ⟨g8, 2, none⟩ (.int .i64 (a.d 1))).setCell ⟨g8, 3, none⟩ (.int .i64 (a.d 2))).setCell ⟨g8, 4, none⟩ (.int .i64 (a.d 3))).setCell ⟨g8, 5, none⟩ (.int .i64 (a.d 4))).setCell ⟨g8, 6, none⟩ (.int .i64 (a.d 5))).setCell ⟨g8, 7, none⟩ (.int .i64 (a.d 6))) g7 g8 x a := by
  have t1 := (((((((Touch.refl g7 W).setCell 0 (.int .i64 x.k)).setCell 1 (.int .i64 x.c)).setCell 2 (.int .i64 x.s)).setCell 3 (.string x.a)).setCell 4 (.string x.b)).setCell 5 (.string x.o)).setCell 6 (.string x.v)
  have s1 := (((((((h.x).set 0 (.int .i64 x.k)).set 1 (.int .i64 x.c)).set 2 (.int .i64 x.s)).set 3 (.string x.a)).set 4 (.string x.b)).set 5 (.string x.o)).set 6 (.string x.v)
  simp only [Cm.cells, List.set_cons_succ, List.set_cons_zero] at s1
  have h1 := h.a.touch t1 (Ne.symm h.ne)
  have b1 := h.bel.trans (t1.below h.ge h.bel.size)
  have t2 := Touch.refl g8 (((((((W.setCell ⟨g7, 0, none⟩ (.int .i64 x.k)).setCell ⟨g7, 1, none⟩ (.int .i64 x.c)).setCell ⟨g7, 2, none⟩ (.int .i64 x.s)).setCell ⟨g7, 3, none⟩ (.string x.a)).setCell ⟨g7, 4, none⟩ (.string x.b)).setCell ⟨g7, 5, none⟩ (.string x.o)).setCell ⟨g7, 6, none⟩ (.string x.v))
  have t3 := ((((((((t2).setCell 0 (.int .i64 a.q)).setCell 1 (.int .i64 (a.d 0))).setCell 2 (.int .i64 (a.d 1))).setCell 3 (.int .i64 (a.d 2))).setCell 4 (.int .i64 (a.d 3))).setCell 5 (.int .i64 (a.d 4))).setCell 6 (.int .i64 (a.d 5))).setCell 7 (.int .i64 (a.d 6))
  have s2 := ((((((((h1).set 0 (.int .i64 a.q)).set 1 (.int .i64 (a.d 0))).set 2 (.int .i64 (a.d 1))).set 3 (.int .i64 (a.d 2))).set 4 (.int .i64 (a.d 3))).set 5 (.int .i64 (a.d 4))).set 6 (.int .i64 (a.d 5))).set 7 (.int .i64 (a.d 6))
  simp only [At.cells, List.set_cons_succ, List.set_cons_zero] at s2
  exact ⟨b1.trans (t3.below h.ge2 b1.size), s1.touch t3 h.ne, s2, h.ge, h.ge2, h.ne⟩
set_option maxRecDepth 4000 in
set_option maxHeartbeats 40000000 in
theorem prepared_any (K : Nat) (o : Int) (a : Option Addr) (len cap : Nat) (S : Nat → Sd) (w : World) (hS : IsRows w a len 22 fun i => (S i).cells) (hlc : len ≤ cap) (hK3 : 3 ≤ K) (hK : K ≤ 7) :
    Calls Try.prog 21 #[.int .i64 K, .int .i64 o, .slice a len cap] w fun e w' =>
      e = .returned (.tuple #[.int .i64 (prepared K o S len).1, .agg (prepared K o S len).2.1.cells.toArray, .agg (prepared K o S len).2.2.cells.toArray]) ∧ Below w.heap.size w w' := by
  have HV := Lib.hid hS
  have hm : len ≤ maxLen := hS.1
  unfold maxLen at hm
  clear hS
  obtain ⟨R, hR⟩ : ∃ R, R = prepared K o S len := ⟨_, rfl⟩
  rw [← hR]
  have HR := Lib.hid hR; clear hR
  go_enter Try.func21, Try.ntmps21
  go_wp2_with fail
  have HB0 := Lib.hid (show Bx w ((w.alloc (.cells #[.int .i64 0, .int .i64 0, .int .i64 0, .string ⟨#[]⟩, .string ⟨#[]⟩, .string ⟨#[]⟩, .string ⟨#[]⟩] 32)).alloc (.cells #[.int .i64 0, .int .i64 0, .int .i64 0, .int .i64 0, .int .i64 0, .int .i64 0, .int .i64 0, .int .i64 0] 26)) w.heap.size (w.heap.size + 1) Cm.zero (At.of 0) from
    ⟨by go_grown, holds_past (holds_alloc w _ Cm.zero.cells) _, by have := holds_alloc (w.alloc (.cells Cm.zero.cells.toArray 32)) 26 (At.of 0).cells; rw [World.size_alloc] at this; exact this, Nat.le_refl _, by omega, by omega⟩)
  refine (slow_any K _ (by omega)).mono ?_
  rintro e w1 ⟨rfl, hb⟩
  have HB := Lib.hid (HB0.out.below hb)
  clear hb HB0
  generalize w.heap.size = g7 at HB
  generalize g7 + 1 = g8 at HB ⊢
  by_cases hshort : len < K / 2 + 1
  · have hs2 : (len : Int) < ((K / 2 + 1 : Nat) : Int) := by omega
    have z0 := HB.out.x.cell 0
    have z1 := HB.out.x.cell 1
    have z2 := HB.out.x.cell 2
    have z3 := HB.out.x.cell 3
    have z4 := HB.out.x.cell 4
    have z5 := HB.out.x.cell 5
    have z6 := HB.out.x.cell 6
    have u0 := HB.out.a.cell 0
    have u1 := HB.out.a.cell 1
    have u2 := HB.out.a.cell 2
    have u3 := HB.out.a.cell 3
    have u4 := HB.out.a.cell 4
    have u5 := HB.out.a.cell 5
    have u6 := HB.out.a.cell 6
    have u7 := HB.out.a.cell 7
    simp only [Cm.cells, At.cells, Cm.zero, At.of, List.getElem?_cons_zero, List.getElem?_cons_succ] at z0 z1 z2 z3 z4 z5 z6 u0 u1 u2 u3 u4 u5 u6 u7
    have zf := fun i => HB.out.x.free i
    have uf := fun i => HB.out.a.free i
    have hne := HB.out.ne
    have hne' := Ne.symm hne
    go_wp2_with fail
    clear z0 z1 z2 z3 z4 z5 z6 u0 u1 u2 u3 u4 u5 u6 u7 zf uf
    have HE : Bx w ((((((((((((((((w1.setCell ⟨g7, 0, none⟩ (.int .i64 0)).setCell ⟨g7, 1, none⟩ (.int .i64 0)).setCell ⟨g7, 2, none⟩ (.int .i64 0)).setCell ⟨g7, 3, none⟩ (.string ⟨#[]⟩)).setCell ⟨g7, 4, none⟩ (.string ⟨#[]⟩)).setCell ⟨g7, 5, none⟩ (.string ⟨#[]⟩)).setCell ⟨g7, 6, none⟩ (.string ⟨#[]⟩)).setCell ⟨g8, 0, none⟩ (.int .i64 0)).setCell ⟨g8, 1, none⟩ (.int .i64 0)).setCell ⟨g8, 2, none⟩ (.int .i64 0)).setCell ⟨g8, 3, none⟩ (.int .i64 0)).setCell ⟨g8, 4, none⟩ (.int .i64 0)).setCell ⟨g8, 5, none⟩ (.int .i64 0)).setCell ⟨g8, 6, none⟩ (.int .i64 0)).setCell ⟨g8, 7, none⟩ (.int .i64 0))) g7 g8 Cm.zero (At.of 0) := (HB.out.set Cm.zero (At.of 0))
    generalize (((((((((((((((w1.setCell ⟨g7, 0, none⟩ (.int .i64 0)).setCell ⟨g7, 1, none⟩ (.int .i64 0)).setCell ⟨g7, 2, none⟩ (.int .i64 0)).setCell ⟨g7, 3, none⟩ (.string ⟨#[]⟩)).setCell ⟨g7, 4, none⟩ (.string ⟨#[]⟩)).setCell ⟨g7, 5, none⟩ (.string ⟨#[]⟩)).setCell ⟨g7, 6, none⟩ (.string ⟨#[]⟩)).setCell ⟨g8, 0, none⟩ (.int .i64 0)).setCell ⟨g8, 1, none⟩ (.int .i64 0)).setCell ⟨g8, 2, none⟩ (.int .i64 0)).setCell ⟨g8, 3, none⟩ (.int .i64 0)).setCell ⟨g8, 4, none⟩ (.int .i64 0)).setCell ⟨g8, 5, none⟩ (.int .i64 0)).setCell ⟨g8, 6, none⟩ (.int .i64 0)).setCell ⟨g8, 7, none⟩ (.int .i64 0)) = W3 at HE ⊢
    have y0 := HE.x.cell 0
    have y1 := HE.x.cell 1
    have y2 := HE.x.cell 2
    have y3 := HE.x.cell 3
    have y4 := HE.x.cell 4
    have y5 := HE.x.cell 5
    have y6 := HE.x.cell 6
    have q0 := HE.a.cell 0
    have q1 := HE.a.cell 1
    have q2 := HE.a.cell 2
    have q3 := HE.a.cell 3
    have q4 := HE.a.cell 4
    have q5 := HE.a.cell 5
    have q6 := HE.a.cell 6
    have q7 := HE.a.cell 7
    simp only [Cm.cells, At.cells, List.getElem?_cons_zero, List.getElem?_cons_succ] at y0 y1 y2 y3 y4 y5 y6 q0 q1 q2 q3 q4 q5 q6 q7
    have hr : R = (0, Cm.zero, (At.of 0)) := by rw [HR.out]; rw [prepared, if_pos hshort]
    rw [hr]
    exact bodyPost_ret (v := .tuple #[.int .i64 0, .agg (Cm.zero).cells.toArray, .agg ((At.of 0)).cells.toArray]) (by simp [results, Try.results21, go_sem, y0, y1, y2, y3, y4, y5, y6, q0, q1, q2, q3, q4, q5, q6, q7, Cm.cells, At.cells, Cm.zero, At.of]) rfl ⟨rfl, HE.bel⟩
  · have hs2 : ¬ (len : Int) < ((K / 2 + 1 : Nat) : Int) := by omega
    have HS := Lib.hid hshort; clear hshort
    go_wp2_with fail
    go_loopw [9, 10, 11, 25] (fun sm fi th i wr => ∃ k : Nat, k ≤ len ∧ i = .int .i64 k ∧ sm = .int .i64 (sameTo S o k : Nat) ∧ fi = .int .i64 (firstTo S o k) ∧ th = .bool (thereTo S o k) ∧ comTo S k = none ∧ Bx w wr g7 g8 Cm.zero (At.of 0)) (fun _ _ _ i _ => len - (intOf i).toNat)
    case atStart => exact ⟨0, by omega, rfl, rfl, rfl, rfl, rfl, HB.out⟩
    case round =>
      clear HB
      obtain ⟨k, hk, rfl, rfl, rfl, rfl, hcom, hbw⟩ := hrel
      have HC := Lib.hid hcom; clear hcom
      have HB := Lib.hid hbw; clear hbw
      by_cases h1 : k < len
      · obtain ⟨b, off, rfl, hlt⟩ := HV.out.spot (by omega)
        have HRG := Lib.hid (HV.out.range HB.out.bel h1)
        have hf := firstTo_lt S o k
        have hsl := sameTo_le S o k
        have HSM := Lib.hid (show sameTo S o (k + 1) = sameTo S o k + if counts S o k = true then 1 else 0 from rfl)
        have HFI := Lib.hid (show firstTo S o (k + 1) = if counts S o k = true ∧ firstTo S o k < 0 then (k : Int) else firstTo S o k from rfl)
        have HTH := Lib.hid (show thereTo S o (k + 1) = (thereTo S o k || (S k).r == o) from rfl)
        generalize thereTo S o k = th0 at HTH ⊢
        generalize firstTo S o k = fi0 at HFI hf ⊢
        generalize sameTo S o k = sm0 at HSM hf hsl ⊢
        go_upto_region 8 with (first
          | (refine wpList_load_mid rfl 36 _ rfl b (off + k * 22) rfl _ _ HRG.out Try.underlying36 rfl (by kernel_rfl) ?_)
          | (refine wpList_store_new rfl 36 _ _ rfl rfl _ _ (S k).cells.toArray rfl rfl (by kernel_rfl) (by kernel_rfl) (Sd.cells_one _) ?_))
        go_name_world W hW
        have hbx : Holds W wr.heap.size 36 (S k).cells := by rw [← hW]; exact holds_alloc wr _ _
        have hb2 := HB.out.below (show Below wr.heap.size wr W by rw [← hW]; go_grown)
        have hg7 := HB.out.x.lt
        have hg8 := HB.out.a.lt
        have HB := Lib.hid hb2
        clear hW HRG hb2
        have b0 := hbx.cell 0
        have b1 := hbx.cell 1
        have b21 := hbx.cell 21
        simp only [Sd.cells, Cm.cells, At.cells, List.cons_append, List.nil_append, List.getElem?_cons_zero, List.getElem?_cons_succ] at b0 b1 b21
        by_cases h3 : (S k).st = 3
        · have e3 : ((S k).st == 3) = true := by simp [h3]
          have b6 := hbx.cell 6
          have b7 := hbx.cell 7
          have b8 := hbx.cell 8
          have b9 := hbx.cell 9
          have b10 := hbx.cell 10
          have b11 := hbx.cell 11
          have b12 := hbx.cell 12
          have b13 := hbx.cell 13
          have b14 := hbx.cell 14
          have b15 := hbx.cell 15
          have b16 := hbx.cell 16
          have b17 := hbx.cell 17
          have b18 := hbx.cell 18
          have b19 := hbx.cell 19
          have b20 := hbx.cell 20
          simp only [Sd.cells, Cm.cells, At.cells, List.cons_append, List.nil_append, List.getElem?_cons_zero, List.getElem?_cons_succ] at b6 b7 b8 b9 b10 b11 b12 b13 b14 b15 b16 b17 b18 b19 b20
          have z0 := HB.out.x.cell 0
          have z1 := HB.out.x.cell 1
          have z2 := HB.out.x.cell 2
          have z3 := HB.out.x.cell 3
          have z4 := HB.out.x.cell 4
          have z5 := HB.out.x.cell 5
          have z6 := HB.out.x.cell 6
          have u0 := HB.out.a.cell 0
          have u1 := HB.out.a.cell 1
          have u2 := HB.out.a.cell 2
          have u3 := HB.out.a.cell 3
          have u4 := HB.out.a.cell 4
          have u5 := HB.out.a.cell 5
          have u6 := HB.out.a.cell 6
          have u7 := HB.out.a.cell 7
          simp only [Cm.cells, At.cells, Cm.zero, At.of, List.getElem?_cons_zero, List.getElem?_cons_succ] at z0 z1 z2 z3 z4 z5 z6 u0 u1 u2 u3 u4 u5 u6 u7
          have zf := fun i => HB.out.x.free i
          have uf := fun i => HB.out.a.free i
          have hne := HB.out.ne
          have hne' := Ne.symm hne
          go_upto_region 9 with (fail)
          go_region
          go_wp2_with fail
          clear z0 z1 z2 z3 z4 z5 z6 u0 u1 u2 u3 u4 u5 u6 u7 zf uf b6 b7 b8 b9 b10 b11 b12 b13 b14 b15 b16 b17 b18 b19 b20
          have HE : Bx w ((((((((((((((((W.setCell ⟨g7, 0, none⟩ (.int .i64 (S k).x.k)).setCell ⟨g7, 1, none⟩ (.int .i64 (S k).x.c)).setCell ⟨g7, 2, none⟩ (.int .i64 (S k).x.s)).setCell ⟨g7, 3, none⟩ (.string (S k).x.a)).setCell ⟨g7, 4, none⟩ (.string (S k).x.b)).setCell ⟨g7, 5, none⟩ (.string (S k).x.o)).setCell ⟨g7, 6, none⟩ (.string (S k).x.v)).setCell ⟨g8, 0, none⟩ (.int .i64 (S k).a.q)).setCell ⟨g8, 1, none⟩ (.int .i64 ((S k).a.d 0))).setCell ⟨g8, 2, none⟩ (.int .i64 ((S k).a.d 1))).setCell ⟨g8, 3, none⟩ (.int .i64 ((S k).a.d 2))).setCell ⟨g8, 4, none⟩ (.int .i64 ((S k).a.d 3))).setCell ⟨g8, 5, none⟩ (.int .i64 ((S k).a.d 4))).setCell ⟨g8, 6, none⟩ (.int .i64 ((S k).a.d 5))).setCell ⟨g8, 7, none⟩ (.int .i64 ((S k).a.d 6))).drew) g7 g8 (S k).x (S k).a := (HB.out.set (S k).x (S k).a).drew
          generalize (((((((((((((((W.setCell ⟨g7, 0, none⟩ (.int .i64 (S k).x.k)).setCell ⟨g7, 1, none⟩ (.int .i64 (S k).x.c)).setCell ⟨g7, 2, none⟩ (.int .i64 (S k).x.s)).setCell ⟨g7, 3, none⟩ (.string (S k).x.a)).setCell ⟨g7, 4, none⟩ (.string (S k).x.b)).setCell ⟨g7, 5, none⟩ (.string (S k).x.o)).setCell ⟨g7, 6, none⟩ (.string (S k).x.v)).setCell ⟨g8, 0, none⟩ (.int .i64 (S k).a.q)).setCell ⟨g8, 1, none⟩ (.int .i64 ((S k).a.d 0))).setCell ⟨g8, 2, none⟩ (.int .i64 ((S k).a.d 1))).setCell ⟨g8, 3, none⟩ (.int .i64 ((S k).a.d 2))).setCell ⟨g8, 4, none⟩ (.int .i64 ((S k).a.d 3))).setCell ⟨g8, 5, none⟩ (.int .i64 ((S k).a.d 4))).setCell ⟨g8, 6, none⟩ (.int .i64 ((S k).a.d 5))).setCell ⟨g8, 7, none⟩ (.int .i64 ((S k).a.d 6))).drew = W3 at HE ⊢
          have y0 := HE.x.cell 0
          have y1 := HE.x.cell 1
          have y2 := HE.x.cell 2
          have y3 := HE.x.cell 3
          have y4 := HE.x.cell 4
          have y5 := HE.x.cell 5
          have y6 := HE.x.cell 6
          have q0 := HE.a.cell 0
          have q1 := HE.a.cell 1
          have q2 := HE.a.cell 2
          have q3 := HE.a.cell 3
          have q4 := HE.a.cell 4
          have q5 := HE.a.cell 5
          have q6 := HE.a.cell 6
          have q7 := HE.a.cell 7
          simp only [Cm.cells, At.cells, List.getElem?_cons_zero, List.getElem?_cons_succ] at y0 y1 y2 y3 y4 y5 y6 q0 q1 q2 q3 q4 q5 q6 q7
          have hr : R = (1, (S k).x, (S k).a) := by rw [HR.out]; rw [prepared, if_neg HS.out, comTo_at HC.out h3 h1]
          rw [hr]
          exact bodyPost_ret (v := .tuple #[.int .i64 1, .agg ((S k).x).cells.toArray, .agg ((S k).a).cells.toArray]) (by simp [results, Try.results21, go_sem, y0, y1, y2, y3, y4, y5, y6, q0, q1, q2, q3, q4, q5, q6, q7, Cm.cells, At.cells, Cm.zero, At.of]) rfl ⟨rfl, HE.bel⟩
        · have e3 : ((S k).st == 3) = false := by simp [h3]
          have HC := Lib.hid (comTo_next HC.out h3)
          clear hbx
          by_cases h4 : (S k).r = o
          · have e4 : ((S k).r == o) = true := by simp [h4]
            have hc : counts S o k = false := by simp [counts, h4]
            rw [hc] at HSM HFI
            rw [e4] at HTH
            clear hc
            go_wp2_with fail
            go_roundw
            case rel => exact ⟨k + 1, by omega, by go_num, by rw [HSM.out]; simp, by rw [HFI.out]; simp, by rw [HTH.out]; simp, HC.out, HB.out⟩
            case measure => simp [intOf]; omega
          · have e4 : ((S k).r == o) = false := by simp [h4]
            rw [e4] at HTH
            by_cases h5 : (S k).st = 1
            · have e5 : ((S k).st == 1) = true := by simp [h5]
              have hc : counts S o k = (S k).same := by simp [counts, h4, h5]
              rw [hc] at HSM HFI
              clear hc
              generalize (S k).same = sa at *
              cases sa
              · go_wp2_with fail
                go_roundw
                case rel => exact ⟨k + 1, by omega, by go_num, by rw [HSM.out]; simp, by rw [HFI.out]; simp, by rw [HTH.out]; simp, HC.out, HB.out⟩
                case measure => simp [intOf]; omega
              · by_cases h6 : fi0 < 0
                · go_wp2_with fail
                  go_roundw
                  case rel => exact ⟨k + 1, by omega, by go_num, by rw [HSM.out]; simp, by rw [HFI.out]; simp [h6], by rw [HTH.out]; simp, HC.out, HB.out⟩
                  case measure => simp [intOf]; omega
                · go_wp2_with fail
                  go_roundw
                  case rel => exact ⟨k + 1, by omega, by go_num, by rw [HSM.out]; simp, by rw [HFI.out]; simp [h6], by rw [HTH.out]; simp, HC.out, HB.out⟩
                  case measure => simp [intOf]; omega
            · have e5 : ((S k).st == 1) = false := by simp [h5]
              have hc : counts S o k = false := by simp [counts, h5]
              rw [hc] at HSM HFI
              clear hc
              go_wp2_with fail
              go_roundw
              case rel => exact ⟨k + 1, by omega, by go_num, by rw [HSM.out]; simp, by rw [HFI.out]; simp, by rw [HTH.out]; simp, HC.out, HB.out⟩
              case measure => simp [intOf]; omega
      · have hkl : k = len := by omega
        subst hkl
        have hb2' := fun W st (h : Below w.heap.size w W) hs => best_any a k cap S st W (HV.out.below h) hlc hs
        have HBE := Lib.hid hb2'; clear hb2'
        have ht2 := bestTo_lt S 2 k
        have ht1 := bestTo_lt S 1 k
        have hf := firstTo_lt S o k
        have hsl := sameTo_le S o k
        have HP := Lib.hid (show prepared K o S k = (if 0 ≤ bestTo S 2 k then (2, (S (bestTo S 2 k).toNat).x, (S (bestTo S 2 k).toNat).a) else if bestTo S 1 k < 0 then (4, Cm.zero, At.of 0) else if thereTo S o k = false ∧ K / 2 ≤ sameTo S o k then (2, (S (firstTo S o k).toNat).x, (S (firstTo S o k).toNat).a) else (3, (S (bestTo S 1 k).toNat).x, (S (bestTo S 1 k).toNat).a)) by rw [prepared, if_neg HS.out, HC.out])
        rw [HP.out] at HR
        clear HP HC HS
        have hbb2 := fun W (h : Below w.heap.size w W) => HBE.out W 2 h (by omega)
        have hbb1 := fun W (h : Below w.heap.size w W) => HBE.out W 1 h (by omega)
        generalize bestTo S 2 k = t2 at *
        generalize bestTo S 1 k = t1 at *
        generalize thereTo S o k = th0 at *
        generalize firstTo S o k = fi0 at *
        generalize sameTo S o k = sm0 at *
        have HB2 := Lib.hid hbb2; have HB1 := Lib.hid hbb1
        clear hbb1 hbb2 HBE
        go_wp2_with fail
        refine (HB2.out _ HB.out.bel).mono ?_
        rintro e w2 ⟨rfl, hb⟩
        have HB := Lib.hid (HB.out.below hb)
        clear hb HB2
        by_cases h2 : 0 ≤ t2
        · obtain ⟨m, rfl⟩ : ∃ m : Nat, t2 = m := ⟨t2.toNat, by omega⟩
          have hml : m < k := by omega
          obtain ⟨b, off, rfl, hlt⟩ := HV.out.spot (by omega)
          have c6 := HV.out.at HB.out.bel hml 6 (by omega)
          have c7 := HV.out.at HB.out.bel hml 7 (by omega)
          have c8 := HV.out.at HB.out.bel hml 8 (by omega)
          have c9 := HV.out.at HB.out.bel hml 9 (by omega)
          have c10 := HV.out.at HB.out.bel hml 10 (by omega)
          have c11 := HV.out.at HB.out.bel hml 11 (by omega)
          have c12 := HV.out.at HB.out.bel hml 12 (by omega)
          have c13 := HV.out.at HB.out.bel hml 13 (by omega)
          have c14 := HV.out.at HB.out.bel hml 14 (by omega)
          have c15 := HV.out.at HB.out.bel hml 15 (by omega)
          have c16 := HV.out.at HB.out.bel hml 16 (by omega)
          have c17 := HV.out.at HB.out.bel hml 17 (by omega)
          have c18 := HV.out.at HB.out.bel hml 18 (by omega)
          have c19 := HV.out.at HB.out.bel hml 19 (by omega)
          have c20 := HV.out.at HB.out.bel hml 20 (by omega)
          simp only [Sd.cells, Cm.cells, At.cells, List.cons_append, List.nil_append, List.getElem?_cons_zero, List.getElem?_cons_succ] at c6 c7 c8 c9 c10 c11 c12 c13 c14 c15 c16 c17 c18 c19 c20
          have z0 := HB.out.x.cell 0
          have z1 := HB.out.x.cell 1
          have z2 := HB.out.x.cell 2
          have z3 := HB.out.x.cell 3
          have z4 := HB.out.x.cell 4
          have z5 := HB.out.x.cell 5
          have z6 := HB.out.x.cell 6
          have u0 := HB.out.a.cell 0
          have u1 := HB.out.a.cell 1
          have u2 := HB.out.a.cell 2
          have u3 := HB.out.a.cell 3
          have u4 := HB.out.a.cell 4
          have u5 := HB.out.a.cell 5
          have u6 := HB.out.a.cell 6
          have u7 := HB.out.a.cell 7
          simp only [Cm.cells, At.cells, Cm.zero, At.of, List.getElem?_cons_zero, List.getElem?_cons_succ] at z0 z1 z2 z3 z4 z5 z6 u0 u1 u2 u3 u4 u5 u6 u7
          have zf := fun i => HB.out.x.free i
          have uf := fun i => HB.out.a.free i
          have hne := HB.out.ne
          have hne' := Ne.symm hne
          go_upto_region 19 with (fail)
          go_region
          go_wp2_with fail
          clear z0 z1 z2 z3 z4 z5 z6 u0 u1 u2 u3 u4 u5 u6 u7 zf uf c6 c7 c8 c9 c10 c11 c12 c13 c14 c15 c16 c17 c18 c19 c20
          have HE : Bx w ((((((((((((((((w2.setCell ⟨g7, 0, none⟩ (.int .i64 (S m).x.k)).setCell ⟨g7, 1, none⟩ (.int .i64 (S m).x.c)).setCell ⟨g7, 2, none⟩ (.int .i64 (S m).x.s)).setCell ⟨g7, 3, none⟩ (.string (S m).x.a)).setCell ⟨g7, 4, none⟩ (.string (S m).x.b)).setCell ⟨g7, 5, none⟩ (.string (S m).x.o)).setCell ⟨g7, 6, none⟩ (.string (S m).x.v)).setCell ⟨g8, 0, none⟩ (.int .i64 (S m).a.q)).setCell ⟨g8, 1, none⟩ (.int .i64 ((S m).a.d 0))).setCell ⟨g8, 2, none⟩ (.int .i64 ((S m).a.d 1))).setCell ⟨g8, 3, none⟩ (.int .i64 ((S m).a.d 2))).setCell ⟨g8, 4, none⟩ (.int .i64 ((S m).a.d 3))).setCell ⟨g8, 5, none⟩ (.int .i64 ((S m).a.d 4))).setCell ⟨g8, 6, none⟩ (.int .i64 ((S m).a.d 5))).setCell ⟨g8, 7, none⟩ (.int .i64 ((S m).a.d 6))).drew) g7 g8 (S m).x (S m).a := (HB.out.set (S m).x (S m).a).drew
          generalize (((((((((((((((w2.setCell ⟨g7, 0, none⟩ (.int .i64 (S m).x.k)).setCell ⟨g7, 1, none⟩ (.int .i64 (S m).x.c)).setCell ⟨g7, 2, none⟩ (.int .i64 (S m).x.s)).setCell ⟨g7, 3, none⟩ (.string (S m).x.a)).setCell ⟨g7, 4, none⟩ (.string (S m).x.b)).setCell ⟨g7, 5, none⟩ (.string (S m).x.o)).setCell ⟨g7, 6, none⟩ (.string (S m).x.v)).setCell ⟨g8, 0, none⟩ (.int .i64 (S m).a.q)).setCell ⟨g8, 1, none⟩ (.int .i64 ((S m).a.d 0))).setCell ⟨g8, 2, none⟩ (.int .i64 ((S m).a.d 1))).setCell ⟨g8, 3, none⟩ (.int .i64 ((S m).a.d 2))).setCell ⟨g8, 4, none⟩ (.int .i64 ((S m).a.d 3))).setCell ⟨g8, 5, none⟩ (.int .i64 ((S m).a.d 4))).setCell ⟨g8, 6, none⟩ (.int .i64 ((S m).a.d 5))).setCell ⟨g8, 7, none⟩ (.int .i64 ((S m).a.d 6))).drew = W3 at HE ⊢
          have y0 := HE.x.cell 0
          have y1 := HE.x.cell 1
          have y2 := HE.x.cell 2
          have y3 := HE.x.cell 3
          have y4 := HE.x.cell 4
          have y5 := HE.x.cell 5
          have y6 := HE.x.cell 6
          have q0 := HE.a.cell 0
          have q1 := HE.a.cell 1
          have q2 := HE.a.cell 2
          have q3 := HE.a.cell 3
          have q4 := HE.a.cell 4
          have q5 := HE.a.cell 5
          have q6 := HE.a.cell 6
          have q7 := HE.a.cell 7
          simp only [Cm.cells, At.cells, List.getElem?_cons_zero, List.getElem?_cons_succ] at y0 y1 y2 y3 y4 y5 y6 q0 q1 q2 q3 q4 q5 q6 q7
          have hr : R = (2, (S m).x, (S m).a) := by rw [HR.out]; rw [if_pos (show (0 : Int) ≤ (m : Int) by omega), Int.toNat_natCast]
          rw [hr]
          exact bodyPost_ret (v := .tuple #[.int .i64 2, .agg ((S m).x).cells.toArray, .agg ((S m).a).cells.toArray]) (by simp [results, Try.results21, go_sem, y0, y1, y2, y3, y4, y5, y6, q0, q1, q2, q3, q4, q5, q6, q7, Cm.cells, At.cells, Cm.zero, At.of]) rfl ⟨rfl, HE.bel⟩
        · go_wp2_with fail
          refine (HB1.out _ HB.out.bel).mono ?_
          rintro e w3 ⟨rfl, hb⟩
          have HB := Lib.hid (HB.out.below hb)
          clear hb HB1
          by_cases h4 : t1 < 0
          · 
            have z0 := HB.out.x.cell 0
            have z1 := HB.out.x.cell 1
            have z2 := HB.out.x.cell 2
            have z3 := HB.out.x.cell 3
            have z4 := HB.out.x.cell 4
            have z5 := HB.out.x.cell 5
            have z6 := HB.out.x.cell 6
            have u0 := HB.out.a.cell 0
            have u1 := HB.out.a.cell 1
            have u2 := HB.out.a.cell 2
            have u3 := HB.out.a.cell 3
            have u4 := HB.out.a.cell 4
            have u5 := HB.out.a.cell 5
            have u6 := HB.out.a.cell 6
            have u7 := HB.out.a.cell 7
            simp only [Cm.cells, At.cells, Cm.zero, At.of, List.getElem?_cons_zero, List.getElem?_cons_succ] at z0 z1 z2 z3 z4 z5 z6 u0 u1 u2 u3 u4 u5 u6 u7
            have zf := fun i => HB.out.x.free i
            have uf := fun i => HB.out.a.free i
            have hne := HB.out.ne
            have hne' := Ne.symm hne
            go_wp2_with fail
            clear z0 z1 z2 z3 z4 z5 z6 u0 u1 u2 u3 u4 u5 u6 u7 zf uf
            have HE : Bx w ((((((((((((((((w3.setCell ⟨g7, 0, none⟩ (.int .i64 0)).setCell ⟨g7, 1, none⟩ (.int .i64 0)).setCell ⟨g7, 2, none⟩ (.int .i64 0)).setCell ⟨g7, 3, none⟩ (.string ⟨#[]⟩)).setCell ⟨g7, 4, none⟩ (.string ⟨#[]⟩)).setCell ⟨g7, 5, none⟩ (.string ⟨#[]⟩)).setCell ⟨g7, 6, none⟩ (.string ⟨#[]⟩)).setCell ⟨g8, 0, none⟩ (.int .i64 0)).setCell ⟨g8, 1, none⟩ (.int .i64 0)).setCell ⟨g8, 2, none⟩ (.int .i64 0)).setCell ⟨g8, 3, none⟩ (.int .i64 0)).setCell ⟨g8, 4, none⟩ (.int .i64 0)).setCell ⟨g8, 5, none⟩ (.int .i64 0)).setCell ⟨g8, 6, none⟩ (.int .i64 0)).setCell ⟨g8, 7, none⟩ (.int .i64 0))) g7 g8 Cm.zero (At.of 0) := (HB.out.set Cm.zero (At.of 0))
            generalize (((((((((((((((w3.setCell ⟨g7, 0, none⟩ (.int .i64 0)).setCell ⟨g7, 1, none⟩ (.int .i64 0)).setCell ⟨g7, 2, none⟩ (.int .i64 0)).setCell ⟨g7, 3, none⟩ (.string ⟨#[]⟩)).setCell ⟨g7, 4, none⟩ (.string ⟨#[]⟩)).setCell ⟨g7, 5, none⟩ (.string ⟨#[]⟩)).setCell ⟨g7, 6, none⟩ (.string ⟨#[]⟩)).setCell ⟨g8, 0, none⟩ (.int .i64 0)).setCell ⟨g8, 1, none⟩ (.int .i64 0)).setCell ⟨g8, 2, none⟩ (.int .i64 0)).setCell ⟨g8, 3, none⟩ (.int .i64 0)).setCell ⟨g8, 4, none⟩ (.int .i64 0)).setCell ⟨g8, 5, none⟩ (.int .i64 0)).setCell ⟨g8, 6, none⟩ (.int .i64 0)).setCell ⟨g8, 7, none⟩ (.int .i64 0)) = W3 at HE ⊢
            have y0 := HE.x.cell 0
            have y1 := HE.x.cell 1
            have y2 := HE.x.cell 2
            have y3 := HE.x.cell 3
            have y4 := HE.x.cell 4
            have y5 := HE.x.cell 5
            have y6 := HE.x.cell 6
            have q0 := HE.a.cell 0
            have q1 := HE.a.cell 1
            have q2 := HE.a.cell 2
            have q3 := HE.a.cell 3
            have q4 := HE.a.cell 4
            have q5 := HE.a.cell 5
            have q6 := HE.a.cell 6
            have q7 := HE.a.cell 7
            simp only [Cm.cells, At.cells, List.getElem?_cons_zero, List.getElem?_cons_succ] at y0 y1 y2 y3 y4 y5 y6 q0 q1 q2 q3 q4 q5 q6 q7
            have hr : R = (4, Cm.zero, (At.of 0)) := by rw [HR.out]; rw [if_neg (show ¬ 0 ≤ t2 by omega), if_pos (show t1 < 0 by omega)]
            rw [hr]
            exact bodyPost_ret (v := .tuple #[.int .i64 4, .agg (Cm.zero).cells.toArray, .agg ((At.of 0)).cells.toArray]) (by simp [results, Try.results21, go_sem, y0, y1, y2, y3, y4, y5, y6, q0, q1, q2, q3, q4, q5, q6, q7, Cm.cells, At.cells, Cm.zero, At.of]) rfl ⟨rfl, HE.bel⟩
          · obtain ⟨m, rfl⟩ : ∃ m : Nat, t1 = m := ⟨t1.toNat, by omega⟩
            have hml : m < k := by omega
            obtain ⟨b, off, rfl, hlt⟩ := HV.out.spot (by omega)
            by_cases h5 : th0 = false ∧ K / 2 ≤ sm0
            · obtain ⟨rfl, h6⟩ := h5
              obtain ⟨u, rfl⟩ : ∃ u : Nat, fi0 = u := ⟨fi0.toNat, by have := hf.2.2 (by omega); omega⟩
              have hul : u < k := by omega
              have h7 : (K : Int) / 2 ≤ (sm0 : Int) := by omega
              have c6 := HV.out.at HB.out.bel hul 6 (by omega)
              have c7 := HV.out.at HB.out.bel hul 7 (by omega)
              have c8 := HV.out.at HB.out.bel hul 8 (by omega)
              have c9 := HV.out.at HB.out.bel hul 9 (by omega)
              have c10 := HV.out.at HB.out.bel hul 10 (by omega)
              have c11 := HV.out.at HB.out.bel hul 11 (by omega)
              have c12 := HV.out.at HB.out.bel hul 12 (by omega)
              have c13 := HV.out.at HB.out.bel hul 13 (by omega)
              have c14 := HV.out.at HB.out.bel hul 14 (by omega)
              have c15 := HV.out.at HB.out.bel hul 15 (by omega)
              have c16 := HV.out.at HB.out.bel hul 16 (by omega)
              have c17 := HV.out.at HB.out.bel hul 17 (by omega)
              have c18 := HV.out.at HB.out.bel hul 18 (by omega)
              have c19 := HV.out.at HB.out.bel hul 19 (by omega)
              have c20 := HV.out.at HB.out.bel hul 20 (by omega)
              simp only [Sd.cells, Cm.cells, At.cells, List.cons_append, List.nil_append, List.getElem?_cons_zero, List.getElem?_cons_succ] at c6 c7 c8 c9 c10 c11 c12 c13 c14 c15 c16 c17 c18 c19 c20
              have z0 := HB.out.x.cell 0
              have z1 := HB.out.x.cell 1
              have z2 := HB.out.x.cell 2
              have z3 := HB.out.x.cell 3
              have z4 := HB.out.x.cell 4
              have z5 := HB.out.x.cell 5
              have z6 := HB.out.x.cell 6
              have u0 := HB.out.a.cell 0
              have u1 := HB.out.a.cell 1
              have u2 := HB.out.a.cell 2
              have u3 := HB.out.a.cell 3
              have u4 := HB.out.a.cell 4
              have u5 := HB.out.a.cell 5
              have u6 := HB.out.a.cell 6
              have u7 := HB.out.a.cell 7
              simp only [Cm.cells, At.cells, Cm.zero, At.of, List.getElem?_cons_zero, List.getElem?_cons_succ] at z0 z1 z2 z3 z4 z5 z6 u0 u1 u2 u3 u4 u5 u6 u7
              have zf := fun i => HB.out.x.free i
              have uf := fun i => HB.out.a.free i
              have hne := HB.out.ne
              have hne' := Ne.symm hne
              go_upto_region 24 with (fail)
              go_region
              go_wp2_with fail
              clear z0 z1 z2 z3 z4 z5 z6 u0 u1 u2 u3 u4 u5 u6 u7 zf uf c6 c7 c8 c9 c10 c11 c12 c13 c14 c15 c16 c17 c18 c19 c20
              have HE : Bx w ((((((((((((((((w3.setCell ⟨g7, 0, none⟩ (.int .i64 (S u).x.k)).setCell ⟨g7, 1, none⟩ (.int .i64 (S u).x.c)).setCell ⟨g7, 2, none⟩ (.int .i64 (S u).x.s)).setCell ⟨g7, 3, none⟩ (.string (S u).x.a)).setCell ⟨g7, 4, none⟩ (.string (S u).x.b)).setCell ⟨g7, 5, none⟩ (.string (S u).x.o)).setCell ⟨g7, 6, none⟩ (.string (S u).x.v)).setCell ⟨g8, 0, none⟩ (.int .i64 (S u).a.q)).setCell ⟨g8, 1, none⟩ (.int .i64 ((S u).a.d 0))).setCell ⟨g8, 2, none⟩ (.int .i64 ((S u).a.d 1))).setCell ⟨g8, 3, none⟩ (.int .i64 ((S u).a.d 2))).setCell ⟨g8, 4, none⟩ (.int .i64 ((S u).a.d 3))).setCell ⟨g8, 5, none⟩ (.int .i64 ((S u).a.d 4))).setCell ⟨g8, 6, none⟩ (.int .i64 ((S u).a.d 5))).setCell ⟨g8, 7, none⟩ (.int .i64 ((S u).a.d 6))).drew) g7 g8 (S u).x (S u).a := (HB.out.set (S u).x (S u).a).drew
              generalize (((((((((((((((w3.setCell ⟨g7, 0, none⟩ (.int .i64 (S u).x.k)).setCell ⟨g7, 1, none⟩ (.int .i64 (S u).x.c)).setCell ⟨g7, 2, none⟩ (.int .i64 (S u).x.s)).setCell ⟨g7, 3, none⟩ (.string (S u).x.a)).setCell ⟨g7, 4, none⟩ (.string (S u).x.b)).setCell ⟨g7, 5, none⟩ (.string (S u).x.o)).setCell ⟨g7, 6, none⟩ (.string (S u).x.v)).setCell ⟨g8, 0, none⟩ (.int .i64 (S u).a.q)).setCell ⟨g8, 1, none⟩ (.int .i64 ((S u).a.d 0))).setCell ⟨g8, 2, none⟩ (.int .i64 ((S u).a.d 1))).setCell ⟨g8, 3, none⟩ (.int .i64 ((S u).a.d 2))).setCell ⟨g8, 4, none⟩ (.int .i64 ((S u).a.d 3))).setCell ⟨g8, 5, none⟩ (.int .i64 ((S u).a.d 4))).setCell ⟨g8, 6, none⟩ (.int .i64 ((S u).a.d 5))).setCell ⟨g8, 7, none⟩ (.int .i64 ((S u).a.d 6))).drew = W3 at HE ⊢
              have y0 := HE.x.cell 0
              have y1 := HE.x.cell 1
              have y2 := HE.x.cell 2
              have y3 := HE.x.cell 3
              have y4 := HE.x.cell 4
              have y5 := HE.x.cell 5
              have y6 := HE.x.cell 6
              have q0 := HE.a.cell 0
              have q1 := HE.a.cell 1
              have q2 := HE.a.cell 2
              have q3 := HE.a.cell 3
              have q4 := HE.a.cell 4
              have q5 := HE.a.cell 5
              have q6 := HE.a.cell 6
              have q7 := HE.a.cell 7
              simp only [Cm.cells, At.cells, List.getElem?_cons_zero, List.getElem?_cons_succ] at y0 y1 y2 y3 y4 y5 y6 q0 q1 q2 q3 q4 q5 q6 q7
              have hr : R = (2, (S u).x, (S u).a) := by rw [HR.out]; rw [if_neg (show ¬ 0 ≤ t2 by omega), if_neg (show ¬ (m : Int) < 0 by omega), if_pos (by first | exact ⟨rfl, by omega⟩ | exact ⟨trivial, by omega⟩ | simp; omega), Int.toNat_natCast]
              rw [hr]
              exact bodyPost_ret (v := .tuple #[.int .i64 2, .agg ((S u).x).cells.toArray, .agg ((S u).a).cells.toArray]) (by simp [results, Try.results21, go_sem, y0, y1, y2, y3, y4, y5, y6, q0, q1, q2, q3, q4, q5, q6, q7, Cm.cells, At.cells, Cm.zero, At.of]) rfl ⟨rfl, HE.bel⟩
            · have h6 : th0 = true ∨ (th0 = false ∧ ¬ (K : Int) / 2 ≤ (sm0 : Int)) := by
                cases th0
                · exact .inr ⟨rfl, fun h => h5 ⟨rfl, by omega⟩⟩
                · exact .inl rfl
              have H5 := Lib.hid h5; clear h5
              rcases h6 with rfl | ⟨rfl, h7⟩
              all_goals
                have c6 := HV.out.at HB.out.bel hml 6 (by omega)
                have c7 := HV.out.at HB.out.bel hml 7 (by omega)
                have c8 := HV.out.at HB.out.bel hml 8 (by omega)
                have c9 := HV.out.at HB.out.bel hml 9 (by omega)
                have c10 := HV.out.at HB.out.bel hml 10 (by omega)
                have c11 := HV.out.at HB.out.bel hml 11 (by omega)
                have c12 := HV.out.at HB.out.bel hml 12 (by omega)
                have c13 := HV.out.at HB.out.bel hml 13 (by omega)
                have c14 := HV.out.at HB.out.bel hml 14 (by omega)
                have c15 := HV.out.at HB.out.bel hml 15 (by omega)
                have c16 := HV.out.at HB.out.bel hml 16 (by omega)
                have c17 := HV.out.at HB.out.bel hml 17 (by omega)
                have c18 := HV.out.at HB.out.bel hml 18 (by omega)
                have c19 := HV.out.at HB.out.bel hml 19 (by omega)
                have c20 := HV.out.at HB.out.bel hml 20 (by omega)
                simp only [Sd.cells, Cm.cells, At.cells, List.cons_append, List.nil_append, List.getElem?_cons_zero, List.getElem?_cons_succ] at c6 c7 c8 c9 c10 c11 c12 c13 c14 c15 c16 c17 c18 c19 c20
                have z0 := HB.out.x.cell 0
                have z1 := HB.out.x.cell 1
                have z2 := HB.out.x.cell 2
                have z3 := HB.out.x.cell 3
                have z4 := HB.out.x.cell 4
                have z5 := HB.out.x.cell 5
                have z6 := HB.out.x.cell 6
                have u0 := HB.out.a.cell 0
                have u1 := HB.out.a.cell 1
                have u2 := HB.out.a.cell 2
                have u3 := HB.out.a.cell 3
                have u4 := HB.out.a.cell 4
                have u5 := HB.out.a.cell 5
                have u6 := HB.out.a.cell 6
                have u7 := HB.out.a.cell 7
                simp only [Cm.cells, At.cells, Cm.zero, At.of, List.getElem?_cons_zero, List.getElem?_cons_succ] at z0 z1 z2 z3 z4 z5 z6 u0 u1 u2 u3 u4 u5 u6 u7
                have zf := fun i => HB.out.x.free i
                have uf := fun i => HB.out.a.free i
                have hne := HB.out.ne
                have hne' := Ne.symm hne
                go_upto_region 25 with (fail)
                go_region
                go_wp2_with fail
                clear z0 z1 z2 z3 z4 z5 z6 u0 u1 u2 u3 u4 u5 u6 u7 zf uf c6 c7 c8 c9 c10 c11 c12 c13 c14 c15 c16 c17 c18 c19 c20
                have HE : Bx w ((((((((((((((((w3.setCell ⟨g7, 0, none⟩ (.int .i64 (S m).x.k)).setCell ⟨g7, 1, none⟩ (.int .i64 (S m).x.c)).setCell ⟨g7, 2, none⟩ (.int .i64 (S m).x.s)).setCell ⟨g7, 3, none⟩ (.string (S m).x.a)).setCell ⟨g7, 4, none⟩ (.string (S m).x.b)).setCell ⟨g7, 5, none⟩ (.string (S m).x.o)).setCell ⟨g7, 6, none⟩ (.string (S m).x.v)).setCell ⟨g8, 0, none⟩ (.int .i64 (S m).a.q)).setCell ⟨g8, 1, none⟩ (.int .i64 ((S m).a.d 0))).setCell ⟨g8, 2, none⟩ (.int .i64 ((S m).a.d 1))).setCell ⟨g8, 3, none⟩ (.int .i64 ((S m).a.d 2))).setCell ⟨g8, 4, none⟩ (.int .i64 ((S m).a.d 3))).setCell ⟨g8, 5, none⟩ (.int .i64 ((S m).a.d 4))).setCell ⟨g8, 6, none⟩ (.int .i64 ((S m).a.d 5))).setCell ⟨g8, 7, none⟩ (.int .i64 ((S m).a.d 6))).drew) g7 g8 (S m).x (S m).a := (HB.out.set (S m).x (S m).a).drew
                generalize (((((((((((((((w3.setCell ⟨g7, 0, none⟩ (.int .i64 (S m).x.k)).setCell ⟨g7, 1, none⟩ (.int .i64 (S m).x.c)).setCell ⟨g7, 2, none⟩ (.int .i64 (S m).x.s)).setCell ⟨g7, 3, none⟩ (.string (S m).x.a)).setCell ⟨g7, 4, none⟩ (.string (S m).x.b)).setCell ⟨g7, 5, none⟩ (.string (S m).x.o)).setCell ⟨g7, 6, none⟩ (.string (S m).x.v)).setCell ⟨g8, 0, none⟩ (.int .i64 (S m).a.q)).setCell ⟨g8, 1, none⟩ (.int .i64 ((S m).a.d 0))).setCell ⟨g8, 2, none⟩ (.int .i64 ((S m).a.d 1))).setCell ⟨g8, 3, none⟩ (.int .i64 ((S m).a.d 2))).setCell ⟨g8, 4, none⟩ (.int .i64 ((S m).a.d 3))).setCell ⟨g8, 5, none⟩ (.int .i64 ((S m).a.d 4))).setCell ⟨g8, 6, none⟩ (.int .i64 ((S m).a.d 5))).setCell ⟨g8, 7, none⟩ (.int .i64 ((S m).a.d 6))).drew = W3 at HE ⊢
                have y0 := HE.x.cell 0
                have y1 := HE.x.cell 1
                have y2 := HE.x.cell 2
                have y3 := HE.x.cell 3
                have y4 := HE.x.cell 4
                have y5 := HE.x.cell 5
                have y6 := HE.x.cell 6
                have q0 := HE.a.cell 0
                have q1 := HE.a.cell 1
                have q2 := HE.a.cell 2
                have q3 := HE.a.cell 3
                have q4 := HE.a.cell 4
                have q5 := HE.a.cell 5
                have q6 := HE.a.cell 6
                have q7 := HE.a.cell 7
                simp only [Cm.cells, At.cells, List.getElem?_cons_zero, List.getElem?_cons_succ] at y0 y1 y2 y3 y4 y5 y6 q0 q1 q2 q3 q4 q5 q6 q7
                have hr : R = (3, (S m).x, (S m).a) := by rw [HR.out]; rw [if_neg (show ¬ 0 ≤ t2 by omega), if_neg (show ¬ (m : Int) < 0 by omega), if_neg H5.out, Int.toNat_natCast]
                rw [hr]
                exact bodyPost_ret (v := .tuple #[.int .i64 3, .agg ((S m).x).cells.toArray, .agg ((S m).a).cells.toArray]) (by simp [results, Try.results21, go_sem, y0, y1, y2, y3, y4, y5, y6, q0, q1, q2, q3, q4, q5, q6, q7, Cm.cells, At.cells, Cm.zero, At.of]) rfl ⟨rfl, HE.bel⟩
end Go.Proofs.Ytmpefdepcbfcdaa
