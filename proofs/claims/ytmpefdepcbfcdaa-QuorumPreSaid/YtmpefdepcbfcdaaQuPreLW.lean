/-
  The walk of QuorumPre.
-/
import Derived.Test.YtmpefdepcbfcdaaQuIntactW
import Derived.Test.YtmpefdepcbfcdaaQuDocPreW
import Derived.Deep.RegionHeld3
namespace Go.Proofs.Ytmpefdepcbfcdaa
open Go.RowKit
set_option linter.unusedVariables false
set_option linter.unusedSimpArgs false

/-- What lies there while both are asked: the own proposal, the roomy list, the list itself. -/
structure Qs (w W : World) (g7 g : Nat) (own : At) (L : Nat) (R : Nat → At) : Prop where
  bel : Below w.heap.size w W
  o : Holds W g7 26 own.cells
  f : Holds W g 26 (flat 8 (L + 80) fun i => if i < L then (R i).cells else (At.of (-9)).cells)
theorem Qs.below {w W W' : World} {g7 g L : Nat} {own : At} {R : Nat → At} (h : Qs w W g7 g own L R) (hb : Below W.heap.size W W') : Qs w W' g7 g own L R :=
  ⟨h.bel.trans (hb.mono h.bel.size), h.o.below hb h.o.lt, h.f.below hb h.f.lt⟩
theorem Qs.rows {w W : World} {g7 g L : Nat} {own : At} {R : Nat → At} (h : Qs w W g7 g own L R) (hL : L ≤ 6) : IsRows W (some ⟨g, 0, none⟩) L 8 fun i => (R i).cells := by
  have hlen : ∀ i, i < L + 80 → (if i < L then (R i).cells else (At.of (-9)).cells).length = 8 := fun i _ => by
    by_cases h : i < L
    · rw [if_pos h]; rfl
    · rw [if_neg h]; rfl
  exact ((rows_of_flat h.f hlen (by omega)).less (show L ≤ L + 80 by omega)).cong (fun i hi => if_pos hi)
theorem Qs.set8 {w W : World} {g7 g L b : Nat} {own : At} {R : Nat → At} (h : Qs w W g7 g own L R) (hz : Holds W b 26 (At.of 0).cells) (hb : w.heap.size ≤ b) (n7 : g7 ≠ b) (ng : g ≠ b) (A : At) :
    Qs w ((((((((W.setCell ⟨b, 0, none⟩ (.int .i64 A.q)).setCell ⟨b, 1, none⟩ (.int .i64 (A.d 0))).setCell ⟨b, 2, none⟩ (.int .i64 (A.d 1))).setCell ⟨b, 3, none⟩ (.int .i64 (A.d 2))).setCell ⟨b, 4, none⟩ (.int .i64 (A.d 3))).setCell ⟨b, 5, none⟩ (.int .i64 (A.d 4))).setCell ⟨b, 6, none⟩ (.int .i64 (A.d 5))).setCell ⟨b, 7, none⟩ (.int .i64 (A.d 6))) g7 g own L R ∧ Holds ((((((((W.setCell ⟨b, 0, none⟩ (.int .i64 A.q)).setCell ⟨b, 1, none⟩ (.int .i64 (A.d 0))).setCell ⟨b, 2, none⟩ (.int .i64 (A.d 1))).setCell ⟨b, 3, none⟩ (.int .i64 (A.d 2))).setCell ⟨b, 4, none⟩ (.int .i64 (A.d 3))).setCell ⟨b, 5, none⟩ (.int .i64 (A.d 4))).setCell ⟨b, 6, none⟩ (.int .i64 (A.d 5))).setCell ⟨b, 7, none⟩ (.int .i64 (A.d 6))) b 26 A.cells := by
  have t := ((((((((Touch.refl b W).setCell 0 (.int .i64 A.q)).setCell 1 (.int .i64 (A.d 0))).setCell 2 (.int .i64 (A.d 1))).setCell 3 (.int .i64 (A.d 2))).setCell 4 (.int .i64 (A.d 3))).setCell 5 (.int .i64 (A.d 4))).setCell 6 (.int .i64 (A.d 5))).setCell 7 (.int .i64 (A.d 6))
  have s := ((((((((hz).set 0 (.int .i64 A.q)).set 1 (.int .i64 (A.d 0))).set 2 (.int .i64 (A.d 1))).set 3 (.int .i64 (A.d 2))).set 4 (.int .i64 (A.d 3))).set 5 (.int .i64 (A.d 4))).set 6 (.int .i64 (A.d 5))).set 7 (.int .i64 (A.d 6))
  simp only [At.cells, At.of, List.set_cons_succ, List.set_cons_zero] at s
  exact ⟨⟨h.bel.trans (t.below hb h.bel.size), h.o.touch t n7, h.f.touch t ng⟩, s⟩
/-- The same with the first answer's attributes in their box. -/
structure Q2 (w W : World) (g7 g : Nat) (own : At) (L : Nat) (R : Nat → At) (b : Nat) (A : At) : Prop where
  q : Qs w W g7 g own L R
  h : Holds W b 26 A.cells
theorem Q2.below {w W W' : World} {g7 g L b : Nat} {own A : At} {R : Nat → At} (h : Q2 w W g7 g own L R b A) (hb : Below W.heap.size W W') : Q2 w W' g7 g own L R b A :=
  ⟨h.q.below hb, h.h.below hb h.h.lt⟩
theorem Q2.set8 {w W : World} {g7 g L b c : Nat} {own A : At} {R : Nat → At} (h : Q2 w W g7 g own L R c A) (hz : Holds W b 26 (At.of 0).cells) (hb : w.heap.size ≤ b) (n7 : g7 ≠ b) (ng : g ≠ b) (nc : c ≠ b) :
    Q2 w ((((((((W.setCell ⟨b, 0, none⟩ (.int .i64 A.q)).setCell ⟨b, 1, none⟩ (.int .i64 (A.d 0))).setCell ⟨b, 2, none⟩ (.int .i64 (A.d 1))).setCell ⟨b, 3, none⟩ (.int .i64 (A.d 2))).setCell ⟨b, 4, none⟩ (.int .i64 (A.d 3))).setCell ⟨b, 5, none⟩ (.int .i64 (A.d 4))).setCell ⟨b, 6, none⟩ (.int .i64 (A.d 5))).setCell ⟨b, 7, none⟩ (.int .i64 (A.d 6))) g7 g own L R c A ∧ Holds ((((((((W.setCell ⟨b, 0, none⟩ (.int .i64 A.q)).setCell ⟨b, 1, none⟩ (.int .i64 (A.d 0))).setCell ⟨b, 2, none⟩ (.int .i64 (A.d 1))).setCell ⟨b, 3, none⟩ (.int .i64 (A.d 2))).setCell ⟨b, 4, none⟩ (.int .i64 (A.d 3))).setCell ⟨b, 5, none⟩ (.int .i64 (A.d 4))).setCell ⟨b, 6, none⟩ (.int .i64 (A.d 5))).setCell ⟨b, 7, none⟩ (.int .i64 (A.d 6))) b 26 A.cells := by
  have t := ((((((((Touch.refl b W).setCell 0 (.int .i64 A.q)).setCell 1 (.int .i64 (A.d 0))).setCell 2 (.int .i64 (A.d 1))).setCell 3 (.int .i64 (A.d 2))).setCell 4 (.int .i64 (A.d 3))).setCell 5 (.int .i64 (A.d 4))).setCell 6 (.int .i64 (A.d 5))).setCell 7 (.int .i64 (A.d 6))
  obtain ⟨h1, h2⟩ := h.q.set8 hz hb n7 ng A
  exact ⟨⟨h1, h.h.touch t nc⟩, h2⟩
theorem eq_at_self (m : At) (w : World) : (binOp .eql 26 (.agg #[.int .i64 m.q, .int .i64 (m.d 0), .int .i64 (m.d 1), .int .i64 (m.d 2), .int .i64 (m.d 3), .int .i64 (m.d 4), .int .i64 (m.d 5), .int .i64 (m.d 6)]) (.agg #[.int .i64 m.q, .int .i64 (m.d 0), .int .i64 (m.d 1), .int .i64 (m.d 2), .int .i64 (m.d 3), .int .i64 (m.d 4), .int .i64 (m.d 5), .int .i64 (m.d 6)])).run Try.prog w = .ok (.bool true) w := by rw [eq_attr, At.eqB_self]
set_option maxRecDepth 4000 in
set_option maxHeartbeats 20000000 in
theorem quorumPre_any (n : Int) (first late : Bool) (own : At) (a : Option Addr) (len cap : Nat) (R : Nat → At) (w : World) (hn : (Lit.int .i64 n).wf = true)
    (hS : IsRows w a len 8 fun i => (R i).cells) (hlc : len ≤ cap) (hcm : cap ≤ maxLen) (hnil : a = none → cap = 0) :
    Calls Try.prog 4 #[.int .i64 n, .bool first, .agg #[.int .i64 own.q, .int .i64 (own.d 0), .int .i64 (own.d 1), .int .i64 (own.d 2), .int .i64 (own.d 3), .int .i64 (own.d 4), .int .i64 (own.d 5), .int .i64 (own.d 6)], .slice a len cap, .bool late] w fun e w' => e = .returned (.bool true) ∧ Below w.heap.size w w' := by
  unfold maxLen at hcm
  have hK := fitN_in n
  have hf := fun W => fit_any n W hn
  have hK3 : 3 ≤ fitN n := by omega
  have hK7 : fitN n ≤ 7 := by omega
  generalize fitN n = K at hK hf hK3 hK7
  have HF := Lib.hid hf; clear hf hK
  have HV := Lib.hid hS; have HN := Lib.hid hnil; clear hS hnil
  have hl1 : ((6 : Int) < (len : Int) ∧ 6 < len) ∨ (¬ (6 : Int) < (len : Int) ∧ len ≤ 6) := by omega
  go_enter Try.func4, Try.ntmps4
  go_upto_region 1 with (fail)
  have ho := holds_alloc w 26 own.cells
  have hb0 : Below w.heap.size w (w.alloc (.cells own.cells.toArray 26)) := by go_grown
  go_name_world W0 hW0
  have ho' : Holds W0 w.heap.size 26 own.cells := by rw [← hW0]; exact ho
  have hb0' : Below w.heap.size w W0 := by rw [← hW0]; exact hb0
  clear hW0 ho hb0
  have HO := Lib.hid ho'; have HB := Lib.hid hb0'; clear ho' hb0'
  generalize w.heap.size = g7 at HO
  go_upto_if 18 with (fail)
  go_cut [3] from 16 to 20 (fun x wx => ∃ L : Nat, L ≤ len ∧ L ≤ 6 ∧ x = .slice a L cap ∧ wx = W0)
  case first =>
    rcases hl1 with ⟨h1, h1'⟩ | ⟨h1, h1'⟩
    · go_wp2_with fail
      go_meet
      exact ⟨6, by omega, by omega, rfl, rfl⟩
    · go_wp2_with fail
      go_meet
      exact ⟨len, by omega, by omega, rfl, rfl⟩
  case rest =>
    obtain ⟨L, hL, hL6, rfl, rfl⟩ := hcut
    have HVL := Lib.hid (HV.out.less hL)
    have hro := fun W (h : Below w.heap.size w W) => roomy_at a L cap R (At.of (-9)) W (HVL.out.below h) (by omega) HN.out
    have HRO := Lib.hid hro; clear hro hl1
    go_wp2_with fail
    refine (attr_lit (-9) _).mono ?_
    rintro e w1 ⟨rfl, hb⟩
    have HO := Lib.hid (HO.out.below hb HO.out.lt)
    have HB := Lib.hid (below_next HB.out hb)
    clear hb
    go_wp2_with fail
    refine (HRO.out _ HB.out).mono ?_
    rintro e w2 ⟨g, rfl, hg, hfl, hb⟩
    have HQ := Lib.hid (show Qs w w2 g7 g own L R from ⟨below_next HB.out hb, HO.out.below hb HO.out.lt, hfl⟩)
    have hin := fun W (h : Qs w W g7 g own L R) => intact_at g a L cap R (At.of (-9)) W h.f (HVL.out.below h.bel) (by omega) (by omega)
    have HIN := Lib.hid hin; clear hin
    clear hb hg hfl HO HB HRO
    have hp := fun W (h : Qs w W g7 g own L R) => pre_any K first late own (some ⟨g, 0, none⟩) L (L + 80) R W (h.rows hL6) (by omega) (by intro h; cases h) hK3 hK7 (by omega)
    have hp2 := fun W (h : Qs w W g7 g own L R) => dpre_any K first late own a L cap R W (HVL.out.below h.bel) (by omega) hK3 hK7 (by omega)
    generalize preA K first own R L late = P at hp hp2
    obtain ⟨kd, A⟩ := P
    simp only [At.cells] at hp hp2
    have HP := Lib.hid hp; have HP2 := Lib.hid hp2; clear hp hp2
    have he : ∀ V W : World, (Below (V.alloc (.cells #[.int .i64 0, .int .i64 0, .int .i64 0, .int .i64 0, .int .i64 0, .int .i64 0, .int .i64 0, .int .i64 0] 26)).heap.size (V.alloc (.cells #[.int .i64 0, .int .i64 0, .int .i64 0, .int .i64 0, .int .i64 0, .int .i64 0, .int .i64 0, .int .i64 0] 26)) W ∨ Below (V.alloc (.cells #[.int .i64 0, .int .i64 0, .int .i64 0, .int .i64 0, .int .i64 0, .int .i64 0, .int .i64 0, .int .i64 0] 26)).drew.heap.size (V.alloc (.cells #[.int .i64 0, .int .i64 0, .int .i64 0, .int .i64 0, .int .i64 0, .int .i64 0, .int .i64 0, .int .i64 0] 26)).drew W) → W.cell? ⟨V.heap.size, 0, none⟩ = some (.int .i64 0) ∧ W.cell? ⟨V.heap.size, 1, none⟩ = some (.int .i64 0) ∧ W.cell? ⟨V.heap.size, 2, none⟩ = some (.int .i64 0) ∧ W.cell? ⟨V.heap.size, 3, none⟩ = some (.int .i64 0) ∧ W.cell? ⟨V.heap.size, 4, none⟩ = some (.int .i64 0) ∧ W.cell? ⟨V.heap.size, 5, none⟩ = some (.int .i64 0) ∧ W.cell? ⟨V.heap.size, 6, none⟩ = some (.int .i64 0) ∧ W.cell? ⟨V.heap.size, 7, none⟩ = some (.int .i64 0) ∧ (∀ i, W.frozen? ⟨V.heap.size, i, none⟩ = false) ∧ Holds W V.heap.size 26 (At.of 0).cells := by
      intro V W h
      have h0 := holds_alloc V 26 (At.of 0).cells
      have h1 : Holds W V.heap.size 26 (At.of 0).cells := by
        rcases h with h | h
        · exact h0.below h h0.lt
        · exact (holds_drew h0).below h h0.lt
      exact ⟨h1.cell 0, h1.cell 1, h1.cell 2, h1.cell 3, h1.cell 4, h1.cell 5, h1.cell 6, h1.cell 7, fun i => h1.free i, h1⟩
    have HE := Lib.hid he; clear he
    have hlt2 := HQ.out.o.lt
    have a0 := HQ.out.o.cell 0
    have a1 := HQ.out.o.cell 1
    have a2 := HQ.out.o.cell 2
    have a3 := HQ.out.o.cell 3
    have a4 := HQ.out.o.cell 4
    have a5 := HQ.out.o.cell 5
    have a6 := HQ.out.o.cell 6
    have a7 := HQ.out.o.cell 7
    simp only [At.cells, List.getElem?_cons_zero, List.getElem?_cons_succ] at a0 a1 a2 a3 a4 a5 a6 a7
    have hf2 : ∀ W, Qs w W g7 g own L R → Calls Try.prog 17 #[.int .i64 n] W fun e w' => e = .returned (.int .i64 K) ∧ w'.cell? ⟨g7, 0, none⟩ = some (.int .i64 own.q) ∧ w'.cell? ⟨g7, 1, none⟩ = some (.int .i64 (own.d 0)) ∧ w'.cell? ⟨g7, 2, none⟩ = some (.int .i64 (own.d 1)) ∧ w'.cell? ⟨g7, 3, none⟩ = some (.int .i64 (own.d 2)) ∧ w'.cell? ⟨g7, 4, none⟩ = some (.int .i64 (own.d 3)) ∧ w'.cell? ⟨g7, 5, none⟩ = some (.int .i64 (own.d 4)) ∧ w'.cell? ⟨g7, 6, none⟩ = some (.int .i64 (own.d 5)) ∧ w'.cell? ⟨g7, 7, none⟩ = some (.int .i64 (own.d 6)) ∧ g7 < w'.heap.size ∧ Qs w w' g7 g own L R ∧ Below W.heap.size W w' := by
      intro W h
      refine (HF.out W).mono ?_
      rintro e w' ⟨rfl, hb⟩
      have h2 := h.below hb
      exact ⟨rfl, h2.o.cell 0, h2.o.cell 1, h2.o.cell 2, h2.o.cell 3, h2.o.cell 4, h2.o.cell 5, h2.o.cell 6, h2.o.cell 7, h2.o.lt, h2, hb⟩
    have HF2 := Lib.hid hf2; clear hf2
    go_upto_region 4 with (fail)
    go_cut [12, 13] from 24 to 63 (fun x y wx => ∃ b13 : Nat, x = .int .i64 kd ∧ y = .pointer (some ⟨b13, 0, none⟩) ∧ Qs w wx g7 g own L R ∧ Holds wx b13 26 A.cells)
    case first =>
      go_region_with (first
        | (go_at_call 17; go_must (refine (HF2.out _ (by first | exact HQ.out | exact HQ.out.below (by go_grown))).mono ?_); rintro e w3 ⟨rfl, x0, x1, x2, x3, x4, x5, x6, x7, hlt3, hq3, hb3⟩)
        | (go_at_call 16; go_must (refine (HP.out _ (by first | exact hq3 | exact hq3.below (by go_grown))).mono ?_); rintro e w4 ⟨rfl, hb4⟩; first | (guard_hyp hb3 : Below (w2.alloc (Obj.cells #[.int .i64 0, .int .i64 0, .int .i64 0, .int .i64 0, .int .i64 0, .int .i64 0, .int .i64 0, .int .i64 0] 26)).drew.heap.size (w2.alloc (Obj.cells #[.int .i64 0, .int .i64 0, .int .i64 0, .int .i64 0, .int .i64 0, .int .i64 0, .int .i64 0, .int .i64 0] 26)).drew w3; obtain ⟨z0, z1, z2, z3, z4, z5, z6, z7, zf, hz⟩ := HE.out w2 w4 (.inr (below_next hb3 hb4))) | (guard_hyp hb3 : Below (w2.alloc (Obj.cells #[.int .i64 0, .int .i64 0, .int .i64 0, .int .i64 0, .int .i64 0, .int .i64 0, .int .i64 0, .int .i64 0] 26)).heap.size (w2.alloc (Obj.cells #[.int .i64 0, .int .i64 0, .int .i64 0, .int .i64 0, .int .i64 0, .int .i64 0, .int .i64 0, .int .i64 0] 26)) w3; obtain ⟨z0, z1, z2, z3, z4, z5, z6, z7, zf, hz⟩ := HE.out w2 w4 (.inl (below_next hb3 hb4))) | (guard_hyp hb4 : Below (w3.alloc (Obj.cells #[.int .i64 0, .int .i64 0, .int .i64 0, .int .i64 0, .int .i64 0, .int .i64 0, .int .i64 0, .int .i64 0] 26)).drew.heap.size (w3.alloc (Obj.cells #[.int .i64 0, .int .i64 0, .int .i64 0, .int .i64 0, .int .i64 0, .int .i64 0, .int .i64 0, .int .i64 0] 26)).drew w4; obtain ⟨z0, z1, z2, z3, z4, z5, z6, z7, zf, hz⟩ := HE.out w3 w4 (.inr (hb4))) | (guard_hyp hb4 : Below (w3.alloc (Obj.cells #[.int .i64 0, .int .i64 0, .int .i64 0, .int .i64 0, .int .i64 0, .int .i64 0, .int .i64 0, .int .i64 0] 26)).heap.size (w3.alloc (Obj.cells #[.int .i64 0, .int .i64 0, .int .i64 0, .int .i64 0, .int .i64 0, .int .i64 0, .int .i64 0, .int .i64 0] 26)) w4; obtain ⟨z0, z1, z2, z3, z4, z5, z6, z7, zf, hz⟩ := HE.out w3 w4 (.inl (hb4))) | skip))
      all_goals (go_wp2_with fail; go_meet)
      all_goals first
        | (have hz' := hz
           guard_hyp hb4 : Below w3.heap.size w3 w4
           have hq4 := hq3.below hb4
           have hs2 := HQ.out.bel.size
           have ho2 := HQ.out.o.lt
           have hf2 := HQ.out.f.lt
           obtain ⟨hs, hh⟩ := hq4.set8 hz' hs2 (by omega) (by omega) A
           with_reducible exact ⟨_, rfl, rfl, hs, hh⟩)
        | (have hz' := hz
           have hs3 := hq3.bel.size
           have ho3 := hq3.o.lt
           have hf3 := hq3.f.lt
           have hq4 := (hq3.below (show Below w3.heap.size w3 (w3.alloc (.cells #[.int .i64 0, .int .i64 0, .int .i64 0, .int .i64 0, .int .i64 0, .int .i64 0, .int .i64 0, .int .i64 0] 26)) by go_grown)).below hb4
           obtain ⟨hs, hh⟩ := hq4.set8 hz' hs3 (by omega) (by omega) A
           with_reducible exact ⟨_, rfl, rfl, hs, hh⟩)
        | (have hq4 := hq3.below hb4
           have hh := holds_alloc w4 26 A.cells
           simp only [At.cells] at hh
           exact ⟨_, rfl, rfl, hq4.below (by go_grown), hh⟩)
    case rest =>
      obtain ⟨b13, rfl, rfl, hq5, hh5⟩ := hcut
      clear HF2 HP a0 a1 a2 a3 a4 a5 a6 a7 hlt2
      have HQ5 := Lib.hid (Q2.mk hq5 hh5)
      clear hq5 hh5 HQ
      have hlt5 := HQ5.out.q.o.lt
      have a0 := HQ5.out.q.o.cell 0
      have a1 := HQ5.out.q.o.cell 1
      have a2 := HQ5.out.q.o.cell 2
      have a3 := HQ5.out.q.o.cell 3
      have a4 := HQ5.out.q.o.cell 4
      have a5 := HQ5.out.q.o.cell 5
      have a6 := HQ5.out.q.o.cell 6
      have a7 := HQ5.out.q.o.cell 7
      simp only [At.cells, List.getElem?_cons_zero, List.getElem?_cons_succ] at a0 a1 a2 a3 a4 a5 a6 a7
      have hf5 : ∀ W, Q2 w W g7 g own L R b13 A → Calls Try.prog 17 #[.int .i64 n] W fun e w' => e = .returned (.int .i64 K) ∧ w'.cell? ⟨g7, 0, none⟩ = some (.int .i64 own.q) ∧ w'.cell? ⟨g7, 1, none⟩ = some (.int .i64 (own.d 0)) ∧ w'.cell? ⟨g7, 2, none⟩ = some (.int .i64 (own.d 1)) ∧ w'.cell? ⟨g7, 3, none⟩ = some (.int .i64 (own.d 2)) ∧ w'.cell? ⟨g7, 4, none⟩ = some (.int .i64 (own.d 3)) ∧ w'.cell? ⟨g7, 5, none⟩ = some (.int .i64 (own.d 4)) ∧ w'.cell? ⟨g7, 6, none⟩ = some (.int .i64 (own.d 5)) ∧ w'.cell? ⟨g7, 7, none⟩ = some (.int .i64 (own.d 6)) ∧ g7 < w'.heap.size ∧ Q2 w w' g7 g own L R b13 A ∧ Below W.heap.size W w' := by
        intro W h
        refine (HF.out W).mono ?_
        rintro e w' ⟨rfl, hb⟩
        have h2 := h.below hb
        exact ⟨rfl, h2.q.o.cell 0, h2.q.o.cell 1, h2.q.o.cell 2, h2.q.o.cell 3, h2.q.o.cell 4, h2.q.o.cell 5, h2.q.o.cell 6, h2.q.o.cell 7, h2.q.o.lt, h2, hb⟩
      have HF5 := Lib.hid hf5; clear hf5
      go_upto_region 5 with (fail)
      go_cut [14, 15] from 37 to 63 (fun x y wx => ∃ b15 : Nat, x = .int .i64 kd ∧ y = .pointer (some ⟨b15, 0, none⟩) ∧ Q2 w wx g7 g own L R b13 A ∧ Holds wx b15 26 A.cells)
      case first =>
        go_region_with (first
          | (go_at_call 17; go_must (refine (HF5.out _ (by first | exact HQ5.out | exact HQ5.out.below (by go_grown))).mono ?_); rintro e w3 ⟨rfl, x0, x1, x2, x3, x4, x5, x6, x7, hlt3, hq3, hb3⟩)
          | (go_at_call 18; go_must (refine (HP2.out _ (by first | exact hq3.q | exact (hq3.below (by go_grown)).q)).mono ?_); rintro e w4 ⟨rfl, hb4⟩; first | (guard_hyp hb3 : Below (wc.alloc (Obj.cells #[.int .i64 0, .int .i64 0, .int .i64 0, .int .i64 0, .int .i64 0, .int .i64 0, .int .i64 0, .int .i64 0] 26)).drew.heap.size (wc.alloc (Obj.cells #[.int .i64 0, .int .i64 0, .int .i64 0, .int .i64 0, .int .i64 0, .int .i64 0, .int .i64 0, .int .i64 0] 26)).drew w3; obtain ⟨z0, z1, z2, z3, z4, z5, z6, z7, zf, hz⟩ := HE.out wc w4 (.inr (below_next hb3 hb4))) | (guard_hyp hb3 : Below (wc.alloc (Obj.cells #[.int .i64 0, .int .i64 0, .int .i64 0, .int .i64 0, .int .i64 0, .int .i64 0, .int .i64 0, .int .i64 0] 26)).heap.size (wc.alloc (Obj.cells #[.int .i64 0, .int .i64 0, .int .i64 0, .int .i64 0, .int .i64 0, .int .i64 0, .int .i64 0, .int .i64 0] 26)) w3; obtain ⟨z0, z1, z2, z3, z4, z5, z6, z7, zf, hz⟩ := HE.out wc w4 (.inl (below_next hb3 hb4))) | (guard_hyp hb4 : Below (w3.alloc (Obj.cells #[.int .i64 0, .int .i64 0, .int .i64 0, .int .i64 0, .int .i64 0, .int .i64 0, .int .i64 0, .int .i64 0] 26)).drew.heap.size (w3.alloc (Obj.cells #[.int .i64 0, .int .i64 0, .int .i64 0, .int .i64 0, .int .i64 0, .int .i64 0, .int .i64 0, .int .i64 0] 26)).drew w4; obtain ⟨z0, z1, z2, z3, z4, z5, z6, z7, zf, hz⟩ := HE.out w3 w4 (.inr (hb4))) | (guard_hyp hb4 : Below (w3.alloc (Obj.cells #[.int .i64 0, .int .i64 0, .int .i64 0, .int .i64 0, .int .i64 0, .int .i64 0, .int .i64 0, .int .i64 0] 26)).heap.size (w3.alloc (Obj.cells #[.int .i64 0, .int .i64 0, .int .i64 0, .int .i64 0, .int .i64 0, .int .i64 0, .int .i64 0, .int .i64 0] 26)) w4; obtain ⟨z0, z1, z2, z3, z4, z5, z6, z7, zf, hz⟩ := HE.out w3 w4 (.inl (hb4))) | skip))
        all_goals (go_wp2_with fail; go_meet)
        all_goals first
          | (have hz' := hz
             guard_hyp hb4 : Below w3.heap.size w3 w4
             have hq4 := hq3.below hb4
             have hs2 := HQ5.out.q.bel.size
             have hh5 := HQ5.out.h.lt
             have ho2 := HQ5.out.q.o.lt
             have hf2 := HQ5.out.q.f.lt
             obtain ⟨hs, hh⟩ := hq4.set8 hz' hs2 (by omega) (by omega) (by omega)
             with_reducible exact ⟨_, rfl, rfl, hs, hh⟩)
          | (have hz' := hz
             have hs3 := hq3.q.bel.size
             have hh5 := hq3.h.lt
             have ho3 := hq3.q.o.lt
             have hf3 := hq3.q.f.lt
             have hq4 := (hq3.below (show Below w3.heap.size w3 (w3.alloc (.cells #[.int .i64 0, .int .i64 0, .int .i64 0, .int .i64 0, .int .i64 0, .int .i64 0, .int .i64 0, .int .i64 0] 26)) by go_grown)).below hb4
             obtain ⟨hs, hh⟩ := hq4.set8 hz' hs3 (by omega) (by omega) (by omega)
             with_reducible exact ⟨_, rfl, rfl, hs, hh⟩)
          | (have hq4 := hq3.below hb4
             have hh := holds_alloc w4 26 A.cells
             simp only [At.cells] at hh
             exact ⟨_, rfl, rfl, hq4.below (by go_grown), hh⟩)
      case rest =>
        obtain ⟨b15, rfl, rfl, hq6, hh6⟩ := hcut
        clear HF5 HP2 a0 a1 a2 a3 a4 a5 a6 a7 hlt5 HQ5
        have c0 := hq6.h.cell 0
        have c1 := hq6.h.cell 1
        have c2 := hq6.h.cell 2
        have c3 := hq6.h.cell 3
        have c4 := hq6.h.cell 4
        have c5 := hq6.h.cell 5
        have c6 := hq6.h.cell 6
        have c7 := hq6.h.cell 7
        have d0 := hh6.cell 0
        have d1 := hh6.cell 1
        have d2 := hh6.cell 2
        have d3 := hh6.cell 3
        have d4 := hh6.cell 4
        have d5 := hh6.cell 5
        have d6 := hh6.cell 6
        have d7 := hh6.cell 7
        simp only [At.cells, List.getElem?_cons_zero, List.getElem?_cons_succ] at c0 c1 c2 c3 c4 c5 c6 c7 d0 d1 d2 d3 d4 d5 d6 d7
        have heq := eq_at_self A
        have HQ6 := Lib.hid hq6.q
        clear hq6 hh6
        go_wp2_with fail
        refine (attr_lit (-9) _).mono ?_
        rintro e w7 ⟨rfl, hb⟩
        have HQ6 := Lib.hid (HQ6.out.below hb)
        clear hb c0 c1 c2 c3 c4 c5 c6 c7 d0 d1 d2 d3 d4 d5 d6 d7 heq
        go_wp2_with fail
        refine (HIN.out _ HQ6.out).mono ?_
        rintro e w8 ⟨rfl, hb⟩
        have HQ6 := Lib.hid (HQ6.out.below hb)
        clear hb HIN
        go_wp2_with fail
        refine (quorumRuns_any _).mono ?_
        rintro e w9 ⟨rfl, hb⟩
        have HQ6 := Lib.hid (HQ6.out.below hb)
        clear hb
        go_wp2_with fail
        go_ret
        exact ⟨rfl, HQ6.out.bel⟩
end Go.Proofs.Ytmpefdepcbfcdaa
