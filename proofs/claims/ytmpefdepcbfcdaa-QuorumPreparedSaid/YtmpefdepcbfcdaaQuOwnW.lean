/-
  The walk of QuorumOwner.
-/
import Derived.Test.YtmpefdepcbfcdaaQuLstW
import Derived.Test.YtmpefdepcbfcdaaQuEqW
namespace Go.Proofs.Ytmpefdepcbfcdaa
open Go.RowKit
set_option linter.unusedVariables false
set_option linter.unusedSimpArgs false

/-- Seven booleans. -/
def boolL (h : Nat → Bool) : List Value := [.bool (h 0), .bool (h 1), .bool (h 2), .bool (h 3), .bool (h 4), .bool (h 5), .bool (h 6)]
theorem boolL_get (h : Nat → Bool) (k : Nat) (hk : k < 7) : (boolL h)[k]? = some (.bool (h k)) := by
  rcases (show k = 0 ∨ k = 1 ∨ k = 2 ∨ k = 3 ∨ k = 4 ∨ k = 5 ∨ k = 6 by omega) with rfl | rfl | rfl | rfl | rfl | rfl | rfl <;> rfl
def ownSd (h : Nat → Bool) (c : Cm) (a : At) (r : Nat) : Sd := if h r = true then ⟨r, 1, 0, 0, 0, 0, c, a, true⟩ else ⟨r, 0, 0, 0, 0, 0, Cm.zero, At.of 0, false⟩
def someTo (f : Nat → Bool) : Nat → Bool
  | 0 => false
  | k + 1 => someTo f k || f k
theorem someTo_cases (f : Nat → Bool) (k : Nat) : (someTo f k = true ∧ ∃ i, i < k ∧ f i = true) ∨ (someTo f k = false ∧ ∀ i, i < k → f i = false) := by
  induction k with
  | zero => exact .inr ⟨rfl, fun i hi => by omega⟩
  | succ k ih =>
    unfold someTo
    rcases ih with ⟨h, i, hi, hf⟩ | ⟨h, hn⟩
    · exact .inl ⟨by rw [h]; rfl, i, by omega, hf⟩
    · rw [h]
      cases hk : f k
      · refine .inr ⟨rfl, fun i hi => ?_⟩
        by_cases hik : i = k
        · rw [hik]; exact hk
        · exact hn i (by omega)
      · exact .inl ⟨rfl, k, by omega, hk⟩
/-- What was handed in lies in boxes, below a border. -/
structure Ow (w W : World) (B g8 g9 g10 : Nat) (h : Nat → Bool) (c : Cm) (a : At) : Prop where
  bel : Below w.heap.size w W
  h : Holds W g8 58 (boolL h)
  c : Holds W g9 32 c.cells
  a : Holds W g10 26 a.cells
  ge : w.heap.size ≤ B
  l8 : g8 < B
  l9 : g9 < B
  l10 : g10 < B
  le : B ≤ W.heap.size
theorem Ow.next {w W W' : World} {B g8 g9 g10 : Nat} {h : Nat → Bool} {c : Cm} {a : At} (o : Ow w W B g8 g9 g10 h c a) (hb : Below B W W') : Ow w W' B g8 g9 g10 h c a :=
  ⟨o.bel.trans (hb.mono o.ge), o.h.below hb o.l8, o.c.below hb o.l9, o.a.below hb o.l10, o.ge, o.l8, o.l9, o.l10, Nat.le_trans o.le hb.size⟩
theorem Ow.below {w W W' : World} {B g8 g9 g10 : Nat} {h : Nat → Bool} {c : Cm} {a : At} (o : Ow w W B g8 g9 g10 h c a) (hb : Below W.heap.size W W') : Ow w W' B g8 g9 g10 h c a := o.next (hb.mono o.le)
theorem eq_cmd_self (x : Cm) (w : World) : (binOp .eql 32 (.agg #[.int .i64 x.k, .int .i64 x.c, .int .i64 x.s, .string x.a, .string x.b, .string x.o, .string x.v]) (.agg #[.int .i64 x.k, .int .i64 x.c, .int .i64 x.s, .string x.a, .string x.b, .string x.o, .string x.v])).run Try.prog w = .ok (.bool true) w := by
  rw [run_eql_struct, show (10000 : Nat) = 9998 + 2 from rfl, eqCmd_self]; rfl
theorem eq_att_self (m : At) (w : World) : (binOp .eql 26 (.agg #[.int .i64 m.q, .int .i64 (m.d 0), .int .i64 (m.d 1), .int .i64 (m.d 2), .int .i64 (m.d 3), .int .i64 (m.d 4), .int .i64 (m.d 5), .int .i64 (m.d 6)]) (.agg #[.int .i64 m.q, .int .i64 (m.d 0), .int .i64 (m.d 1), .int .i64 (m.d 2), .int .i64 (m.d 3), .int .i64 (m.d 4), .int .i64 (m.d 5), .int .i64 (m.d 6)])).run Try.prog w = .ok (.bool true) w := by rw [eq_attr, At.eqB_self]
def cellL (st : Int) (x : Cm) (a : At) (s : Bool) : List Value := .int .i64 st :: .int .i64 0 :: .int .i64 0 :: .int .i64 0 :: .int .i64 0 :: (x.cells ++ (a.cells ++ [.bool s]))
theorem cellL_one (st : Int) (x : Cm) (a : At) (s : Bool) : (cellL st x a s).toArray.all (·.oneCell') = true := by simp [cellL, Cm.cells, At.cells, Value.oneCell']
theorem turn_of (t m i : Nat) (ht : t < m) (hi : i < m) : ∃ k, k < m ∧ (t + k) % m = i := by
  by_cases h : t ≤ i
  · exact ⟨i - t, by omega, by rw [Nat.add_sub_cancel' h]; exact Nat.mod_eq_of_lt hi⟩
  · exact ⟨i + m - t, by omega, by rw [show t + (i + m - t) = i + m by omega, Nat.add_mod_right]; exact Nat.mod_eq_of_lt hi⟩
theorem own_law (K o t m : Nat) (hv : Nat → Bool) (c : Cm) (a : At) (hm : K / 2 + 1 = m) (ho : o < K) (ht : t < m) (S : Nat → Sd) (hS : ∀ i, S i = ownSd hv c a ((o + i) % K)) :
    (someTo (fun i => hv ((o + i) % K)) m = true → prepared K o (fun i => S ((t + i) % m)) m = (3, c, a)) ∧ (someTo (fun i => hv ((o + i) % K)) m = false → prepared K o (fun i => S ((t + i) % m)) m = (4, Cm.zero, At.of 0)) := by
  have hst : ∀ i, ((S i).st = 1 ∧ (S i).x = c ∧ (S i).a = a ∧ hv ((o + i) % K) = true) ∨ ((S i).st = 0 ∧ hv ((o + i) % K) = false) := fun i => by
    rw [hS i]; unfold ownSd
    cases hv ((o + i) % K)
    · exact .inr ⟨rfl, rfl⟩
    · exact .inl ⟨rfl, rfl, rfl, rfl⟩
  obtain ⟨i0, hi0, h0⟩ := turn_of t m 0 ht (by omega)
  have hp := prepared_there K o (fun i => S ((t + i) % m)) m c a (by omega) (fun i _ => by
    rcases hst ((t + i) % m) with ⟨h1, h2, h3, _⟩ | ⟨h1, _⟩
    · exact .inl ⟨h1, h2, h3⟩
    · exact .inr h1) ⟨i0, hi0, by
      show (S ((t + i0) % m)).r = o
      rw [h0, hS 0, Nat.add_zero, Nat.mod_eq_of_lt ho]; unfold ownSd
      cases hv o <;> rfl⟩
  refine ⟨fun h => hp.2 ?_, fun h => hp.1 ?_⟩
  · rcases someTo_cases (fun i => hv ((o + i) % K)) m with ⟨_, i, hi, hf⟩ | ⟨h', _⟩
    · obtain ⟨k, hk, hki⟩ := turn_of t m i ht hi
      refine ⟨k, hk, ?_⟩
      show (S ((t + k) % m)).st = 1
      rw [hki]
      rcases hst i with ⟨h1, _⟩ | ⟨_, h2⟩
      · exact h1
      · change hv ((o + i) % K) = true at hf; rw [h2] at hf; cases hf
    · rw [h] at h'; cases h'
  · rcases someTo_cases (fun i => hv ((o + i) % K)) m with ⟨h', _⟩ | ⟨_, hn⟩
    · rw [h] at h'; cases h'
    · intro i _
      show (S ((t + i) % m)).st = 0
      rcases hst ((t + i) % m) with ⟨_, _, _, h2⟩ | ⟨h1, _⟩
      · have := hn ((t + i) % m) (Nat.mod_lt _ (by omega))
        change hv ((o + (t + i) % m) % K) = false at this; rw [h2] at this; cases this
      · exact h1
set_option maxRecDepth 4000 in
set_option maxHeartbeats 20000000 in
theorem quorumOwner_any (n owner : Int) (hv : Nat → Bool) (c : Cm) (a : At) (fr : Int) (w : World) (hn : (Lit.int .i64 n).wf = true) (ho : (Lit.int .i64 owner).wf = true) (hfr : (Lit.int .i64 fr).wf = true) :
    Calls Try.prog 8 #[.int .i64 n, .int .i64 owner, .agg #[.bool (hv 0), .bool (hv 1), .bool (hv 2), .bool (hv 3), .bool (hv 4), .bool (hv 5), .bool (hv 6)], .agg #[.int .i64 c.k, .int .i64 c.c, .int .i64 c.s, .string c.a, .string c.b, .string c.o, .string c.v], .agg #[.int .i64 a.q, .int .i64 (a.d 0), .int .i64 (a.d 1), .int .i64 (a.d 2), .int .i64 (a.d 3), .int .i64 (a.d 4), .int .i64 (a.d 5), .int .i64 (a.d 6)], .int .i64 fr] w fun e w' => e = .returned (.bool true) ∧ Below w.heap.size w w' := by
  have hK := fitN_in n
  have hf := fun W => fit_any n W hn
  generalize fitN n = K at hK hf
  have HF := Lib.hid hf; clear hf
  have hno := wf64 ho
  have hnf := wf64 hfr
  go_enter Try.func8, Try.ntmps8
  go_upto_region 1 with (fail)
  have hO : Ow w (((w.alloc (.cells (boolL hv).toArray 58)).alloc (.cells c.cells.toArray 32)).alloc (.cells a.cells.toArray 26)) (w.heap.size + 1 + 1 + 1) w.heap.size (w.heap.size + 1) (w.heap.size + 1 + 1) hv c a := by
    refine ⟨by go_grown, holds_past (holds_past (holds_alloc w _ _) _) _, ?_, ?_, by omega, by omega, by omega, by omega, by simp⟩
    · have := holds_past (holds_alloc (w.alloc (.cells (boolL hv).toArray 58)) 32 c.cells) (.cells a.cells.toArray 26)
      rwa [World.size_alloc] at this
    · have := holds_alloc ((w.alloc (.cells (boolL hv).toArray 58)).alloc (.cells c.cells.toArray 32)) 26 a.cells
      rwa [World.size_alloc, World.size_alloc] at this
  simp only [boolL, Cm.cells, At.cells] at hO
  go_name_world W0 hW0
  rw [hW0] at hO
  clear hW0
  have HO := Lib.hid hO; clear hO
  generalize w.heap.size + 1 + 1 + 1 = B at HO
  generalize w.heap.size + 1 + 1 = g10 at HO ⊢
  generalize w.heap.size + 1 = g9 at HO ⊢
  generalize hg8 : w.heap.size = g8
  rw [hg8] at HO
  go_wp2_with fail
  refine (HF.out _).mono ?_
  rintro e w1 ⟨rfl, hb⟩
  have HO := Lib.hid (HO.out.below hb)
  clear hb HF
  have hwo := fun W => within_nat owner 0 ((K : Int) - 1) W hno (by omega) (by omega) (by omega)
  have HWO := Lib.hid hwo; clear hwo
  go_wp2_with fail
  refine (HWO.out _).mono ?_
  rintro e w2 ⟨⟨o, ho0, ho1, rfl⟩, rfl⟩
  clear HWO
  go_wp2_with fail
  obtain ⟨m, hm⟩ : ∃ m, m = K / 2 + 1 := ⟨_, rfl⟩
  have hm2 : 2 ≤ m ∧ m ≤ 4 := by omega
  have hK7 : 3 ≤ K ∧ K ≤ 7 := by omega
  have ho7 : o < K := by omega
  clear hK ho0 ho1
  have hsl := fun W => slow_any K W (by omega)
  rw [← hm] at hsl
  have HSL := Lib.hid hsl; clear hsl
  have HM := Lib.hid hm; clear hm
  obtain ⟨S, hS⟩ : ∃ S : Nat → Sd, S = fun i => ownSd hv c a ((o + i) % K) := ⟨_, rfl⟩
  have HS := Lib.hid hS
  have HS0 := Lib.hid (show ∀ i, S i = ownSd hv c a ((o + i) % K) from fun i => by rw [hS]); clear hS
  go_loopw [15, 16, 17] (fun out sm i wr => ∃ j : Nat, j ≤ m ∧ i = .int .i64 j ∧ sm = .bool (someTo (fun i => hv ((o + i) % K)) j) ∧ wr.ownsRow B 36 22 out j (flat 22 j fun i => (S i).cells) ∧ Ow w wr B g8 g9 g10 hv c a) (fun _ _ i _ => m - (intOf i).toNat)
  case atStart => exact ⟨0, by omega, rfl, rfl, World.ownsRow_nil _ _ _ _, HO.out⟩
  case round =>
    clear HO
    obtain ⟨j, hj, rfl, rfl, hown, hw⟩ := hrel
    have HO := Lib.hid hw; have HW := Lib.hid hown; clear hw hown
    have HST := Lib.hid (show someTo (fun i => hv ((o + i) % K)) (j + 1) = (someTo (fun i => hv ((o + i) % K)) j || hv ((o + j) % K)) from rfl)
    go_wp2_with fail
    refine (HSL.out _).mono ?_
    rintro e w2 ⟨rfl, hb⟩
    have HO := Lib.hid (HO.out.below hb)
    have HW := Lib.hid (owns_below HW.out hb)
    clear hb
    by_cases h1 : j < m
    · obtain ⟨r, hr⟩ : ∃ r, r = (o + j) % K := ⟨_, rfl⟩
      have hr7 : r < 7 := by have := Nat.mod_lt (o + j) (show 0 < K by omega); omega
      have hrm : ((o : Int) + (j : Int)).tmod (K : Int) = (r : Int) := by rw [hr, Int.tmod_eq_emod_of_nonneg (by omega)]; simp
      have hsj : (S j).cells = (if hv r = true then (⟨r, 1, 0, 0, 0, 0, c, a, true⟩ : Sd) else ⟨r, 0, 0, 0, 0, 0, Cm.zero, At.of 0, false⟩).cells := by rw [HS0.out, hr]; rfl
      rw [← hr] at HST
      clear hr
      go_upto_region 10 with (first
        | (refine wpList_store_new rfl 34 _ _ rfl rfl _ _ (cellL 0 Cm.zero (At.of 0) false).toArray rfl rfl (by kernel_rfl) (by kernel_rfl) (cellL_one ..) ?_))
      have hx : Holds (w2.alloc (.cells (cellL 0 Cm.zero (At.of 0) false).toArray 34)) w2.heap.size 34 (cellL 0 Cm.zero (At.of 0) false) := holds_alloc w2 _ _
      have hb3 : Below w2.heap.size w2 (w2.alloc (.cells (cellL 0 Cm.zero (At.of 0) false).toArray 34)) := by go_grown
      have hB2 := HO.out.le
      generalize hgx : w2.heap.size = gx at hx hb3 hB2 ⊢
      go_name_world W3 hW3
      rw [hW3] at hx hb3
      clear hW3
      have HB3 := Lib.hid hb3; have HX := Lib.hid hx; clear hb3 hx
      have HO3 := Lib.hid (HO.out.next (HB3.out.mono hB2))
      have HW3 := Lib.hid (owns_below HW.out (by rw [hgx]; exact HB3.out))
      have e8 := HO3.out.h.cell r
      rw [boolL_get hv r hr7] at e8
      generalize hv r = q at e8 HST hsj
      have hsn := flat_snoc (s := 22) (m := j) (V := fun i => (S i).cells) (by omega) (fun i _ => rfl)
      have hoc := Sd.cells_one (S j)
      generalize (S j).cells = L at hsj hsn hoc
      have HOC := Lib.hid hoc; clear hoc
      cases q
      · go_upto_region 13 with (fail)
        have hxr : W3.rangeAt gx 0 (cellL 0 Cm.zero (At.of 0) false) := fun k v hk => by rw [Nat.zero_add, HX.out.cell]; exact hk
        simp only [cellL, Cm.cells, Cm.zero, At.cells, At.of, List.cons_append, List.nil_append] at hxr
        have HXR := Lib.hid hxr; clear hxr e8 hrm
        simp only [Bool.false_eq_true, if_false, Sd.cells, Cm.cells, Cm.zero, At.cells, At.of, List.cons_append, List.nil_append] at hsj
        have HSJ := Lib.hid hsj; have HSN := Lib.hid hsn; clear hsj hsn
        go_wp2_with (first
          | (refine wpList_load_mid rfl 34 _ rfl gx 0 rfl _ _ HXR.out Try.underlying34 rfl (by kernel_rfl) ?_)
          | (at_builtin; go_must (refine wpList_append_cells rfl (.tmp 48) (.tmp 52) 46 rfl B 36 (.agg #[.int .i64 0, .int .i64 0, .int .i64 0, .int .i64 0, .int .i64 0, .int .i64 0, .int .i64 0, .int .i64 0, .int .i64 0, .string ⟨#[]⟩, .string ⟨#[]⟩, .string ⟨#[]⟩, .string ⟨#[]⟩, .int .i64 0, .int .i64 0, .int .i64 0, .int .i64 0, .int .i64 0, .int .i64 0, .int .i64 0, .int .i64 0, .bool false]) 22 208 rfl (by kernel_rfl) rfl (by decide) _ j (flat 22 j fun i => (S i).cells) rfl (owns_below HW3.out (by go_grown)) _ 1 1 L rfl (by rw [HSJ.out]; rfl) (by rw [HSJ.out]; exact (holds_alloc W3 36 _).reads 0 _ (fun k v hk => by rw [Nat.zero_add]; exact hk)) (by intro h; cases h) (fun u hu => by have := HOC.out; rw [List.all_toArray] at this; exact List.all_eq_true.1 this u hu) (by unfold maxLen; omega) (by omega) (by have := HO3.out.le; simp; omega) ?_); intro v4 w4 ho4 hb4 _))
        have HO4 := Lib.hid ((HO3.out.below (show Below W3.heap.size W3 _ by go_grown)).next hb4)
        clear hb4 HO3 HW3
        go_roundw
        case rel => exact ⟨j + 1, by omega, by go_num, by rw [HST.out]; simp, by rw [← HSN.out]; exact ho4, HO4.out⟩
        case measure => simp [intOf]; omega
      · have y0 := HO3.out.c.cell 0
        have y1 := HO3.out.c.cell 1
        have y2 := HO3.out.c.cell 2
        have y3 := HO3.out.c.cell 3
        have y4 := HO3.out.c.cell 4
        have y5 := HO3.out.c.cell 5
        have y6 := HO3.out.c.cell 6
        have z0 := HO3.out.a.cell 0
        have z1 := HO3.out.a.cell 1
        have z2 := HO3.out.a.cell 2
        have z3 := HO3.out.a.cell 3
        have z4 := HO3.out.a.cell 4
        have z5 := HO3.out.a.cell 5
        have z6 := HO3.out.a.cell 6
        have z7 := HO3.out.a.cell 7
        simp only [Cm.cells, At.cells, List.getElem?_cons_zero, List.getElem?_cons_succ] at y0 y1 y2 y3 y4 y5 y6 z0 z1 z2 z3 z4 z5 z6 z7
        simp only [if_true, Sd.cells, Cm.cells, At.cells, List.cons_append, List.nil_append] at hsj
        have HSJ := Lib.hid hsj; have HSN := Lib.hid hsn; clear hsj hsn
        go_upto_region 13 with (refine wpList_store_row rfl 34 _ _ rfl rfl gx _ (cellL 1 c a true).toArray 34 HX.out rfl rfl (by kernel_rfl) (by kernel_rfl) (cellL_one ..) ?_)
        have hx4 : Holds (W3.setRow gx (cellL 1 c a true).toArray) gx 34 (cellL 1 c a true) := setRow_heap _ _ _ _ _ _ HX.out
        have hb4 : Below gx W3 (W3.setRow gx (cellL 1 c a true).toArray) := below_setRow (Below.refl _ _) (Nat.le_refl _) _
        have hw4 : (W3.setRow gx (cellL 1 c a true).toArray).ownsRow B 36 22 u15 j (flat 22 j fun i => (S i).cells) := owns_below HW.out (by rw [hgx]; exact HB3.out.trans hb4)
        go_name_world W4 hW4
        rw [hW4] at hx4 hb4 hw4
        clear hW4
        have HX4 := Lib.hid hx4; have HB4 := Lib.hid hb4; have HW4 := Lib.hid hw4
        have HO4 := Lib.hid (HO3.out.next (hb4.mono hB2))
        clear hx4 hb4 hw4 y0 y1 y2 y3 y4 y5 y6 z0 z1 z2 z3 z4 z5 z6 z7 e8 hrm
        have hyr : W4.rangeAt gx 0 (cellL 1 c a true) := fun k v hk => by rw [Nat.zero_add, HX4.out.cell]; exact hk
        simp only [cellL, Cm.cells, At.cells, List.cons_append, List.nil_append] at hyr
        have HYR := Lib.hid hyr; clear hyr
        go_wp2_with (first
          | (refine wpList_load_mid rfl 34 _ rfl gx 0 rfl _ _ HYR.out Try.underlying34 rfl (by kernel_rfl) ?_)
          | (at_builtin; go_must (refine wpList_append_cells rfl (.tmp 48) (.tmp 52) 46 rfl B 36 (.agg #[.int .i64 0, .int .i64 0, .int .i64 0, .int .i64 0, .int .i64 0, .int .i64 0, .int .i64 0, .int .i64 0, .int .i64 0, .string ⟨#[]⟩, .string ⟨#[]⟩, .string ⟨#[]⟩, .string ⟨#[]⟩, .int .i64 0, .int .i64 0, .int .i64 0, .int .i64 0, .int .i64 0, .int .i64 0, .int .i64 0, .int .i64 0, .bool false]) 22 208 rfl (by kernel_rfl) rfl (by decide) _ j (flat 22 j fun i => (S i).cells) rfl (owns_below HW4.out (by go_grown)) _ 1 1 L rfl (by rw [HSJ.out]; rfl) (by rw [HSJ.out]; exact (holds_alloc W4 36 _).reads 0 _ (fun k v hk => by rw [Nat.zero_add]; exact hk)) (by intro h; cases h) (fun u hu => by have := HOC.out; rw [List.all_toArray] at this; exact List.all_eq_true.1 this u hu) (by unfold maxLen; omega) (by omega) (by have := HO4.out.le; simp; omega) ?_); intro v4 w4 ho4 hb4 _))
        have HO5 := Lib.hid ((HO4.out.below (show Below W4.heap.size W4 _ by go_grown)).next hb4)
        clear hb4 HO3 HW3 HO4 HW4
        go_roundw
        case rel => exact ⟨j + 1, by omega, by go_num, by rw [HST.out]; simp, by rw [← HSN.out]; exact ho4, HO5.out⟩
        case measure => simp [intOf]; omega
    · have hjm : m = j := by omega
      subst hjm
      clear h1 hj HST HSL
      obtain ⟨gl, cl, rfl, hgl, hcl, hml, hrows⟩ := rows_of_owns HW.out (by omega)
      have HR := Lib.hid (hrows (fun i => (S i).cells) (fun i _ => rfl) (fun i hi k hk => flat_at 22 m _ i k hi hk rfl))
      clear hrows HW
      unfold maxLen at hml
      have hm0 : ((m : Int) == 0) = false := by simp; omega
      have hwo := fun W => within_nat fr 0 ((m : Int) - 1) W hnf (by omega) (by omega) (by omega)
      have HWO := Lib.hid hwo; clear hwo
      go_wp2_with fail
      refine (HWO.out _).mono ?_
      rintro e w3 ⟨⟨t, ht0, ht1, rfl⟩, rfl⟩
      clear HWO hm0
      go_upto_region 17 with (fail)
      have htm : t < m := by omega
      have hct : ¬ cl = t := by omega
      have htm1 : t ≤ m := by omega
      have htm2 : t ≤ cl := by omega
      have hs1 : ∀ u : Nat, ∀ x ∈ (S u).cells, x.oneCell' = true := fun u x hx => by have := Sd.cells_one (S u); rw [List.all_toArray] at this; exact List.all_eq_true.1 this x hx
      have HS1 := Lib.hid hs1; clear hs1
      have hd0 : Below w2.heap.size w2 (w2.alloc (.cells #[] 36)).drew := ((Below.refl _ _).alloc (Nat.le_refl _) _).trans (drew_below _ _)
      have HD0 := Lib.hid hd0; clear hd0
      have hl0 : (w2.alloc (.cells #[] 36)).drew.ownsRow w2.heap.size 36 22 (.slice (some ⟨w2.heap.size, 0, none⟩) 0 0) 0 [] := by
        have := World.ownsRow_lit (base := w2.heap.size) (e := 36) (size := 22) w2 #[] 0 (Nat.le_refl _) (by unfold maxLen; omega) (by simp)
        exact this.drew
      have HL0 := Lib.hid hl0; clear hl0
      have hr1 : IsRows (w2.alloc (.cells #[] 36)).drew (some ⟨gl, t * 22, none⟩) (m - t) 22 fun i => (S (t + i)).cells := by
        have := (HR.out.below HD0.out).drop t (by omega)
        rwa [Nat.zero_add] at this
      have HR1 := Lib.hid hr1; clear hr1
      go_region_law (first
        | (refine step_append_rows rfl (.tmp 62) (.tmp 65) 46 rfl w2.heap.size 36 (.agg #[.int .i64 0, .int .i64 0, .int .i64 0, .int .i64 0, .int .i64 0, .int .i64 0, .int .i64 0, .int .i64 0, .int .i64 0, .string ⟨#[]⟩, .string ⟨#[]⟩, .string ⟨#[]⟩, .string ⟨#[]⟩, .int .i64 0, .int .i64 0, .int .i64 0, .int .i64 0, .int .i64 0, .int .i64 0, .int .i64 0, .int .i64 0, .bool false]) 22 208 rfl (by kernel_rfl) rfl (by decide) _ 0 [] rfl HL0.out gl (t * 22) (m - t) (cl - t) (fun i => (S (t + i)).cells) (by simp [Act.eval, Act.put]) HR1.out (fun i _ u hu => HS1.out _ u hu) (by unfold maxLen; omega) (by omega) (by simp) ?_; intro v4 w4 ho4 hb4)
        | (refine step_append_rows rfl (.tmp 66) (.tmp 69) 46 rfl w2.heap.size 36 (.agg #[.int .i64 0, .int .i64 0, .int .i64 0, .int .i64 0, .int .i64 0, .int .i64 0, .int .i64 0, .int .i64 0, .int .i64 0, .string ⟨#[]⟩, .string ⟨#[]⟩, .string ⟨#[]⟩, .string ⟨#[]⟩, .int .i64 0, .int .i64 0, .int .i64 0, .int .i64 0, .int .i64 0, .int .i64 0, .int .i64 0, .int .i64 0, .bool false]) 22 208 rfl (by kernel_rfl) rfl (by decide) _ (0 + (m - t)) _ rfl ho4 gl 0 t cl (fun i => (S i).cells) (by simp [Act.eval, Act.put]) (((HR.out.less htm1).below (HD0.out.trans hb4))) (fun i _ u hu => HS1.out _ u hu) (by unfold maxLen; omega) (by omega) (Nat.le_trans HD0.out.size hb4.size) ?_; intro v5 w5 ho5 hb5))
      have hrw : IsRows w2 (some ⟨gl, 0, none⟩) m 22 (fun i => (S i).cells) := HR.out
      rw [List.nil_append, flat_append (s := 22) (X := fun i => (S ((t + i) % m)).cells) (by omega) (fun i _ => rfl) (fun i _ => rfl) (fun i hi => by rw [Nat.mod_eq_of_lt (by omega)]) (fun i hi => by rw [show t + (m - t + i) = i + m by omega, Nat.add_mod_right, Nat.mod_eq_of_lt (by omega)]), show 0 + (m - t) + t = m by omega, show m - t + t = m by omega] at ho5
      obtain ⟨g5, c5, rfl, hg5, hc5, hm5, hr5⟩ := rows_of_owns ho5 (by omega)
      have hpp := prepared_any K o (some ⟨g5, 0, none⟩) m c5 (fun i => S ((t + i) % m)) w5 (hr5 _ (fun i _ => rfl) (fun i hi k hk => flat_at 22 m _ i k hi hk rfl)) hc5 (by omega) (by omega)
      have HO := Lib.hid ((HO.out.below (HD0.out.trans hb4)).next (hb5.mono HO.out.le))
      clear hr5 ho5 ho4 hb4 hb5 HL0 HR1 HD0 HR hrw HS1 hct htm1 htm2
      obtain ⟨hp3, hp4⟩ := own_law K o t m hv c a HM.out.symm ho7 htm S HS0.out
      have HP := Lib.hid hpp; clear hpp
      generalize someTo (fun i => hv ((o + i) % K)) m = q at hp3 hp4 ⊢
      cases q
      · have hp := HP.out
        rw [hp4 rfl] at hp
        simp only [Cm.cells, Cm.zero, At.cells, At.of] at hp
        clear hp3 hp4 HP
        have HP := Lib.hid hp; clear hp
        go_wp2_with fail
        refine HP.out.mono ?_
        rintro e w6 ⟨rfl, hb⟩
        have HO := Lib.hid (HO.out.below hb)
        clear hb HP
        have heq := eq_att_self (At.of 0)
        have hec := eq_cmd_self Cm.zero
        simp only [At.of] at heq
        simp only [Cm.zero] at hec
        go_wp2_with fail
        clear heq hec
        have hb7 := fun W (h : Below w6.heap.size w6 W) => HO.out.below h
        have HB7 := Lib.hid hb7; clear hb7
        refine (quorumRuns_any _).mono ?_
        rintro e w9 ⟨rfl, hb⟩
        have HO := Lib.hid ((HB7.out _ (by go_grown)).below hb)
        clear hb
        go_wp2_with fail
        go_ret
        exact ⟨rfl, HO.out.bel⟩
      · have hp := HP.out
        rw [hp3 rfl] at hp
        simp only [Cm.cells, At.cells] at hp
        clear hp3 hp4 HP
        have HP := Lib.hid hp; clear hp
        go_wp2_with fail
        refine HP.out.mono ?_
        rintro e w6 ⟨rfl, hb⟩
        have HO := Lib.hid (HO.out.below hb)
        clear hb HP
        have y0 := HO.out.c.cell 0
        have y1 := HO.out.c.cell 1
        have y2 := HO.out.c.cell 2
        have y3 := HO.out.c.cell 3
        have y4 := HO.out.c.cell 4
        have y5 := HO.out.c.cell 5
        have y6 := HO.out.c.cell 6
        have z0 := HO.out.a.cell 0
        have z1 := HO.out.a.cell 1
        have z2 := HO.out.a.cell 2
        have z3 := HO.out.a.cell 3
        have z4 := HO.out.a.cell 4
        have z5 := HO.out.a.cell 5
        have z6 := HO.out.a.cell 6
        have z7 := HO.out.a.cell 7
        have l9 := HO.out.c.lt
        have l10 := HO.out.a.lt
        simp only [Cm.cells, At.cells, List.getElem?_cons_zero, List.getElem?_cons_succ] at y0 y1 y2 y3 y4 y5 y6 z0 z1 z2 z3 z4 z5 z6 z7
        have heq := eq_att_self a
        have hec := eq_cmd_self c
        go_wp2_with fail
        clear heq hec y0 y1 y2 y3 y4 y5 y6 z0 z1 z2 z3 z4 z5 z6 z7 l9 l10
        have hb7 := fun W (h : Below w6.heap.size w6 W) => HO.out.below h
        have HB7 := Lib.hid hb7; clear hb7
        refine (quorumRuns_any _).mono ?_
        rintro e w9 ⟨rfl, hb⟩
        have HO := Lib.hid ((HB7.out _ (by go_grown)).below hb)
        clear hb
        go_wp2_with fail
        go_ret
        exact ⟨rfl, HO.out.bel⟩
end Go.Proofs.Ytmpefdepcbfcdaa
