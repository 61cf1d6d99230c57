/-
  The walk of QuorumFast.
-/
import Derived.Test.YtmpefdepcbfcdaaQuFastP
import Derived.Test.YtmpefdepcbfcdaaQuSlowW
namespace Go.Proofs.Ytmpefdepcbfcdaa
open Go.RowKit
set_option linter.unusedVariables false
set_option linter.unusedSimpArgs false

/-- What was handed in lies in boxes, below a border. -/
structure Ff (w W : World) (B g11 g13 g14 : Nat) (other : At) (c : Cm) (a : At) : Prop where
  bel : Below w.heap.size w W
  h11 : Holds W g11 26 other.cells
  h13 : Holds W g13 32 c.cells
  h14 : Holds W g14 26 a.cells
  ge : w.heap.size ≤ B
  l11 : g11 < B
  l13 : g13 < B
  l14 : g14 < B
  le : B ≤ W.heap.size
theorem Ff.next {w W W' : World} {B g11 g13 g14 : Nat} {other : At} {c : Cm} {a : At} (o : Ff w W B g11 g13 g14 other c a) (hb : Below B W W') : Ff w W' B g11 g13 g14 other c a :=
  ⟨o.bel.trans (hb.mono o.ge), o.h11.below hb o.l11, o.h13.below hb o.l13, o.h14.below hb o.l14, o.ge, o.l11, o.l13, o.l14, Nat.le_trans o.le hb.size⟩
theorem Ff.below {w W W' : World} {B g11 g13 g14 : Nat} {other : At} {c : Cm} {a : At} (o : Ff w W B g11 g13 g14 other c a) (hb : Below W.heap.size W W') : Ff w W' B g11 g13 g14 other c a := o.next (hb.mono o.le)
theorem neq_cmd_self (x : Cm) (w : World) : (binOp .neq 32 (.agg #[.int .i64 x.k, .int .i64 x.c, .int .i64 x.s, .string x.a, .string x.b, .string x.o, .string x.v]) (.agg #[.int .i64 x.k, .int .i64 x.c, .int .i64 x.s, .string x.a, .string x.b, .string x.o, .string x.v])).run Try.prog w = .ok (.bool false) w := by
  rw [run_neq_struct, show (10000 : Nat) = 9998 + 2 from rfl, eqCmd_self]; rfl
theorem owns_past {w w' : World} {base g size n : Nat} {e : TypeId} {v : Value} {xs : List Value} (h : w.ownsRow base e size v n xs) (hb : ∀ k, k ≠ g → w'.heap[k]? = w.heap[k]?) (hg : g < base) : w'.ownsRow base e size v n xs := by
  obtain ⟨h1, h2⟩ := h
  refine ⟨h1, ?_⟩
  rcases h2 with h2 | ⟨k, cap, cur, hv, hk, hh, hr⟩
  · exact .inl h2
  · exact .inr ⟨k, cap, cur, hv, hk, by rw [hb k (by omega)]; exact hh, hr⟩
/-- One cell more is known. -/
def fastV (K o left : Nat) (nothing : Bool) (c : Cm) (a other : At) (j : Nat) : Nat → List Value := fun i => if i < K ∧ behind K o i < j then celL (fastD K o left nothing c a other i) else celL (zeroSd 0)
theorem fastV_len (K o left : Nat) (nothing : Bool) (c : Cm) (a other : At) (j i : Nat) : (fastV K o left nothing c a other j i).length = 21 := by unfold fastV; split <;> rfl
theorem fastV_next (K o left : Nat) (nothing : Bool) (c : Cm) (a other : At) (j r : Nat) (ho : o < K) (hj : j < K) (hr : r = (o + j) % K) :
    (fun i => if i = r then celL (fastD K o left nothing c a other r) else fastV K o left nothing c a other j i) = fastV K o left nothing c a other (j + 1) := by
  funext i
  have hrK : r < K := by rw [hr]; exact Nat.mod_lt _ (by omega)
  by_cases h : i = r
  · subst h
    rw [if_pos rfl]
    unfold fastV
    have := behind_turn K o j ho hj
    rw [← hr] at this
    rw [if_pos ⟨hrK, by omega⟩]
  · rw [if_neg h]
    unfold fastV
    by_cases hi : i < K
    · have hne : behind K o i ≠ j := fun h2 => h (by rw [hr]; exact behind_inj K o j i ho hj hi h2)
      by_cases h3 : behind K o i < j
      · rw [if_pos ⟨hi, h3⟩, if_pos ⟨hi, by omega⟩]
      · rw [if_neg (fun h => h3 h.2), if_neg (fun h => h3 (by omega))]
    · rw [if_neg (fun h => hi h.1), if_neg (fun h => hi h.1)]
theorem fastV_start (K o left : Nat) (nothing : Bool) (c : Cm) (a other : At) : (fun _ => celL (zeroSd 0)) = fastV K o left nothing c a other 1 := by
  funext i
  unfold fastV
  by_cases h : i < K ∧ behind K o i < 1
  · rw [if_pos h]; unfold fastD; rw [if_pos (by omega)]; rfl
  · rw [if_neg h]
theorem put_put (r : Nat) (A B : List Value) (V : Nat → List Value) : (fun i => if i = r then A else (fun i => if i = r then B else V i) i) = fun i => if i = r then A else V i := by
  funext i
  by_cases h : i = r <;> simp [h]
set_option maxRecDepth 8000 in
set_option maxHeartbeats 40000000 in
theorem quorumFast_any (n owner out : Int) (other : At) (nothing : Bool) (c : Cm) (a : At) (turn : Int) (w : World) (hn : (Lit.int .i64 n).wf = true) (how : (Lit.int .i64 owner).wf = true) (hou : (Lit.int .i64 out).wf = true) (htu : (Lit.int .i64 turn).wf = true) :
    Calls Try.prog 6 #[.int .i64 n, .int .i64 owner, .int .i64 out, .agg #[.int .i64 other.q, .int .i64 (other.d 0), .int .i64 (other.d 1), .int .i64 (other.d 2), .int .i64 (other.d 3), .int .i64 (other.d 4), .int .i64 (other.d 5), .int .i64 (other.d 6)], .bool nothing, .agg #[.int .i64 c.k, .int .i64 c.c, .int .i64 c.s, .string c.a, .string c.b, .string c.o, .string c.v], .agg #[.int .i64 a.q, .int .i64 (a.d 0), .int .i64 (a.d 1), .int .i64 (a.d 2), .int .i64 (a.d 3), .int .i64 (a.d 4), .int .i64 (a.d 5), .int .i64 (a.d 6)], .int .i64 turn] w fun e w' => e = .returned (.bool true) ∧ Below w.heap.size w w' := by
  have hK := fitN_in n
  have hf := fun W => fit_any n W hn
  generalize fitN n = K at hK hf
  have HF := Lib.hid hf; clear hf
  have hno := wf64 how
  have hnu := wf64 hou
  have hnt := wf64 htu
  go_enter Try.func6, Try.ntmps6
  go_upto_region 1 with (fail)
  have hO : Ff w (((w.alloc (.cells other.cells.toArray 26)).alloc (.cells c.cells.toArray 32)).alloc (.cells a.cells.toArray 26)) (w.heap.size + 1 + 1 + 1) w.heap.size (w.heap.size + 1) (w.heap.size + 1 + 1) other c a := by
    refine ⟨by go_grown, holds_past (holds_past (holds_alloc w _ _) _) _, ?_, ?_, by omega, by omega, by omega, by omega, by simp⟩
    · have := holds_past (holds_alloc (w.alloc (.cells other.cells.toArray 26)) 32 c.cells) (.cells a.cells.toArray 26)
      rwa [World.size_alloc] at this
    · have := holds_alloc ((w.alloc (.cells other.cells.toArray 26)).alloc (.cells c.cells.toArray 32)) 26 a.cells
      rwa [World.size_alloc, World.size_alloc] at this
  simp only [Cm.cells, At.cells] at hO
  go_name_world W0 hW0
  rw [hW0] at hO
  clear hW0
  have HO := Lib.hid hO; clear hO
  generalize w.heap.size + 1 + 1 + 1 = B at HO
  generalize w.heap.size + 1 + 1 = g14 at HO ⊢
  generalize w.heap.size + 1 = g13 at HO ⊢
  generalize hg11 : w.heap.size = g11
  rw [hg11] at HO
  go_wp2_with fail
  refine (HF.out _).mono ?_
  rintro e w1 ⟨rfl, hb⟩
  have HO := Lib.hid (HO.out.below hb)
  clear hb HF
  have hwo := fun W => within_nat owner 0 ((K : Int) - 1) W hno (by omega) (by omega) (by omega)
  have HWO := Lib.hid hwo; clear hwo
  go_wp2_with fail
  refine (HWO.out _).mono ?_
  rintro e w2 ⟨⟨o, ho0, ho1, rfl⟩, rfl⟩
  clear HWO
  go_upto_region 4 with (refine wpList_lays rfl 56 rfl (.pointer (some ⟨w1.heap.size, 0, none⟩)) (.cells (flatC 7 fun _ => zeroSd 0).toArray 56) (by kernel_rfl) ?_)
  have hgc : Holds (w1.alloc (.cells (flatC 7 fun _ => zeroSd 0).toArray 56)) w1.heap.size 56 (flat 21 7 fun _ => celL (zeroSd 0)) := holds_alloc w1 _ _
  have hO2 := HO.out.below (show Below w1.heap.size w1 (w1.alloc (.cells (flatC 7 fun _ => zeroSd 0).toArray 56)) by go_grown)
  have hgB := HO.out.le
  generalize w1.heap.size = gc at hgc hgB ⊢
  go_name_world W2 hW2
  rw [hW2] at hgc hO2
  clear hW2
  have HO := Lib.hid hO2; have HG := Lib.hid hgc; clear hO2 hgc
  have hK7 : 3 ≤ K ∧ K ≤ 7 := by omega
  have hoK : o < K := by omega
  have hwo := fun W => within_nat out 1 ((K : Int) - 1) W hnu (by omega) (by omega) (by omega)
  have HWO := Lib.hid hwo; clear hwo
  go_wp2_with fail
  refine (HWO.out _).mono ?_
  rintro e w3 ⟨⟨left, hl0, hl1, rfl⟩, rfl⟩
  have hl2 : 1 ≤ left := by omega
  have hl3 : left < K := by omega
  clear HWO hl0 hl1 ho0 ho1
  rw [fastV_start K o left nothing c a other] at HG
  go_wp2_with fail
  go_loopw [20, 22] (fun rep i wr => ∃ j : Nat, 1 ≤ j ∧ j ≤ K ∧ i = .int .i64 j ∧ wr.ownsRow (gc + 1) 26 8 rep (repN left j) (flat 8 (repN left j) fun _ => a.cells) ∧ Holds wr gc 56 (flat 21 7 (fastV K o left nothing c a other j)) ∧ Ff w wr B g11 g13 g14 other c a) (fun _ i _ => K - (intOf i).toNat)
  case atStart => exact ⟨1, by omega, by omega, rfl, by rw [show repN left 1 = 0 by unfold repN; omega, flat_zero]; exact World.ownsRow_nil _ _ _ _, HG.out, HO.out⟩
  case round =>
    clear HO HG
    obtain ⟨j, hj1, hj, rfl, hown, hg, hw⟩ := hrel
    have HO := Lib.hid hw; have HG := Lib.hid hg; have HW := Lib.hid hown; clear hw hg hown
    by_cases h1 : j < K
    · obtain ⟨r, hr⟩ : ∃ r, r = (o + j) % K := ⟨_, rfl⟩
      have hrK : r < K := by rw [hr]; exact Nat.mod_lt _ (by omega)
      have hr7 : r < 7 := by omega
      have hrm : ((o : Int) + (j : Int)).tmod (K : Int) = (r : Int) := by rw [hr, Int.tmod_eq_emod_of_nonneg (by omega)]; simp
      have HBR := Lib.hid (show behind K o r = j by rw [hr]; exact behind_turn K o j hoK h1)
      have HNX := Lib.hid (fastV_next K o left nothing c a other j r hoK h1 hr)
      clear hr
      have hgl := HG.out.lt
      have hfit : ∀ s : Sd, r * 21 + (celL s).length ≤ (flat 21 7 (fastV K o left nothing c a other j)).length := fun s => by rw [flat_len, celL_len]; omega
      have HFIT := Lib.hid hfit; clear hfit
      have y0 := HO.out.h13.cell 0
      have y1 := HO.out.h13.cell 1
      have y2 := HO.out.h13.cell 2
      have y3 := HO.out.h13.cell 3
      have y4 := HO.out.h13.cell 4
      have y5 := HO.out.h13.cell 5
      have y6 := HO.out.h13.cell 6
      have z0 := HO.out.h14.cell 0
      have z1 := HO.out.h14.cell 1
      have z2 := HO.out.h14.cell 2
      have z3 := HO.out.h14.cell 3
      have z4 := HO.out.h14.cell 4
      have z5 := HO.out.h14.cell 5
      have z6 := HO.out.h14.cell 6
      have z7 := HO.out.h14.cell 7
      simp only [Cm.cells, At.cells, List.getElem?_cons_zero, List.getElem?_cons_succ] at y0 y1 y2 y3 y4 y5 y6 z0 z1 z2 z3 z4 z5 z6 z7
      go_upto_region 11 with (refine wpList_store_splice rfl 34 _ _ rfl rfl gc (r * 21) _ 56 HG.out rfl (celL (⟨r, 1, 0, 0, 0, 0, c, a, true⟩ : Sd)) rfl (by kernel_rfl) (HFIT.out _) (celL_mem _) ?_; intro w5 hh5 hb5 hs5 hk5)
      rw [flat_put (by omega) (fun i _ => fastV_len ..) (celL_len _) hr7] at hh5
      have HG5 := Lib.hid hh5
      have HO5 := Lib.hid (HO.out.next (hb5.mono hgB))
      have HW5 := Lib.hid (owns_past HW.out hk5 (by omega))
      have hgl5 := hh5.lt
      clear hh5 hb5 hs5 hk5 y0 y1 y2 y3 y4 y5 y6 z0 z1 z2 z3 z4 z5 z6 z7
      by_cases hjl : j = left
      · have hjl2 : ((j : Int) == (left : Int)) = true := by simp [hjl]
        have HJL := Lib.hid hjl; clear hjl
        have y0 := HO5.out.h13.cell 0
        have y1 := HO5.out.h13.cell 1
        have y2 := HO5.out.h13.cell 2
        have y3 := HO5.out.h13.cell 3
        have y4 := HO5.out.h13.cell 4
        have y5 := HO5.out.h13.cell 5
        have y6 := HO5.out.h13.cell 6
        have z0 := HO5.out.h11.cell 0
        have z1 := HO5.out.h11.cell 1
        have z2 := HO5.out.h11.cell 2
        have z3 := HO5.out.h11.cell 3
        have z4 := HO5.out.h11.cell 4
        have z5 := HO5.out.h11.cell 5
        have z6 := HO5.out.h11.cell 6
        have z7 := HO5.out.h11.cell 7
        simp only [Cm.cells, At.cells, List.getElem?_cons_zero, List.getElem?_cons_succ] at y0 y1 y2 y3 y4 y5 y6 z0 z1 z2 z3 z4 z5 z6 z7
        have hfit : ∀ s : Sd, r * 21 + (celL s).length ≤ (flat 21 7 (fun i => if i = r then celL (⟨r, 1, 0, 0, 0, 0, c, a, true⟩ : Sd) else fastV K o left nothing c a other j i)).length := fun s => by rw [flat_len, celL_len]; omega
        have HFIT := Lib.hid hfit; clear hfit
        go_upto_region 13 with (refine wpList_store_splice rfl 34 _ _ rfl rfl gc (r * 21) _ 56 HG5.out rfl (celL (⟨r, 1, 0, 0, 0, 0, c, other, false⟩ : Sd)) rfl (by kernel_rfl) (HFIT.out _) (celL_mem _) ?_; intro w6 hh6 hb6 hs6 hk6)
        rw [flat_put (by omega) (fun i _ => by by_cases h : i = r <;> simp [h, fastV_len, celL_len]) (celL_len _) hr7, put_put] at hh6
        have HG6 := Lib.hid hh6
        have HO6 := Lib.hid (HO5.out.next (hb6.mono hgB))
        have HW6 := Lib.hid (owns_past HW5.out hk6 (by omega))
        clear hh6 hb6 hs6 hk6 y0 y1 y2 y3 y4 y5 y6 z0 z1 z2 z3 z4 z5 z6 z7 HO5 HG5 HW5
        have hrn := (repN_next left j hj1 hl2).1 HJL.out
        have hfd : fastD K o left nothing c a other r = outD nothing c other r := by
          unfold fastD; rw [HBR.out, if_neg (by omega), if_pos HJL.out]
        rw [hfd] at HNX
        clear hfd
        cases nothing
        · go_wp2_with fail
          go_roundw
          case rel => exact ⟨j + 1, by omega, by omega, by go_num, by rw [hrn]; exact HW6.out, by rw [← HNX.out]; exact HG6.out, HO6.out⟩
          case measure => simp [intOf]; omega
        · have hfit : ∀ s : Sd, r * 21 + (celL s).length ≤ (flat 21 7 (fun i => if i = r then celL (⟨r, 1, 0, 0, 0, 0, c, other, false⟩ : Sd) else fastV K o left true c a other j i)).length := fun s => by rw [flat_len, celL_len]; omega
          have HFIT := Lib.hid hfit; clear hfit
          go_wp2_with (refine wpList_store_splice rfl 34 _ _ rfl rfl gc (r * 21) _ 56 HG6.out rfl (celL (zeroSd r)) rfl (by kernel_rfl) (HFIT.out _) (celL_mem _) ?_; intro w7 hh7 hb7 hs7 hk7)
          rw [flat_put (by omega) (fun i _ => by by_cases h : i = r <;> simp [h, fastV_len, celL_len]) (celL_len _) hr7, put_put] at hh7
          have HG7 := Lib.hid hh7
          have HO7 := Lib.hid (HO6.out.next (hb7.mono hgB))
          have HW7 := Lib.hid (owns_past HW6.out hk7 (by omega))
          clear hh7 hb7 hs7 hk7 HO6 HG6 HW6
          go_roundw
          case rel => exact ⟨j + 1, by omega, by omega, by go_num, by rw [hrn]; exact HW7.out, by rw [← HNX.out]; exact HG7.out, HO7.out⟩
          case measure => simp [intOf]; omega
      · have hjl2 : ((j : Int) == (left : Int)) = false := by simp; omega
        have HJL := Lib.hid hjl; clear hjl
        have hrn := (repN_next left j hj1 hl2).2 HJL.out
        have hfd : fastD K o left nothing c a other r = ⟨r, 1, 0, 0, 0, 0, c, a, true⟩ := by
          unfold fastD; rw [HBR.out, if_neg (by omega), if_neg HJL.out]
        rw [hfd] at HNX
        clear hfd
        have hsn := flat_snoc (s := 8) (m := repN left j) (V := fun _ => a.cells) (by omega) (fun i _ => rfl)
        have HSN := Lib.hid hsn; clear hsn
        have hle : repN left j ≤ j := by unfold repN; omega
        have HRN := Lib.hid hrn; clear hrn
        generalize repN left j = nr at HSN HRN HW5 hle
        have z0 := HO5.out.h14.cell 0
        have z1 := HO5.out.h14.cell 1
        have z2 := HO5.out.h14.cell 2
        have z3 := HO5.out.h14.cell 3
        have z4 := HO5.out.h14.cell 4
        have z5 := HO5.out.h14.cell 5
        have z6 := HO5.out.h14.cell 6
        have z7 := HO5.out.h14.cell 7
        simp only [Cm.cells, At.cells, List.getElem?_cons_zero, List.getElem?_cons_succ] at z0 z1 z2 z3 z4 z5 z6 z7
        have h1a : ∀ u ∈ a.cells, u.oneCell' = true := fun u hu => by have := At.cells_one a; rw [List.all_toArray] at this; exact List.all_eq_true.1 this u hu
        have H1A := Lib.hid h1a; clear h1a
        go_wp2_with (at_builtin; go_must (refine wpList_append_cells rfl (.tmp 70) (.tmp 72) 39 rfl (gc + 1) 26 (.agg #[.int .i64 0, .int .i64 0, .int .i64 0, .int .i64 0, .int .i64 0, .int .i64 0, .int .i64 0, .int .i64 0]) 8 64 rfl (by kernel_rfl) rfl (by decide) _ nr (flat 8 nr fun _ => a.cells) rfl (owns_below HW5.out (by go_grown)) _ 1 1 a.cells rfl rfl ((holds_alloc w5 26 a.cells).reads 0 _ (fun k v hk => by rw [Nat.zero_add]; exact hk)) (by intro h; cases h) H1A.out (by unfold maxLen; omega) (by omega) (by have := HG5.out.lt; simp; omega) ?_); intro v6 w6 ho6 hb6 _)
        have hbz : Below (gc + 1) w5 w6 := Below.trans (show Below (gc + 1) w5 _ from (Below.refl _ _).alloc (by omega) _) hb6
        have HO6 := Lib.hid (HO5.out.next (hbz.mono (by omega)))
        have HG6 := Lib.hid (HG5.out.below hbz (by omega))
        clear hb6 hbz HO5 HG5 HW5 z0 z1 z2 z3 z4 z5 z6 z7
        go_roundw
        case rel => exact ⟨j + 1, by omega, by omega, by go_num, by rw [HRN.out, ← HSN.out]; exact ho6, by rw [← HNX.out]; exact HG6.out, HO6.out⟩
        case measure => simp [intOf]; omega
    · have hjK : K = j := by omega
      subst hjK
      clear h1 hj hj1
      rw [repN_end left K hl2 hl3] at HW
      obtain ⟨gr, cr, rfl, hgr, hcr, hmr, hrows⟩ := rows_of_owns HW.out (by omega)
      have hpp := pre_any K true false a (some ⟨gr, 0, none⟩) (K - 2) cr (fun _ => a) wr (hrows (fun _ => a.cells) (fun i _ => rfl) (fun i hi k hk => flat_at 8 (K - 2) _ i k hi hk rfl)) hcr (by intro h; cases h) (by omega) (by omega) (by omega)
      rw [preA_fast K a (by omega)] at hpp
      simp only [At.cells] at hpp
      have HP := Lib.hid hpp; clear hpp hrows HW hgr hcr hmr
      have z0 := HO.out.h14.cell 0
      have z1 := HO.out.h14.cell 1
      have z2 := HO.out.h14.cell 2
      have z3 := HO.out.h14.cell 3
      have z4 := HO.out.h14.cell 4
      have z5 := HO.out.h14.cell 5
      have z6 := HO.out.h14.cell 6
      have z7 := HO.out.h14.cell 7
      simp only [Cm.cells, At.cells, List.getElem?_cons_zero, List.getElem?_cons_succ] at z0 z1 z2 z3 z4 z5 z6 z7
      go_wp2_with fail
      refine HP.out.mono ?_
      rintro e w4 ⟨rfl, hb⟩
      have HO := Lib.hid (HO.out.below hb)
      have HG := Lib.hid (HG.out.below hb HG.out.lt)
      clear hb HP z0 z1 z2 z3 z4 z5 z6 z7
      have z0 := HO.out.h14.cell 0
      have z1 := HO.out.h14.cell 1
      have z2 := HO.out.h14.cell 2
      have z3 := HO.out.h14.cell 3
      have z4 := HO.out.h14.cell 4
      have z5 := HO.out.h14.cell 5
      have z6 := HO.out.h14.cell 6
      have z7 := HO.out.h14.cell 7
      simp only [Cm.cells, At.cells, List.getElem?_cons_zero, List.getElem?_cons_succ] at z0 z1 z2 z3 z4 z5 z6 z7
      have l14 := HO.out.h14.lt
      have hne := neq_attr a a
      rw [At.eqB_self] at hne
      simp only [Bool.not_true] at hne
      have hwo := fun W => within_nat turn 0 (K : Int) W hnt (by omega) (by omega) (by omega)
      obtain ⟨T, hT, hTK⟩ : ∃ T : Nat, 0 + turn % ((K : Int) - 0 + 1) = T ∧ T ≤ K := by
        have h1 := Int.emod_nonneg turn (show ((K : Int) - 0 + 1) ≠ 0 by omega)
        have h2 := Int.emod_lt_of_pos turn (show (0 : Int) < (K : Int) - 0 + 1 by omega)
        exact ⟨(0 + turn % ((K : Int) - 0 + 1)).toNat, by omega, by omega⟩
      have hwo := fun W => within_any turn 0 (K : Int) W hnt (by omega) (by omega) (by omega)
      rw [hT] at hwo
      have HWO := Lib.hid hwo; clear hwo hT
      obtain ⟨m, hm⟩ : ∃ m, m = K / 2 + 1 := ⟨_, rfl⟩
      have hm2 : 2 ≤ m ∧ m ≤ 4 := by omega
      have hmK : m ≤ K := by omega
      have hsl := fun W => slow_any K W (by omega)
      rw [← hm] at hsl
      have HSL := Lib.hid hsl; clear hsl
      have HM := Lib.hid hm; clear hm hK
      go_wp2_with fail
      clear hne l14 z0 z1 z2 z3 z4 z5 z6 z7
      have hO5 : Ff w (w4.alloc (.cells a.cells.toArray 26)) B g11 g13 g14 other c a := HO.out.below (by go_grown)
      have hG5 : Holds (w4.alloc (.cells a.cells.toArray 26)) gc 56 (flat 21 7 (fastV K o left nothing c a other K)) := HG.out.below (show Below w4.heap.size w4 _ by go_grown) HG.out.lt
      have HO := Lib.hid hO5; have HG := Lib.hid hG5; clear hO5 hG5
      generalize w4.heap.size = g25
      go_loopw [26] (fun i wr => ∃ f : Nat, f ≤ K - 1 ∧ i = .int .i64 f ∧ Holds wr gc 56 (flat 21 7 (fastV K o left nothing c a other K)) ∧ Ff w wr B g11 g13 g14 other c a) (fun i _ => K - 1 - (intOf i).toNat)
      case atStart => exact ⟨0, by omega, rfl, HG.out, HO.out⟩
      case round =>
        clear HO HG
        obtain ⟨f, hf, rfl, hg, hw⟩ := hrel
        have HO := Lib.hid hw; have HG := Lib.hid hg; clear hw hg
        by_cases h2 : f < K - 1
        · have h2' : (f : Int) < (K : Int) - 1 := by omega
          obtain ⟨S, hS⟩ : ∃ S : Nat → Sd, S = fun i => { fastD K o left nothing c a other ((o + 1 + (f + i + T) % (K - 1)) % K) with r := (((o + 1 + (f + i + T) % (K - 1)) % K : Nat) : Int) } := ⟨_, rfl⟩
          have HS := Lib.hid hS; clear hS
          go_wp2_with fail
          go_loopw [27, 28] (fun out i wr => ∃ j : Nat, j ≤ m ∧ i = .int .i64 j ∧ wr.ownsRow (gc + 1) 36 22 out j (flat 22 j fun i => (S i).cells) ∧ Holds wr gc 56 (flat 21 7 (fastV K o left nothing c a other K)) ∧ Ff w wr B g11 g13 g14 other c a) (fun _ i _ => m - (intOf i).toNat)
          case atStart => exact ⟨0, by omega, rfl, World.ownsRow_nil _ _ _ _, HG.out, HO.out⟩
          case round =>
            clear HO HG
            obtain ⟨j, hj, rfl, hown, hg, hw⟩ := hrel
            have HO := Lib.hid hw; have HG := Lib.hid hg; have HW := Lib.hid hown; clear hw hg hown
            go_wp2_with fail
            refine (HSL.out _).mono ?_
            rintro e w3 ⟨rfl, hb⟩
            have HG := Lib.hid (HG.out.below hb HG.out.lt)
            have HO := Lib.hid (HO.out.below hb)
            have HW := Lib.hid (owns_below HW.out hb)
            clear hb
            by_cases h1 : j < m
            · obtain ⟨u, hu⟩ : ∃ u, u = (f + j + T) % (K - 1) := ⟨_, rfl⟩
              have huK : u < K - 1 := by rw [hu]; exact Nat.mod_lt _ (by omega)
              obtain ⟨r, hr⟩ : ∃ r, r = (o + 1 + u) % K := ⟨_, rfl⟩
              have hrK : r < K := by rw [hr]; exact Nat.mod_lt _ (by omega)
              have hr7 : r < 7 := by omega
              have hum : ((f : Int) + (j : Int) + (T : Int)).tmod ((K : Int) - 1) = (u : Int) := by
                rw [hu, Int.tmod_eq_emod_of_nonneg (by omega), show (K : Int) - 1 = ((K - 1 : Nat) : Int) by omega]; simp
              have hrm : ((o : Int) + 1 + (u : Int)).tmod (K : Int) = (r : Int) := by rw [hr, Int.tmod_eq_emod_of_nonneg (by omega)]; simp
              have hsj : (S j).cells = .int .i64 (r : Int) :: celL (fastD K o left nothing c a other r) := by rw [HS.out]; simp only [← hu, ← hr]; rfl
              have hxr := cells_range HG.out (fun i _ => fastV_len ..) hr7
              have hvr : fastV K o left nothing c a other K r = celL (fastD K o left nothing c a other r) := by
                unfold fastV
                rw [if_pos ⟨hrK, by unfold behind; by_cases h : o ≤ r <;> simp [h] <;> omega⟩]
              rw [hvr] at hxr
              have hsn := flat_snoc (s := 22) (m := j) (V := fun i => (S i).cells) (by omega) (fun i _ => rfl)
              have hoc := Sd.cells_one (S j)
              generalize (S j).cells = L at hsj hsn hoc
              generalize fastD K o left nothing c a other r = X at hsj hxr
              have HOC := Lib.hid hoc; clear hoc hr hu hvr
              simp only [celL] at hsj hxr
              have HSJ := Lib.hid hsj; have HSN := Lib.hid hsn; have HXR := Lib.hid hxr; clear hsj hsn hxr
              go_wp2_with fail
              refine (HWO.out _).mono ?_
              rintro e w4 ⟨rfl, rfl⟩
              go_wp2_with (first
                | (refine wpList_load_mid rfl 34 _ rfl gc (r * 21) rfl _ _ HXR.out Try.underlying34 rfl (by kernel_rfl) ?_)
                | (at_builtin; go_must (refine wpList_append_cells rfl (.tmp 115) (.tmp 121) 46 rfl (gc + 1) 36 (.agg #[.int .i64 0, .int .i64 0, .int .i64 0, .int .i64 0, .int .i64 0, .int .i64 0, .int .i64 0, .int .i64 0, .int .i64 0, .string ⟨#[]⟩, .string ⟨#[]⟩, .string ⟨#[]⟩, .string ⟨#[]⟩, .int .i64 0, .int .i64 0, .int .i64 0, .int .i64 0, .int .i64 0, .int .i64 0, .int .i64 0, .int .i64 0, .bool false]) 22 208 rfl (by kernel_rfl) rfl (by decide) _ j (flat 22 j fun i => (S i).cells) rfl (owns_below HW.out (by go_grown)) _ 1 1 L rfl (by rw [HSJ.out]; rfl) (by rw [HSJ.out]; exact (holds_alloc w3 36 _).reads 0 _ (fun k v hk => by rw [Nat.zero_add]; exact hk)) (by intro h; cases h) (fun u hu => by have := HOC.out; rw [List.all_toArray] at this; exact List.all_eq_true.1 this u hu) (by unfold maxLen; omega) (by omega) (by have := HG.out.lt; simp; omega) ?_); intro v4 w4 ho4 hb4 _))
              have hbz : Below (gc + 1) w3 w4 := Below.trans (show Below (gc + 1) w3 _ from (Below.refl _ _).alloc (by have := HG.out.lt; omega) _) hb4
              have HO4 := Lib.hid (HO.out.next (hbz.mono (by omega)))
              have HG4 := Lib.hid (HG.out.below hbz (by omega))
              clear hb4 hbz HO HG HW
              go_roundw
              case rel => exact ⟨j + 1, by omega, by go_num, by rw [← HSN.out]; exact ho4, HG4.out, HO4.out⟩
              case measure => simp [intOf]; omega
            · have hjm : m = j := by omega
              subst hjm
              clear h1 hj
              obtain ⟨gl, cl, rfl, hgl, hcl, hml, hrows⟩ := rows_of_owns HW.out (by omega)
              have hpp := prepared_any K o (some ⟨gl, 0, none⟩) m cl S w3 (hrows (fun i => (S i).cells) (fun i _ => rfl) (fun i hi k hk => flat_at 22 m _ i k hi hk rfl)) hcl (by omega) (by omega)
              rw [HS.out, fast_law K o left m f T nothing c a other HM.out (by omega) hoK hl2 hl3] at hpp
              simp only [Cm.cells, At.cells] at hpp
              have HP := Lib.hid hpp; clear hpp hrows HW
              go_wp2_with fail
              refine HP.out.mono ?_
              rintro e w6 ⟨rfl, hb⟩
              have HO := Lib.hid (HO.out.below hb)
              have HG := Lib.hid (HG.out.below hb HG.out.lt)
              clear hb HP
              have y0 := HO.out.h13.cell 0
              have y1 := HO.out.h13.cell 1
              have y2 := HO.out.h13.cell 2
              have y3 := HO.out.h13.cell 3
              have y4 := HO.out.h13.cell 4
              have y5 := HO.out.h13.cell 5
              have y6 := HO.out.h13.cell 6
              have z0 := HO.out.h14.cell 0
              have z1 := HO.out.h14.cell 1
              have z2 := HO.out.h14.cell 2
              have z3 := HO.out.h14.cell 3
              have z4 := HO.out.h14.cell 4
              have z5 := HO.out.h14.cell 5
              have z6 := HO.out.h14.cell 6
              have z7 := HO.out.h14.cell 7
              simp only [Cm.cells, At.cells, List.getElem?_cons_zero, List.getElem?_cons_succ] at y0 y1 y2 y3 y4 y5 y6 z0 z1 z2 z3 z4 z5 z6 z7
              have l13 := HO.out.h13.lt
              have l14 := HO.out.h14.lt
              have hne := neq_attr a a
              rw [At.eqB_self] at hne
              simp only [Bool.not_true] at hne
              have hnc := neq_cmd_self c
              go_wp2_with fail
              clear hne hnc l13 l14 y0 y1 y2 y3 y4 y5 y6 z0 z1 z2 z3 z4 z5 z6 z7
              have HO7 := Lib.hid (fun W (h : Below w6.heap.size w6 W) => HO.out.below h)
              have HG7 := Lib.hid (fun W (h : Below w6.heap.size w6 W) => HG.out.below h HG.out.lt)
              go_roundw
              case rel => exact ⟨f + 1, by omega, by go_num, HG7.out _ (by go_grown), HO7.out _ (by go_grown)⟩
              case measure => simp [intOf]; omega
        · have h2' : ¬ (f : Int) < (K : Int) - 1 := by omega
          go_wp2_with fail
          refine (quorumRuns_any _).mono ?_
          rintro e w9 ⟨rfl, hb⟩
          have HO := Lib.hid (HO.out.below hb)
          clear hb
          go_wp2_with fail
          go_ret
          exact ⟨rfl, HO.out.bel⟩
end Go.Proofs.Ytmpefdepcbfcdaa
