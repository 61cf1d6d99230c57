/-
  The walk of QuorumPrepared.
-/
import Derived.Test.YtmpefdepcbfcdaaQuDocPrepW
import Derived.Test.YtmpefdepcbfcdaaQuIntSW
import Derived.Test.YtmpefdepcbfcdaaQuRowW
import Derived.Test.YtmpefdepcbfcdaaQuPrepW
import Derived.Test.YtmpefdepcbfcdaaQuOwnW
import Derived.Test.YtmpefdepcbfcdaaBoxes
namespace Go.Proofs.Ytmpefdepcbfcdaa
open Go.RowKit
set_option linter.unusedVariables false
set_option linter.unusedSimpArgs false

/-- What lies there while both are asked: the roomy list. -/
structure Ps (w W : World) (g : Nat) (L : Nat) (S : Nat → Sd) : Prop where
  bel : Below w.heap.size w W
  f : Holds W g 36 (flat 22 (L + 80) fun i => if i < L then (S i).cells else (zeroSd (-9)).cells)
theorem Ps.below {w W W' : World} {g L : Nat} {S : Nat → Sd} (h : Ps w W g L S) (hb : Below W.heap.size W W') : Ps w W' g L S := ⟨h.bel.trans (hb.mono h.bel.size), h.f.below hb h.f.lt⟩
theorem Ps.rows {w W : World} {g L : Nat} {S : Nat → Sd} (h : Ps w W g L S) (hL : L ≤ 7) : IsRows W (some ⟨g, 0, none⟩) L 22 fun i => (S i).cells := by
  have hlen : ∀ i, i < L + 80 → (if i < L then (S i).cells else (zeroSd (-9)).cells).length = 22 := fun i _ => by
    by_cases h : i < L
    · rw [if_pos h]; rfl
    · rw [if_neg h]; rfl
  exact ((rows_of_flat h.f hlen (by omega)).less (show L ≤ L + 80 by omega)).cong (fun i hi => if_pos hi)
set_option maxRecDepth 4000 in
set_option maxHeartbeats 20000000 in
theorem quorumPrepared_any (n o : Int) (a : Option Addr) (len cap : Nat) (S : Nat → Sd) (w : World) (hn : (Lit.int .i64 n).wf = true)
    (hS : IsRows w a len 22 fun i => (S i).cells) (hlc : len ≤ cap) (hcm : cap ≤ maxLen) (hnil : a = none → cap = 0) :
    Calls Try.prog 5 #[.int .i64 n, .int .i64 o, .slice a len cap] w fun e w' => e = .returned (.bool true) ∧ Below w.heap.size w w' := by
  unfold maxLen at hcm
  have hK := fitN_in n
  have hf := fun W => fit_any n W hn
  have hK3 : 3 ≤ fitN n := by omega
  have hK7 : fitN n ≤ 7 := by omega
  generalize fitN n = K at hK hf hK3 hK7
  have HF := Lib.hid hf; clear hf hK
  have HV := Lib.hid hS; have HN := Lib.hid hnil; clear hS hnil
  have hl1 : ((7 : Int) < (len : Int) ∧ 7 < len) ∨ (¬ (7 : Int) < (len : Int) ∧ len ≤ 7) := by omega
  go_enter Try.func5, Try.ntmps5
  go_upto_if 16 with (fail)
  go_cut [2] from 14 to 18 (fun x wx => ∃ L : Nat, L ≤ len ∧ L ≤ 7 ∧ x = .slice a L cap ∧ wx = w)
  case first =>
    rcases hl1 with ⟨h1, h1'⟩ | ⟨h1, h1'⟩
    · go_wp2_with fail
      go_meet
      exact ⟨7, by omega, by omega, rfl, rfl⟩
    · go_wp2_with fail
      go_meet
      exact ⟨len, by omega, by omega, rfl, rfl⟩
  case rest =>
    obtain ⟨L, hL, hL7, rfl, rfl⟩ := hcut
    have HVL := Lib.hid (HV.out.less hL)
    have hro := roomy_sd a L cap S (zeroSd (-9)) _ HVL.out hL7 HN.out
    have HRO := Lib.hid hro; clear hro hl1
    go_wp2_with fail
    refine HRO.out.mono ?_
    rintro e w2 ⟨g, rfl, hg, hfl, hb⟩
    have HQ := Lib.hid (Ps.mk hb hfl)
    clear hb hg hfl HRO
    have hp := fun W (h : Ps wc W g L S) => prepared_any K o (some ⟨g, 0, none⟩) L (L + 80) S W (h.rows hL7) (by omega) hK3 hK7
    have hpd := fun W (v : Option Addr) (c : Nat) (hr : IsRows W v L 22 fun i => (S i).cells) (hc : L ≤ c) => dprepared_any K o v L c S W hr hc hK3 hK7
    have hrw := fun W (h : Ps wc W g L S) => row_any a L cap S W (HVL.out.below h.bel) (by omega) (by omega)
    have hin := fun W (h : Ps wc W g L S) => intact_sd g a L cap S (zeroSd (-9)) W h.f (HVL.out.below h.bel) hL7 (by omega)
    generalize prepared K o S L = P at hp hpd
    obtain ⟨kd, X, A⟩ := P
    simp only [] at hp hpd
    have HP := Lib.hid hp; have HPD := Lib.hid hpd; have HRW := Lib.hid hrw; have HIN := Lib.hid hin; clear hp hpd hrw hin
    have hll : L ≤ L + 80 := by omega
    go_upto_region 4 with (fail)
    refine' wp_region_boxes [⟨12, 15, 9, 32, 32, Cm.zero.cells, X.cells⟩, ⟨13, 16, 10, 33, 26, (At.of 0).cells, A.cells⟩] (by kernel_rfl) (by kernel_rfl) (by kernel_rfl) ?z1 ?z2 ?bd _ ?h ?val ?fin
    case z1 =>
      intro x hx
      simp only [List.mem_cons, List.not_mem_nil, or_false] at hx
      rcases hx with rfl | rfl
      · exact ⟨.agg Cm.zero.cells.toArray, by kernel_rfl, rfl⟩
      · exact ⟨.agg (At.of 0).cells.toArray, by kernel_rfl, rfl⟩
    case z2 =>
      intro x hx
      simp only [List.mem_cons, List.not_mem_nil, or_false] at hx
      rcases hx with rfl | rfl
      · exact ⟨by kernel_rfl, rfl, Cm.cells_one _⟩
      · exact ⟨by kernel_rfl, rfl, At.cells_one _⟩
    case bd =>
      intro x hx
      simp only [List.mem_cons, List.not_mem_nil, or_false] at hx
      rcases hx with rfl | rfl
      · simp
      · simp
    case h =>
      intro W hW
      have HW := Lib.hid (HQ.out.below hW)
      simp only [List.map_cons, List.map_nil, hushOp]
      repeat go_big_quiet_step (first
        | (go_at_call 17; with_reducible exact calls_regrown fun W2 _ => HF.out W2)
        | (go_at_call 21; with_reducible exact calls_regrown fun W2 h2 => HP.out W2 (HW.out.below h2)))
      refine wpQuiet_nil ?_
      intro w' _
      exact rfl
    case val =>
      intro x hx
      simp only [List.mem_cons, List.not_mem_nil, or_false] at hx
      rcases hx with rfl | rfl
      · rfl
      · rfl
    case fin =>
      intro β w4 hb hx hne
      have hx9 := hx _ List.mem_cons_self
      have hx10 := hx _ (List.mem_cons_of_mem _ List.mem_cons_self)
      clear hx hne
      simp only [] at hx9 hx10
      simp only [patch, List.foldl, Act.put, List.setIfInBounds_toArray, List.set_cons_zero, List.set_cons_succ]
      have HQ := Lib.hid (HQ.out.below hb)
      generalize β 9 = g9 at hx9 ⊢
      generalize β 10 = g10 at hx10 ⊢
      have H9 := Lib.hid hx9.2; have H10 := Lib.hid hx10.2
      clear hx9 hx10 hb
      go_wp2_with fail
      refine (HF.out _).mono ?_
      rintro e w5 ⟨rfl, hb⟩
      have HQ := Lib.hid (HQ.out.below hb); have H9 := Lib.hid (H9.out.below hb H9.out.lt); have H10 := Lib.hid (H10.out.below hb H10.out.lt)
      clear hb
      go_wp2_with fail
      refine (HRW.out _ HQ.out).mono ?_
      rintro e w6 ⟨v, rfl, hown, hb⟩
      have HQ := Lib.hid (HQ.out.below hb); have H9 := Lib.hid (H9.out.below hb H9.out.lt); have H10 := Lib.hid (H10.out.below hb H10.out.lt)
      have hv : ∃ (va : Option Addr) (vc : Nat), v = .slice va L vc ∧ L ≤ vc ∧ IsRows w6 va L 22 fun i => (S i).cells := by
        by_cases h0 : 0 < L
        · obtain ⟨gv, cv, rfl, _, hcv, _, hr⟩ := rows_of_owns hown h0
          exact ⟨_, cv, rfl, hcv, hr _ (fun i _ => rfl) (fun i hi k hk => flat_at 22 L _ i k hi hk rfl)⟩
        · have hL0 : L = 0 := by omega
          obtain ⟨_, h2⟩ := hown
          rcases h2 with ⟨rfl, _⟩ | ⟨gv, cv, cur, rfl, _, _, hc, _⟩
          · exact ⟨none, 0, by rw [hL0], by omega, by unfold maxLen; omega, fun i hi => by omega, fun h => by omega⟩
          · exact ⟨_, cv, rfl, hc, by unfold maxLen; omega, fun i hi => by omega, fun h => by omega⟩
      obtain ⟨va, vc, rfl, hvc, hvr⟩ := hv
      clear hown hb
      go_wp2_with fail
      refine (HPD.out _ va vc hvr hvc).mono ?_
      rintro e w7 ⟨rfl, hb⟩
      have HQ := Lib.hid (HQ.out.below hb); have H9 := Lib.hid (H9.out.below hb H9.out.lt); have H10 := Lib.hid (H10.out.below hb H10.out.lt)
      clear hb hvr hvc HPD HRW HP
      have y0 := H9.out.cell 0
      have y1 := H9.out.cell 1
      have y2 := H9.out.cell 2
      have y3 := H9.out.cell 3
      have y4 := H9.out.cell 4
      have y5 := H9.out.cell 5
      have y6 := H9.out.cell 6
      have z0 := H10.out.cell 0
      have z1 := H10.out.cell 1
      have z2 := H10.out.cell 2
      have z3 := H10.out.cell 3
      have z4 := H10.out.cell 4
      have z5 := H10.out.cell 5
      have z6 := H10.out.cell 6
      have z7 := H10.out.cell 7
      simp only [Cm.cells, At.cells, List.getElem?_cons_zero, List.getElem?_cons_succ] at y0 y1 y2 y3 y4 y5 y6 z0 z1 z2 z3 z4 z5 z6 z7
      unfold Cm.cells At.cells
      have l9 := H9.out.lt
      have l10 := H10.out.lt
      have heq := eq_att_self A
      have hec := eq_cmd_self X
      go_wp2_with fail
      clear heq hec y0 y1 y2 y3 y4 y5 y6 z0 z1 z2 z3 z4 z5 z6 z7 l9 l10
      have HQ7 := Lib.hid (fun W (h : Below w7.heap.size w7 W) => HQ.out.below h)
      have hq8 := HQ7.out _ (show Below w7.heap.size w7 ((w7.alloc (.cells X.cells.toArray 32)).alloc (.cells A.cells.toArray 26)) by go_grown)
      refine (HIN.out _ hq8).mono ?_
      rintro e w8 ⟨rfl, hb⟩
      have HQ := Lib.hid (hq8.below hb)
      clear hb hq8 HQ7 HIN
      go_wp2_with fail
      refine (quorumRuns_any _).mono ?_
      rintro e w9 ⟨rfl, hb⟩
      have HQ := Lib.hid (HQ.out.below hb)
      clear hb
      go_wp2_with fail
      go_ret
      exact ⟨rfl, HQ.out.bel⟩
end Go.Proofs.Ytmpefdepcbfcdaa
