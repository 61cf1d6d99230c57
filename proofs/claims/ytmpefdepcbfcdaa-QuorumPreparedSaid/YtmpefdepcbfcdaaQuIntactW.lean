/-
  The walks of Same and Intact at rows, where they answer yes.
-/
import Derived.Test.YtmpefdepcbfcdaaQuRoomyW
namespace Go.Proofs.Ytmpefdepcbfcdaa
open Go.RowKit
set_option linter.unusedVariables false
set_option linter.unusedSimpArgs false

theorem neq_at_self (m : At) (w : World) : (binOp .neq 26 (.agg #[.int .i64 m.q, .int .i64 (m.d 0), .int .i64 (m.d 1), .int .i64 (m.d 2), .int .i64 (m.d 3), .int .i64 (m.d 4), .int .i64 (m.d 5), .int .i64 (m.d 6)]) (.agg #[.int .i64 m.q, .int .i64 (m.d 0), .int .i64 (m.d 1), .int .i64 (m.d 2), .int .i64 (m.d 3), .int .i64 (m.d 4), .int .i64 (m.d 5), .int .i64 (m.d 6)])).run Try.prog w = .ok (.bool false) w := by rw [neq_attr, At.eqB_self]; rfl
set_option maxRecDepth 4000 in
set_option maxHeartbeats 4000000 in
theorem same_at (a a2 : Option Addr) (la ca ca2 : Nat) (V : Nat → At) (w : World) (hS : IsRows w a la 8 fun i => (V i).cells) (hS2 : IsRows w a2 la 8 fun i => (V i).cells) (hla : la ≤ 1000) (hlc : la ≤ ca) (hlc2 : la ≤ ca2) :
    Calls Try.prog 37 #[.slice a la ca, .slice a2 la ca2] w fun e w' => e = .returned (.bool true) ∧ Below w.heap.size w w' := by
  have HV := Lib.hid hS; have HV2 := Lib.hid hS2; clear hS hS2
  go_enter Try.func37, Try.ntmps37
  go_wp2_with fail
  go_loopw [5] (fun i wr => ∃ k : Nat, k ≤ la ∧ i = .int .i64 k ∧ Below w.heap.size w wr) (fun i _ => la - (intOf i).toNat)
  case atStart => exact ⟨0, by omega, rfl, by go_grown⟩
  case round =>
    obtain ⟨k, hk, rfl, hb⟩ := hrel
    have HB := Lib.hid hb; clear hb
    by_cases h1 : k < la
    · obtain ⟨b, off, rfl, hlt⟩ := HV.out.spot (by omega)
      obtain ⟨b2, off2, rfl, hlt2⟩ := HV2.out.spot (by omega)
      have hneq := neq_at_self (V k)
      have c0 := fun d os => HV.out.at (HB.out.trans ((below_regrown wr d os).mono HB.out.size)) h1 0 (by omega)
      have d0 := fun d os => HV2.out.at (HB.out.trans ((below_regrown wr d os).mono HB.out.size)) h1 0 (by omega)
      have c1 := fun d os => HV.out.at (HB.out.trans ((below_regrown wr d os).mono HB.out.size)) h1 1 (by omega)
      have d1 := fun d os => HV2.out.at (HB.out.trans ((below_regrown wr d os).mono HB.out.size)) h1 1 (by omega)
      have c2 := fun d os => HV.out.at (HB.out.trans ((below_regrown wr d os).mono HB.out.size)) h1 2 (by omega)
      have d2 := fun d os => HV2.out.at (HB.out.trans ((below_regrown wr d os).mono HB.out.size)) h1 2 (by omega)
      have c3 := fun d os => HV.out.at (HB.out.trans ((below_regrown wr d os).mono HB.out.size)) h1 3 (by omega)
      have d3 := fun d os => HV2.out.at (HB.out.trans ((below_regrown wr d os).mono HB.out.size)) h1 3 (by omega)
      have c4 := fun d os => HV.out.at (HB.out.trans ((below_regrown wr d os).mono HB.out.size)) h1 4 (by omega)
      have d4 := fun d os => HV2.out.at (HB.out.trans ((below_regrown wr d os).mono HB.out.size)) h1 4 (by omega)
      have c5 := fun d os => HV.out.at (HB.out.trans ((below_regrown wr d os).mono HB.out.size)) h1 5 (by omega)
      have d5 := fun d os => HV2.out.at (HB.out.trans ((below_regrown wr d os).mono HB.out.size)) h1 5 (by omega)
      have c6 := fun d os => HV.out.at (HB.out.trans ((below_regrown wr d os).mono HB.out.size)) h1 6 (by omega)
      have d6 := fun d os => HV2.out.at (HB.out.trans ((below_regrown wr d os).mono HB.out.size)) h1 6 (by omega)
      have c7 := fun d os => HV.out.at (HB.out.trans ((below_regrown wr d os).mono HB.out.size)) h1 7 (by omega)
      have d7 := fun d os => HV2.out.at (HB.out.trans ((below_regrown wr d os).mono HB.out.size)) h1 7 (by omega)
      simp only [At.cells, List.getElem?_cons_zero, List.getElem?_cons_succ, Nat.add_zero, Nat.zero_add] at c0 d0 c1 d1 c2 d2 c3 d3 c4 d4 c5 d5 c6 d6 c7 d7
      generalize V k = m at *
      go_upto_region 6 with (fail)
      refine wp_region_quiet_below (by kernel_rfl) (by kernel_rfl) ?_
      repeat go_big_quiet_step (fail)
      refine wpQuiet_nil ?_
      intro w6 hw'
      have HB := Lib.hid (below_next HB.out (below_of_regrown hw'))
      clear hw' c0 d0 c1 d1 c2 d2 c3 d3 c4 d4 c5 d5 c6 d6 c7 d7 hneq
      go_wp2_with fail
      go_roundw
      case rel => exact ⟨k + 1, by omega, by go_num, HB.out⟩
      case measure => simp [intOf]; omega
    · have hkl : k = la := by omega
      subst hkl
      go_wp2_with fail
      go_ret
      exact ⟨rfl, HB.out⟩
set_option maxRecDepth 4000 in
set_option maxHeartbeats 4000000 in
theorem intact_at (g : Nat) (a : Option Addr) (la ca : Nat) (V : Nat → At) (m : At) (w : World) (hF : Holds w g 26 (flat 8 (la + 80) fun i => if i < la then (V i).cells else m.cells)) (hS : IsRows w a la 8 fun i => (V i).cells) (hla : la ≤ 7) (hlc : la ≤ ca) :
    Calls Try.prog 19 #[.slice (some ⟨g, 0, none⟩) (la + 80) (la + 80), .slice a la ca, .agg #[.int .i64 m.q, .int .i64 (m.d 0), .int .i64 (m.d 1), .int .i64 (m.d 2), .int .i64 (m.d 3), .int .i64 (m.d 4), .int .i64 (m.d 5), .int .i64 (m.d 6)]] w fun e w' => e = .returned (.bool true) ∧ Below w.heap.size w w' := by
  have hlen : ∀ i, i < la + 80 → (if i < la then (V i).cells else m.cells).length = 8 := fun i _ => by
    by_cases h : i < la
    · rw [if_pos h]; rfl
    · rw [if_neg h]; rfl
  have hfr : IsRows w (some ⟨g, 0, none⟩) (la + 80) 8 fun i => if i < la then (V i).cells else m.cells := rows_of_flat hF hlen (by omega)
  clear hlen
  have hsame := fun W (hb : Below w.heap.size w W) => same_at (some ⟨g, 0, none⟩) a la (la + 80) ca V W (((hfr.less (show la ≤ la + 80 by omega)).cong (fun i hi => if_pos hi)).below hb) (hS.below hb) (by omega) (by omega) hlc
  have HF := Lib.hid hfr; have HS := Lib.hid hsame
  clear hfr hsame hF hS
  go_enter Try.func19, Try.ntmps19
  go_upto_region 1 with (fail)
  have hm0 : Holds (w.alloc (.cells #[.int .i64 m.q, .int .i64 (m.d 0), .int .i64 (m.d 1), .int .i64 (m.d 2), .int .i64 (m.d 3), .int .i64 (m.d 4), .int .i64 (m.d 5), .int .i64 (m.d 6)] 26)) w.heap.size 26 m.cells := holds_alloc w _ m.cells
  have hb0 : Below w.heap.size w (w.alloc (.cells #[.int .i64 m.q, .int .i64 (m.d 0), .int .i64 (m.d 1), .int .i64 (m.d 2), .int .i64 (m.d 3), .int .i64 (m.d 4), .int .i64 (m.d 5), .int .i64 (m.d 6)] 26)) := by go_grown
  go_name_world W0 hW0
  rw [hW0] at hm0 hb0
  clear hW0
  have HM := Lib.hid hm0; have HB := Lib.hid hb0; clear hm0 hb0
  generalize w.heap.size = gm at HM
  go_wp2_with fail
  refine (HS.out _ HB.out).mono ?_
  rintro e w2 ⟨rfl, hb⟩
  have HM := Lib.hid (HM.out.below hb HM.out.lt)
  have HB := Lib.hid (below_next HB.out hb)
  clear hb HS
  go_wp2_with fail
  go_loopw [7] (fun i wr => ∃ k : Nat, la ≤ k ∧ k ≤ la + 80 ∧ i = .int .i64 k ∧ Holds wr gm 26 m.cells ∧ Below w.heap.size w wr) (fun i _ => la + 80 - (intOf i).toNat)
  case atStart => exact ⟨la, by omega, by omega, rfl, HM.out, HB.out⟩
  case round =>
    clear HM HB
    obtain ⟨k, hk0, hk, rfl, hm, hb⟩ := hrel
    have HM := Lib.hid hm; have HB := Lib.hid hb; clear hm hb
    by_cases h1 : k < la + 80
    · have hneq := neq_at_self m
      have c0 := fun d os => HF.out.at (HB.out.trans ((below_regrown wr d os).mono HB.out.size)) h1 0 (by omega)
      have d0 := fun d os => HM.out.grown d os 0
      have c1 := fun d os => HF.out.at (HB.out.trans ((below_regrown wr d os).mono HB.out.size)) h1 1 (by omega)
      have d1 := fun d os => HM.out.grown d os 1
      have c2 := fun d os => HF.out.at (HB.out.trans ((below_regrown wr d os).mono HB.out.size)) h1 2 (by omega)
      have d2 := fun d os => HM.out.grown d os 2
      have c3 := fun d os => HF.out.at (HB.out.trans ((below_regrown wr d os).mono HB.out.size)) h1 3 (by omega)
      have d3 := fun d os => HM.out.grown d os 3
      have c4 := fun d os => HF.out.at (HB.out.trans ((below_regrown wr d os).mono HB.out.size)) h1 4 (by omega)
      have d4 := fun d os => HM.out.grown d os 4
      have c5 := fun d os => HF.out.at (HB.out.trans ((below_regrown wr d os).mono HB.out.size)) h1 5 (by omega)
      have d5 := fun d os => HM.out.grown d os 5
      have c6 := fun d os => HF.out.at (HB.out.trans ((below_regrown wr d os).mono HB.out.size)) h1 6 (by omega)
      have d6 := fun d os => HM.out.grown d os 6
      have c7 := fun d os => HF.out.at (HB.out.trans ((below_regrown wr d os).mono HB.out.size)) h1 7 (by omega)
      have d7 := fun d os => HM.out.grown d os 7
      simp only [if_neg (show ¬ k < la by omega)] at c0 c1 c2 c3 c4 c5 c6 c7
      simp only [At.cells, List.getElem?_cons_zero, List.getElem?_cons_succ, Nat.add_zero, Nat.zero_add] at c0 d0 c1 d1 c2 d2 c3 d3 c4 d4 c5 d5 c6 d6 c7 d7
      go_upto_region 6 with (fail)
      refine wp_region_quiet_below (by kernel_rfl) (by kernel_rfl) ?_
      repeat go_big_quiet_step (fail)
      refine wpQuiet_nil ?_
      intro w6 hw'
      have hb6 := below_of_regrown hw'
      have HM := Lib.hid (HM.out.below hb6 HM.out.lt)
      have HB := Lib.hid (below_next HB.out hb6)
      clear hw' hb6 c0 d0 c1 d1 c2 d2 c3 d3 c4 d4 c5 d5 c6 d6 c7 d7 hneq
      go_wp2_with fail
      go_roundw
      case rel => exact ⟨k + 1, by omega, by omega, by go_num, HM.out, HB.out⟩
      case measure => simp [intOf]; omega
    · have hkl : k = la + 80 := by omega
      subst hkl
      go_wp2_with fail
      go_ret
      exact ⟨rfl, HB.out⟩
end Go.Proofs.Ytmpefdepcbfcdaa
