/-
  The walks of Same and Intact at rows of what was said, where they answer yes.
-/
import Derived.Test.YtmpefdepcbfcdaaQuIntactW
import Derived.Test.YtmpefdepcbfcdaaQuEqW
namespace Go.Proofs.Ytmpefdepcbfcdaa
open Go.RowKit
set_option linter.unusedVariables false
set_option linter.unusedSimpArgs false

/-- A load of a whole row in a region that draws and is walked once. -/
theorem wpQuiet_load_mid {P : Program} {ops : Array Oper} {C : World → Prop} {Q : Act → Prop} {rest : List Oper} {o : Oper} {a : Act} (hg : o.guard = none) (ty : TypeId) (x : Operand) (ho : o.op = .load ty x)
    (b f : Nat) (hx : a.eval x = .pointer (some ⟨b, f, none⟩)) (cs : List Value) (d : TypeDesc) (hc : ∀ w, C w → w.rangeAt b f cs) (hu : P.underlying ty = some d) (hd : d.isRow = true) (hi : (P.info? ty).map (·.size) = some cs.length)
    (h : wpQuiet P ops C Q rest (a.put o.dst (.agg cs.toArray))) : wpQuiet P ops C Q (o :: rest) a := by
  unfold wpQuiet
  rw [if_pos (show Region.wanted o (yielded ops a.tmps) = true by simp [Region.wanted, hg])]
  refine ⟨.agg cs.toArray, fun w hw => ?_, h⟩
  unfold Oper.quietAt execOp
  simp only [ho, hx, Instr.loadAt, Instr.sureAddr, Sem.run_bind, Sem.run_pure, Result.andThen_ok, run_loadVar_mid w b f ty cs d (hc w hw) hu hd hi]
  exact ⟨rfl, rfl⟩
theorem range_of_grown {w W : World} {b off len n : Nat} {V : Nat → List Value} (h : IsRows w (some ⟨b, off, none⟩) len n V) (hbl : Below w.heap.size w W) {k : Nat} (hk : k < len) : ∀ w', (∃ p : Regrown, w' = Sort.grow (redrawn W p.d) p.os) → w'.rangeAt b (off + k * n) (V k) := fun w' hw' =>
  h.range (below_next hbl (below_of_regrown hw')) hk
theorem range_of_own {W : World} {g : Nat} {e : TypeId} {L : List Value} (h : Holds W g e L) : ∀ w', (∃ p : Regrown, w' = Sort.grow (redrawn W p.d) p.os) → w'.rangeAt g 0 L := fun w' hw' k v hk => by
  have hb := below_of_regrown hw'
  rw [Nat.zero_add, (h.below hb h.lt).cell]; exact hk
theorem neq_sd_row (m : Sd) (w : World) : (binOp .neq 36 (.agg m.cells.toArray) (.agg m.cells.toArray)).run Try.prog w = .ok (.bool false) w := neq_sd_self m w
set_option maxRecDepth 4000 in
set_option maxHeartbeats 4000000 in
theorem same_sd (a a2 : Option Addr) (la ca ca2 : Nat) (V : Nat → Sd) (w : World) (hS : IsRows w a la 22 fun i => (V i).cells) (hS2 : IsRows w a2 la 22 fun i => (V i).cells) (hla : la ≤ 1000) (hlc : la ≤ ca) (hlc2 : la ≤ ca2) :
    Calls Try.prog 40 #[.slice a la ca, .slice a2 la ca2] w fun e w' => e = .returned (.bool true) ∧ Below w.heap.size w w' := by
  have HV := Lib.hid hS; have HV2 := Lib.hid hS2; clear hS hS2
  go_enter Try.func40, Try.ntmps40
  go_wp2_with fail
  go_loopw [5] (fun i wr => ∃ k : Nat, k ≤ la ∧ i = .int .i64 k ∧ Below w.heap.size w wr) (fun i _ => la - (intOf i).toNat)
  case atStart => exact ⟨0, by omega, rfl, by go_grown⟩
  case round =>
    obtain ⟨k, hk, rfl, hb⟩ := hrel
    have HB := Lib.hid hb; clear hb
    by_cases h1 : k < la
    · obtain ⟨b, off, rfl, hlt⟩ := HV.out.spot (by omega)
      obtain ⟨b2, off2, rfl, hlt2⟩ := HV2.out.spot (by omega)
      have hneq := neq_sd_row (V k)
      have hr1 := range_of_grown HV.out HB.out h1
      have hr2 := range_of_grown HV2.out HB.out h1
      have hl : (V k).cells.length = 22 := rfl
      generalize (V k).cells = M at hneq hr1 hr2 hl
      have HR1 := Lib.hid hr1; have HR2 := Lib.hid hr2; have HL := Lib.hid hl; clear hr1 hr2 hl
      go_upto_region 6 with (fail)
      refine wp_region_quiet_below (by kernel_rfl) (by kernel_rfl) ?_
      repeat (first
        | (refine wpQuiet_load_mid rfl 36 _ rfl b (off + k * 22) rfl M _ HR1.out Try.underlying36 rfl (by rw [HL.out]; kernel_rfl) ?_; simp only [Act.put, List.setIfInBounds_toArray, List.set_cons_succ, List.set_cons_zero])
        | (refine wpQuiet_load_mid rfl 36 _ rfl b2 (off2 + k * 22) rfl M _ HR2.out Try.underlying36 rfl (by rw [HL.out]; kernel_rfl) ?_; simp only [Act.put, List.setIfInBounds_toArray, List.set_cons_succ, List.set_cons_zero])
        | go_big_quiet_step (fail))
      refine wpQuiet_nil ?_
      intro w6 hw'
      have HB := Lib.hid (below_next HB.out (below_of_regrown hw'))
      clear hw' hneq
      go_wp2_with fail
      go_roundw
      case rel => exact ⟨k + 1, by omega, by go_num, HB.out⟩
      case measure => simp [intOf]; omega
    · have hkl : k = la := by omega
      subst hkl
      go_wp2_with fail
      go_ret
      exact ⟨rfl, HB.out⟩
set_option maxRecDepth 4000 in
set_option maxHeartbeats 4000000 in
theorem intact_sd (g : Nat) (a : Option Addr) (la ca : Nat) (V : Nat → Sd) (m : Sd) (w : World) (hF : Holds w g 36 (flat 22 (la + 80) fun i => if i < la then (V i).cells else m.cells)) (hS : IsRows w a la 22 fun i => (V i).cells) (hla : la ≤ 7) (hlc : la ≤ ca) :
    Calls Try.prog 24 #[.slice (some ⟨g, 0, none⟩) (la + 80) (la + 80), .slice a la ca, .agg m.cells.toArray] w fun e w' => e = .returned (.bool true) ∧ Below w.heap.size w w' := by
  have hlen : ∀ i, i < la + 80 → (if i < la then (V i).cells else m.cells).length = 22 := fun i _ => by
    by_cases h : i < la
    · rw [if_pos h]; rfl
    · rw [if_neg h]; rfl
  have hfr : IsRows w (some ⟨g, 0, none⟩) (la + 80) 22 fun i => if i < la then (V i).cells else m.cells := rows_of_flat hF hlen (by omega)
  clear hlen
  have hsame := fun W (hb : Below w.heap.size w W) => same_sd (some ⟨g, 0, none⟩) a la (la + 80) ca V W (((hfr.less (show la ≤ la + 80 by omega)).cong (fun i hi => if_pos hi)).below hb) (hS.below hb) (by omega) (by omega) hlc
  have HF := Lib.hid hfr; have HS := Lib.hid hsame
  clear hfr hsame hF hS
  have hneq := neq_sd_row m
  have hl : m.cells.length = 22 := rfl
  have hal := Sd.cells_one m
  generalize m.cells = M at HF hneq hl hal ⊢
  have HL := Lib.hid hl; have HN := Lib.hid hneq; clear hl hneq hal
  go_enter Try.func24, Try.ntmps24
  go_upto_region 1 with (fail)
  have hm0 : Holds (w.alloc (.cells M.toArray 36)) w.heap.size 36 M := holds_alloc w _ M
  have hb0 : Below w.heap.size w (w.alloc (.cells M.toArray 36)) := by go_grown
  go_name_world W0 hW0
  rw [hW0] at hm0 hb0
  clear hW0
  have HM := Lib.hid hm0; have HB := Lib.hid hb0; clear hm0 hb0
  generalize w.heap.size = gm at HM
  go_wp2_with fail
  refine (HS.out _ HB.out).mono ?_
  rintro e w2 ⟨rfl, hb⟩
  have HM := Lib.hid (HM.out.below hb HM.out.lt)
  have HB := Lib.hid (below_next HB.out hb)
  clear hb HS
  go_wp2_with fail
  go_loopw [7] (fun i wr => ∃ k : Nat, la ≤ k ∧ k ≤ la + 80 ∧ i = .int .i64 k ∧ Holds wr gm 36 M ∧ Below w.heap.size w wr) (fun i _ => la + 80 - (intOf i).toNat)
  case atStart => exact ⟨la, by omega, by omega, rfl, HM.out, HB.out⟩
  case round =>
    clear HM HB
    obtain ⟨k, hk0, hk, rfl, hm, hb⟩ := hrel
    have HM := Lib.hid hm; have HB := Lib.hid hb; clear hm hb
    by_cases h1 : k < la + 80
    · have hneq := HN.out
      have hr1 := range_of_grown HF.out HB.out h1
      simp only [if_neg (show ¬ k < la by omega), Nat.zero_add] at hr1
      have HR1 := Lib.hid hr1; have HR2 := Lib.hid (range_of_own HM.out); clear hr1
      go_upto_region 6 with (fail)
      refine wp_region_quiet_below (by kernel_rfl) (by kernel_rfl) ?_
      repeat (first
        | (refine wpQuiet_load_mid rfl 36 _ rfl g (k * 22) rfl M _ HR1.out Try.underlying36 rfl (by rw [HL.out]; kernel_rfl) ?_; simp only [Act.put, List.setIfInBounds_toArray, List.set_cons_succ, List.set_cons_zero])
        | (refine wpQuiet_load_mid rfl 36 _ rfl gm 0 rfl M _ HR2.out Try.underlying36 rfl (by rw [HL.out]; kernel_rfl) ?_; simp only [Act.put, List.setIfInBounds_toArray, List.set_cons_succ, List.set_cons_zero])
        | go_big_quiet_step (fail))
      refine wpQuiet_nil ?_
      intro w6 hw'
      have hb6 := below_of_regrown hw'
      have HM := Lib.hid (HM.out.below hb6 HM.out.lt)
      have HB := Lib.hid (below_next HB.out hb6)
      clear hw' hb6 hneq
      go_wp2_with fail
      go_roundw
      case rel => exact ⟨k + 1, by omega, by omega, by go_num, HM.out, HB.out⟩
      case measure => simp [intOf]; omega
    · have hkl : k = la + 80 := by omega
      subst hkl
      go_wp2_with fail
      go_ret
      exact ⟨rfl, HB.out⟩
end Go.Proofs.Ytmpefdepcbfcdaa
