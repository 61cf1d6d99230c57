/-
  The walk of row: what was said, once more, for the document's own answer.
-/
import Derived.Test.YtmpefdepcbfcdaaQuSlowP
import Derived.Deep.MidRow
import Derived.Deep.RegionHeld
namespace Go.Proofs.Ytmpefdepcbfcdaa
open Go.RowKit
set_option linter.unusedVariables false
set_option linter.unusedSimpArgs false

theorem take_dst {P : Program} {ops : Array Oper} {Q : Exit → Act → World → Prop} {md : Region.Mode} {S : World → Prop} {i : Nat} {oi : Oper} {v : Value} {fuel : Nat} {listed : Array Bool} {a : Act} {w : World} (d : Option Tmp) (hi : ops[i]? = some oi) (hd : oi.dst = d)
    (hs : Region.noSelect ops = true) (hf : Region.free md ops listed i = true) (hr : (Region.ready md ops listed).contains i = true)
    (hQ : ∀ c a w, Q (.panic c) (a.put oi.dst v) w → Q (.panic c) a w) (hy : YieldsIf P ops S oi v a) (hS : S w)
    (h : wpAnyH P md ops Q S fuel (listed.setIfInBounds i true) (a.put d v) w) : wpAnyH P md ops Q S (fuel + 1) listed a w := by
  subst hd
  exact wpAnyH_take hi hs hf hr hQ hy hS h
set_option maxRecDepth 4000 in
set_option maxHeartbeats 8000000 in
theorem row_any (a : Option Addr) (len cap : Nat) (S : Nat → Sd) (w : World) (hS : IsRows w a len 22 fun i => (S i).cells) (hlc : len ≤ cap) (hlen : len ≤ 1000) :
    Calls Try.prog 23 #[.slice a len cap] w fun e w' => ∃ v, e = .returned v ∧ w'.ownsRow w.heap.size 74 22 v len (flat 22 len fun i => (S i).cells) ∧ Below w.heap.size w w' := by
  have HV := Lib.hid hS; clear hS
  go_enter Try.func23, Try.ntmps23
  go_wp2_with fail
  go_loopw [3, 4] (fun out i wr => ∃ k : Nat, k ≤ len ∧ i = .int .i64 k ∧ wr.ownsRow w.heap.size 74 22 out k (flat 22 k fun i => (S i).cells) ∧ Below w.heap.size w wr) (fun _ i _ => len - (intOf i).toNat)
  case atStart => exact ⟨0, by omega, rfl, World.ownsRow_nil _ _ _ _, Below.refl _ _⟩
  case round =>
    obtain ⟨k, hk, rfl, hown, hb⟩ := hrel
    have HB := Lib.hid hb; have HW := Lib.hid hown; clear hb hown
    by_cases h1 : k < len
    · obtain ⟨b, off, rfl, hlt⟩ := HV.out.spot (by omega)
      have hsn := flat_snoc (s := 22) (m := k) (V := fun i => (S i).cells) (by omega) (fun i _ => rfl)
      have hoc := Sd.cells_one (S k)
      obtain ⟨L, hL⟩ : ∃ L, L = (S k).cells := ⟨_, rfl⟩
      rw [← hL] at hsn hoc
      have hall : ∀ W, Below w.heap.size w W → W.cell? ⟨b, off + k * 22, none⟩ = some (.int .i64 (S k).r) ∧ W.rangeAt b (off + k * 22 + 1) (celL (S k)) ∧ Below w.heap.size w W := fun W hbw => by
        refine ⟨by have := HV.out.at hbw h1 0 (by omega); simpa [Sd.cells] using this, fun j v hj => ?_, hbw⟩
        have := HV.out.range hbw h1 (j + 1) v (by rw [sd_cel]; exact hj)
        rw [Nat.add_assoc, Nat.add_comm 1 j]; exact this
      have HALL := Lib.hid hall; clear hall
      have HSN := Lib.hid hsn; have HOC := Lib.hid hoc; have HL := Lib.hid hL; clear hsn hoc hL
      generalize S k = X at HALL HL
      have hl2 := HL.out
      simp only [Sd.cells, Cm.cells, At.cells, List.cons_append, List.nil_append] at hl2
      have HL2 := Lib.hid hl2; clear hl2
      have HSR := Lib.hid (show ∀ w' : World, (w'.cell? ⟨b, off + k * 22, none⟩ = some (.int .i64 X.r) ∧ w'.rangeAt b (off + k * 22 + 1) (celL X) ∧ Below w.heap.size w w') → w'.rangeAt b (off + k * 22 + 1) (celL X) from fun w' h => h.2.1)
      go_upto_region 5 with (fail)
      refine wp_region_held_drew (S := fun w' => w'.cell? ⟨b, off + k * 22, none⟩ = some (.int .i64 X.r) ∧ w'.rangeAt b (off + k * 22 + 1) (celL X) ∧ Below w.heap.size w w') (by kernel_rfl) (HALL.out _ (HB.out.trans (drew_below _ _))) ?_
      intro hS0
      refine take_dst (i := 0) (some 11) (v := ?v0) rfl rfl (by kernel_rfl) (by kernel_rfl) (by kernel_rfl) (fun _ _ _ h => h) (Or.inl ⟨by rfl, ?h0⟩) (by assumption) ?r0
      case h0 =>
        intro w hSw
        obtain ⟨s0, s1, s2⟩ := hSw
        go_simp
        try with_reducible rfl
      simp only [Act.put, List.setIfInBounds_toArray, List.set_cons_zero, List.set_cons_succ]
      refine take_dst (i := 1) (some 12) (v := ?v1) rfl rfl (by kernel_rfl) (by kernel_rfl) (by kernel_rfl) (fun _ _ _ h => h) (Or.inl ⟨by rfl, ?h1⟩) (by assumption) ?r1
      case h1 =>
        intro w hSw
        obtain ⟨s0, s1, s2⟩ := hSw
        go_simp
        try with_reducible rfl
      simp only [Act.put, List.setIfInBounds_toArray, List.set_cons_zero, List.set_cons_succ]
      refine take_dst (i := 2) (some 13) (v := ?v2) rfl rfl (by kernel_rfl) (by kernel_rfl) (by kernel_rfl) (fun _ _ _ h => h) (Or.inl ⟨by rfl, ?h2⟩) (by assumption) ?r2
      case h2 =>
        intro w hSw
        obtain ⟨s0, s1, s2⟩ := hSw
        go_simp
        try with_reducible rfl
      simp only [Act.put, List.setIfInBounds_toArray, List.set_cons_zero, List.set_cons_succ]
      refine take_dst (i := 3) (some 14) (v := ?v3) rfl rfl (by kernel_rfl) (by kernel_rfl) (by kernel_rfl) (fun _ _ _ h => h) (Or.inl ⟨by rfl, ?h3⟩) (by assumption) ?r3
      case h3 =>
        intro w hSw
        obtain ⟨s0, s1, s2⟩ := hSw
        go_simp
        try with_reducible rfl
      simp only [Act.put, List.setIfInBounds_toArray, List.set_cons_zero, List.set_cons_succ]
      refine take_dst (i := 4) (some 15) (v := ?v4) rfl rfl (by kernel_rfl) (by kernel_rfl) (by kernel_rfl) (fun _ _ _ h => h) (Or.inl ⟨by rfl, ?h4⟩) (by assumption) ?r4
      case h4 =>
        intro w hSw
        obtain ⟨s0, s1, s2⟩ := hSw
        go_simp
        try with_reducible rfl
      simp only [Act.put, List.setIfInBounds_toArray, List.set_cons_zero, List.set_cons_succ]
      refine take_dst (i := 6) (some 17) (v := ?v6) rfl rfl (by kernel_rfl) (by kernel_rfl) (by kernel_rfl) (fun _ _ _ h => h) (Or.inl ⟨by rfl, ?h6⟩) (by assumption) ?r6
      case h6 =>
        intro w hSw
        obtain ⟨s0, s1, s2⟩ := hSw
        go_simp
        try with_reducible rfl
      simp only [Act.put, List.setIfInBounds_toArray, List.set_cons_zero, List.set_cons_succ]
      refine take_dst (i := 7) (some 18) (v := ?v7) rfl rfl (by kernel_rfl) (by kernel_rfl) (by kernel_rfl) (fun _ _ _ h => h) (Or.inl ⟨by rfl, ?h7⟩) (by assumption) ?r7
      case h7 =>
        intro w hSw
        obtain ⟨s0, s1, s2⟩ := hSw
        go_simp
        try with_reducible rfl
      simp only [Act.put, List.setIfInBounds_toArray, List.set_cons_zero, List.set_cons_succ]
      refine take_dst (i := 8) (some 19) (v := ?v8) rfl rfl (by kernel_rfl) (by kernel_rfl) (by kernel_rfl) (fun _ _ _ h => h) (Or.inl ⟨by rfl, ?h8⟩) (by assumption) ?r8
      case h8 =>
        intro w hSw
        obtain ⟨s0, s1, s2⟩ := hSw
        go_simp
        try with_reducible rfl
      simp only [Act.put, List.setIfInBounds_toArray, List.set_cons_zero, List.set_cons_succ]
      refine take_dst (i := 9) (some 20) (v := ?v9) rfl rfl (by kernel_rfl) (by kernel_rfl) (by kernel_rfl) (fun _ _ _ h => h) (Or.inl ⟨by rfl, ?h9⟩) (by assumption) ?r9
      case h9 =>
        intro w hSw
        obtain ⟨s0, s1, s2⟩ := hSw
        go_simp
        try with_reducible rfl
      simp only [Act.put, List.setIfInBounds_toArray, List.set_cons_zero, List.set_cons_succ]
      refine take_dst (i := 10) (some 21) (v := .agg (celL X).toArray) rfl rfl (by kernel_rfl) (by kernel_rfl) (by kernel_rfl) (fun _ _ _ h => h) (yieldsIf_load_mid rfl 34 _ rfl b (off + k * 22 + 1) rfl (celL X) _ HSR.out Try.underlying34 rfl (by kernel_rfl)) (by assumption) ?r10
      simp only [celL]
      simp only [Act.put, List.setIfInBounds_toArray, List.set_cons_zero, List.set_cons_succ]
      refine take_dst (i := 5) (some 16) (v := ?v5) rfl rfl (by kernel_rfl) (by kernel_rfl) (by kernel_rfl) (fun _ _ _ h => h) (Or.inl ⟨by rfl, ?h5⟩) (by assumption) ?r5
      case h5 =>
        intro w hSw
        obtain ⟨s0, s1, s2⟩ := hSw
        go_simp
        try with_reducible rfl
      simp only [Act.put, List.setIfInBounds_toArray, List.set_cons_zero, List.set_cons_succ]
      refine take_dst (i := 11) (some 22) (v := ?v11) rfl rfl (by kernel_rfl) (by kernel_rfl) (by kernel_rfl) (fun _ _ _ h => h) (Or.inl ⟨by rfl, ?h11⟩) (by assumption) ?r11
      case h11 =>
        intro w hSw
        obtain ⟨s0, s1, s2⟩ := hSw
        go_simp
        try with_reducible rfl
      simp only [Act.put, List.setIfInBounds_toArray, List.set_cons_zero, List.set_cons_succ]
      refine wpAnyH_ready (rs := [12]) (by kernel_rfl) (by simp) ?_
      refine AllReadyH.cons rfl (fun K hK => ?_) AllReadyH.nil
      go_simp
      refine hK.out _ _ (HALL.out _ (below_next HB.out (by go_grown))) (fun hS1 => ?_)
      clear hK
      try simp only [Act.put, List.setIfInBounds_toArray, List.set_cons_zero, List.set_cons_succ]
      refine wpAnyH_ready (rs := [13]) (by kernel_rfl) (by simp) ?_
      refine AllReadyH.cons rfl (fun K hK => ?_) AllReadyH.nil
      refine step_append_rows rfl (.tmp 11) (.tmp 23) 51 rfl w.heap.size 74 (.agg #[.int .i64 0, .int .i64 0, .int .i64 0, .int .i64 0, .int .i64 0, .int .i64 0, .int .i64 0, .int .i64 0, .int .i64 0, .string ⟨#[]⟩, .string ⟨#[]⟩, .string ⟨#[]⟩, .string ⟨#[]⟩, .int .i64 0, .int .i64 0, .int .i64 0, .int .i64 0, .int .i64 0, .int .i64 0, .int .i64 0, .int .i64 0, .bool false]) 22 208 rfl (by kernel_rfl) rfl (by decide) _ k (flat 22 k fun i => (S i).cells) rfl (owns_below HW.out (by go_grown)) wr.heap.size 0 1 1 (fun _ => L) rfl ?hrows (fun i _ u hu => by have := HOC.out; rw [List.all_toArray] at this; exact List.all_eq_true.1 this u hu) (by unfold maxLen; omega) (by omega) (by have := HB.out.size; simp; omega) ?_
      case hrows =>
        refine ⟨by unfold maxLen; omega, fun i hi => by rw [HL.out]; rfl, fun _ => ⟨_, 0, rfl, by simp, fun i hi j hj => ?_⟩⟩
        obtain rfl : i = 0 := by omega
        rw [HL2.out]
        have := (holds_alloc wr.drew 74 [.int .i64 X.r, .int .i64 X.st, .int .i64 X.pe, .int .i64 X.pr, .int .i64 X.ve, .int .i64 X.vr, .int .i64 X.x.k, .int .i64 X.x.c, .int .i64 X.x.s, .string X.x.a, .string X.x.b, .string X.x.o, .string X.x.v, .int .i64 X.a.q, .int .i64 (X.a.d 0), .int .i64 (X.a.d 1), .int .i64 (X.a.d 2), .int .i64 (X.a.d 3), .int .i64 (X.a.d 4), .int .i64 (X.a.d 5), .int .i64 (X.a.d 6), .bool X.same]).cell j
        rw [show 0 + 0 * 22 + j = j by omega]
        exact this
      intro v4 w4 ho4 hb4
      refine hK.out _ _ (HALL.out _ ((below_next HB.out (show Below wr.heap.size wr _ by go_grown)).trans hb4)) (fun hS2 => ?_)
      clear hK
      try simp only [Act.put, List.setIfInBounds_toArray, List.set_cons_zero, List.set_cons_succ]
      refine take_dst (i := 14) (some 3) (v := ?v14) rfl rfl (by kernel_rfl) (by kernel_rfl) (by kernel_rfl) (fun _ _ _ h => h) (Or.inl ⟨by rfl, ?h14⟩) (by assumption) ?r14
      case h14 =>
        intro w hSw
        skip
        go_simp
        try with_reducible rfl
      simp only [Act.put, List.setIfInBounds_toArray, List.set_cons_zero, List.set_cons_succ]
      refine wpAnyH_done (by kernel_rfl) ?_ _
      have HB := Lib.hid hS2.2.2
      have HW := Lib.hid ho4
      clear hS0 hS1 hS2 ho4 hb4
      rw [show flat 22 1 (fun _ => L) = L from flat_of_one (V := fun _ => L) (by rw [HL.out]; rfl), HSN.out] at HW
      go_wp2_with fail
      go_roundw
      case rel => exact ⟨k + 1, by omega, by go_num, HW.out, HB.out⟩
      case measure => simp [intOf]; omega
    · have hkl : len = k := by omega
      subst hkl
      go_wp2_with fail
      go_ret
      exact ⟨_, rfl, HW.out, HB.out⟩
end Go.Proofs.Ytmpefdepcbfcdaa
