/-
  The walks of Roomy at rows.
-/
import Derived.Test.YtmpefdepcbfcdaaQuRowsW
namespace Go.Proofs.Ytmpefdepcbfcdaa
open Go.RowKit
set_option linter.unusedVariables false
set_option linter.unusedSimpArgs false

theorem wpList_copy_nil {P : Program} {w : World} {ops : Array Oper} {rest : List Oper} {o : Oper} {a : Act} {Q : Exit → Act → World → Prop} (hgd : o.guard = none) (d s : Operand) (dT sT : TypeId)
    (ho : o.op = .call { callee := .builtin .copy, args := #[d, s], argTypes := #[dT, sT] }) (elem : TypeId) (hu : P.underlying dT = some (.slice elem)) (hsz : ((P.info? elem).map (·.size)).isSome = true)
    (ad : Addr) (dLen dCap : Nat) (hd : a.eval d = .slice (some ad) dLen dCap) (hs : a.eval s = .slice none 0 0)
    (h : wpList P ops Q rest (a.put o.dst (goInt 0)) w) : wpList P ops Q (o :: rest) a w := by
  refine wpList_plain hgd fun K hK => ?_
  have hrun := run_copy_nil (P := P) w dT sT o.type elem ad dLen dCap hu hsz
  unfold Oper.wp
  simp [execOp, ho, resolve, invoke, builtin, hd, hs, hrun, Result.andThen]
  exact hK _ _ h
theorem flat_congr {s n : Nat} {V V' : Nat → List Value} (h : ∀ i, i < n → V i = V' i) : flat s n V = flat s n V' := by
  unfold flat
  apply List.map_congr_left
  intro t ht
  have ht2 : t < n * s := List.mem_range.1 ht
  have hk : t / s < n := Nat.div_lt_of_lt_mul (by rwa [Nat.mul_comm] at ht2)
  rw [h _ hk]
/-- Roomy's block when the marks stand up to k. -/
def mkRow (la : Nat) (V : Nat → List Value) (M Z : List Value) (k : Nat) : Nat → List Value := fun i => if i < la then V i else if i < k then M else Z
theorem mkRow_len {la s k : Nat} {V : Nat → List Value} {M Z : List Value} (hv : ∀ i, i < la → (V i).length = s) (hM : M.length = s) (hZ : Z.length = s) (i : Nat) : (mkRow la V M Z k i).length = s := by
  unfold mkRow
  by_cases h : i < la
  · rw [if_pos h]; exact hv i h
  · rw [if_neg h]; by_cases h2 : i < k
    · rw [if_pos h2]; exact hM
    · rw [if_neg h2]; exact hZ
theorem mkRow_end (la : Nat) (V : Nat → List Value) (M Z : List Value) (n : Nat) : ∀ i, i < n → mkRow la V M Z n i = if i < la then V i else M := fun i hi => by
  unfold mkRow
  by_cases h : i < la
  · rw [if_pos h, if_pos h]
  · rw [if_neg h, if_neg h, if_pos hi]
theorem mkRow_start (la : Nat) (V : Nat → List Value) (M Z : List Value) : (fun i => if i < la then V i else Z) = mkRow la V M Z la := by
  funext i
  unfold mkRow
  by_cases h : i < la
  · rw [if_pos h, if_pos h]
  · rw [if_neg h, if_neg h, if_neg h]
theorem mkRow_next (la : Nat) (V : Nat → List Value) (M Z : List Value) (k : Nat) (hk : la ≤ k) : (fun i => if i = k then M else mkRow la V M Z k i) = mkRow la V M Z (k + 1) := by
  funext i
  unfold mkRow
  by_cases e : i = k
  · rw [if_pos e, if_neg (by omega), if_pos (by omega)]
  · rw [if_neg e]
    by_cases h : i < la
    · rw [if_pos h, if_pos h]
    · rw [if_neg h, if_neg h]
      by_cases h2 : i < k
      · rw [if_pos h2, if_pos (by omega)]
      · rw [if_neg h2, if_neg (by omega)]
set_option maxRecDepth 4000 in
set_option maxHeartbeats 4000000 in
theorem roomy_at (a : Option Addr) (la ca : Nat) (V : Nat → At) (m : At) (w : World) (hS : IsRows w a la 8 fun i => (V i).cells) (hla : la ≤ 7) (hnil : a = none → ca = 0) :
    Calls Try.prog 15 #[.slice a la ca, .agg #[.int .i64 m.q, .int .i64 (m.d 0), .int .i64 (m.d 1), .int .i64 (m.d 2), .int .i64 (m.d 3), .int .i64 (m.d 4), .int .i64 (m.d 5), .int .i64 (m.d 6)]] w fun e w' => ∃ g, e = .returned (.slice (some ⟨g, 0, none⟩) (la + 80) (la + 80)) ∧ w.heap.size ≤ g ∧ Holds w' g 26 (flat 8 (la + 80) fun i => if i < la then (V i).cells else m.cells) ∧ Below w.heap.size w w' := by
  have HV := Lib.hid hS; clear hS
  have HN := Lib.hid hnil; clear hnil
  go_enter Try.func15, Try.ntmps15
  go_upto_region 1 with (fail)
  have hm0 : Holds (w.alloc (.cells #[.int .i64 m.q, .int .i64 (m.d 0), .int .i64 (m.d 1), .int .i64 (m.d 2), .int .i64 (m.d 3), .int .i64 (m.d 4), .int .i64 (m.d 5), .int .i64 (m.d 6)] 26)) w.heap.size 26 m.cells := holds_alloc w _ m.cells
  have hb0 : Below w.heap.size w (w.alloc (.cells #[.int .i64 m.q, .int .i64 (m.d 0), .int .i64 (m.d 1), .int .i64 (m.d 2), .int .i64 (m.d 3), .int .i64 (m.d 4), .int .i64 (m.d 5), .int .i64 (m.d 6)] 26)) := by go_grown
  have hs0 : (w.alloc (.cells #[.int .i64 m.q, .int .i64 (m.d 0), .int .i64 (m.d 1), .int .i64 (m.d 2), .int .i64 (m.d 3), .int .i64 (m.d 4), .int .i64 (m.d 5), .int .i64 (m.d 6)] 26)).heap.size = w.heap.size + 1 := by simp
  go_name_world W0 hW0
  rw [hW0] at hm0 hb0 hs0
  clear hW0
  go_upto_region 2 with (first | (at_make; refine wpList_make_rows W0 rfl (.tmp 9) (.tmp 9) 39 rfl 26 (.agg #[.int .i64 0, .int .i64 0, .int .i64 0, .int .i64 0, .int .i64 0, .int .i64 0, .int .i64 0, .int .i64 0]) 8 64 rfl (by kernel_rfl) [.int .i64 0, .int .i64 0, .int .i64 0, .int .i64 0, .int .i64 0, .int .i64 0, .int .i64 0, .int .i64 0] rfl rfl (by decide) .i64 .i64 _ _ (la + 80) rfl rfl (by push_cast; rfl) (by push_cast; rfl) (by omega) (by unfold maxLen; omega) ?_; intro w1 hh1 hb1 hs1))
  have hm1 := hm0.below hb1 hm0.lt
  have hb1 := below_next hb0 hb1
  rw [hs0] at hh1
  clear hm0 hb0 hs1 hs0
  generalize hg : w.heap.size + 1 = g at hh1 ⊢
  have hgm : ¬ g = w.heap.size := by omega
  have hgw : w.heap.size ≤ g := by omega
  have hgl : w.heap.size < g := by omega
  clear hg
  have HZ0 := Lib.hid (show ([.int .i64 0, .int .i64 0, .int .i64 0, .int .i64 0, .int .i64 0, .int .i64 0, .int .i64 0, .int .i64 0] : List Value).length = 8 from rfl)
  generalize hZ : ([.int .i64 0, .int .i64 0, .int .i64 0, .int .i64 0, .int .i64 0, .int .i64 0, .int .i64 0, .int .i64 0] : List Value) = Z at hh1 HZ0
  clear hZ
  have HM := Lib.hid hm1; clear hm1
  have H1V : ∀ u ∈ flat 8 la (fun i => (V i).cells), u.oneCell' = true := flat_one 8 la _ (fun i hi => rfl) (fun i hi v hv => by have := At.cells_one (V i); rw [List.all_toArray] at this; exact List.all_eq_true.1 this v hv)
  have HM1 : ∀ u ∈ m.cells, u.oneCell' = true := fun v hv => by have := At.cells_one m; rw [List.all_toArray] at this; exact List.all_eq_true.1 this v hv
  have H1V := Lib.hid H1V; have HM1 := Lib.hid HM1
  cases a with
  | none =>
    have hla0 : la = 0 := by
      by_cases h : 0 < la
      · obtain ⟨_, _, h2, _⟩ := HV.out.spot h; cases h2
      · omega
    subst hla0
    have hca0 := HN.out rfl
    subst hca0
    go_wp2_with (first | (refine wpList_copy_nil rfl (.tmp 11) (.tmp 12) 39 39 rfl 26 rfl (by kernel_rfl) ⟨g, 0, none⟩ _ _ rfl rfl ?_))
    have hst : Holds w1 g 26 (flat 8 (0 + 80) (mkRow 0 (fun i => (V i).cells) m.cells Z 0)) := by
      rw [← mkRow_start 0 (fun i => (V i).cells) m.cells Z, flat_congr (V' := fun _ => Z) (fun i hi => if_neg (by omega))]
      exact hh1
    have HB := Lib.hid hb1; have HST := Lib.hid hst
    clear hb1 hst hh1 HN
    have hla : 0 ≤ 7 := by omega
    go_loopw [6] (fun i wr => ∃ k : Nat, 0 ≤ k ∧ k ≤ 0 + 80 ∧ i = .int .i64 k ∧ Holds wr g 26 (flat 8 (0 + 80) (mkRow 0 (fun i => (V i).cells) m.cells Z k)) ∧ Holds wr w.heap.size 26 m.cells ∧ Below w.heap.size w wr) (fun i _ => 0 + 80 - (intOf i).toNat)
    case atStart => exact ⟨0, by omega, by omega, rfl, HST.out, HM.out, HB.out⟩
    case round =>
      clear HST HM HB
      obtain ⟨k, hk0, hk1, rfl, hh, hm, hb⟩ := hrel
      have HB := Lib.hid hb; clear hb
      by_cases h1 : k < 0 + 80
      · have hfit : k * 8 + m.cells.length ≤ (flat 8 (0 + 80) (mkRow 0 (fun i => (V i).cells) m.cells Z k)).length := by rw [flat_len, show m.cells.length = 8 from rfl]; omega
        have hrm : wr.rangeAt w.heap.size 0 m.cells := fun j v hv => by rw [Nat.zero_add, hm.cell]; exact hv
        have HRM := Lib.hid hrm; have HFIT := Lib.hid hfit; have HH := Lib.hid hh; have HM := Lib.hid hm
        clear hrm hfit hh hm
        go_wp2_with (first
          | (refine wpList_load_mid rfl 26 _ rfl w.heap.size 0 rfl _ _ HRM.out Try.underlying26 rfl (by kernel_rfl) ?_)
          | (refine wpList_store_splice rfl 26 _ _ rfl rfl g (k * 8) _ 26 HH.out rfl m.cells rfl (by kernel_rfl) HFIT.out HM1.out ?_; intro w4 hh4 hb4 hs4 ho4))
        rw [flat_put (s := 8) (by omega) (fun i hi => mkRow_len (s := 8) (V := fun i => (V i).cells) (M := m.cells) (fun i hi => rfl) rfl HZ0.out i) rfl h1, mkRow_next 0 _ _ _ k hk0] at hh4
        have HH4 := Lib.hid hh4; have HM4 := Lib.hid (HM.out.below hb4 hgl); have HB4 := Lib.hid (HB.out.trans (hb4.mono hgw))
        clear hh4 hb4 hs4 ho4 HRM HFIT HH HM HB
        go_wp2_with fail
        go_roundw
        case rel => exact ⟨k + 1, by omega, by omega, by go_num, HH4.out, HM4.out, HB4.out⟩
        case measure => simp [intOf]; omega
      · have hkk : k = 0 + 80 := by omega
        subst hkk
        rw [flat_congr (mkRow_end 0 (fun i => (V i).cells) m.cells Z (0 + 80))] at hh
        have HH := Lib.hid hh; clear hh hm
        go_wp2_with fail
        go_ret
        exact ⟨g, rfl, hgw, HH.out, HB.out⟩
  | some ad =>
    have hsrc : ∀ (j : Nat) v, (flat 8 la fun i => (V i).cells)[j]? = some v → w1.cell? (ad.add j) = some v := fun j v hv => by
      have hr := HV.out.reads hb1 (by omega)
      obtain ⟨b, off, hb, _, hc⟩ := hr (by have := (List.getElem?_eq_some_iff.1 hv).1; omega)
      simp only [Option.some.injEq] at hb
      subst hb
      rw [add_at]; exact hc j v hv
    have HSRC := Lib.hid hsrc; clear hsrc
    go_wp2_with (first | (refine wpList_copy_rows rfl (.tmp 11) (.tmp 12) 39 39 rfl 26 rfl 8 (by kernel_rfl) g (la + 80) (la + 80) ad la ca rfl rfl (flat 8 (la + 80) fun _ => Z) 26 hh1 (flat 8 la fun i => (V i).cells) (by rw [flat_len, show Nat.min la (la + 80) = la from Nat.min_eq_left (by omega)]) HSRC.out (by rw [flat_len, flat_len]; omega) H1V.out ?_; intro w2 hh2 hb2 hs2))
    have hst : Holds w2 g 26 (flat 8 (la + 80) (mkRow la (fun i => (V i).cells) m.cells Z la)) := by
      rw [flat_pre (s := 8) (V := fun i => (V i).cells) (Z := fun _ => Z) (by omega) (fun i hi => rfl) (fun i hi => HZ0.out) (by omega), mkRow_start la (fun i => (V i).cells) m.cells Z] at hh2
      exact hh2
    have hm2 := HM.out
    have HM := Lib.hid (hm2.below hb2 hgl)
    have HB := Lib.hid (hb1.trans (hb2.mono hgw)); have HST := Lib.hid hst
    clear hb1 hst hh1 HN hh2 hb2 hs2 hm2
    go_loopw [6] (fun i wr => ∃ k : Nat, la ≤ k ∧ k ≤ la + 80 ∧ i = .int .i64 k ∧ Holds wr g 26 (flat 8 (la + 80) (mkRow la (fun i => (V i).cells) m.cells Z k)) ∧ Holds wr w.heap.size 26 m.cells ∧ Below w.heap.size w wr) (fun i _ => la + 80 - (intOf i).toNat)
    case atStart => exact ⟨la, by omega, by omega, rfl, HST.out, HM.out, HB.out⟩
    case round =>
      clear HST HM HB
      obtain ⟨k, hk0, hk1, rfl, hh, hm, hb⟩ := hrel
      have HB := Lib.hid hb; clear hb
      by_cases h1 : k < la + 80
      · have hfit : k * 8 + m.cells.length ≤ (flat 8 (la + 80) (mkRow la (fun i => (V i).cells) m.cells Z k)).length := by rw [flat_len, show m.cells.length = 8 from rfl]; omega
        have hrm : wr.rangeAt w.heap.size 0 m.cells := fun j v hv => by rw [Nat.zero_add, hm.cell]; exact hv
        have HRM := Lib.hid hrm; have HFIT := Lib.hid hfit; have HH := Lib.hid hh; have HM := Lib.hid hm
        clear hrm hfit hh hm
        go_wp2_with (first
          | (refine wpList_load_mid rfl 26 _ rfl w.heap.size 0 rfl _ _ HRM.out Try.underlying26 rfl (by kernel_rfl) ?_)
          | (refine wpList_store_splice rfl 26 _ _ rfl rfl g (k * 8) _ 26 HH.out rfl m.cells rfl (by kernel_rfl) HFIT.out HM1.out ?_; intro w4 hh4 hb4 hs4 ho4))
        rw [flat_put (s := 8) (by omega) (fun i hi => mkRow_len (s := 8) (V := fun i => (V i).cells) (M := m.cells) (fun i hi => rfl) rfl HZ0.out i) rfl h1, mkRow_next la _ _ _ k hk0] at hh4
        have HH4 := Lib.hid hh4; have HM4 := Lib.hid (HM.out.below hb4 hgl); have HB4 := Lib.hid (HB.out.trans (hb4.mono hgw))
        clear hh4 hb4 hs4 ho4 HRM HFIT HH HM HB
        go_wp2_with fail
        go_roundw
        case rel => exact ⟨k + 1, by omega, by omega, by go_num, HH4.out, HM4.out, HB4.out⟩
        case measure => simp [intOf]; omega
      · have hkk : k = la + 80 := by omega
        subst hkk
        rw [flat_congr (mkRow_end la (fun i => (V i).cells) m.cells Z (la + 80))] at hh
        have HH := Lib.hid hh; clear hh hm
        go_wp2_with fail
        go_ret
        exact ⟨g, rfl, hgw, HH.out, HB.out⟩
set_option maxRecDepth 4000 in
set_option maxHeartbeats 4000000 in
theorem roomy_sd (a : Option Addr) (la ca : Nat) (V : Nat → Sd) (m : Sd) (w : World) (hS : IsRows w a la 22 fun i => (V i).cells) (hla : la ≤ 7) (hnil : a = none → ca = 0) :
    Calls Try.prog 20 #[.slice a la ca, .agg #[.int .i64 m.r, .int .i64 m.st, .int .i64 m.pe, .int .i64 m.pr, .int .i64 m.ve, .int .i64 m.vr, .int .i64 m.x.k, .int .i64 m.x.c, .int .i64 m.x.s, .string m.x.a, .string m.x.b, .string m.x.o, .string m.x.v, .int .i64 m.a.q, .int .i64 (m.a.d 0), .int .i64 (m.a.d 1), .int .i64 (m.a.d 2), .int .i64 (m.a.d 3), .int .i64 (m.a.d 4), .int .i64 (m.a.d 5), .int .i64 (m.a.d 6), .bool m.same]] w fun e w' => ∃ g, e = .returned (.slice (some ⟨g, 0, none⟩) (la + 80) (la + 80)) ∧ w.heap.size ≤ g ∧ Holds w' g 36 (flat 22 (la + 80) fun i => if i < la then (V i).cells else m.cells) ∧ Below w.heap.size w w' := by
  have HV := Lib.hid hS; clear hS
  have HN := Lib.hid hnil; clear hnil
  go_enter Try.func20, Try.ntmps20
  go_upto_region 1 with (fail)
  have hm0 : Holds (w.alloc (.cells #[.int .i64 m.r, .int .i64 m.st, .int .i64 m.pe, .int .i64 m.pr, .int .i64 m.ve, .int .i64 m.vr, .int .i64 m.x.k, .int .i64 m.x.c, .int .i64 m.x.s, .string m.x.a, .string m.x.b, .string m.x.o, .string m.x.v, .int .i64 m.a.q, .int .i64 (m.a.d 0), .int .i64 (m.a.d 1), .int .i64 (m.a.d 2), .int .i64 (m.a.d 3), .int .i64 (m.a.d 4), .int .i64 (m.a.d 5), .int .i64 (m.a.d 6), .bool m.same] 36)) w.heap.size 36 m.cells := holds_alloc w _ m.cells
  have hb0 : Below w.heap.size w (w.alloc (.cells #[.int .i64 m.r, .int .i64 m.st, .int .i64 m.pe, .int .i64 m.pr, .int .i64 m.ve, .int .i64 m.vr, .int .i64 m.x.k, .int .i64 m.x.c, .int .i64 m.x.s, .string m.x.a, .string m.x.b, .string m.x.o, .string m.x.v, .int .i64 m.a.q, .int .i64 (m.a.d 0), .int .i64 (m.a.d 1), .int .i64 (m.a.d 2), .int .i64 (m.a.d 3), .int .i64 (m.a.d 4), .int .i64 (m.a.d 5), .int .i64 (m.a.d 6), .bool m.same] 36)) := by go_grown
  have hs0 : (w.alloc (.cells #[.int .i64 m.r, .int .i64 m.st, .int .i64 m.pe, .int .i64 m.pr, .int .i64 m.ve, .int .i64 m.vr, .int .i64 m.x.k, .int .i64 m.x.c, .int .i64 m.x.s, .string m.x.a, .string m.x.b, .string m.x.o, .string m.x.v, .int .i64 m.a.q, .int .i64 (m.a.d 0), .int .i64 (m.a.d 1), .int .i64 (m.a.d 2), .int .i64 (m.a.d 3), .int .i64 (m.a.d 4), .int .i64 (m.a.d 5), .int .i64 (m.a.d 6), .bool m.same] 36)).heap.size = w.heap.size + 1 := by simp
  go_name_world W0 hW0
  rw [hW0] at hm0 hb0 hs0
  clear hW0
  go_upto_region 2 with (first | (at_make; refine wpList_make_rows W0 rfl (.tmp 9) (.tmp 9) 46 rfl 36 (.agg #[.int .i64 0, .int .i64 0, .int .i64 0, .int .i64 0, .int .i64 0, .int .i64 0, .int .i64 0, .int .i64 0, .int .i64 0, .string ⟨#[]⟩, .string ⟨#[]⟩, .string ⟨#[]⟩, .string ⟨#[]⟩, .int .i64 0, .int .i64 0, .int .i64 0, .int .i64 0, .int .i64 0, .int .i64 0, .int .i64 0, .int .i64 0, .bool false]) 22 208 rfl (by kernel_rfl) [.int .i64 0, .int .i64 0, .int .i64 0, .int .i64 0, .int .i64 0, .int .i64 0, .int .i64 0, .int .i64 0, .int .i64 0, .string ⟨#[]⟩, .string ⟨#[]⟩, .string ⟨#[]⟩, .string ⟨#[]⟩, .int .i64 0, .int .i64 0, .int .i64 0, .int .i64 0, .int .i64 0, .int .i64 0, .int .i64 0, .int .i64 0, .bool false] rfl rfl (by decide) .i64 .i64 _ _ (la + 80) rfl rfl (by push_cast; rfl) (by push_cast; rfl) (by omega) (by unfold maxLen; omega) ?_; intro w1 hh1 hb1 hs1))
  have hm1 := hm0.below hb1 hm0.lt
  have hb1 := below_next hb0 hb1
  rw [hs0] at hh1
  clear hm0 hb0 hs1 hs0
  generalize hg : w.heap.size + 1 = g at hh1 ⊢
  have hgm : ¬ g = w.heap.size := by omega
  have hgw : w.heap.size ≤ g := by omega
  have hgl : w.heap.size < g := by omega
  clear hg
  have HZ0 := Lib.hid (show ([.int .i64 0, .int .i64 0, .int .i64 0, .int .i64 0, .int .i64 0, .int .i64 0, .int .i64 0, .int .i64 0, .int .i64 0, .string ⟨#[]⟩, .string ⟨#[]⟩, .string ⟨#[]⟩, .string ⟨#[]⟩, .int .i64 0, .int .i64 0, .int .i64 0, .int .i64 0, .int .i64 0, .int .i64 0, .int .i64 0, .int .i64 0, .bool false] : List Value).length = 22 from rfl)
  generalize hZ : ([.int .i64 0, .int .i64 0, .int .i64 0, .int .i64 0, .int .i64 0, .int .i64 0, .int .i64 0, .int .i64 0, .int .i64 0, .string ⟨#[]⟩, .string ⟨#[]⟩, .string ⟨#[]⟩, .string ⟨#[]⟩, .int .i64 0, .int .i64 0, .int .i64 0, .int .i64 0, .int .i64 0, .int .i64 0, .int .i64 0, .int .i64 0, .bool false] : List Value) = Z at hh1 HZ0
  clear hZ
  have HM := Lib.hid hm1; clear hm1
  have H1V : ∀ u ∈ flat 22 la (fun i => (V i).cells), u.oneCell' = true := flat_one 22 la _ (fun i hi => rfl) (fun i hi v hv => by have := Sd.cells_one (V i); rw [List.all_toArray] at this; exact List.all_eq_true.1 this v hv)
  have HM1 : ∀ u ∈ m.cells, u.oneCell' = true := fun v hv => by have := Sd.cells_one m; rw [List.all_toArray] at this; exact List.all_eq_true.1 this v hv
  have H1V := Lib.hid H1V; have HM1 := Lib.hid HM1
  cases a with
  | none =>
    have hla0 : la = 0 := by
      by_cases h : 0 < la
      · obtain ⟨_, _, h2, _⟩ := HV.out.spot h; cases h2
      · omega
    subst hla0
    have hca0 := HN.out rfl
    subst hca0
    go_wp2_with (first | (refine wpList_copy_nil rfl (.tmp 11) (.tmp 12) 46 46 rfl 36 rfl (by kernel_rfl) ⟨g, 0, none⟩ _ _ rfl rfl ?_))
    have hst : Holds w1 g 36 (flat 22 (0 + 80) (mkRow 0 (fun i => (V i).cells) m.cells Z 0)) := by
      rw [← mkRow_start 0 (fun i => (V i).cells) m.cells Z, flat_congr (V' := fun _ => Z) (fun i hi => if_neg (by omega))]
      exact hh1
    have HB := Lib.hid hb1; have HST := Lib.hid hst
    clear hb1 hst hh1 HN
    have hla : 0 ≤ 7 := by omega
    go_loopw [6] (fun i wr => ∃ k : Nat, 0 ≤ k ∧ k ≤ 0 + 80 ∧ i = .int .i64 k ∧ Holds wr g 36 (flat 22 (0 + 80) (mkRow 0 (fun i => (V i).cells) m.cells Z k)) ∧ Holds wr w.heap.size 36 m.cells ∧ Below w.heap.size w wr) (fun i _ => 0 + 80 - (intOf i).toNat)
    case atStart => exact ⟨0, by omega, by omega, rfl, HST.out, HM.out, HB.out⟩
    case round =>
      clear HST HM HB
      obtain ⟨k, hk0, hk1, rfl, hh, hm, hb⟩ := hrel
      have HB := Lib.hid hb; clear hb
      by_cases h1 : k < 0 + 80
      · have hfit : k * 22 + m.cells.length ≤ (flat 22 (0 + 80) (mkRow 0 (fun i => (V i).cells) m.cells Z k)).length := by rw [flat_len, show m.cells.length = 22 from rfl]; omega
        have hrm : wr.rangeAt w.heap.size 0 m.cells := fun j v hv => by rw [Nat.zero_add, hm.cell]; exact hv
        have HRM := Lib.hid hrm; have HFIT := Lib.hid hfit; have HH := Lib.hid hh; have HM := Lib.hid hm
        clear hrm hfit hh hm
        go_wp2_with (first
          | (refine wpList_load_mid rfl 36 _ rfl w.heap.size 0 rfl _ _ HRM.out Try.underlying36 rfl (by kernel_rfl) ?_)
          | (refine wpList_store_splice rfl 36 _ _ rfl rfl g (k * 22) _ 36 HH.out rfl m.cells rfl (by kernel_rfl) HFIT.out HM1.out ?_; intro w4 hh4 hb4 hs4 ho4))
        rw [flat_put (s := 22) (by omega) (fun i hi => mkRow_len (s := 22) (V := fun i => (V i).cells) (M := m.cells) (fun i hi => rfl) rfl HZ0.out i) rfl h1, mkRow_next 0 _ _ _ k hk0] at hh4
        have HH4 := Lib.hid hh4; have HM4 := Lib.hid (HM.out.below hb4 hgl); have HB4 := Lib.hid (HB.out.trans (hb4.mono hgw))
        clear hh4 hb4 hs4 ho4 HRM HFIT HH HM HB
        go_wp2_with fail
        go_roundw
        case rel => exact ⟨k + 1, by omega, by omega, by go_num, HH4.out, HM4.out, HB4.out⟩
        case measure => simp [intOf]; omega
      · have hkk : k = 0 + 80 := by omega
        subst hkk
        rw [flat_congr (mkRow_end 0 (fun i => (V i).cells) m.cells Z (0 + 80))] at hh
        have HH := Lib.hid hh; clear hh hm
        go_wp2_with fail
        go_ret
        exact ⟨g, rfl, hgw, HH.out, HB.out⟩
  | some ad =>
    have hsrc : ∀ (j : Nat) v, (flat 22 la fun i => (V i).cells)[j]? = some v → w1.cell? (ad.add j) = some v := fun j v hv => by
      have hr := HV.out.reads hb1 (by omega)
      obtain ⟨b, off, hb, _, hc⟩ := hr (by have := (List.getElem?_eq_some_iff.1 hv).1; omega)
      simp only [Option.some.injEq] at hb
      subst hb
      rw [add_at]; exact hc j v hv
    have HSRC := Lib.hid hsrc; clear hsrc
    go_wp2_with (first | (refine wpList_copy_rows rfl (.tmp 11) (.tmp 12) 46 46 rfl 36 rfl 22 (by kernel_rfl) g (la + 80) (la + 80) ad la ca rfl rfl (flat 22 (la + 80) fun _ => Z) 36 hh1 (flat 22 la fun i => (V i).cells) (by rw [flat_len, show Nat.min la (la + 80) = la from Nat.min_eq_left (by omega)]) HSRC.out (by rw [flat_len, flat_len]; omega) H1V.out ?_; intro w2 hh2 hb2 hs2))
    have hst : Holds w2 g 36 (flat 22 (la + 80) (mkRow la (fun i => (V i).cells) m.cells Z la)) := by
      rw [flat_pre (s := 22) (V := fun i => (V i).cells) (Z := fun _ => Z) (by omega) (fun i hi => rfl) (fun i hi => HZ0.out) (by omega), mkRow_start la (fun i => (V i).cells) m.cells Z] at hh2
      exact hh2
    have hm2 := HM.out
    have HM := Lib.hid (hm2.below hb2 hgl)
    have HB := Lib.hid (hb1.trans (hb2.mono hgw)); have HST := Lib.hid hst
    clear hb1 hst hh1 HN hh2 hb2 hs2 hm2
    go_loopw [6] (fun i wr => ∃ k : Nat, la ≤ k ∧ k ≤ la + 80 ∧ i = .int .i64 k ∧ Holds wr g 36 (flat 22 (la + 80) (mkRow la (fun i => (V i).cells) m.cells Z k)) ∧ Holds wr w.heap.size 36 m.cells ∧ Below w.heap.size w wr) (fun i _ => la + 80 - (intOf i).toNat)
    case atStart => exact ⟨la, by omega, by omega, rfl, HST.out, HM.out, HB.out⟩
    case round =>
      clear HST HM HB
      obtain ⟨k, hk0, hk1, rfl, hh, hm, hb⟩ := hrel
      have HB := Lib.hid hb; clear hb
      by_cases h1 : k < la + 80
      · have hfit : k * 22 + m.cells.length ≤ (flat 22 (la + 80) (mkRow la (fun i => (V i).cells) m.cells Z k)).length := by rw [flat_len, show m.cells.length = 22 from rfl]; omega
        have hrm : wr.rangeAt w.heap.size 0 m.cells := fun j v hv => by rw [Nat.zero_add, hm.cell]; exact hv
        have HRM := Lib.hid hrm; have HFIT := Lib.hid hfit; have HH := Lib.hid hh; have HM := Lib.hid hm
        clear hrm hfit hh hm
        go_wp2_with (first
          | (refine wpList_load_mid rfl 36 _ rfl w.heap.size 0 rfl _ _ HRM.out Try.underlying36 rfl (by kernel_rfl) ?_)
          | (refine wpList_store_splice rfl 36 _ _ rfl rfl g (k * 22) _ 36 HH.out rfl m.cells rfl (by kernel_rfl) HFIT.out HM1.out ?_; intro w4 hh4 hb4 hs4 ho4))
        rw [flat_put (s := 22) (by omega) (fun i hi => mkRow_len (s := 22) (V := fun i => (V i).cells) (M := m.cells) (fun i hi => rfl) rfl HZ0.out i) rfl h1, mkRow_next la _ _ _ k hk0] at hh4
        have HH4 := Lib.hid hh4; have HM4 := Lib.hid (HM.out.below hb4 hgl); have HB4 := Lib.hid (HB.out.trans (hb4.mono hgw))
        clear hh4 hb4 hs4 ho4 HRM HFIT HH HM HB
        go_wp2_with fail
        go_roundw
        case rel => exact ⟨k + 1, by omega, by omega, by go_num, HH4.out, HM4.out, HB4.out⟩
        case measure => simp [intOf]; omega
      · have hkk : k = la + 80 := by omega
        subst hkk
        rw [flat_congr (mkRow_end la (fun i => (V i).cells) m.cells Z (la + 80))] at hh
        have HH := Lib.hid hh; clear hh hm
        go_wp2_with fail
        go_ret
        exact ⟨g, rfl, hgw, HH.out, HB.out⟩
end Go.Proofs.Ytmpefdepcbfcdaa
