/-
  The walk of QuorumSlow.
-/
import Derived.Test.YtmpefdepcbfcdaaQuSlowP
import Derived.Test.YtmpefdepcbfcdaaQuOwnW
import Derived.Test.YtmpefdepcbfcdaaQuRowsW
namespace Go.Proofs.Ytmpefdepcbfcdaa
open Go.RowKit
set_option linter.unusedVariables false
set_option linter.unusedSimpArgs false

/-- An operation that lays a block and reads nothing: what it lays said by the caller. -/
theorem wpList_lays {P : Program} {ops : Array Oper} {rest : List Oper} {o : Oper} {a : Act} {w : World} {Q : Exit → Act → World → Prop} (hg : o.guard = none) (t : TypeId) (ho : o.op = .alloc t) (v : Value) (ob : Obj)
    (hrun : (execOp a.eval o).run P w = .ok (.value v) (w.alloc ob)) (h : wpList P ops Q rest (a.put o.dst v) (w.alloc ob)) : wpList P ops Q (o :: rest) a w :=
  wpList_plain hg fun K hK => by
    unfold Oper.wp
    rw [hrun, Oper.upon_value]
    exact hK _ _ h
def flatC (n : Nat) (C : Nat → Sd) : List Value := flat 21 n fun i => celL (C i)
theorem flat_congr' {s n : Nat} {V V' : Nat → List Value} (h : ∀ i, i < n → V i = V' i) : flat s n V = flat s n V' := by
  by_cases hs : s = 0
  · subst hs; simp [flat]
  · unfold flat
    apply List.map_congr_left
    intro t ht
    rw [List.mem_range] at ht
    rw [h _ (Nat.div_lt_of_lt_mul (by rwa [Nat.mul_comm] at ht))]
theorem celL_len (s : Sd) : (celL s).length = 21 := rfl
/-- What was handed in lies in boxes, below a border. -/
structure Sl (w W : World) (B g8 g9 g10 g11 g12 : Nat) (who : Nat → Bool) (c : Cm) (a : At) (be br : Int) (C : Nat → Sd) : Prop where
  bel : Below w.heap.size w W
  h8 : Holds W g8 58 (boolL who)
  h9 : Holds W g9 32 c.cells
  h10 : Holds W g10 26 a.cells
  h11 : Holds W g11 30 [.int .i64 be, .int .i64 br]
  h12 : Holds W g12 56 (flatC 7 C)
  ge : w.heap.size ≤ B
  l8 : g8 < B
  l9 : g9 < B
  l10 : g10 < B
  l11 : g11 < B
  l12 : g12 < B
  le : B ≤ W.heap.size
theorem Sl.next {w W W' : World} {B g8 g9 g10 g11 g12 : Nat} {who : Nat → Bool} {c : Cm} {a : At} {be br : Int} {C : Nat → Sd} (o : Sl w W B g8 g9 g10 g11 g12 who c a be br C) (hb : Below B W W') : Sl w W' B g8 g9 g10 g11 g12 who c a be br C :=
  ⟨o.bel.trans (hb.mono o.ge), o.h8.below hb o.l8, o.h9.below hb o.l9, o.h10.below hb o.l10, o.h11.below hb o.l11, o.h12.below hb o.l12, o.ge, o.l8, o.l9, o.l10, o.l11, o.l12, Nat.le_trans o.le hb.size⟩
theorem Sl.below {w W W' : World} {B g8 g9 g10 g11 g12 : Nat} {who : Nat → Bool} {c : Cm} {a : At} {be br : Int} {C : Nat → Sd} (o : Sl w W B g8 g9 g10 g11 g12 who c a be br C) (hb : Below W.heap.size W W') : Sl w W' B g8 g9 g10 g11 g12 who c a be br C := o.next (hb.mono o.le)
theorem cells_range {w : World} {g n : Nat} {e : TypeId} {V : Nat → List Value} (h : Holds w g e (flat 21 n V)) (hl : ∀ i, i < n → (V i).length = 21) {j : Nat} (hj : j < n) : w.rangeAt g (j * 21) (V j) := fun k v hk => by
  have hk2 : k < 21 := by have := (List.getElem?_eq_some_iff.1 hk).1; rw [hl j hj] at this; exact this
  rw [h.cell, flat_at 21 n V j k hj hk2 (hl j hj)]; exact hk
theorem holds_range {w : World} {g : Nat} {e : TypeId} {L : List Value} (h : Holds w g e L) : w.rangeAt g 0 L := fun k v hk => by rw [Nat.zero_add, h.cell]; exact hk
theorem slow_set {w W : World} {B g8 g9 g10 g11 g12 gx gc : Nat} {who : Nat → Bool} {c : Cm} {a : At} {be br : Int} {C : Nat → Sd} {M : List Value} {F : List Value} (hx : Holds W gx 34 M) (hg : Holds W gc 56 F) (ho : Sl w W B g8 g9 g10 g11 g12 who c a be br C) (hgl : gc < gx) (hgx : B ≤ gx) (L : Sd) :
    Holds (W.setRow gx (celL L).toArray) gx 34 (celL L) ∧ Holds (W.setRow gx (celL L).toArray) gc 56 F ∧ Sl w (W.setRow gx (celL L).toArray) B g8 g9 g10 g11 g12 who c a be br C := by
  have hb := below_setRow (Below.refl gx W) (Nat.le_refl _) (celL L).toArray
  exact ⟨setRow_heap _ _ _ _ _ _ hx, hg.below hb hgl, ho.next (hb.mono hgx)⟩
set_option maxRecDepth 8000 in
set_option maxHeartbeats 20000000 in
theorem quorumSlow_any (n : Int) (who : Nat → Bool) (c : Cm) (a : At) (be br : Int) (C : Nat → Sd) (fr : Int) (w : World) (hn : (Lit.int .i64 n).wf = true) (hfr : (Lit.int .i64 fr).wf = true) :
    Calls Try.prog 7 #[.int .i64 n, .agg #[.bool (who 0), .bool (who 1), .bool (who 2), .bool (who 3), .bool (who 4), .bool (who 5), .bool (who 6)], .agg #[.int .i64 c.k, .int .i64 c.c, .int .i64 c.s, .string c.a, .string c.b, .string c.o, .string c.v], .agg #[.int .i64 a.q, .int .i64 (a.d 0), .int .i64 (a.d 1), .int .i64 (a.d 2), .int .i64 (a.d 3), .int .i64 (a.d 4), .int .i64 (a.d 5), .int .i64 (a.d 6)], .agg #[.int .i64 be, .int .i64 br], .agg (flatC 7 C).toArray, .int .i64 fr] w fun e w' => e = .returned (.bool true) ∧ Below w.heap.size w w' := by
  have hK := fitN_in n
  have hf := fun W => fit_any n W hn
  generalize fitN n = K at hK hf
  have HF := Lib.hid hf; clear hf
  have hnf := wf64 hfr
  obtain ⟨Lc, hLc⟩ : ∃ Lc, Lc = flatC 7 C := ⟨_, rfl⟩
  rw [← hLc]
  have HLC := Lib.hid hLc; clear hLc
  go_enter Try.func7, Try.ntmps7
  go_upto_region 1 with (fail)
  have hO : Sl w (((((w.alloc (.cells (boolL who).toArray 58)).alloc (.cells c.cells.toArray 32)).alloc (.cells a.cells.toArray 26)).alloc (.cells #[.int .i64 be, .int .i64 br] 30)).alloc (.cells Lc.toArray 56)) (w.heap.size + 1 + 1 + 1 + 1 + 1) w.heap.size (w.heap.size + 1) (w.heap.size + 1 + 1) (w.heap.size + 1 + 1 + 1) (w.heap.size + 1 + 1 + 1 + 1) who c a be br C := by
    refine ⟨by go_grown, holds_past (holds_past (holds_past (holds_past (holds_alloc w _ _) _) _) _) _, ?_, ?_, ?_, ?_, by omega, by omega, by omega, by omega, by omega, by omega, by simp⟩
    · have := holds_past (holds_past (holds_past (holds_alloc (w.alloc (.cells (boolL who).toArray 58)) 32 c.cells) (.cells a.cells.toArray 26)) (.cells #[.int .i64 be, .int .i64 br] 30)) (.cells Lc.toArray 56)
      rwa [World.size_alloc] at this
    · have := holds_past (holds_past (holds_alloc ((w.alloc (.cells (boolL who).toArray 58)).alloc (.cells c.cells.toArray 32)) 26 a.cells) (.cells #[.int .i64 be, .int .i64 br] 30)) (.cells Lc.toArray 56)
      rwa [World.size_alloc, World.size_alloc] at this
    · have := holds_past (holds_alloc (((w.alloc (.cells (boolL who).toArray 58)).alloc (.cells c.cells.toArray 32)).alloc (.cells a.cells.toArray 26)) 30 [.int .i64 be, .int .i64 br]) (.cells Lc.toArray 56)
      rwa [World.size_alloc, World.size_alloc, World.size_alloc] at this
    · have := holds_alloc ((((w.alloc (.cells (boolL who).toArray 58)).alloc (.cells c.cells.toArray 32)).alloc (.cells a.cells.toArray 26)).alloc (.cells #[.int .i64 be, .int .i64 br] 30)) 56 Lc
      rw [World.size_alloc, World.size_alloc, World.size_alloc, World.size_alloc] at this
      rwa [HLC.out] at this ⊢
  simp only [boolL, Cm.cells, At.cells] at hO
  go_name_world W0 hW0
  rw [hW0] at hO
  clear hW0
  have HO := Lib.hid hO; clear hO
  generalize w.heap.size + 1 + 1 + 1 + 1 + 1 = B at HO
  generalize w.heap.size + 1 + 1 + 1 + 1 = g12 at HO ⊢
  generalize w.heap.size + 1 + 1 + 1 = g11 at HO ⊢
  generalize w.heap.size + 1 + 1 = g10 at HO ⊢
  generalize w.heap.size + 1 = g9 at HO ⊢
  generalize hg8 : w.heap.size = g8
  rw [hg8] at HO
  go_wp2_with fail
  refine (HF.out _).mono ?_
  rintro e w1 ⟨rfl, hb⟩
  have HO := Lib.hid (HO.out.below hb)
  clear hb HF
  go_upto_region 3 with (refine wpList_lays rfl 56 rfl (.pointer (some ⟨w1.heap.size, 0, none⟩)) (.cells (flatC 7 fun _ => zeroSd 0).toArray 56) (by kernel_rfl) ?_)
  have hgc : Holds (w1.alloc (.cells (flatC 7 fun _ => zeroSd 0).toArray 56)) w1.heap.size 56 (flatC 7 fun _ => zeroSd 0) := holds_alloc w1 _ _
  have hO2 := HO.out.below (show Below w1.heap.size w1 (w1.alloc (.cells (flatC 7 fun _ => zeroSd 0).toArray 56)) by go_grown)
  have hgB := HO.out.le
  generalize w1.heap.size = gc at hgc hgB ⊢
  go_name_world W2 hW2
  rw [hW2] at hgc hO2
  clear hW2
  have HO := Lib.hid hO2; have HG := Lib.hid hgc; clear hO2 hgc
  have hK7 : 3 ≤ K ∧ K ≤ 7 := by omega
  obtain ⟨D, hD⟩ : ∃ D : Nat → Sd, D = slowD who be br c a C := ⟨_, rfl⟩
  have HD := Lib.hid hD; clear hD
  go_wp2_with fail
  go_loopw [17, 18] (fun m i wr => ∃ j : Nat, j ≤ K ∧ i = .int .i64 j ∧ m = .int .i64 (cntTo who j : Nat) ∧ Holds wr gc 56 (flat 21 7 fun i => if i < j then celL (D i) else celL (zeroSd 0)) ∧ Sl w wr B g8 g9 g10 g11 g12 who c a be br C) (fun _ i _ => K - (intOf i).toNat)
  case atStart => exact ⟨0, by omega, rfl, rfl, HG.out, HO.out⟩
  case round =>
    clear HO HG
    obtain ⟨j, hj, rfl, rfl, hg, hw⟩ := hrel
    have HO := Lib.hid hw; have HG := Lib.hid hg; clear hw hg
    have hcl := cntTo_le who j
    by_cases h1 : j < K
    · have h17 : j < 7 := by omega
      have HR12 := Lib.hid (cells_range HO.out.h12 (fun _ _ => rfl) h17)
      go_upto_region 8 with (first
        | (refine wpList_load_mid rfl 34 _ rfl g12 (j * 21) rfl _ _ HR12.out Try.underlying34 rfl (by kernel_rfl) ?_)
        | (refine wpList_store_new rfl 34 _ _ rfl rfl _ _ (celL (C j)).toArray rfl rfl (by kernel_rfl) (by kernel_rfl) (celL_all _) ?_))
      have hx : Holds (wr.alloc (.cells (celL (C j)).toArray 34)) wr.heap.size 34 (celL (C j)) := holds_alloc wr _ _
      have hb3 : Below wr.heap.size wr (wr.alloc (.cells (celL (C j)).toArray 34)) := by go_grown
      have hgl := HG.out.lt
      have hO3 := HO.out.below hb3
      have hg3 := HG.out.below hb3 hgl
      generalize wr.heap.size = gx at hx hb3 hgl ⊢
      go_name_world W3 hW3
      rw [hW3] at hx hb3 hO3 hg3
      clear hW3 hb3 HR12
      have HX := Lib.hid hx; have HO := Lib.hid hO3; have HG := Lib.hid hg3; clear hx hO3 hg3
      have hgx : B ≤ gx := by omega
      have e8 := HO.out.h8.cell j
      rw [boolL_get who j h17] at e8
      have hDj : D j = slowD who be br c a C j := by rw [HD.out]
      have HCN := Lib.hid (show cntTo who (j + 1) = cntTo who j + if who j = true then 1 else 0 from rfl)
      unfold slowD at hDj
      generalize cntTo who j = cn at hcl HCN ⊢
      generalize hwj : who j = q at e8 hDj HCN
      have HWJ := Lib.hid hwj; clear hwj
      go_upto_if 38 with (fail)
      go_cut [17] from 39 to 59 (fun mm wx => mm = .int .i64 (cntTo who (j + 1) : Nat) ∧ Holds wx gx 34 (celL (D j)) ∧ Holds wx gc 56 (flat 21 7 fun i => if i < j then celL (D i) else celL (zeroSd 0)) ∧ Sl w wx B g8 g9 g10 g11 g12 who c a be br C)
      case first =>
        cases q
        · rw [if_neg (by simp)] at hDj
          have x0 := HX.out.cell 0
          have x3 := HX.out.cell 3
          have x4 := HX.out.cell 4
          have v0 := HO.out.h11.cell 0
          have v1 := HO.out.h11.cell 1
          simp only [celL, List.getElem?_cons_zero, List.getElem?_cons_succ] at x0 x3 x4 v0 v1
          have HZD := Lib.hid (show celL (zeroSd (j : Int)) = celL (zeroSd 0) from rfl)
          have hbl := fun W => below_any (C j).ve (C j).vr be br W
          obtain ⟨X, hX⟩ : ∃ X, X = C j := ⟨_, rfl⟩
          rw [← hX] at hDj hbl x0 x3 x4
          have HXC := Lib.hid hX; clear hX
          by_cases hs : X.st = 3
          · rw [if_pos (.inl hs)] at hDj
            have HDJ := Lib.hid hDj; clear hDj
            have e3 : (X.st == 3) = true := by simp [hs]
            clear hbl hs
            generalize X.st = s0 at x0 e3
            go_wp2_with (refine wpList_store_row rfl 34 _ _ rfl rfl gx _ (celL (zeroSd j)).toArray 34 HX.out rfl rfl (by kernel_rfl) (by kernel_rfl) (celL_all _) ?_)
            go_meet
            obtain ⟨r1, r2, r3⟩ := slow_set HX.out HG.out HO.out hgl hgx (zeroSd j)
            exact ⟨by rw [HCN.out]; simp, by rw [HDJ.out]; exact r1, r2, r3⟩
          · have e3 : (X.st == 3) = false := by simp [hs]
            have HS3 := Lib.hid hs; clear hs
            have HBL := Lib.hid hbl; clear hbl
            have HDJ := Lib.hid hDj; clear hDj
            generalize hq2 : below X.ve X.vr be br = q2 at HBL HDJ
            have HQ2 := Lib.hid hq2; clear hq2
            go_wp2_with fail
            refine (HBL.out _).mono ?_
            rintro e w5 ⟨rfl, hb⟩
            have HX := Lib.hid (HX.out.below hb HX.out.lt)
            have HG := Lib.hid (HG.out.below hb HG.out.lt)
            have HO := Lib.hid (HO.out.below hb)
            clear hb HBL x0 x3 x4 v0 v1 e8
            cases q2
            · have hdj := HDJ.out
              rw [if_pos (.inr rfl)] at hdj
              have HDK := Lib.hid hdj; clear hdj
              go_wp2_with (refine wpList_store_row rfl 34 _ _ rfl rfl gx _ (celL (zeroSd j)).toArray 34 HX.out rfl rfl (by kernel_rfl) (by kernel_rfl) (celL_all _) ?_)
              go_meet
              obtain ⟨r1, r2, r3⟩ := slow_set HX.out HG.out HO.out hgl hgx (zeroSd j)
              exact ⟨by rw [HCN.out]; simp, by rw [HDK.out]; exact r1, r2, r3⟩
            · have hdj := HDJ.out
              rw [if_neg (by intro h; rcases h with h | h; exact HS3.out h; cases h)] at hdj
              have HDK := Lib.hid hdj; clear hdj
              go_wp2_with fail
              go_meet
              exact ⟨by rw [HCN.out]; simp, by rw [HDK.out, HXC.out]; exact HX.out, HG.out, HO.out⟩
        · rw [if_pos rfl] at hDj
          have HDJ := Lib.hid hDj; clear hDj
          have y0 := HO.out.h9.cell 0
          have y1 := HO.out.h9.cell 1
          have y2 := HO.out.h9.cell 2
          have y3 := HO.out.h9.cell 3
          have y4 := HO.out.h9.cell 4
          have y5 := HO.out.h9.cell 5
          have y6 := HO.out.h9.cell 6
          have z0 := HO.out.h10.cell 0
          have z1 := HO.out.h10.cell 1
          have z2 := HO.out.h10.cell 2
          have z3 := HO.out.h10.cell 3
          have z4 := HO.out.h10.cell 4
          have z5 := HO.out.h10.cell 5
          have z6 := HO.out.h10.cell 6
          have z7 := HO.out.h10.cell 7
          have v0 := HO.out.h11.cell 0
          have v1 := HO.out.h11.cell 1
          simp only [Cm.cells, At.cells, List.getElem?_cons_zero, List.getElem?_cons_succ] at y0 y1 y2 y3 y4 y5 y6 z0 z1 z2 z3 z4 z5 z6 z7 v0 v1
          go_wp2_with (refine wpList_store_row rfl 34 _ _ rfl rfl gx _ (celL (⟨j, 2, be, br, be, br, c, a, false⟩ : Sd)).toArray 34 HX.out rfl rfl (by kernel_rfl) (by kernel_rfl) (celL_all _) ?_)
          go_meet
          obtain ⟨r1, r2, r3⟩ := slow_set HX.out HG.out HO.out hgl hgx ⟨j, 2, be, br, be, br, c, a, false⟩
          exact ⟨by rw [HCN.out]; simp, by rw [HDJ.out]; exact r1, r2, r3⟩
      case rest =>
        obtain ⟨rfl, hx, hg, ho⟩ := hcut
        clear HX HG HO e8 hDj
        have HXR := Lib.hid (holds_range hx)
        have HG := Lib.hid hg; have HO := Lib.hid ho
        clear hx hg ho
        have hfit : j * 21 + (celL (D j)).length ≤ (flat 21 7 fun i => if i < j then celL (D i) else celL (zeroSd 0)).length := by rw [flat_len, celL_len]; omega
        have HFIT := Lib.hid hfit; clear hfit
        go_wp2_with (first
          | (refine wpList_load_mid rfl 34 _ rfl gx 0 rfl _ _ HXR.out Try.underlying34 rfl (by kernel_rfl) ?_)
          | (refine wpList_store_splice rfl 34 _ _ rfl rfl gc (j * 21) _ 56 HG.out rfl (celL (D j)) rfl (by kernel_rfl) HFIT.out (celL_mem _) ?_; intro w5 hh5 hb5 hs5 hk5))
        have hh6 : Holds w5 gc 56 (flat 21 7 fun i => if i < j + 1 then celL (D i) else celL (zeroSd 0)) := by
          rw [flat_put (by omega) (fun i _ => by by_cases h : i < j <;> simp [h, celL_len]) (celL_len _) h17] at hh5
          have e : flat 21 7 (fun i => if i = j then celL (D j) else if i < j then celL (D i) else celL (zeroSd 0)) = flat 21 7 (fun i => if i < j + 1 then celL (D i) else celL (zeroSd 0)) := flat_congr' (fun i _ => by
            by_cases h : i = j
            · subst h; rw [if_pos rfl, if_pos (by omega)]
            · rw [if_neg h]
              by_cases h2 : i < j
              · rw [if_pos h2, if_pos (by omega)]
              · rw [if_neg h2, if_neg (by omega)])
          rwa [e] at hh5
        have HO := Lib.hid (HO.out.next (hb5.mono hgB))
        have HG := Lib.hid hh6
        clear hh5 hh6 hb5 hs5 hk5 HFIT HXR
        go_roundw
        case rel => exact ⟨j + 1, by omega, by go_num, rfl, HG.out, HO.out⟩
        case measure => simp [intOf]; omega
    · have hjK : K = j := by omega
      subst hjK
      clear h1 hj hcl
      have hg7 : Holds wr gc 56 (flat 21 7 fun i => if i < K then celL (D i) else celL (zeroSd 0)) := HG.out
      obtain ⟨m, hm⟩ : ∃ m, m = K / 2 + 1 := ⟨_, rfl⟩
      have hm2 : 2 ≤ m ∧ m ≤ 4 := by omega
      have hmK : m ≤ K := by omega
      have hsl := fun W => slow_any K W (by omega)
      rw [← hm] at hsl
      have HSL := Lib.hid hsl; clear hsl
      have HM := Lib.hid hm; clear hm hK hg7
      generalize hcn : cntTo who K = cn
      have HCN := Lib.hid hcn; clear hcn
      go_wp2_with fail
      refine (HSL.out _).mono ?_
      rintro e w2 ⟨rfl, hb⟩
      have HG := Lib.hid (HG.out.below hb HG.out.lt)
      have HO := Lib.hid (HO.out.below hb)
      clear hb
      by_cases hlt : cn < m
      · go_wp2_with fail
        refine (quorumRuns_any _).mono ?_
        rintro e w9 ⟨rfl, hb⟩
        have HO := Lib.hid (HO.out.below hb)
        clear hb
        go_wp2_with fail
        go_ret
        exact ⟨rfl, HO.out.bel⟩
      · have HLT := Lib.hid hlt
        obtain ⟨o, ho, hoK⟩ : ∃ o : Nat, 0 + fr % ((K : Int) - 1 - 0 + 1) = o ∧ o < K := by
          have h1 := Int.emod_nonneg fr (show ((K : Int) - 1 - 0 + 1) ≠ 0 by omega)
          have h2 := Int.emod_lt_of_pos fr (show (0 : Int) < (K : Int) - 1 - 0 + 1 by omega)
          exact ⟨(0 + fr % ((K : Int) - 1 - 0 + 1)).toNat, by omega, by omega⟩
        have hwo := fun W => within_any fr 0 ((K : Int) - 1) W hnf (by omega) (by omega) (by omega)
        rw [ho] at hwo
        have HWO := Lib.hid hwo; clear hwo ho
        obtain ⟨S, hS⟩ : ∃ S : Nat → Sd, S = fun i => { slowD who be br c a C ((o + i) % K) with r := (((o + i) % K : Nat) : Int) } := ⟨_, rfl⟩
        have HS := Lib.hid hS; clear hS
        go_wp2_with fail
        clear hlt
        go_loopw [20, 21] (fun out i wr => ∃ j : Nat, j ≤ m ∧ i = .int .i64 j ∧ wr.ownsRow (gc + 1) 36 22 out j (flat 22 j fun i => (S i).cells) ∧ Holds wr gc 56 (flat 21 7 fun i => if i < K then celL (D i) else celL (zeroSd 0)) ∧ Sl w wr B g8 g9 g10 g11 g12 who c a be br C) (fun _ i _ => m - (intOf i).toNat)
        case atStart => exact ⟨0, by omega, rfl, World.ownsRow_nil _ _ _ _, HG.out, HO.out⟩
        case round =>
          clear HO HG
          obtain ⟨j, hj, rfl, hown, hg, hw⟩ := hrel
          have HO := Lib.hid hw; have HG := Lib.hid hg; have HW := Lib.hid hown; clear hw hg hown
          go_wp2_with fail
          refine (HSL.out _).mono ?_
          rintro e w3 ⟨rfl, hb⟩
          have HG := Lib.hid (HG.out.below hb HG.out.lt)
          have HO := Lib.hid (HO.out.below hb)
          have HW := Lib.hid (owns_below HW.out hb)
          clear hb
          by_cases h1 : j < m
          · obtain ⟨r, hr⟩ : ∃ r, r = (o + j) % K := ⟨_, rfl⟩
            have hrK : r < K := by rw [hr]; exact Nat.mod_lt _ (by omega)
            have hr7 : r < 7 := by omega
            have hrm : ((o : Int) + (j : Int)).tmod (K : Int) = (r : Int) := by rw [hr, Int.tmod_eq_emod_of_nonneg (by omega)]; simp
            have hsj : (S j).cells = .int .i64 (r : Int) :: celL (D r) := by rw [HS.out, HD.out]; simp only [← hr]; rfl
            have hxr := cells_range HG.out (fun i _ => by by_cases h : i < K <;> simp [h, celL_len]) hr7
            rw [if_pos hrK] at hxr
            have hsn := flat_snoc (s := 22) (m := j) (V := fun i => (S i).cells) (by omega) (fun i _ => rfl)
            have hoc := Sd.cells_one (S j)
            generalize (S j).cells = L at hsj hsn hoc
            generalize D r = X at hsj hxr
            have HOC := Lib.hid hoc; clear hoc hr
            simp only [celL] at hsj hxr
            have HSJ := Lib.hid hsj; have HSN := Lib.hid hsn; have HXR := Lib.hid hxr; clear hsj hsn hxr
            go_wp2_with fail
            refine (HWO.out _).mono ?_
            rintro e w4 ⟨rfl, rfl⟩
            go_wp2_with (first
              | (refine wpList_load_mid rfl 34 _ rfl gc (r * 21) rfl _ _ HXR.out Try.underlying34 rfl (by kernel_rfl) ?_)
              | (at_builtin; go_must (refine wpList_append_cells rfl (.tmp 79) (.tmp 85) 46 rfl (gc + 1) 36 (.agg #[.int .i64 0, .int .i64 0, .int .i64 0, .int .i64 0, .int .i64 0, .int .i64 0, .int .i64 0, .int .i64 0, .int .i64 0, .string ⟨#[]⟩, .string ⟨#[]⟩, .string ⟨#[]⟩, .string ⟨#[]⟩, .int .i64 0, .int .i64 0, .int .i64 0, .int .i64 0, .int .i64 0, .int .i64 0, .int .i64 0, .int .i64 0, .bool false]) 22 208 rfl (by kernel_rfl) rfl (by decide) _ j (flat 22 j fun i => (S i).cells) rfl (owns_below HW.out (by go_grown)) _ 1 1 L rfl (by rw [HSJ.out]; rfl) (by rw [HSJ.out]; exact (holds_alloc w3 36 _).reads 0 _ (fun k v hk => by rw [Nat.zero_add]; exact hk)) (by intro h; cases h) (fun u hu => by have := HOC.out; rw [List.all_toArray] at this; exact List.all_eq_true.1 this u hu) (by unfold maxLen; omega) (by omega) (by have := HG.out.lt; simp; omega) ?_); intro v4 w4 ho4 hb4 _))
            have hbz : Below (gc + 1) w3 w4 := Below.trans (show Below (gc + 1) w3 _ from (Below.refl _ _).alloc (by have := HG.out.lt; omega) _) hb4
            have HO4 := Lib.hid (HO.out.next (hbz.mono (by omega)))
            have HG4 := Lib.hid (HG.out.below hbz (by omega))
            clear hb4 hbz HO HG HW
            go_roundw
            case rel => exact ⟨j + 1, by omega, by go_num, by rw [← HSN.out]; exact ho4, HG4.out, HO4.out⟩
            case measure => simp [intOf]; omega
          · have hjm : m = j := by omega
            subst hjm
            clear h1 hj HSL HWO
            obtain ⟨gl, cl, rfl, hgl, hcl, hml, hrows⟩ := rows_of_owns HW.out (by omega)
            have hpp := prepared_any K 0 (some ⟨gl, 0, none⟩) m cl S w3 (hrows (fun i => (S i).cells) (fun i _ => rfl) (fun i hi k hk => flat_at 22 m _ i k hi hk rfl)) hcl (by omega) (by omega)
            rw [HS.out, slow_law K o m who be br c a C HM.out (by omega) (by have := HLT.out; have := HCN.out; omega) 0] at hpp
            simp only [Cm.cells, At.cells] at hpp
            have HP := Lib.hid hpp; clear hpp hrows HW
            go_wp2_with fail
            refine HP.out.mono ?_
            rintro e w6 ⟨rfl, hb⟩
            have HO := Lib.hid (HO.out.below hb)
            clear hb HP HG
            have y0 := HO.out.h9.cell 0
            have y1 := HO.out.h9.cell 1
            have y2 := HO.out.h9.cell 2
            have y3 := HO.out.h9.cell 3
            have y4 := HO.out.h9.cell 4
            have y5 := HO.out.h9.cell 5
            have y6 := HO.out.h9.cell 6
            have z0 := HO.out.h10.cell 0
            have z1 := HO.out.h10.cell 1
            have z2 := HO.out.h10.cell 2
            have z3 := HO.out.h10.cell 3
            have z4 := HO.out.h10.cell 4
            have z5 := HO.out.h10.cell 5
            have z6 := HO.out.h10.cell 6
            have z7 := HO.out.h10.cell 7
            have l9 := HO.out.h9.lt
            have l10 := HO.out.h10.lt
            simp only [Cm.cells, At.cells, List.getElem?_cons_zero, List.getElem?_cons_succ] at y0 y1 y2 y3 y4 y5 y6 z0 z1 z2 z3 z4 z5 z6 z7
            have heq := eq_att_self a
            have hec := eq_cmd_self c
            go_wp2_with fail
            clear heq hec y0 y1 y2 y3 y4 y5 y6 z0 z1 z2 z3 z4 z5 z6 z7 l9 l10
            have hb7 := fun W (h : Below w6.heap.size w6 W) => HO.out.below h
            have HB7 := Lib.hid hb7; clear hb7
            refine (quorumRuns_any _).mono ?_
            rintro e w9 ⟨rfl, hb⟩
            have HO := Lib.hid ((HB7.out _ (by go_grown)).below hb)
            clear hb
            go_wp2_with fail
            go_ret
            exact ⟨rfl, HO.out.bel⟩
end Go.Proofs.Ytmpefdepcbfcdaa
