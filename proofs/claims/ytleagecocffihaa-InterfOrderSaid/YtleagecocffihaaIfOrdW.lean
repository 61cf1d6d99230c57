/-
  The walk of InterfOrder.
-/
import Derived.Test.YtleagecocffihaaIfOrdP
import Derived.Test.YtleagecocffihaaFlat
import Derived.Test.YtleagecocffihaaBook
namespace Go.Proofs.Ytleagecocffihaa
open Go.RowKit Go.Maps
set_option linter.unusedVariables false
set_option linter.unusedSimpArgs false

/-- Two indices, and what was handed in in boxes; all below a border. -/
structure Io (w W : World) (B gi gc g b g2 b2 : Nat) (r s : Int) (c : Cm) (n1 : Nat) (l1 : List Ent) (n2 : Nat) (l2 : List Ent) : Prop where
  bel : Below w.heap.size w W
  x : IxAt W g b n1 (fun _ => 0) l1
  y : IxAt W g2 b2 n2 (fun _ => 0) l2
  bi : Holds W gi 26 [.int .i64 r, .int .i64 s]
  bc : Holds W gc 29 [.int .i64 c.k, .int .i64 c.c, .int .i64 c.s, .string c.a, .string c.b, .string c.o, .string c.v]
  lo : w.heap.size ≤ gi ∧ gi < gc ∧ gc < b ∧ b < g ∧ g < b2 ∧ b2 < g2 ∧ g2 < B
  le : B ≤ W.heap.size
theorem Io.next {w W W' : World} {B gi gc g b g2 b2 : Nat} {r s : Int} {c : Cm} {n1 : Nat} {l1 : List Ent} {n2 : Nat} {l2 : List Ent} (h : Io w W B gi gc g b g2 b2 r s c n1 l1 n2 l2) (hb : Below B W W') : Io w W' B gi gc g b g2 b2 r s c n1 l1 n2 l2 := by
  obtain ⟨h1, h2, h3, h4, h5, h6, h7⟩ := h.lo
  exact ⟨h.bel.trans (hb.mono (by omega)), h.x.keep (hb.block g (by omega)) (hb.block b (by omega)), h.y.keep (hb.block g2 (by omega)) (hb.block b2 (by omega)), h.bi.below hb (by omega), h.bc.below hb (by omega), h.lo, Nat.le_trans h.le hb.size⟩
theorem Io.below {w W W' : World} {B gi gc g b g2 b2 : Nat} {r s : Int} {c : Cm} {n1 : Nat} {l1 : List Ent} {n2 : Nat} {l2 : List Ent} (h : Io w W B gi gc g b g2 b2 r s c n1 l1 n2 l2) (hb : Below W.heap.size W W') : Io w W' B gi gc g b g2 b2 r s c n1 l1 n2 l2 := h.next (hb.mono h.le)
theorem Io.noteX {w W : World} {B gi gc g b g2 b2 : Nat} {r s : Int} {c : Cm} {n1 : Nat} {l1 : List Ent} {n2 : Nat} {l2 : List Ent} (h : Io w W B gi gc g b g2 b2 r s c n1 l1 n2 l2) (hn : n1 ≤ 1000) (a : Ask) :
    Calls Try.prog 9 #[.pointer (some ⟨g, 0, none⟩), .agg #[.int .i64 a.r, .int .i64 a.s], .agg #[.int .i64 a.c.k, .int .i64 a.c.c, .int .i64 a.c.s, .string a.c.a, .string a.c.b, .string a.c.o, .string a.c.v], .int .i64 a.q] W fun e w' =>
      ∃ z, e = .returned (.bool z) ∧ Io w w' B gi gc g b g2 b2 r s c (n1 + 1) (if a.takenB then putE l1 a.ent else l1) n2 l2 ∧ Touch b W w' := by
  obtain ⟨h1, h2, h3, h4, h5, h6, h7⟩ := h.lo
  refine (note_any g b n1 (fun _ => 0) l1 a.r a.s a.c a.q W h.x hn).mono ?_
  rintro e w' ⟨rfl, hx, ht⟩
  exact ⟨_, rfl, ⟨h.bel.trans (ht.below (by omega) h.bel.size), hx, h.y.touch ht (by omega) (by omega), h.bi.touch ht (by omega), h.bc.touch ht (by omega), h.lo, Nat.le_trans h.le ht.size⟩, ht⟩
theorem Io.noteY {w W : World} {B gi gc g b g2 b2 : Nat} {r s : Int} {c : Cm} {n1 : Nat} {l1 : List Ent} {n2 : Nat} {l2 : List Ent} (h : Io w W B gi gc g b g2 b2 r s c n1 l1 n2 l2) (hn : n2 ≤ 1000) (a : Ask) :
    Calls Try.prog 9 #[.pointer (some ⟨g2, 0, none⟩), .agg #[.int .i64 a.r, .int .i64 a.s], .agg #[.int .i64 a.c.k, .int .i64 a.c.c, .int .i64 a.c.s, .string a.c.a, .string a.c.b, .string a.c.o, .string a.c.v], .int .i64 a.q] W fun e w' =>
      ∃ z, e = .returned (.bool z) ∧ Io w w' B gi gc g b g2 b2 r s c n1 l1 (n2 + 1) (if a.takenB then putE l2 a.ent else l2) ∧ Touch b2 W w' := by
  obtain ⟨h1, h2, h3, h4, h5, h6, h7⟩ := h.lo
  refine (note_any g2 b2 n2 (fun _ => 0) l2 a.r a.s a.c a.q W h.y hn).mono ?_
  rintro e w' ⟨rfl, hx, ht⟩
  exact ⟨_, rfl, ⟨h.bel.trans (ht.below (by omega) h.bel.size), h.x.touch ht (by omega) (by omega), hx, h.bi.touch ht (by omega), h.bc.touch ht (by omega), h.lo, Nat.le_trans h.le ht.size⟩, ht⟩
set_option maxRecDepth 4000 in
set_option maxHeartbeats 20000000 in
theorem interfOrder_any (a : Option Addr) (len cap : Nat) (R : Nat → Ask) (turn r s : Int) (c : Cm) (w : World) (hV : IsRows w a len 18 fun i => (R i).cells) (hOk : ∀ i, (R i).Ok) (hlc : len ≤ cap) (hcm : cap ≤ maxLen) (hc : c.fits) (htn : (Lit.int .i64 turn).wf = true) :
    Calls Try.prog 4 #[.slice a len cap, .int .i64 turn, .agg #[.int .i64 r, .int .i64 s], .agg #[.int .i64 c.k, .int .i64 c.c, .int .i64 c.s, .string c.a, .string c.b, .string c.o, .string c.v]] w fun e w' => e = .returned (.bool true) ∧ Below w.heap.size w w' := by
  have HV := Lib.hid hV; clear hV
  have HOK := Lib.hid hOk; clear hOk
  have KL := Lib.hid (fun W => light_any c W hc)
  have KR := Lib.hid (fun W => interfRuns_any W)
  have hca : lightB c = true → c.a.size ≤ 1000000 := fun h => by unfold lightB at h; simp at h; omega
  have HCA := Lib.hid hca; clear hca
  have HT := Lib.hid (wf_in htn); clear htn
  unfold maxLen at hcm
  generalize hlb : lightB c = B0 at KL HCA
  go_enter Try.func4, Try.ntmps4
  go_wp2_with fail
  refine (new_any _).mono ?_
  rintro e w1 ⟨rfl, hx, hb⟩
  have hbi : Holds w1 w.heap.size 26 [.int .i64 r, .int .i64 s] := (holds_past (holds_alloc w 26 [.int .i64 r, .int .i64 s]) _).below hb (by simp <;> omega)
  have hbc : Holds w1 (w.heap.size + 1) 29 [.int .i64 c.k, .int .i64 c.c, .int .i64 c.s, .string c.a, .string c.b, .string c.o, .string c.v] := by
    have := holds_alloc (w.alloc (.cells #[.int .i64 r, .int .i64 s] 26)) 29 [.int .i64 c.k, .int .i64 c.c, .int .i64 c.s, .string c.a, .string c.b, .string c.o, .string c.v]
    rw [World.size_alloc] at this
    exact this.below hb (by simp <;> omega)
  have hB : Below w.heap.size w w1 := below_next (((Below.refl _ _).alloc (Nat.le_refl _) _).alloc (by simp) _) hb
  rw [World.size_alloc, World.size_alloc] at hx ⊢
  have HX := Lib.hid hx; have HBI := Lib.hid hbi; have HBC := Lib.hid hbc; have HB := Lib.hid hB
  clear hx hbi hbc hB hb
  go_wp2_with fail
  refine (new_any _).mono ?_
  rintro e w2 ⟨rfl, hy, hb⟩
  have hsz := HX.out.lt.1
  have HI := Lib.hid (show Io w w2 (w1.heap.size + 1 + 1) w.heap.size (w.heap.size + 1) (w.heap.size + 1 + 1 + 1) (w.heap.size + 1 + 1) (w1.heap.size + 1) w1.heap.size r s c 0 [] 0 [] from
    ⟨below_next HB.out hb, HX.out.below hb, hy, HBI.out.bel hb, HBC.out.bel hb, ⟨Nat.le_refl _, by omega, by omega, by omega, by omega, by omega, by omega⟩, hy.lt.1⟩)
  clear hy hb hsz HX HBI HBC HB
  generalize w1.heap.size + 1 + 1 = B at HI
  generalize w1.heap.size + 1 = g2 at HI ⊢
  generalize w1.heap.size = b2 at HI
  generalize w.heap.size + 1 + 1 + 1 = g at HI ⊢
  generalize w.heap.size + 1 + 1 = b at HI
  generalize w.heap.size + 1 = gc at HI ⊢
  generalize w.heap.size = gi at HI ⊢
  have c0 := HI.out.bc.cell 0
  have c1 := HI.out.bc.cell 1
  have c2 := HI.out.bc.cell 2
  have c3 := HI.out.bc.cell 3
  have c4 := HI.out.bc.cell 4
  have c5 := HI.out.bc.cell 5
  have c6 := HI.out.bc.cell 6
  simp only [List.getElem?_cons_zero, List.getElem?_cons_succ] at c0 c1 c2 c3 c4 c5 c6
  go_wp2_with fail
  refine (KL.out _).mono ?_
  rintro e w3 ⟨rfl, hb⟩
  have HI := Lib.hid (HI.out.below hb)
  clear hb c0 c1 c2 c3 c4 c5 c6
  cases B0
  · go_wp2_with fail
    refine (KR.out _).mono ?_
    rintro e w4 ⟨rfl, hb⟩
    have HI := Lib.hid (HI.out.below hb)
    clear hb
    go_wp2_with fail
    go_ret
    exact ⟨rfl, HI.out.bel⟩
  · go_wp2_with fail
    go_loopw [11, 12] (fun own vk wr => ∃ (k m : Nat) (O : Nat → Ask), k ≤ len ∧ k ≤ 30 ∧ m ≤ k ∧ vk = .int .i64 k ∧ Apart O m ∧ wr.ownsRow B 43 18 own m (flat 18 m fun i => (O i).cells) ∧ Io w wr B gi gc g b g2 b2 r s c 0 [] 0 []) (fun _ vk _ => 30 - (intOf vk).toNat)
    case atStart => exact ⟨0, 0, fun _ => askZero, by omega, by omega, by omega, rfl, fun i j hi => by omega, World.ownsRow_nil _ _ _ _, HI.out⟩
    case round =>
      clear HI
      obtain ⟨k, m, O, hk, hk30, hmk, rfl, hap, hown, hio⟩ := hrel
      have HI := Lib.hid hio; have HAP := Lib.hid hap; have HW := Lib.hid hown
      clear hio hap hown
      obtain ⟨p, pc, rfl, hrows, hpc, hpm⟩ := own_open HW.out
      unfold maxLen at hpm
      have HRW := Lib.hid hrows; clear hrows
      by_cases h12 : k < len ∧ k < 30
      · obtain ⟨h1, h2⟩ := h12
        have hv := HV.out
        obtain ⟨va, voff, rfl, hlt⟩ := hv.spot (by omega)
        have hcs := fun j (hj : j < 18) => hv.at HI.out.bel h1 j hj
        have c4 := hcs 4 (by omega)
        have c5 := hcs 5 (by omega)
        have c6 := hcs 6 (by omega)
        have c7 := hcs 7 (by omega)
        have c8 := hcs 8 (by omega)
        have c9 := hcs 9 (by omega)
        have c10 := hcs 10 (by omega)
        simp only [Ask.cells, List.getElem?_cons_zero, List.getElem?_cons_succ] at c4 c5 c6 c7 c8 c9 c10
        clear hv hcs
        have KA := Lib.hid (fun W => light_any (R k).c W (HOK.out k).c)
        go_wp2_with fail
        refine (KA.out _).mono ?_
        rintro e w4 ⟨rfl, hb⟩
        have HI := Lib.hid (HI.out.below hb); have HW := Lib.hid (owns_below HW.out hb); have HRW := Lib.hid (HRW.out.below hb)
        clear hb c4 c5 c6 c7 c8 c9 c10 KA
        go_wp2_with fail
        go_loopw [13, 14] (fun fr vj wr' => ∃ j : Nat, j ≤ m ∧ vj = .int .i64 j ∧ fr = .bool (freshTo O (R k) j) ∧ Below w4.heap.size w4 wr') (fun _ vj _ => m - (intOf vj).toNat)
        case atStart => exact ⟨0, by omega, rfl, rfl, Below.refl _ _⟩
        case round =>
          obtain ⟨j, hj, rfl, rfl, hb⟩ := hrel
          have HB := Lib.hid hb; clear hb
          have HFS := Lib.hid (show freshTo O (R k) (j + 1) = (freshTo O (R k) j && !((O j).r == (R k).r && (O j).s == (R k).s)) from rfl)
          generalize hfj : freshTo O (R k) j = fj at HFS ⊢
          by_cases h3 : j < m
          · obtain ⟨pa, poff, rfl, hplt⟩ := HRW.out.spot (by omega)
            have hv2 := HV.out.below (below_next HI.out.bel HB.out)
            have hp2 := HRW.out.below HB.out
            have o2 := fun d os => hp2.grown d os h3 2 (by omega)
            have o3 := fun d os => hp2.grown d os h3 3 (by omega)
            have r2 := fun d os => hv2.grown d os h1 2 (by omega)
            have r3 := fun d os => hv2.grown d os h1 3 (by omega)
            simp only [Ask.cells, List.getElem?_cons_zero, List.getElem?_cons_succ] at o2 o3 r2 r3
            have hneq := neq_inst (O j).r (O j).s (R k).r (R k).s
            clear hv2 hp2
            generalize (O j).r = a1 at o2 hneq HFS
            generalize (O j).s = a2 at o3 hneq HFS
            generalize (R k).r = a3 at r2 hneq HFS
            generalize (R k).s = a4 at r3 hneq HFS
            cases fj
            all_goals
              go_upto_region 12 with (fail)
              refine wp_region_quiet_below (by kernel_rfl) (by kernel_rfl) ?_
              repeat go_big_quiet_step (fail)
              refine wpQuiet_nil ?_
              intro w5 hw'
              have HB := Lib.hid (below_next HB.out (below_of_regrown hw'))
              clear hw' o2 o3 r2 r3 hneq
              go_wp2_with fail
              go_roundw
              case rel => exact ⟨j + 1, by omega, by go_num, by rw [HFS.out]; simp, HB.out⟩
              case measure => simp [intOf]; omega
          · have hjm : j = m := by omega
            subst hjm
            clear hj h3 HFS
            have HI := Lib.hid (HI.out.below HB.out); have HW := Lib.hid (owns_below HW.out HB.out)
            clear HRW HB
            cases fj
            · go_wp2_with fail
              go_roundw
              case rel => exact ⟨k + 1, j, O, by omega, by omega, by omega, by go_num, HAP.out, HW.out, HI.out⟩
              case measure => simp [intOf]; omega
            · have hrg := HV.out.range HI.out.bel h1
              simp only [Ask.cells] at hrg
              have HRG := Lib.hid hrg; clear hrg
              have hap2 := HAP.out.snoc (freshTo_true hfj).2
              have HAP := Lib.hid hap2; clear hap2 hfj
              go_wp2_with (first
                | (refine wpList_load_mid rfl 43 _ rfl va (voff + k * 18) rfl _ _ HRG.out Try.underlying43 rfl (by kernel_rfl) ?_)
                | (at_builtin; go_must (refine append_ask rfl (.tmp 77) (.tmp 82) rfl B j _ O (R k) rfl (owns_below HW.out (by go_grown)) _ rfl (holds_alloc _ _ (R k).cells) (by omega) (by have := HI.out.le; simp; omega) ?_); intro v4 w5 ho5 hb5))
              have HI := Lib.hid ((HI.out.below (show Below wr.heap.size wr _ by go_grown)).next hb5)
              clear hb5
              go_roundw
              case rel => exact ⟨k + 1, j + 1, snocA O j (R k), by omega, by omega, by omega, by go_num, HAP.out, ho5, HI.out⟩
              case measure => simp [intOf]; omega
      · have hend : (¬ k < len) ∨ (k < len ∧ ¬ k < 30) := by omega
        clear h12
        rcases hend with h1 | ⟨h1, h2⟩
        all_goals
          go_wp2_with fail
          refine (within_nat turn 0 m _ (by have := HT.out; omega) (by omega) (by omega) (by omega)).mono ?_
          rintro e w5 ⟨⟨n, hn0, hn1, rfl⟩, rfl⟩
          have hnm : n ≤ m := by omega
          go_wp2_with fail
          go_loopw [16] (fun vk wr' => ∃ q : Nat, q ≤ m ∧ vk = .int .i64 q ∧ wr'.ownsRow B 43 18 (.slice p m pc) m (flat 18 m fun i => (O i).cells) ∧ Io w wr' B gi gc g b g2 b2 r s c q (notedL O q) q (notedL (fun k => O ((k + n) % m)) q)) (fun vk _ => m - (intOf vk).toNat)
          case atStart => exact ⟨0, by omega, rfl, HW.out, HI.out⟩
          case round =>
            clear HI HW HRW
            obtain ⟨q, hq, rfl, hown, hio⟩ := hrel
            have HI := Lib.hid hio; have HW := Lib.hid hown
            clear hio hown
            by_cases hqm : q < m
            · have hrw := own_rows HW.out
              obtain ⟨pa, poff, rfl, hplt⟩ := hrw.spot (by omega)
              obtain ⟨x, hx⟩ : ∃ x, x = O q := ⟨_, rfl⟩
              have HX := Lib.hid hx
              have hk := fun (W : World) (h : W.ownsRow B 43 18 (.slice (some ⟨pa, poff, none⟩) m pc) m (flat 18 m fun i => (O i).cells)) (j : Nat) (hj : j < 18) => (own_rows h).at (Below.refl _ _) hqm j hj
              rw [← hx] at hk
              have hk2 : ∀ W : World, W.ownsRow B 43 18 (.slice (some ⟨pa, poff, none⟩) m pc) m (flat 18 m fun i => (O i).cells) → (W.cell? ⟨pa, poff + q * 18 + 1, none⟩ = some (.int .i64 x.q) ∧ W.cell? ⟨pa, poff + q * 18 + 2, none⟩ = some (.int .i64 x.r) ∧ W.cell? ⟨pa, poff + q * 18 + 3, none⟩ = some (.int .i64 x.s) ∧ W.cell? ⟨pa, poff + q * 18 + 4, none⟩ = some (.int .i64 x.c.k) ∧ W.cell? ⟨pa, poff + q * 18 + 5, none⟩ = some (.int .i64 x.c.c) ∧ W.cell? ⟨pa, poff + q * 18 + 6, none⟩ = some (.int .i64 x.c.s) ∧ W.cell? ⟨pa, poff + q * 18 + 7, none⟩ = some (.string x.c.a) ∧ W.cell? ⟨pa, poff + q * 18 + 8, none⟩ = some (.string x.c.b) ∧ W.cell? ⟨pa, poff + q * 18 + 9, none⟩ = some (.string x.c.o) ∧ W.cell? ⟨pa, poff + q * 18 + 10, none⟩ = some (.string x.c.v)) :=
                fun W h => ⟨hk W h 1 (by omega), hk W h 2 (by omega), hk W h 3 (by omega), hk W h 4 (by omega), hk W h 5 (by omega), hk W h 6 (by omega), hk W h 7 (by omega), hk W h 8 (by omega), hk W h 9 (by omega), hk W h 10 (by omega)⟩
              have HK := Lib.hid hk2
              clear hk hk2 hx hrw
              have HWD := Lib.hid (owns_below HW.out (drew_below _ _)); have HID := Lib.hid (HI.out.below (drew_below _ _))
              have hbB : b < B := by have := HI.out.lo; omega
              have hb2B : b2 < B := by have := HI.out.lo; omega
              go_upto_region 19 with (fail)
              go_region_held3 (fun W => W.cell? ⟨pa, poff + q * 18 + 1, none⟩ = some (.int .i64 x.q) ∧ W.cell? ⟨pa, poff + q * 18 + 2, none⟩ = some (.int .i64 x.r) ∧ W.cell? ⟨pa, poff + q * 18 + 3, none⟩ = some (.int .i64 x.s) ∧ W.cell? ⟨pa, poff + q * 18 + 4, none⟩ = some (.int .i64 x.c.k) ∧ W.cell? ⟨pa, poff + q * 18 + 5, none⟩ = some (.int .i64 x.c.c) ∧ W.cell? ⟨pa, poff + q * 18 + 6, none⟩ = some (.int .i64 x.c.s) ∧ W.cell? ⟨pa, poff + q * 18 + 7, none⟩ = some (.string x.c.a) ∧ W.cell? ⟨pa, poff + q * 18 + 8, none⟩ = some (.string x.c.b) ∧ W.cell? ⟨pa, poff + q * 18 + 9, none⟩ = some (.string x.c.o) ∧ W.cell? ⟨pa, poff + q * 18 + 10, none⟩ = some (.string x.c.v))
                (first
                  | exact HK.out _ HWD.out
                  | exact HK.out _ (by assumption))
                (first
                  | (go_at_call 9; refine (HID.out.noteX (by omega) x).mono ?_; rintro e w6 ⟨z6, rfl, hio6, ht6⟩; have hown6 := owns_touch HWD.out ht6 hbB))
              have HI6 := Lib.hid hio6; have HW6 := Lib.hid hown6
              clear hio6 hown6 ht6 HK HWD HID HI HW
              obtain ⟨t, ht⟩ : ∃ t, t = (q + n) % m := ⟨_, rfl⟩
              have htm : t < m := by rw [ht]; exact Nat.mod_lt _ (by omega)
              have hrm : ((q : Int) + (n : Int)).tmod (m : Int) = (t : Int) := by rw [ht, Int.tmod_eq_emod_of_nonneg (by omega)]; simp
              obtain ⟨y, hy⟩ : ∃ y, y = O t := ⟨_, rfl⟩
              have HY := Lib.hid (show y = O ((q + n) % m) by rw [hy, ht])
              have hrg := (own_rows HW6.out).range (Below.refl _ _) htm
              rw [← hy] at hrg
              simp only [Ask.cells] at hrg
              have HRG := Lib.hid hrg
              clear hrg hy ht
              have hyo := y.cells_one
              have hyo2 : y.cells.toArray.all (·.oneCell') = true := by rw [List.all_toArray]; exact List.all_eq_true.2 hyo
              have HYO := Lib.hid hyo2
              clear hyo hyo2
              go_upto_region 21 with (first
                | (refine wpList_load_mid rfl 43 _ rfl pa (poff + t * 18) rfl _ _ HRG.out Try.underlying43 rfl (by kernel_rfl) ?_)
                | (refine wpList_store_new rfl 43 _ _ rfl rfl _ _ y.cells.toArray rfl rfl (by kernel_rfl) (by kernel_rfl) HYO.out ?_))
              have hz := holds_alloc w6 43 y.cells
              have hbz : Below w6.heap.size w6 (w6.alloc (.cells y.cells.toArray 43)) := by go_grown
              generalize w6.alloc (.cells y.cells.toArray 43) = w7 at hz hbz ⊢
              have HI7 := Lib.hid (HI6.out.below hbz); have HW7 := Lib.hid (owns_below HW6.out hbz)
              generalize w6.heap.size = gz at hz ⊢
              clear hbz HI6 HW6 HRG HYO
              have z1 := hz.cell 1
              have z2 := hz.cell 2
              have z3 := hz.cell 3
              have z4 := hz.cell 4
              have z5 := hz.cell 5
              have z6' := hz.cell 6
              have z7 := hz.cell 7
              have z8 := hz.cell 8
              have z9 := hz.cell 9
              have z10 := hz.cell 10
              simp only [Ask.cells, List.getElem?_cons_zero, List.getElem?_cons_succ] at z1 z2 z3 z4 z5 z6' z7 z8 z9 z10
              clear hz hrm
              go_wp2_with fail
              refine (HI7.out.noteY (by omega) y).mono ?_
              rintro e w8 ⟨z8', rfl, hio8, ht8⟩
              have HI8 := Lib.hid hio8; have HW8 := Lib.hid (owns_touch HW7.out ht8 hb2B)
              clear hio8 ht8 HI7 HW7 z1 z2 z3 z4 z5 z6' z7 z8 z9 z10
              go_wp2_with fail
              go_roundw
              case rel => exact ⟨q + 1, by omega, by go_num, HW8.out, by have := HI8.out; rw [HX.out, HY.out] at this; exact this⟩
              case measure => simp [intOf]; omega
            · have hqm2 : q = m := by omega
              subst hqm2
              clear hqm hq
              have hp := turned_noted n HAP.out hnm
              have hat := attL_perm hp r s c
              have hln := hp.length_eq
              have HI := Lib.hid (show Io w wr B gi gc g b g2 b2 r s c q (notedL O q) q (notedL (fun k => O ((k + n) % q)) q) from HI.out)
              clear HW HAP hp
              generalize notedL (fun k => O ((k + n) % q)) q = lb at HI hat hln
              generalize notedL O q = la at HI hat hln
              have A1 := fun W (h : Below wr.heap.size wr W) => attr_any g b q (fun _ => 0) la r s c W (HI.out.below h).x (HCA.out (by simp))
              have A2 := fun W (h : Below wr.heap.size wr W) => attr_any g2 b2 q (fun _ => 0) lb r s c W (HI.out.below h).y (HCA.out (by simp))
              have N1 := fun W (h : Below wr.heap.size wr W) => len_any g b q (fun _ => 0) la W (HI.out.below h).x
              have N2 := fun W (h : Below wr.heap.size wr W) => len_any g2 b2 q (fun _ => 0) lb W (HI.out.below h).y
              rw [hat] at A2
              rw [hln] at N2
              clear hat hln
              generalize la.length = ll at N1 N2
              generalize attrQ la r s c = aq at A1 A2
              generalize attrD la (fun _ => 0) r s c = ad at A1 A2
              simp only [attL, cutL] at A1 A2
              have heq := eq_att_self aq ad
              have A1 := Lib.hid A1; have A2 := Lib.hid A2; have N1 := Lib.hid N1; have N2 := Lib.hid N2
              have i0 := fun d os => HI.out.bi.grown d os 0
              have i1 := fun d os => HI.out.bi.grown d os 1
              have x0 := fun d os => HI.out.bc.grown d os 0
              have x1 := fun d os => HI.out.bc.grown d os 1
              have x2 := fun d os => HI.out.bc.grown d os 2
              have x3 := fun d os => HI.out.bc.grown d os 3
              have x4 := fun d os => HI.out.bc.grown d os 4
              have x5 := fun d os => HI.out.bc.grown d os 5
              have x6 := fun d os => HI.out.bc.grown d os 6
              simp only [List.getElem?_cons_zero, List.getElem?_cons_succ] at i0 i1 x0 x1 x2 x3 x4 x5 x6
              go_upto_region 22 with (fail)
              refine wp_region_quiet_below (by kernel_rfl) (by kernel_rfl) ?_
              repeat go_big_quiet_step (first
                | (go_at_call 12; first | (with_reducible exact calls_regrown fun W h => A1.out W h) | (with_reducible exact calls_regrown fun W h => A2.out W h))
                | (go_at_call 15; first | (with_reducible exact calls_regrown fun W h => N1.out W h) | (with_reducible exact calls_regrown fun W h => N2.out W h))
                | (go_at_call 3; with_reducible exact calls_regrown fun W _ => KR.out W))
              refine wpQuiet_nil ?_
              intro w9 hw'
              have HB := Lib.hid (below_next HI.out.bel (below_of_regrown hw'))
              clear hw' i0 i1 x0 x1 x2 x3 x4 x5 x6 heq A1 A2 N1 N2 HI
              go_wp2_with fail
              go_ret
              exact ⟨rfl, HB.out⟩
theorem interfOrder_rows (a : Option Addr) (len cap : Nat) (V : Nat → List Value) (turn r s ck cc cs : Int) (ca cb co cv : ByteArray) (w : World) (hV : IsRows w a len 18 V) (hA : ∀ i, i < len → AllOk askLeaves (V i) ∧ Fit reachBytes (V i)) (hlc : len ≤ cap) (hcm : cap ≤ maxLen)
    (ht : (Lit.int .i64 turn).wf = true) (_ : (Lit.int .i64 r).wf = true) (_ : (Lit.int .i64 s).wf = true) (_ : (Lit.int .i64 ck).wf = true) (_ : (Lit.int .i64 cc).wf = true) (_ : (Lit.int .i64 cs).wf = true)
    (_ : ca.size ≤ maxLen) (_ : cb.size ≤ maxLen) (_ : co.size ≤ maxLen) (_ : cv.size ≤ maxLen) (hf : Fit reachBytes [.int .i64 ck, .int .i64 cc, .int .i64 cs, .string ca, .string cb, .string co, .string cv]) :
    Calls Try.prog 4 #[.slice a len cap, .int .i64 turn, .agg #[.int .i64 r, .int .i64 s], .agg #[.int .i64 ck, .int .i64 cc, .int .i64 cs, .string ca, .string cb, .string co, .string cv]] w fun e w' => e = .returned (.bool true) ∧ Below w.heap.size w w' := by
  obtain ⟨R, hR, hO⟩ := asks_at hA
  exact interfOrder_any a len cap R turn r s ⟨ck, cc, cs, ca, cb, co, cv⟩ w (hV.cong hR) hO hlc hcm ⟨hf.at (i := 3) rfl, hf.at (i := 4) rfl, hf.at (i := 5) rfl, hf.at (i := 6) rfl⟩ ht
end Go.Proofs.Ytleagecocffihaa
