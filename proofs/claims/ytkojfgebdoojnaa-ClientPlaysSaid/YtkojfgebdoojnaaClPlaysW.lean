/-
  The walk of ClientPlays.
-/
import Derived.Test.YtkojfgebdoojnaaClPlaysP
import Derived.Deep.MidRow
namespace Go.Proofs.Ytkojfgebdoojnaa
open Go.RowKit
set_option linter.unusedVariables false

set_option maxRecDepth 4000 in
set_option maxHeartbeats 4000000 in
theorem clientPlays_in (id n : Int) (a : Option Addr) (len cap : Nat) (V : Nat → List Value) (w : World) (hn : (Lit.int .i64 n).wf = true) (h : 1 ≤ id ∧ id ≤ 8)
    (hV : IsRows w a len 17 V) (hA : ∀ i, i < len → AllOk askLeaves (V i)) (hlc : len ≤ cap) :
    Calls Try.prog 4 #[.int .i64 id, .int .i64 n, .slice a len cap] w fun e w' => e = .returned (.bool true) ∧ Below w.heap.size w w' := by
  have HV := Lib.hid hV; have HA := Lib.hid hA
  have hm : len ≤ maxLen := hV.1
  unfold maxLen at hm
  clear hV hA
  obtain ⟨hi1, hi8⟩ := h
  go_enter Try.func4, Try.ntmps4
  go_wp2_with fail
  refine (new_in id w ⟨hi1, hi8⟩).mono ?_
  rintro e w1 ⟨rfl, hc, hb1⟩
  have hpk : ∀ W, W = w1.alloc (.cells #[.int .i64 id, .int .i64 0, .int .i64 0, .int .i64 0, .int .i64 0, .string ⟨#[]⟩, .string ⟨#[]⟩, .string ⟨#[]⟩, .string ⟨#[]⟩, .bool false, .int .i64 0, .int .i64 0] 41) → Pk w W w.heap.size w1.heap.size ⟨id, 0, Cm.zero, false, 0, 0⟩ ⟨id, 0, Cm.zero, false, 0, 0⟩ [] := by
    rintro W rfl
    have h1 := hc.lt
    exact ⟨hb1.alloc (by omega) _, holds_past hc _, holds_alloc w1 _ _, Nat.le_refl _, by omega, by omega, fun x hx => by cases hx⟩
  have HPK := Lib.hid hpk
  clear hpk hc hb1
  generalize hg : w.heap.size = g at HPK
  generalize hgd : w1.heap.size = gd at HPK
  go_wp2_with fail
  clear hgd
  go_loopw [10] (fun i wr => ∃ j : Nat, j ≤ len ∧ j ≤ 40 ∧ i = .int .i64 j ∧ ∃ s : Cl, Pk w wr g gd s s [] ∧ s.Ok j (50 * j)) (fun i _ => 40 - (intOf i).toNat)
  case atStart => exact ⟨0, by omega, by omega, rfl, _, HPK.out _ rfl, ⟨⟨hi1, hi8⟩, by simp, by simp, by simp⟩⟩
  case round =>
    clear HPK hg
    obtain ⟨j, hjl, hj40, rfl, s, hpk, hok⟩ := hrel
    have HOK := Lib.hid hok; clear hok
    by_cases h1 : j < len
    · by_cases h2 : j < 40
      · obtain ⟨b, off, rfl, hlt⟩ := HV.out.spot (by omega)
        obtain ⟨kd, nn, tg, x, ac, aq, ay, af, av, ar, ap, apl, apc, ha, hnn⟩ := ask_of (HA.out j h1)
        have hra : wr.rangeAt b (off + j * 17) (V j) := fun i v hv => by
          have hi : i < 17 := by have := (List.getElem?_eq_some_iff.1 hv).1; rw [ha] at this; simpa using this
          rw [HV.out.at hpk.bel h1 i hi]; exact hv
        rw [ha] at hra
        have HRA := Lib.hid hra
        clear ha hra
        have hpa := hpk.add 43 [.int .i64 kd, .int .i64 nn, .int .i64 tg, .int .i64 x.k, .int .i64 x.c, .int .i64 x.s, .string x.a, .string x.b, .string x.o, .string x.v, .int .i64 ac, .int .i64 aq, .int .i64 ay, .bool af, .string av, .int .i64 ar, .slice ap apl apc]
        have HPK := Lib.hid hpa; clear hpa hpk
        have hkd : (kd == 1) = true ∨ ((kd == 1) = false ∧ (kd == 2) = true) ∨ ((kd == 1) = false ∧ (kd == 2) = false ∧ (kd == 3) = true) ∨ ((kd == 1) = false ∧ (kd == 2) = false ∧ (kd == 3) = false) := by
          simp only [beq_iff_eq, beq_eq_false_iff_ne]; omega
        go_upto_region 11 with (first | (refine wpList_load_mid rfl 43 _ rfl b (off + j * 17) rfl _ _ HRA.out Try.underlying43 rfl (by kernel_rfl) ?_))
        clear HRA
        go_name_world W4 hW4
        have hpa := HPK.out
        rw [hW4] at hpa
        clear hW4 HPK
        have hbx := (hpa.k _ List.mem_cons_self).1
        have b0 := hbx.cell 0
        have b1 := hbx.cell 1
        have b2 := hbx.cell 2
        have b3 := hbx.cell 3
        have b4 := hbx.cell 4
        have b5 := hbx.cell 5
        have b6 := hbx.cell 6
        have b7 := hbx.cell 7
        have b8 := hbx.cell 8
        have b9 := hbx.cell 9
        simp only [List.getElem?_cons_zero, List.getElem?_cons_succ] at b0 b1 b2 b3 b4 b5 b6 b7 b8 b9
        have HPK := Lib.hid hpa; clear hpa
        rcases hkd with e1 | ⟨e1, e2⟩ | ⟨e1, e2, e3⟩ | ⟨e1, e2, e3⟩
        · have hok' : (s.begun x tg).Ok ((j + 1 : Nat) : Int) (50 * ((j + 1 : Nat) : Int)) := (HOK.out.begun x tg (by omega)).mono (by omega) (by omega)
          have g1 := fun W K (h : Pk w W g gd s s K) => h.begin1 (HOK.out.mono (by omega) (by omega)) x tg
          have g2 := fun W K (h : Pk w W g gd (s.begun x tg) s K) => h.begin2 (HOK.out.mono (by omega) (by omega)) x tg
          clear HOK
          generalize s.given x tg = z at g1 g2
          generalize s.takes x tg = tk at g1 g2
          generalize s.begun x tg = s' at g1 g2 hok'
          obtain ⟨zk, zc, zs, za, zb, zo, zv⟩ := z
          obtain ⟨xk, xc, xs, xa, xb, xo, xv⟩ := x
          simp only [Cm.cells] at g1 g2 HPK b3 b4 b5 b6 b7 b8 b9
          clear hbx
          have H1 := Lib.hid g1; have H2 := Lib.hid g2; have HOK := Lib.hid hok'
          clear g1 g2 hok'
          have hneq : ∀ W, (binOp .neq 27 (.agg #[.int .i64 zk, .int .i64 zc, .int .i64 zs, .string za, .string zb, .string zo, .string zv]) (.agg #[.int .i64 zk, .int .i64 zc, .int .i64 zs, .string za, .string zb, .string zo, .string zv])).run Try.prog W = .ok (.bool false) W := by
            intro W
            rw [run_neq_struct, eq_cmd]
            simp
          go_wp2_with fail
          refine (H1.out _ _ HPK.out).mono ?_
          rintro e w5 ⟨rfl, hpk⟩
          clear b0 b1 b2 b3 b4 b5 b6 b7 b8 b9
          have hpk2 := hpk.add 27 [.int .i64 zk, .int .i64 zc, .int .i64 zs, .string za, .string zb, .string zo, .string zv]
          clear H1 hpk HPK
          go_upto_region 14 with (fail)
          go_name_world W5 hW5
          rw [hW5] at hpk2
          clear hW5
          have hbx := (hpk2.k _ (List.mem_cons_of_mem _ (List.mem_cons_self))).1
          have b2 := hbx.cell 2
          have b3 := hbx.cell 3
          have b4 := hbx.cell 4
          have b5 := hbx.cell 5
          have b6 := hbx.cell 6
          have b7 := hbx.cell 7
          have b8 := hbx.cell 8
          have b9 := hbx.cell 9
          simp only [List.getElem?_cons_zero, List.getElem?_cons_succ] at b2 b3 b4 b5 b6 b7 b8 b9
          have HPK := Lib.hid hpk2
          clear hbx hpk2
          go_wp2_with fail
          refine (H2.out _ _ HPK.out).mono ?_
          rintro e w6 ⟨rfl, hpk⟩
          clear b2 b3 b4 b5 b6 b7 b8 b9 H2
          have hpk2 := hpk.add 27 [.int .i64 zk, .int .i64 zc, .int .i64 zs, .string za, .string zb, .string zo, .string zv]
          clear hpk HPK
          go_upto_region 15 with (fail)
          go_name_world W6 hW6
          rw [hW6] at hpk2
          clear hW6
          have hb1 := (hpk2.k _ (List.mem_cons_self)).1
          have hb2 := (hpk2.k _ (List.mem_cons_of_mem _ (List.mem_cons_self))).1
          have y0 := hb1.cell 0
          have y1 := hb1.cell 1
          have y2 := hb1.cell 2
          have y3 := hb1.cell 3
          have y4 := hb1.cell 4
          have y5 := hb1.cell 5
          have y6 := hb1.cell 6
          have z0 := hb2.cell 0
          have z1 := hb2.cell 1
          have z2 := hb2.cell 2
          have z3 := hb2.cell 3
          have z4 := hb2.cell 4
          have z5 := hb2.cell 5
          have z6 := hb2.cell 6
          simp only [List.getElem?_cons_zero, List.getElem?_cons_succ] at y0 y1 y2 y3 y4 y5 y6 z0 z1 z2 z3 z4 z5 z6
          have HPK := Lib.hid hpk2
          clear hb1 hb2 hpk2
          go_upto_region 31 with (fail)
          go_name_world W9 hW9
          have hst := HPK.out.less
          rw [hW9] at hst
          clear hW9 HPK
          obtain ⟨si, sq, sy, sw, st, sk⟩ := s'
          have hh1 := fun W' (h : Below W9.heap.size W9 W') => waits_any g si sq sy sw st sk W' (hst.below h).c
          have hh2 := fun W' (h : Below W9.heap.size W9 W') => seq_any g si sq sy sw st sk W' (hst.below h).c
          have HH1 := Lib.hid hh1; have HH2 := Lib.hid hh2; clear hh1 hh2
          have d1 := fun d os => hst.d.grown d os 1
          have d9 := fun d os => hst.d.grown d os 9
          simp only [Cl.cells, clientCells, List.getElem?_cons_zero, List.getElem?_cons_succ] at d1 d9
          have HST := Lib.hid hst; clear hst
          have e9 : (sw != sw) = false := by simp
          refine wp_region_quiet_below (by kernel_rfl) (by kernel_rfl) ?_
          repeat go_big_quiet_step (first
            | (go_at_call 15; with_reducible exact calls_regrown HH1.out)
            | (go_at_call 16; with_reducible exact calls_regrown HH2.out))
          refine wpQuiet_nil ?_
          intro w9 hw'
          have hst9 := HST.out.below (below_of_regrown hw')
          clear hw' d1 d9 HH1 HH2 HST
          have HST := Lib.hid hst9; clear hst9
          go_wp2_with fail
          go_roundw
          case rel => exact ⟨j + 1, by omega, by omega, by go_num, ⟨si, sq, sy, sw, st, sk⟩, HST.out, HOK.out⟩
          case measure => simp [intOf]; omega

        · have hok' : (s.told ac aq).Ok ((j + 1 : Nat) : Int) (50 * ((j + 1 : Nat) : Int)) := (HOK.out.told ac aq).mono (by omega) (by omega)
          have g1 := fun W K (h : Pk w W g gd s s K) => h.tell1 ac aq (.int .i64 ay) (.bool af) (.string av) (.int .i64 ar) (.slice ap apl apc)
          have g2 := fun W K (h : Pk w W g gd (s.told ac aq) s K) => h.tell2 ac aq (.int .i64 ay) (.bool af) (.string av) (.int .i64 ar) (.slice ap apl apc)
          clear HOK
          generalize s.hears ac aq = tk at g1 g2
          generalize s.told ac aq = s' at g1 g2 hok'
          have H1 := Lib.hid g1; have H2 := Lib.hid g2; have HOK := Lib.hid hok'
          clear g1 g2 hok'
          have HBX := Lib.hid (fun W s1 s2 (h : Pk w W g gd s1 s2 [(wr.heap.size, 43, [.int .i64 kd, .int .i64 nn, .int .i64 tg, .int .i64 x.k, .int .i64 x.c, .int .i64 x.s, .string x.a, .string x.b, .string x.o, .string x.v, .int .i64 ac, .int .i64 aq, .int .i64 ay, .bool af, .string av, .int .i64 ar, .slice ap apl apc])]) => by
            have hb := (h.k _ List.mem_cons_self).1
            exact (⟨hb.cell 10, hb.cell 11, hb.cell 12, hb.cell 13, hb.cell 14, hb.cell 15, hb.cell 16⟩ : W.cell? ⟨wr.heap.size, 10, none⟩ = some (.int .i64 ac) ∧ W.cell? ⟨wr.heap.size, 11, none⟩ = some (.int .i64 aq) ∧ W.cell? ⟨wr.heap.size, 12, none⟩ = some (.int .i64 ay) ∧ W.cell? ⟨wr.heap.size, 13, none⟩ = some (.bool af) ∧ W.cell? ⟨wr.heap.size, 14, none⟩ = some (.string av) ∧ W.cell? ⟨wr.heap.size, 15, none⟩ = some (.int .i64 ar) ∧ W.cell? ⟨wr.heap.size, 16, none⟩ = some (.slice ap apl apc)))
          have hpk0 : Pk w W4.drew g gd s s [(wr.heap.size, 43, [.int .i64 kd, .int .i64 nn, .int .i64 tg, .int .i64 x.k, .int .i64 x.c, .int .i64 x.s, .string x.a, .string x.b, .string x.o, .string x.v, .int .i64 ac, .int .i64 aq, .int .i64 ay, .bool af, .string av, .int .i64 ar, .slice ap apl apc])] := HPK.out.below ⟨rfl, rfl, rfl, Nat.le_refl _, fun _ _ => rfl⟩
          go_upto_region 18 with (fail)
          clear hbx b1 b2 b3 b4 b5 b6 b7 b8 b9
          go_region_held3 (fun W => W.cell? ⟨wr.heap.size, 10, none⟩ = some (.int .i64 ac) ∧ W.cell? ⟨wr.heap.size, 11, none⟩ = some (.int .i64 aq) ∧ W.cell? ⟨wr.heap.size, 12, none⟩ = some (.int .i64 ay) ∧ W.cell? ⟨wr.heap.size, 13, none⟩ = some (.bool af) ∧ W.cell? ⟨wr.heap.size, 14, none⟩ = some (.string av) ∧ W.cell? ⟨wr.heap.size, 15, none⟩ = some (.int .i64 ar) ∧ W.cell? ⟨wr.heap.size, 16, none⟩ = some (.slice ap apl apc))
              (exact HBX.out _ _ _ (by assumption))
              (first
                | (go_at_call 10; refine (H1.out _ _ (by assumption)).mono ?_; rintro e w5 ⟨rfl, hpk1⟩)
                | (go_at_call 12; refine (H2.out _ _ (by assumption)).mono ?_; rintro e w6 ⟨rfl, hpk2⟩))
          have HPK := Lib.hid hpk2
          have e8 : (tk != tk) = false := by simp
          clear hpk0 hpk1 hpk2 H1 H2 HBX
          go_upto_region 31 with (fail)
          go_name_world W9 hW9
          have hst := HPK.out.less
          rw [hW9] at hst
          clear hW9 HPK
          obtain ⟨si, sq, sy, sw, st, sk⟩ := s'
          have hh1 := fun W' (h : Below W9.heap.size W9 W') => waits_any g si sq sy sw st sk W' (hst.below h).c
          have hh2 := fun W' (h : Below W9.heap.size W9 W') => seq_any g si sq sy sw st sk W' (hst.below h).c
          have HH1 := Lib.hid hh1; have HH2 := Lib.hid hh2; clear hh1 hh2
          have d1 := fun d os => hst.d.grown d os 1
          have d9 := fun d os => hst.d.grown d os 9
          simp only [Cl.cells, clientCells, List.getElem?_cons_zero, List.getElem?_cons_succ] at d1 d9
          have HST := Lib.hid hst; clear hst
          have e9 : (sw != sw) = false := by simp
          refine wp_region_quiet_below (by kernel_rfl) (by kernel_rfl) ?_
          repeat go_big_quiet_step (first
            | (go_at_call 15; with_reducible exact calls_regrown HH1.out)
            | (go_at_call 16; with_reducible exact calls_regrown HH2.out))
          refine wpQuiet_nil ?_
          intro w9 hw'
          have hst9 := HST.out.below (below_of_regrown hw')
          clear hw' d1 d9 HH1 HH2 HST
          have HST := Lib.hid hst9; clear hst9
          go_wp2_with fail
          go_roundw
          case rel => exact ⟨j + 1, by omega, by omega, by go_num, ⟨si, sq, sy, sw, st, sk⟩, HST.out, HOK.out⟩
          case measure => simp [intOf]; omega
        · go_wp2_with fail
          refine (within_nat nn 1 50 _ (wf64 hnn) (by omega) (by omega) (by omega)).mono ?_
          rintro e w5 ⟨⟨k, hk1, hk50, rfl⟩, rfl⟩
          clear hbx b0 b1 b2 b3 b4 b5 b6 b7 b8 b9
          have HPK := Lib.hid HPK.out.less
          have HOK := Lib.hid (HOK.out.mono (m' := ((j + 1 : Nat) : Int)) (t' := 50 * (j : Int) + (50 - (k : Int))) (by omega) (by omega))
          go_wp2_with fail
          go_loopw [16] (fun v wr2 => ∃ q : Nat, q ≤ 50 ∧ v = .int .i64 q ∧ ∃ s1 : Cl, Pk w wr2 g gd s1 s1 [] ∧ s1.Ok ((j + 1 : Nat) : Int) (50 * (j : Int) + (50 - (q : Int)))) (fun v _ => (intOf v).toNat)
          case atStart => exact ⟨k, by omega, rfl, s, HPK.out, HOK.out⟩
          case round =>
            clear HPK HOK
            obtain ⟨q, hq, rfl, s', hpk, hok⟩ := hrel
            have HPK := Lib.hid hpk; clear hpk
            have HOK := Lib.hid hok; clear hok
            by_cases hq0 : 0 < q
            · by_cases hn1 : n < 1
              · have g1 := tick_no g s'.id s'.seq s'.y s'.waits s'.tg s'.ticks n _ HPK.out.c (.inr hn1)
                simp only [Cm.zero, Cm.cells] at g1
                have H1 := Lib.hid g1; clear g1
                have hneq : ∀ W, (binOp .neq 27 (.agg #[.int .i64 0, .int .i64 0, .int .i64 0, .string ⟨#[]⟩, .string ⟨#[]⟩, .string ⟨#[]⟩, .string ⟨#[]⟩]) (.agg #[.int .i64 0, .int .i64 0, .int .i64 0, .string ⟨#[]⟩, .string ⟨#[]⟩, .string ⟨#[]⟩, .string ⟨#[]⟩])).run Try.prog W = .ok (.bool false) W := by
                  intro W
                  rw [run_neq_struct, eq_cmd]
                  simp
                go_wp2_with fail
                refine H1.out.mono ?_
                rintro e w6 ⟨rfl, hb⟩
                have HPK := Lib.hid (HPK.out.below hb)
                clear hb H1
                go_wp2_with fail
                go_roundw
                case rel => exact ⟨q - 1, by omega, by go_num, s', HPK.out.below (by go_grown), HOK.out.mono (by omega) (by omega)⟩
                case measure => simp [intOf]; omega
              · have hn2 : 1 ≤ n ∧ n ≤ 9223372036854775807 := ⟨by omega, (wf64 hn).2⟩
                have hok' : (s'.ticked n).Ok ((j + 1 : Nat) : Int) (50 * (j : Int) + (50 - ((q - 1 : Nat) : Int))) := (HOK.out.ticked hn2).mono (by omega) (by omega)
                have g1 := fun W K (h : Pk w W g gd s' s' K) => h.tick1 (HOK.out.mono (by omega) (by omega)) n hn2
                have g2 := fun W K (h : Pk w W g gd (s'.ticked n) s' K) => h.tick2 (HOK.out.mono (by omega) (by omega)) n hn2
                clear HOK hn2
                generalize s'.asked = z at g1 g2
                generalize s'.whom n = wh at g1 g2
                generalize s'.asks = tk at g1 g2
                generalize s'.ticked n = s2 at g1 g2 hok'
                obtain ⟨zk, zc, zs, za, zb, zo, zv⟩ := z
                simp only [Cm.cells] at g1 g2
                have H1 := Lib.hid g1; have H2 := Lib.hid g2; have HOK := Lib.hid hok'
                clear g1 g2 hok'
                have hneq : ∀ W, (binOp .neq 27 (.agg #[.int .i64 zk, .int .i64 zc, .int .i64 zs, .string za, .string zb, .string zo, .string zv]) (.agg #[.int .i64 zk, .int .i64 zc, .int .i64 zs, .string za, .string zb, .string zo, .string zv])).run Try.prog W = .ok (.bool false) W := by
                  intro W
                  rw [run_neq_struct, eq_cmd]
                  simp
                go_wp2_with fail
                refine (H1.out _ _ HPK.out).mono ?_
                rintro e w6 ⟨rfl, hpk⟩
                have hpk2 := hpk.add 27 [.int .i64 zk, .int .i64 zc, .int .i64 zs, .string za, .string zb, .string zo, .string zv]
                have HPK := Lib.hid hpk2
                clear hpk hpk2 H1
                go_wp2_with fail
                refine (H2.out _ _ HPK.out).mono ?_
                rintro e w7 ⟨rfl, hpk⟩
                have hpk2 := hpk.add 27 [.int .i64 zk, .int .i64 zc, .int .i64 zs, .string za, .string zb, .string zo, .string zv]
                clear hpk H2 HPK
                go_upto_region 29 with (fail)
                go_name_world W6 hW6
                rw [hW6] at hpk2
                clear hW6
                have hb1 := (hpk2.k _ (List.mem_cons_self)).1
                have hb2 := (hpk2.k _ (List.mem_cons_of_mem _ (List.mem_cons_self))).1
                have y0 := hb1.cell 0
                have y1 := hb1.cell 1
                have y2 := hb1.cell 2
                have y3 := hb1.cell 3
                have y4 := hb1.cell 4
                have y5 := hb1.cell 5
                have y6 := hb1.cell 6
                have z0 := hb2.cell 0
                have z1 := hb2.cell 1
                have z2 := hb2.cell 2
                have z3 := hb2.cell 3
                have z4 := hb2.cell 4
                have z5 := hb2.cell 5
                have z6 := hb2.cell 6
                simp only [List.getElem?_cons_zero, List.getElem?_cons_succ] at y0 y1 y2 y3 y4 y5 y6 z0 z1 z2 z3 z4 z5 z6
                have HPK := Lib.hid hpk2
                clear hb1 hb2 hpk2
                go_wp2_with fail
                go_roundw
                case rel => exact ⟨q - 1, by omega, by go_num, s2, HPK.out.less, HOK.out⟩
                case measure => simp [intOf]; omega
            · have hq00 : q = 0 := by omega
              subst hq00
              have HOK := Lib.hid (HOK.out.mono (m' := ((j + 1 : Nat) : Int)) (t' := 50 * ((j + 1 : Nat) : Int)) (by omega) (by omega))
              go_upto_region 31 with (fail)
              go_name_world W9 hW9
              have hst := HPK.out.less
              rw [hW9] at hst
              clear hW9 HPK
              obtain ⟨si, sq, sy, sw, st, sk⟩ := s'
              have hh1 := fun W' (h : Below W9.heap.size W9 W') => waits_any g si sq sy sw st sk W' (hst.below h).c
              have hh2 := fun W' (h : Below W9.heap.size W9 W') => seq_any g si sq sy sw st sk W' (hst.below h).c
              have HH1 := Lib.hid hh1; have HH2 := Lib.hid hh2; clear hh1 hh2
              have d1 := fun d os => hst.d.grown d os 1
              have d9 := fun d os => hst.d.grown d os 9
              simp only [Cl.cells, clientCells, List.getElem?_cons_zero, List.getElem?_cons_succ] at d1 d9
              have HST := Lib.hid hst; clear hst
              have e9 : (sw != sw) = false := by simp
              refine wp_region_quiet_below (by kernel_rfl) (by kernel_rfl) ?_
              repeat go_big_quiet_step (first
                | (go_at_call 15; with_reducible exact calls_regrown HH1.out)
                | (go_at_call 16; with_reducible exact calls_regrown HH2.out))
              refine wpQuiet_nil ?_
              intro w9 hw'
              have hst9 := HST.out.below (below_of_regrown hw')
              clear hw' d1 d9 HH1 HH2 HST
              have HST := Lib.hid hst9; clear hst9
              go_wp2_with fail
              go_roundw
              case rel => exact ⟨j + 1, by omega, by omega, by go_num, ⟨si, sq, sy, sw, st, sk⟩, HST.out, HOK.out⟩
              case measure => simp [intOf]; omega
        · obtain ⟨s', hs'⟩ : ∃ s', s' = s := ⟨_, rfl⟩
          rw [← hs'] at HPK HOK
          have HOK := Lib.hid (HOK.out.mono (m' := ((j + 1 : Nat) : Int)) (t' := 50 * ((j + 1 : Nat) : Int)) (by omega) (by omega))
          go_upto_region 31 with (fail)
          go_name_world W9 hW9
          have hst := HPK.out.less
          rw [hW9] at hst
          clear hW9 HPK
          obtain ⟨si, sq, sy, sw, st, sk⟩ := s'
          have hh1 := fun W' (h : Below W9.heap.size W9 W') => waits_any g si sq sy sw st sk W' (hst.below h).c
          have hh2 := fun W' (h : Below W9.heap.size W9 W') => seq_any g si sq sy sw st sk W' (hst.below h).c
          have HH1 := Lib.hid hh1; have HH2 := Lib.hid hh2; clear hh1 hh2
          have d1 := fun d os => hst.d.grown d os 1
          have d9 := fun d os => hst.d.grown d os 9
          simp only [Cl.cells, clientCells, List.getElem?_cons_zero, List.getElem?_cons_succ] at d1 d9
          have HST := Lib.hid hst; clear hst
          have e9 : (sw != sw) = false := by simp
          refine wp_region_quiet_below (by kernel_rfl) (by kernel_rfl) ?_
          repeat go_big_quiet_step (first
            | (go_at_call 15; with_reducible exact calls_regrown HH1.out)
            | (go_at_call 16; with_reducible exact calls_regrown HH2.out))
          refine wpQuiet_nil ?_
          intro w9 hw'
          have hst9 := HST.out.below (below_of_regrown hw')
          clear hw' d1 d9 HH1 HH2 HST
          have HST := Lib.hid hst9; clear hst9
          go_wp2_with fail
          go_roundw
          case rel => exact ⟨j + 1, by omega, by omega, by go_num, ⟨si, sq, sy, sw, st, sk⟩, HST.out, HOK.out⟩
          case measure => simp [intOf]; omega
      · have HP := Lib.hid hpk; clear hpk
        go_wp2_with fail
        refine (clientRuns_any _).mono ?_
        rintro e w9 ⟨rfl, hb9⟩
        have HB := Lib.hid (HP.out.below hb9).bel
        clear hb9
        go_wp2_with fail
        go_ret
        exact ⟨rfl, HB.out⟩
    · have HP := Lib.hid hpk; clear hpk
      go_wp2_with fail
      refine (clientRuns_any _).mono ?_
      rintro e w9 ⟨rfl, hb9⟩
      have HB := Lib.hid (HP.out.below hb9).bel
      clear hb9
      go_wp2_with fail
      go_ret
      exact ⟨rfl, HB.out⟩
theorem clientPlays_rows (id n : Int) (a : Option Addr) (len cap : Nat) (V : Nat → List Value) (w : World) (_ : (Lit.int .i64 id).wf = true) (hn : (Lit.int .i64 n).wf = true)
    (hV : IsRows w a len 17 V) (hA : ∀ i, i < len → AllOk [.int .i64, .int .i64, .int .i64, .int .i64, .int .i64, .int .i64, .string, .string, .string, .string, .int .i64, .int .i64, .int .i64, .bool, .string, .int .i64, .slice] (V i)) (hlc : len ≤ cap) :
    Calls Try.prog 4 #[.int .i64 id, .int .i64 n, .slice a len cap] w fun e w' => e = .returned (.bool true) ∧ Below w.heap.size w w' := by
  by_cases h : 1 ≤ id ∧ id ≤ 8
  · exact clientPlays_in id n a len cap V w hn h hV hA hlc
  · exact clientPlays_out id n a len cap w (by omega)
end Go.Proofs.Ytkojfgebdoojnaa
