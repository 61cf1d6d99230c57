/-
  The walk of the document's Pre.
-/
import Derived.Test.YtmpefdepcbfcdaaQuDocW
import Derived.Deep.RegionWith
import Derived.Deep.CutRange
namespace Go.Proofs.Ytmpefdepcbfcdaa
open Go.RowKit
set_option linter.unusedVariables false
set_option linter.unusedSimpArgs false

/-- Both boxes of the document's Pre, and its own proposal. -/
structure Dx (w W : World) (g7 g11 g12 : Nat) (own A : At) : Prop where
  j : Jx w W g11 g12 A
  o : Holds W g7 26 own.cells
  n1 : g7 ≠ g12
  ge : w.heap.size ≤ g7
  n2 : g11 ≠ g7
theorem Dx.below {w W W' : World} {g7 g11 g12 : Nat} {own A : At} (h : Dx w W g7 g11 g12 own A) (hb : Below W.heap.size W W') : Dx w W' g7 g11 g12 own A := ⟨h.j.below hb, h.o.below hb h.o.lt, h.n1, h.ge, h.n2⟩
theorem Dx.own {w W : World} {g7 g11 g12 : Nat} {own A : At} (h : Dx w W g7 g11 g12 own A) : Jx w W g11 g7 own := ⟨h.j.bel, h.j.z, h.o, h.j.ge, h.ge, h.n2⟩
theorem Dx.drew {w W : World} {g7 g11 g12 : Nat} {own A : At} (h : Dx w W g7 g11 g12 own A) : Dx w W.drew g7 g11 g12 own A := ⟨jx_drew h.j, h.o, h.n1, h.ge, h.n2⟩
theorem Dx.set8 {w W : World} {g7 g11 g12 : Nat} {own A : At} (h : Dx w W g7 g11 g12 own A) (A' : At) : Dx w ((((((((W.setCell ⟨g12, 0, none⟩ (.int .i64 A'.q)).setCell ⟨g12, 1, none⟩ (.int .i64 (A'.d 0))).setCell ⟨g12, 2, none⟩ (.int .i64 (A'.d 1))).setCell ⟨g12, 3, none⟩ (.int .i64 (A'.d 2))).setCell ⟨g12, 4, none⟩ (.int .i64 (A'.d 3))).setCell ⟨g12, 5, none⟩ (.int .i64 (A'.d 4))).setCell ⟨g12, 6, none⟩ (.int .i64 (A'.d 5))).setCell ⟨g12, 7, none⟩ (.int .i64 (A'.d 6))) g7 g11 g12 own A' := by
  have t := ((((((((Touch.refl g12 W).setCell 0 (.int .i64 A'.q)).setCell 1 (.int .i64 (A'.d 0))).setCell 2 (.int .i64 (A'.d 1))).setCell 3 (.int .i64 (A'.d 2))).setCell 4 (.int .i64 (A'.d 3))).setCell 5 (.int .i64 (A'.d 4))).setCell 6 (.int .i64 (A'.d 5))).setCell 7 (.int .i64 (A'.d 6))
  have s := ((((((((h.j.a).set 0 (.int .i64 A'.q)).set 1 (.int .i64 (A'.d 0))).set 2 (.int .i64 (A'.d 1))).set 3 (.int .i64 (A'.d 2))).set 4 (.int .i64 (A'.d 3))).set 5 (.int .i64 (A'.d 4))).set 6 (.int .i64 (A'.d 5))).set 7 (.int .i64 (A'.d 6))
  simp only [At.cells, List.set_cons_succ, List.set_cons_zero] at s
  exact ⟨⟨h.j.bel.trans (t.below h.j.ge2 h.j.bel.size), h.j.z.touch t h.j.ne, s, h.j.ge, h.j.ge2, h.j.ne⟩, h.o.touch t h.n1, h.n1, h.ge, h.n2⟩
set_option maxRecDepth 4000 in
set_option maxHeartbeats 8000000 in
theorem dpre_any (K : Nat) (first late : Bool) (own : At) (a : Option Addr) (len cap : Nat) (R : Nat → At) (w : World) (hS : IsRows w a len 8 fun i => (R i).cells) (hlc : len ≤ cap) (hK3 : 3 ≤ K) (hK : K ≤ 7) (hlen : len ≤ 1000000) :
    Calls Try.prog 18 #[.int .i64 K, .bool first, .agg #[.int .i64 own.q, .int .i64 (own.d 0), .int .i64 (own.d 1), .int .i64 (own.d 2), .int .i64 (own.d 3), .int .i64 (own.d 4), .int .i64 (own.d 5), .int .i64 (own.d 6)], .slice a len cap, .bool late] w fun e w' =>
      e = .returned (.tuple #[.int .i64 (preA K first own R len late).1, .agg (preA K first own R len late).2.cells.toArray]) ∧ Below w.heap.size w w' := by
  have HV := Lib.hid hS
  clear hS
  obtain ⟨R0, hR⟩ : ∃ R0, R0 = preA K first own R len late := ⟨_, rfl⟩
  rw [← hR]
  have HR := Lib.hid hR; clear hR
  go_enter Try.func18, Try.ntmps18
  have hd0 : Dx w (((w.alloc (.cells #[.int .i64 own.q, .int .i64 (own.d 0), .int .i64 (own.d 1), .int .i64 (own.d 2), .int .i64 (own.d 3), .int .i64 (own.d 4), .int .i64 (own.d 5), .int .i64 (own.d 6)] 26)).alloc (.cells #[.int .i64 0, .int .i64 0, .int .i64 0, .int .i64 0, .int .i64 0, .int .i64 0, .int .i64 0, .int .i64 0] 26)).alloc (.cells #[.int .i64 own.q, .int .i64 (own.d 0), .int .i64 (own.d 1), .int .i64 (own.d 2), .int .i64 (own.d 3), .int .i64 (own.d 4), .int .i64 (own.d 5), .int .i64 (own.d 6)] 26)) w.heap.size (w.heap.size + 1) (w.heap.size + 1 + 1) own own := by
    refine ⟨⟨by go_grown, holds_past ?_ _, ?_, by omega, by omega, by omega⟩, holds_past (holds_past (holds_alloc w _ own.cells) _) _, by omega, Nat.le_refl _, by omega⟩
    · have := holds_alloc (w.alloc (.cells own.cells.toArray 26)) 26 (At.of 0).cells
      rw [World.size_alloc] at this
      exact this
    · have := holds_alloc ((w.alloc (.cells own.cells.toArray 26)).alloc (.cells (At.of 0).cells.toArray 26)) 26 own.cells
      rw [World.size_alloc, World.size_alloc] at this
      exact this
  have HD0 := Lib.hid hd0; clear hd0
  go_wp2_with fail
  generalize w.heap.size = g7 at HD0
  generalize g7 + 1 = g11 at HD0 ⊢
  generalize g11 + 1 = g12 at HD0 ⊢
  go_loopw [13, 14] (fun sm i wr => ∃ k : Nat, k ≤ len ∧ i = .int .i64 k ∧ sm = .int .i64 (sameA own R k : Nat) ∧ Dx w wr g7 g11 g12 own (joinAll (consA own R) k)) (fun _ i _ => len - (intOf i).toNat)
  case atStart => exact ⟨0, by omega, rfl, rfl, HD0.out⟩
  case round =>
    clear HD0
    obtain ⟨k, hk, rfl, rfl, hd⟩ := hrel
    have hsl := sameA_le own R k
    have HD := Lib.hid hd; clear hd
    by_cases h1 : k < len
    · obtain ⟨b, off, rfl, hlt⟩ := HV.out.spot (by omega)
      have HSM := Lib.hid (show sameA own R (k + 1) = sameA own R k + if (R k).eqB own = true then 1 else 0 from rfl)
      have HJA := Lib.hid (show joinAll (consA own R) (k + 1) = (joinAll (consA own R) k).join (R k) from rfl)
      have heq := eq_attr (R k) own
      generalize sameA own R k = sm0 at HSM hsl ⊢
      generalize joinAll (consA own R) k = A at HJA HD
      have hjn : ∀ W, Dx w W g7 g11 g12 own A → Calls Try.prog 36 #[.agg #[.int .i64 A.q, .int .i64 (A.d 0), .int .i64 (A.d 1), .int .i64 (A.d 2), .int .i64 (A.d 3), .int .i64 (A.d 4), .int .i64 (A.d 5), .int .i64 (A.d 6)], .agg #[.int .i64 (R k).q, .int .i64 ((R k).d 0), .int .i64 ((R k).d 1), .int .i64 ((R k).d 2), .int .i64 ((R k).d 3), .int .i64 ((R k).d 4), .int .i64 ((R k).d 5), .int .i64 ((R k).d 6)]] W fun e w' => e = .returned (.agg #[.int .i64 (A.join (R k)).q, .int .i64 ((A.join (R k)).d 0), .int .i64 ((A.join (R k)).d 1), .int .i64 ((A.join (R k)).d 2), .int .i64 ((A.join (R k)).d 3), .int .i64 ((A.join (R k)).d 4), .int .i64 ((A.join (R k)).d 5), .int .i64 ((A.join (R k)).d 6)]) ∧ w'.cell? ⟨g12, 0, none⟩ = some (.int .i64 A.q) ∧ w'.cell? ⟨g12, 1, none⟩ = some (.int .i64 (A.d 0)) ∧ w'.cell? ⟨g12, 2, none⟩ = some (.int .i64 (A.d 1)) ∧ w'.cell? ⟨g12, 3, none⟩ = some (.int .i64 (A.d 2)) ∧ w'.cell? ⟨g12, 4, none⟩ = some (.int .i64 (A.d 3)) ∧ w'.cell? ⟨g12, 5, none⟩ = some (.int .i64 (A.d 4)) ∧ w'.cell? ⟨g12, 6, none⟩ = some (.int .i64 (A.d 5)) ∧ w'.cell? ⟨g12, 7, none⟩ = some (.int .i64 (A.d 6)) ∧ (∀ i, w'.frozen? ⟨g12, i, none⟩ = false) ∧ Dx w w' g7 g11 g12 own A := by
        intro W h
        refine (djoin_any A (R k) W).mono ?_
        rintro e w' ⟨rfl, hb⟩
        have h2 := h.below hb
        exact ⟨rfl, h2.j.a.cell 0, h2.j.a.cell 1, h2.j.a.cell 2, h2.j.a.cell 3, h2.j.a.cell 4, h2.j.a.cell 5, h2.j.a.cell 6, h2.j.a.cell 7, fun i => h2.j.a.free i, h2⟩
      have HJN := Lib.hid hjn; clear hjn
      have a0 := HD.out.j.a.cell 0
      have a1 := HD.out.j.a.cell 1
      have a2 := HD.out.j.a.cell 2
      have a3 := HD.out.j.a.cell 3
      have a4 := HD.out.j.a.cell 4
      have a5 := HD.out.j.a.cell 5
      have a6 := HD.out.j.a.cell 6
      have a7 := HD.out.j.a.cell 7
      have c0 := HV.out.at HD.out.j.bel h1 0 (by omega)
      have c1 := HV.out.at HD.out.j.bel h1 1 (by omega)
      have c2 := HV.out.at HD.out.j.bel h1 2 (by omega)
      have c3 := HV.out.at HD.out.j.bel h1 3 (by omega)
      have c4 := HV.out.at HD.out.j.bel h1 4 (by omega)
      have c5 := HV.out.at HD.out.j.bel h1 5 (by omega)
      have c6 := HV.out.at HD.out.j.bel h1 6 (by omega)
      have c7 := HV.out.at HD.out.j.bel h1 7 (by omega)
      simp only [At.cells, List.getElem?_cons_zero, List.getElem?_cons_succ, Nat.add_zero] at a0 c0 a1 c1 a2 c2 a3 c3 a4 c4 a5 c5 a6 c6 a7 c7
      have hd1 : Dx w wr.drew g7 g11 g12 own A := HD.out.drew
      have HD1 := Lib.hid hd1; clear hd1
      go_upto_region 6 with (fail)
      go_cut [] from 22 to 35 (fun wx => Dx w wx g7 g11 g12 own (A.join (R k)))
      case first =>
        go_region_with (go_at_call 36; with_reducible refine (HJN.out _ HD1.out).mono ?_; rintro e w5 ⟨rfl, x0, x1, x2, x3, x4, x5, x6, x7, xf, hd5⟩)
        all_goals (go_wp2_with fail; go_meet)
        all_goals with_reducible exact hd5.set8 (A.join (R k))
      case rest =>
        clear HD HD1 HJN a0 a1 a2 a3 a4 a5 a6 a7 c0 c1 c2 c3 c4 c5 c6 c7
        have HD2 := Lib.hid hcut; clear hcut
        rw [← HJA.out] at HD2
        generalize (R k).eqB own = q at heq HSM
        have c0 := fun d os => HV.out.at (HD2.out.j.bel.trans ((below_regrown wc d os).mono HD2.out.j.bel.size)) h1 0 (by omega)
        have c1 := fun d os => HV.out.at (HD2.out.j.bel.trans ((below_regrown wc d os).mono HD2.out.j.bel.size)) h1 1 (by omega)
        have c2 := fun d os => HV.out.at (HD2.out.j.bel.trans ((below_regrown wc d os).mono HD2.out.j.bel.size)) h1 2 (by omega)
        have c3 := fun d os => HV.out.at (HD2.out.j.bel.trans ((below_regrown wc d os).mono HD2.out.j.bel.size)) h1 3 (by omega)
        have c4 := fun d os => HV.out.at (HD2.out.j.bel.trans ((below_regrown wc d os).mono HD2.out.j.bel.size)) h1 4 (by omega)
        have c5 := fun d os => HV.out.at (HD2.out.j.bel.trans ((below_regrown wc d os).mono HD2.out.j.bel.size)) h1 5 (by omega)
        have c6 := fun d os => HV.out.at (HD2.out.j.bel.trans ((below_regrown wc d os).mono HD2.out.j.bel.size)) h1 6 (by omega)
        have c7 := fun d os => HV.out.at (HD2.out.j.bel.trans ((below_regrown wc d os).mono HD2.out.j.bel.size)) h1 7 (by omega)
        have o0 := fun d os => HD2.out.o.grown d os 0
        have o1 := fun d os => HD2.out.o.grown d os 1
        have o2 := fun d os => HD2.out.o.grown d os 2
        have o3 := fun d os => HD2.out.o.grown d os 3
        have o4 := fun d os => HD2.out.o.grown d os 4
        have o5 := fun d os => HD2.out.o.grown d os 5
        have o6 := fun d os => HD2.out.o.grown d os 6
        have o7 := fun d os => HD2.out.o.grown d os 7
        simp only [At.cells, List.getElem?_cons_zero, List.getElem?_cons_succ, Nat.add_zero] at c0 o0 c1 o1 c2 o2 c3 o3 c4 o4 c5 o5 c6 o6 c7 o7
        go_upto_region 7 with (fail)
        refine wp_region_quiet_below (by kernel_rfl) (by kernel_rfl) ?_
        repeat go_big_quiet_step (fail)
        refine wpQuiet_nil ?_
        intro w7 hw'
        have HD3 := Lib.hid (HD2.out.below (below_of_regrown hw'))
        clear hw' HD2 c0 o0 c1 o1 c2 o2 c3 o3 c4 o4 c5 o5 c6 o6 c7 o7
        cases q
        all_goals
          go_wp2_with fail
          go_roundw
          case rel => exact ⟨k + 1, by omega, by go_num, by rw [HSM.out]; simp, HD3.out⟩
          case measure => simp [intOf]; omega
    · have hkl : k = len := by omega
      subst hkl
      have HPR := Lib.hid (show preA K first own R k late = if first = true ∧ K ≤ sameA own R k + 2 then (1, own) else if k < K / 2 ∨ (first = true ∧ late = false ∧ k < sameA own R k + 2) then (0, At.of 0) else (2, joinAll (consA own R) k) from rfl)
      rw [HPR.out] at HR
      clear HPR
      generalize sameA own R k = sm0 at HR hsl ⊢
      generalize joinAll (consA own R) k = A at HR HD
      have hc1 : (first = true ∧ K ≤ sm0 + 2) ∨ (first = true ∧ ¬ K ≤ sm0 + 2) ∨ first = false := by cases first <;> simp <;> omega
      rcases hc1 with ⟨rfl, h2⟩ | ⟨rfl, h2⟩ | rfl
      · have hs2 : (K : Int) - 1 - 1 ≤ (sm0 : Int) := by omega
        go_wp2_with fail
        refine (dfast_any K _ (by omega)).mono ?_
        rintro e w2 ⟨rfl, hb⟩
        have HD := Lib.hid (HD.out.below hb)
        clear hb
        have HJ := Lib.hid HD.out.own
        have u0 := HJ.out.z.cell 0
        have u1 := HJ.out.z.cell 1
        have u2 := HJ.out.z.cell 2
        have u3 := HJ.out.z.cell 3
        have u4 := HJ.out.z.cell 4
        have u5 := HJ.out.z.cell 5
        have u6 := HJ.out.z.cell 6
        have u7 := HJ.out.z.cell 7
        have a0 := HJ.out.a.cell 0
        have a1 := HJ.out.a.cell 1
        have a2 := HJ.out.a.cell 2
        have a3 := HJ.out.a.cell 3
        have a4 := HJ.out.a.cell 4
        have a5 := HJ.out.a.cell 5
        have a6 := HJ.out.a.cell 6
        have a7 := HJ.out.a.cell 7
        simp only [At.cells, At.of, List.getElem?_cons_zero, List.getElem?_cons_succ] at u0 u1 u2 u3 u4 u5 u6 u7 a0 a1 a2 a3 a4 a5 a6 a7
        have uf := fun i => HJ.out.z.free i
        have hne := HJ.out.ne
        have hne' := Ne.symm hne
        go_upto_region 10 with (fail)
        go_region
        go_wp2_with fail
        clear u0 u1 u2 u3 u4 u5 u6 u7 a0 a1 a2 a3 a4 a5 a6 a7 uf
        have t1 := ((((((((Touch.refl g11 w2).setCell 0 (.int .i64 own.q)).setCell 1 (.int .i64 (own.d 0))).setCell 2 (.int .i64 (own.d 1))).setCell 3 (.int .i64 (own.d 2))).setCell 4 (.int .i64 (own.d 3))).setCell 5 (.int .i64 (own.d 4))).setCell 6 (.int .i64 (own.d 5))).setCell 7 (.int .i64 (own.d 6))
        have s1 := ((((((((HJ.out.z).set 0 (.int .i64 own.q)).set 1 (.int .i64 (own.d 0))).set 2 (.int .i64 (own.d 1))).set 3 (.int .i64 (own.d 2))).set 4 (.int .i64 (own.d 3))).set 5 (.int .i64 (own.d 4))).set 6 (.int .i64 (own.d 5))).set 7 (.int .i64 (own.d 6))
        simp only [At.cells, At.of, List.set_cons_succ, List.set_cons_zero] at s1
        have b1 := HJ.out.bel.trans (t1.below HJ.out.ge HJ.out.bel.size)
        have s1 := holds_drew s1
        have b1 := b1.trans (drew_below _ _)
        generalize ((((((((w2.setCell ⟨g11, 0, none⟩ (.int .i64 own.q)).setCell ⟨g11, 1, none⟩ (.int .i64 (own.d 0))).setCell ⟨g11, 2, none⟩ (.int .i64 (own.d 1))).setCell ⟨g11, 3, none⟩ (.int .i64 (own.d 2))).setCell ⟨g11, 4, none⟩ (.int .i64 (own.d 3))).setCell ⟨g11, 5, none⟩ (.int .i64 (own.d 4))).setCell ⟨g11, 6, none⟩ (.int .i64 (own.d 5))).setCell ⟨g11, 7, none⟩ (.int .i64 (own.d 6))).drew = W3 at s1 b1 ⊢
        have y0 := s1.cell 0
        have y1 := s1.cell 1
        have y2 := s1.cell 2
        have y3 := s1.cell 3
        have y4 := s1.cell 4
        have y5 := s1.cell 5
        have y6 := s1.cell 6
        have y7 := s1.cell 7
        simp only [List.getElem?_cons_zero, List.getElem?_cons_succ] at y0 y1 y2 y3 y4 y5 y6 y7
        have hr : R0 = (1, own) := by rw [HR.out]; rw [if_pos (by first | exact ⟨rfl, by omega⟩ | exact ⟨trivial, by omega⟩ | (simp; omega))]
        rw [hr]
        exact bodyPost_ret (v := .tuple #[.int .i64 1, .agg (own).cells.toArray]) (by simp [results, Try.results18, go_sem, y0, y1, y2, y3, y4, y5, y6, y7, At.cells, At.of]) rfl ⟨rfl, b1⟩
      · have hs2 : ¬ (K : Int) - 1 - 1 ≤ (sm0 : Int) := by omega
        have H2 := Lib.hid h2; clear h2
        go_wp2_with fail
        refine (dfast_any K _ (by omega)).mono ?_
        rintro e w2 ⟨rfl, hb⟩
        have HD := Lib.hid (HD.out.below hb)
        clear hb
        go_wp2_with fail
        refine (dslow_any K _ (by omega)).mono ?_
        rintro e w3 ⟨rfl, hb⟩
        have HD := Lib.hid (HD.out.below hb)
        clear hb
        have hc2 : (¬ ((K / 2 + 1 : Nat) : Int) - 1 ≤ (k : Int) ∧ k < K / 2) ∨ (((K / 2 + 1 : Nat) : Int) - 1 ≤ (k : Int) ∧ ¬ k < K / 2) := by omega
        rcases hc2 with ⟨h3, h4⟩ | ⟨h3, h4⟩
        · have H4 := Lib.hid h4; clear h4
          have HJ := Lib.hid HD.out.own
          have u0 := HJ.out.z.cell 0
          have u1 := HJ.out.z.cell 1
          have u2 := HJ.out.z.cell 2
          have u3 := HJ.out.z.cell 3
          have u4 := HJ.out.z.cell 4
          have u5 := HJ.out.z.cell 5
          have u6 := HJ.out.z.cell 6
          have u7 := HJ.out.z.cell 7
          have a0 := HJ.out.a.cell 0
          have a1 := HJ.out.a.cell 1
          have a2 := HJ.out.a.cell 2
          have a3 := HJ.out.a.cell 3
          have a4 := HJ.out.a.cell 4
          have a5 := HJ.out.a.cell 5
          have a6 := HJ.out.a.cell 6
          have a7 := HJ.out.a.cell 7
          simp only [At.cells, At.of, List.getElem?_cons_zero, List.getElem?_cons_succ] at u0 u1 u2 u3 u4 u5 u6 u7 a0 a1 a2 a3 a4 a5 a6 a7
          have uf := fun i => HJ.out.z.free i
          have hne := HJ.out.ne
          have hne' := Ne.symm hne
          go_wp2_with fail
          clear u0 u1 u2 u3 u4 u5 u6 u7 a0 a1 a2 a3 a4 a5 a6 a7 uf
          have t1 := ((((((((Touch.refl g11 w3).setCell 0 (.int .i64 0)).setCell 1 (.int .i64 0)).setCell 2 (.int .i64 0)).setCell 3 (.int .i64 0)).setCell 4 (.int .i64 0)).setCell 5 (.int .i64 0)).setCell 6 (.int .i64 0)).setCell 7 (.int .i64 0)
          have s1 := ((((((((HJ.out.z).set 0 (.int .i64 0)).set 1 (.int .i64 0)).set 2 (.int .i64 0)).set 3 (.int .i64 0)).set 4 (.int .i64 0)).set 5 (.int .i64 0)).set 6 (.int .i64 0)).set 7 (.int .i64 0)
          simp only [At.cells, At.of, List.set_cons_succ, List.set_cons_zero] at s1
          have b1 := HJ.out.bel.trans (t1.below HJ.out.ge HJ.out.bel.size)
          generalize ((((((((w3.setCell ⟨g11, 0, none⟩ (.int .i64 0)).setCell ⟨g11, 1, none⟩ (.int .i64 0)).setCell ⟨g11, 2, none⟩ (.int .i64 0)).setCell ⟨g11, 3, none⟩ (.int .i64 0)).setCell ⟨g11, 4, none⟩ (.int .i64 0)).setCell ⟨g11, 5, none⟩ (.int .i64 0)).setCell ⟨g11, 6, none⟩ (.int .i64 0)).setCell ⟨g11, 7, none⟩ (.int .i64 0)) = W3 at s1 b1 ⊢
          have y0 := s1.cell 0
          have y1 := s1.cell 1
          have y2 := s1.cell 2
          have y3 := s1.cell 3
          have y4 := s1.cell 4
          have y5 := s1.cell 5
          have y6 := s1.cell 6
          have y7 := s1.cell 7
          simp only [List.getElem?_cons_zero, List.getElem?_cons_succ] at y0 y1 y2 y3 y4 y5 y6 y7
          have hr : R0 = (0, (At.of 0)) := by rw [HR.out]; rw [if_neg (fun h => H2.out h.2), if_pos (.inl H4.out)]
          rw [hr]
          exact bodyPost_ret (v := .tuple #[.int .i64 0, .agg ((At.of 0)).cells.toArray]) (by simp [results, Try.results18, go_sem, y0, y1, y2, y3, y4, y5, y6, y7, At.cells, At.of]) rfl ⟨rfl, b1⟩
        · have H4 := Lib.hid h4; clear h4
          cases late
          · by_cases h5 : k < sm0 + 2
            · have h6 : ¬ 2 ≤ (k : Int) - (sm0 : Int) := by omega
              have HJ := Lib.hid HD.out.own
              have u0 := HJ.out.z.cell 0
              have u1 := HJ.out.z.cell 1
              have u2 := HJ.out.z.cell 2
              have u3 := HJ.out.z.cell 3
              have u4 := HJ.out.z.cell 4
              have u5 := HJ.out.z.cell 5
              have u6 := HJ.out.z.cell 6
              have u7 := HJ.out.z.cell 7
              have a0 := HJ.out.a.cell 0
              have a1 := HJ.out.a.cell 1
              have a2 := HJ.out.a.cell 2
              have a3 := HJ.out.a.cell 3
              have a4 := HJ.out.a.cell 4
              have a5 := HJ.out.a.cell 5
              have a6 := HJ.out.a.cell 6
              have a7 := HJ.out.a.cell 7
              simp only [At.cells, At.of, List.getElem?_cons_zero, List.getElem?_cons_succ] at u0 u1 u2 u3 u4 u5 u6 u7 a0 a1 a2 a3 a4 a5 a6 a7
              have uf := fun i => HJ.out.z.free i
              have hne := HJ.out.ne
              have hne' := Ne.symm hne
              go_wp2_with fail
              clear u0 u1 u2 u3 u4 u5 u6 u7 a0 a1 a2 a3 a4 a5 a6 a7 uf
              have t1 := ((((((((Touch.refl g11 w3).setCell 0 (.int .i64 0)).setCell 1 (.int .i64 0)).setCell 2 (.int .i64 0)).setCell 3 (.int .i64 0)).setCell 4 (.int .i64 0)).setCell 5 (.int .i64 0)).setCell 6 (.int .i64 0)).setCell 7 (.int .i64 0)
              have s1 := ((((((((HJ.out.z).set 0 (.int .i64 0)).set 1 (.int .i64 0)).set 2 (.int .i64 0)).set 3 (.int .i64 0)).set 4 (.int .i64 0)).set 5 (.int .i64 0)).set 6 (.int .i64 0)).set 7 (.int .i64 0)
              simp only [At.cells, At.of, List.set_cons_succ, List.set_cons_zero] at s1
              have b1 := HJ.out.bel.trans (t1.below HJ.out.ge HJ.out.bel.size)
              generalize ((((((((w3.setCell ⟨g11, 0, none⟩ (.int .i64 0)).setCell ⟨g11, 1, none⟩ (.int .i64 0)).setCell ⟨g11, 2, none⟩ (.int .i64 0)).setCell ⟨g11, 3, none⟩ (.int .i64 0)).setCell ⟨g11, 4, none⟩ (.int .i64 0)).setCell ⟨g11, 5, none⟩ (.int .i64 0)).setCell ⟨g11, 6, none⟩ (.int .i64 0)).setCell ⟨g11, 7, none⟩ (.int .i64 0)) = W3 at s1 b1 ⊢
              have y0 := s1.cell 0
              have y1 := s1.cell 1
              have y2 := s1.cell 2
              have y3 := s1.cell 3
              have y4 := s1.cell 4
              have y5 := s1.cell 5
              have y6 := s1.cell 6
              have y7 := s1.cell 7
              simp only [List.getElem?_cons_zero, List.getElem?_cons_succ] at y0 y1 y2 y3 y4 y5 y6 y7
              have hr : R0 = (0, (At.of 0)) := by rw [HR.out]; rw [if_neg (fun h => H2.out h.2), if_pos (.inr (by first | exact ⟨rfl, rfl, by omega⟩ | (simp; omega)))]
              rw [hr]
              exact bodyPost_ret (v := .tuple #[.int .i64 0, .agg ((At.of 0)).cells.toArray]) (by simp [results, Try.results18, go_sem, y0, y1, y2, y3, y4, y5, y6, y7, At.cells, At.of]) rfl ⟨rfl, b1⟩
            · have h6 : 2 ≤ (k : Int) - (sm0 : Int) := by omega
              have HJ := Lib.hid HD.out.j
              have u0 := HJ.out.z.cell 0
              have u1 := HJ.out.z.cell 1
              have u2 := HJ.out.z.cell 2
              have u3 := HJ.out.z.cell 3
              have u4 := HJ.out.z.cell 4
              have u5 := HJ.out.z.cell 5
              have u6 := HJ.out.z.cell 6
              have u7 := HJ.out.z.cell 7
              have a0 := HJ.out.a.cell 0
              have a1 := HJ.out.a.cell 1
              have a2 := HJ.out.a.cell 2
              have a3 := HJ.out.a.cell 3
              have a4 := HJ.out.a.cell 4
              have a5 := HJ.out.a.cell 5
              have a6 := HJ.out.a.cell 6
              have a7 := HJ.out.a.cell 7
              simp only [At.cells, At.of, List.getElem?_cons_zero, List.getElem?_cons_succ] at u0 u1 u2 u3 u4 u5 u6 u7 a0 a1 a2 a3 a4 a5 a6 a7
              have uf := fun i => HJ.out.z.free i
              have hne := HJ.out.ne
              have hne' := Ne.symm hne
              go_upto_region 12 with (fail)
              go_region
              go_wp2_with fail
              clear u0 u1 u2 u3 u4 u5 u6 u7 a0 a1 a2 a3 a4 a5 a6 a7 uf
              have t1 := ((((((((Touch.refl g11 w3).setCell 0 (.int .i64 A.q)).setCell 1 (.int .i64 (A.d 0))).setCell 2 (.int .i64 (A.d 1))).setCell 3 (.int .i64 (A.d 2))).setCell 4 (.int .i64 (A.d 3))).setCell 5 (.int .i64 (A.d 4))).setCell 6 (.int .i64 (A.d 5))).setCell 7 (.int .i64 (A.d 6))
              have s1 := ((((((((HJ.out.z).set 0 (.int .i64 A.q)).set 1 (.int .i64 (A.d 0))).set 2 (.int .i64 (A.d 1))).set 3 (.int .i64 (A.d 2))).set 4 (.int .i64 (A.d 3))).set 5 (.int .i64 (A.d 4))).set 6 (.int .i64 (A.d 5))).set 7 (.int .i64 (A.d 6))
              simp only [At.cells, At.of, List.set_cons_succ, List.set_cons_zero] at s1
              have b1 := HJ.out.bel.trans (t1.below HJ.out.ge HJ.out.bel.size)
              have s1 := holds_drew s1
              have b1 := b1.trans (drew_below _ _)
              generalize ((((((((w3.setCell ⟨g11, 0, none⟩ (.int .i64 A.q)).setCell ⟨g11, 1, none⟩ (.int .i64 (A.d 0))).setCell ⟨g11, 2, none⟩ (.int .i64 (A.d 1))).setCell ⟨g11, 3, none⟩ (.int .i64 (A.d 2))).setCell ⟨g11, 4, none⟩ (.int .i64 (A.d 3))).setCell ⟨g11, 5, none⟩ (.int .i64 (A.d 4))).setCell ⟨g11, 6, none⟩ (.int .i64 (A.d 5))).setCell ⟨g11, 7, none⟩ (.int .i64 (A.d 6))).drew = W3 at s1 b1 ⊢
              have y0 := s1.cell 0
              have y1 := s1.cell 1
              have y2 := s1.cell 2
              have y3 := s1.cell 3
              have y4 := s1.cell 4
              have y5 := s1.cell 5
              have y6 := s1.cell 6
              have y7 := s1.cell 7
              simp only [List.getElem?_cons_zero, List.getElem?_cons_succ] at y0 y1 y2 y3 y4 y5 y6 y7
              have hr : R0 = (2, A) := by rw [HR.out]; rw [if_neg (fun h => H2.out h.2), if_neg (fun h => h.elim H4.out (fun h => by omega))]
              rw [hr]
              exact bodyPost_ret (v := .tuple #[.int .i64 2, .agg (A).cells.toArray]) (by simp [results, Try.results18, go_sem, y0, y1, y2, y3, y4, y5, y6, y7, At.cells, At.of]) rfl ⟨rfl, b1⟩
          · 
            have HJ := Lib.hid HD.out.j
            have u0 := HJ.out.z.cell 0
            have u1 := HJ.out.z.cell 1
            have u2 := HJ.out.z.cell 2
            have u3 := HJ.out.z.cell 3
            have u4 := HJ.out.z.cell 4
            have u5 := HJ.out.z.cell 5
            have u6 := HJ.out.z.cell 6
            have u7 := HJ.out.z.cell 7
            have a0 := HJ.out.a.cell 0
            have a1 := HJ.out.a.cell 1
            have a2 := HJ.out.a.cell 2
            have a3 := HJ.out.a.cell 3
            have a4 := HJ.out.a.cell 4
            have a5 := HJ.out.a.cell 5
            have a6 := HJ.out.a.cell 6
            have a7 := HJ.out.a.cell 7
            simp only [At.cells, At.of, List.getElem?_cons_zero, List.getElem?_cons_succ] at u0 u1 u2 u3 u4 u5 u6 u7 a0 a1 a2 a3 a4 a5 a6 a7
            have uf := fun i => HJ.out.z.free i
            have hne := HJ.out.ne
            have hne' := Ne.symm hne
            go_upto_region 12 with (fail)
            go_region
            go_wp2_with fail
            clear u0 u1 u2 u3 u4 u5 u6 u7 a0 a1 a2 a3 a4 a5 a6 a7 uf
            have t1 := ((((((((Touch.refl g11 w3).setCell 0 (.int .i64 A.q)).setCell 1 (.int .i64 (A.d 0))).setCell 2 (.int .i64 (A.d 1))).setCell 3 (.int .i64 (A.d 2))).setCell 4 (.int .i64 (A.d 3))).setCell 5 (.int .i64 (A.d 4))).setCell 6 (.int .i64 (A.d 5))).setCell 7 (.int .i64 (A.d 6))
            have s1 := ((((((((HJ.out.z).set 0 (.int .i64 A.q)).set 1 (.int .i64 (A.d 0))).set 2 (.int .i64 (A.d 1))).set 3 (.int .i64 (A.d 2))).set 4 (.int .i64 (A.d 3))).set 5 (.int .i64 (A.d 4))).set 6 (.int .i64 (A.d 5))).set 7 (.int .i64 (A.d 6))
            simp only [At.cells, At.of, List.set_cons_succ, List.set_cons_zero] at s1
            have b1 := HJ.out.bel.trans (t1.below HJ.out.ge HJ.out.bel.size)
            have s1 := holds_drew s1
            have b1 := b1.trans (drew_below _ _)
            generalize ((((((((w3.setCell ⟨g11, 0, none⟩ (.int .i64 A.q)).setCell ⟨g11, 1, none⟩ (.int .i64 (A.d 0))).setCell ⟨g11, 2, none⟩ (.int .i64 (A.d 1))).setCell ⟨g11, 3, none⟩ (.int .i64 (A.d 2))).setCell ⟨g11, 4, none⟩ (.int .i64 (A.d 3))).setCell ⟨g11, 5, none⟩ (.int .i64 (A.d 4))).setCell ⟨g11, 6, none⟩ (.int .i64 (A.d 5))).setCell ⟨g11, 7, none⟩ (.int .i64 (A.d 6))).drew = W3 at s1 b1 ⊢
            have y0 := s1.cell 0
            have y1 := s1.cell 1
            have y2 := s1.cell 2
            have y3 := s1.cell 3
            have y4 := s1.cell 4
            have y5 := s1.cell 5
            have y6 := s1.cell 6
            have y7 := s1.cell 7
            simp only [List.getElem?_cons_zero, List.getElem?_cons_succ] at y0 y1 y2 y3 y4 y5 y6 y7
            have hr : R0 = (2, A) := by rw [HR.out]; rw [if_neg (fun h => H2.out h.2), if_neg (fun h => h.elim H4.out (fun h => by simp at h))]
            rw [hr]
            exact bodyPost_ret (v := .tuple #[.int .i64 2, .agg (A).cells.toArray]) (by simp [results, Try.results18, go_sem, y0, y1, y2, y3, y4, y5, y6, y7, At.cells, At.of]) rfl ⟨rfl, b1⟩
      · 
        go_wp2_with fail
        refine (dslow_any K _ (by omega)).mono ?_
        rintro e w3 ⟨rfl, hb⟩
        have HD := Lib.hid (HD.out.below hb)
        clear hb
        have hc2 : (¬ ((K / 2 + 1 : Nat) : Int) - 1 ≤ (k : Int) ∧ k < K / 2) ∨ (((K / 2 + 1 : Nat) : Int) - 1 ≤ (k : Int) ∧ ¬ k < K / 2) := by omega
        rcases hc2 with ⟨h3, h4⟩ | ⟨h3, h4⟩
        · have H4 := Lib.hid h4; clear h4
          have HJ := Lib.hid HD.out.own
          have u0 := HJ.out.z.cell 0
          have u1 := HJ.out.z.cell 1
          have u2 := HJ.out.z.cell 2
          have u3 := HJ.out.z.cell 3
          have u4 := HJ.out.z.cell 4
          have u5 := HJ.out.z.cell 5
          have u6 := HJ.out.z.cell 6
          have u7 := HJ.out.z.cell 7
          have a0 := HJ.out.a.cell 0
          have a1 := HJ.out.a.cell 1
          have a2 := HJ.out.a.cell 2
          have a3 := HJ.out.a.cell 3
          have a4 := HJ.out.a.cell 4
          have a5 := HJ.out.a.cell 5
          have a6 := HJ.out.a.cell 6
          have a7 := HJ.out.a.cell 7
          simp only [At.cells, At.of, List.getElem?_cons_zero, List.getElem?_cons_succ] at u0 u1 u2 u3 u4 u5 u6 u7 a0 a1 a2 a3 a4 a5 a6 a7
          have uf := fun i => HJ.out.z.free i
          have hne := HJ.out.ne
          have hne' := Ne.symm hne
          go_wp2_with fail
          clear u0 u1 u2 u3 u4 u5 u6 u7 a0 a1 a2 a3 a4 a5 a6 a7 uf
          have t1 := ((((((((Touch.refl g11 w3).setCell 0 (.int .i64 0)).setCell 1 (.int .i64 0)).setCell 2 (.int .i64 0)).setCell 3 (.int .i64 0)).setCell 4 (.int .i64 0)).setCell 5 (.int .i64 0)).setCell 6 (.int .i64 0)).setCell 7 (.int .i64 0)
          have s1 := ((((((((HJ.out.z).set 0 (.int .i64 0)).set 1 (.int .i64 0)).set 2 (.int .i64 0)).set 3 (.int .i64 0)).set 4 (.int .i64 0)).set 5 (.int .i64 0)).set 6 (.int .i64 0)).set 7 (.int .i64 0)
          simp only [At.cells, At.of, List.set_cons_succ, List.set_cons_zero] at s1
          have b1 := HJ.out.bel.trans (t1.below HJ.out.ge HJ.out.bel.size)
          generalize ((((((((w3.setCell ⟨g11, 0, none⟩ (.int .i64 0)).setCell ⟨g11, 1, none⟩ (.int .i64 0)).setCell ⟨g11, 2, none⟩ (.int .i64 0)).setCell ⟨g11, 3, none⟩ (.int .i64 0)).setCell ⟨g11, 4, none⟩ (.int .i64 0)).setCell ⟨g11, 5, none⟩ (.int .i64 0)).setCell ⟨g11, 6, none⟩ (.int .i64 0)).setCell ⟨g11, 7, none⟩ (.int .i64 0)) = W3 at s1 b1 ⊢
          have y0 := s1.cell 0
          have y1 := s1.cell 1
          have y2 := s1.cell 2
          have y3 := s1.cell 3
          have y4 := s1.cell 4
          have y5 := s1.cell 5
          have y6 := s1.cell 6
          have y7 := s1.cell 7
          simp only [List.getElem?_cons_zero, List.getElem?_cons_succ] at y0 y1 y2 y3 y4 y5 y6 y7
          have hr : R0 = (0, (At.of 0)) := by rw [HR.out]; rw [if_neg (fun h => by simp at h), if_pos (.inl H4.out)]
          rw [hr]
          exact bodyPost_ret (v := .tuple #[.int .i64 0, .agg ((At.of 0)).cells.toArray]) (by simp [results, Try.results18, go_sem, y0, y1, y2, y3, y4, y5, y6, y7, At.cells, At.of]) rfl ⟨rfl, b1⟩
        · have H4 := Lib.hid h4; clear h4
          have HJ := Lib.hid HD.out.j
          have u0 := HJ.out.z.cell 0
          have u1 := HJ.out.z.cell 1
          have u2 := HJ.out.z.cell 2
          have u3 := HJ.out.z.cell 3
          have u4 := HJ.out.z.cell 4
          have u5 := HJ.out.z.cell 5
          have u6 := HJ.out.z.cell 6
          have u7 := HJ.out.z.cell 7
          have a0 := HJ.out.a.cell 0
          have a1 := HJ.out.a.cell 1
          have a2 := HJ.out.a.cell 2
          have a3 := HJ.out.a.cell 3
          have a4 := HJ.out.a.cell 4
          have a5 := HJ.out.a.cell 5
          have a6 := HJ.out.a.cell 6
          have a7 := HJ.out.a.cell 7
          simp only [At.cells, At.of, List.getElem?_cons_zero, List.getElem?_cons_succ] at u0 u1 u2 u3 u4 u5 u6 u7 a0 a1 a2 a3 a4 a5 a6 a7
          have uf := fun i => HJ.out.z.free i
          have hne := HJ.out.ne
          have hne' := Ne.symm hne
          go_upto_region 12 with (fail)
          go_region
          go_wp2_with fail
          clear u0 u1 u2 u3 u4 u5 u6 u7 a0 a1 a2 a3 a4 a5 a6 a7 uf
          have t1 := ((((((((Touch.refl g11 w3).setCell 0 (.int .i64 A.q)).setCell 1 (.int .i64 (A.d 0))).setCell 2 (.int .i64 (A.d 1))).setCell 3 (.int .i64 (A.d 2))).setCell 4 (.int .i64 (A.d 3))).setCell 5 (.int .i64 (A.d 4))).setCell 6 (.int .i64 (A.d 5))).setCell 7 (.int .i64 (A.d 6))
          have s1 := ((((((((HJ.out.z).set 0 (.int .i64 A.q)).set 1 (.int .i64 (A.d 0))).set 2 (.int .i64 (A.d 1))).set 3 (.int .i64 (A.d 2))).set 4 (.int .i64 (A.d 3))).set 5 (.int .i64 (A.d 4))).set 6 (.int .i64 (A.d 5))).set 7 (.int .i64 (A.d 6))
          simp only [At.cells, At.of, List.set_cons_succ, List.set_cons_zero] at s1
          have b1 := HJ.out.bel.trans (t1.below HJ.out.ge HJ.out.bel.size)
          have s1 := holds_drew s1
          have b1 := b1.trans (drew_below _ _)
          generalize ((((((((w3.setCell ⟨g11, 0, none⟩ (.int .i64 A.q)).setCell ⟨g11, 1, none⟩ (.int .i64 (A.d 0))).setCell ⟨g11, 2, none⟩ (.int .i64 (A.d 1))).setCell ⟨g11, 3, none⟩ (.int .i64 (A.d 2))).setCell ⟨g11, 4, none⟩ (.int .i64 (A.d 3))).setCell ⟨g11, 5, none⟩ (.int .i64 (A.d 4))).setCell ⟨g11, 6, none⟩ (.int .i64 (A.d 5))).setCell ⟨g11, 7, none⟩ (.int .i64 (A.d 6))).drew = W3 at s1 b1 ⊢
          have y0 := s1.cell 0
          have y1 := s1.cell 1
          have y2 := s1.cell 2
          have y3 := s1.cell 3
          have y4 := s1.cell 4
          have y5 := s1.cell 5
          have y6 := s1.cell 6
          have y7 := s1.cell 7
          simp only [List.getElem?_cons_zero, List.getElem?_cons_succ] at y0 y1 y2 y3 y4 y5 y6 y7
          have hr : R0 = (2, A) := by rw [HR.out]; rw [if_neg (fun h => by simp at h), if_neg (fun h => h.elim H4.out (fun h => by simp at h))]
          rw [hr]
          exact bodyPost_ret (v := .tuple #[.int .i64 2, .agg (A).cells.toArray]) (by simp [results, Try.results18, go_sem, y0, y1, y2, y3, y4, y5, y6, y7, At.cells, At.of]) rfl ⟨rfl, b1⟩
end Go.Proofs.Ytmpefdepcbfcdaa
