/-
  The walk of the document's Note.
-/
import Derived.Test.YtleagecocffihaaIfDocL
import Derived.Test.YtleagecocffihaaOrdersL
import Derived.Test.YtleagecocffihaaGrowL
import Derived.Deep.RegionHeld3
namespace Go.Proofs.Ytleagecocffihaa
open Go.RowKit Go.Maps
set_option linter.unusedVariables false
set_option linter.unusedSimpArgs false

theorem doc_cut (v1 v2 v3 : Value) (d : Nat → Int) (k : Nat) (hk : k < 7) : (v1 :: v2 :: v3 :: cutL d)[3 + k]? = some (.int .i64 (d k)) := by
  have : k = 0 ∨ k = 1 ∨ k = 2 ∨ k = 3 ∨ k = 4 ∨ k = 5 ∨ k = 6 := by omega
  rcases this with rfl | rfl | rfl | rfl | rfl | rfl | rfl <;> rfl
theorem eql_inst (r s r' s' : Int) (w : World) : (binOp .eql 26 (.agg #[.int .i64 r, .int .i64 s]) (.agg #[.int .i64 r', .int .i64 s'])).run Try.prog w = .ok (.bool (r == r' && s == s')) w := by
  by_cases h1 : r = r' <;> by_cases h2 : s = s' <;> go_simp <;> simp [h1, h2]
set_option maxRecDepth 8000 in
set_option maxHeartbeats 40000000 in
theorem dnote_any (B gd : Nat) (p1 : Option Addr) (c1 : Nat) (p2 : Option Addr) (c2 : Nat) (p3 : Option Addr) (c3 : Nat) (l : List Ent) (d : Nat → Int) (r s : Int) (x : Cm) (q : Int) (w : World) (h : DocAt w B gd p1 c1 p2 c2 p3 c3 l d) (hap : KeysApart l) (hlen : l.length ≤ 1000) :
    Calls Try.prog 19 #[.pointer (some ⟨gd, 0, none⟩), .agg #[.int .i64 r, .int .i64 s], .agg #[.int .i64 x.k, .int .i64 x.c, .int .i64 x.s, .string x.a, .string x.b, .string x.o, .string x.v], .int .i64 q] w fun e w' =>
      e = .returned (.bool (noteB d r s x q)) ∧ (∃ p1' c1' p2' c2' p3' c3', DocAt w' B gd p1' c1' p2' c2' p3' c3' (if noteB d r s x q then putE l ⟨r, s, x, q⟩ else l) d) ∧ Keep B gd w w' := by
  obtain ⟨N, hN0⟩ : ∃ N, N = noteB d r s x q := ⟨_, rfl⟩
  rw [← hN0]
  have K1 := Lib.hid (fun W => dright_inst r s W)
  have K2 := Lib.hid (fun W => dright_cmd x.k x.c x.s x.a x.b x.o x.v W)
  generalize hz : rightA x.k x.c x.s x.a x.b x.o x.v = z at K2
  have hcase : (rightI r s = false ∧ N = false) ∨ (rightI r s = true ∧ s ≤ d r.toNat ∧ N = false) ∨ (rightI r s = true ∧ ¬ s ≤ d r.toNat ∧ z = false ∧ N = false) ∨ (rightI r s = true ∧ ¬ s ≤ d r.toNat ∧ z = true ∧ q < 0 ∧ N = false) ∨
      (rightI r s = true ∧ ¬ s ≤ d r.toNat ∧ z = true ∧ ¬ q < 0 ∧ 1099511627776 < q ∧ N = false) ∨ (rightI r s = true ∧ ¬ s ≤ d r.toNat ∧ z = true ∧ ¬ q < 0 ∧ ¬ 1099511627776 < q ∧ N = true) := by
    rw [hN0, noteB, hz]
    cases rightI r s
    · simp
    by_cases h1 : s ≤ d r.toNat
    · rw [show decide (d r.toNat < s) = false from by simp; omega]
      simp [h1]
    · rw [show decide (d r.toNat < s) = true from by simp; omega]
      cases z
      · simp [h1]
      by_cases h2 : q < 0
      · exact .inr (.inr (.inr (.inl ⟨rfl, h1, rfl, h2, by simp; omega⟩)))
      by_cases h3 : 1099511627776 < q
      · exact .inr (.inr (.inr (.inr (.inl ⟨rfl, h1, rfl, h2, h3, by simp; omega⟩))))
      · exact .inr (.inr (.inr (.inr (.inr ⟨rfl, h1, rfl, h2, h3, by simp; omega⟩))))
  clear hN0 hz
  have HD := Lib.hid h; clear h
  have HAP := Lib.hid hap; clear hap
  go_enter Try.func19, Try.ntmps19
  go_upto_region 1 with (fail)
  go_name_world W hW
  have hX : Holds W w.heap.size 26 [.int .i64 r, .int .i64 s] := by rw [← hW]; exact holds_past (holds_alloc w _ _) _
  have hC : Holds W (w.heap.size + 1) 29 [.int .i64 x.k, .int .i64 x.c, .int .i64 x.s, .string x.a, .string x.b, .string x.o, .string x.v] := by
    rw [← hW]
    have := holds_alloc (w.alloc (.cells #[.int .i64 r, .int .i64 s] 26)) 29 [.int .i64 x.k, .int .i64 x.c, .int .i64 x.s, .string x.a, .string x.b, .string x.o, .string x.v]
    rw [World.size_alloc] at this
    exact this
  have hbw : Below w.heap.size w W := by rw [← hW]; go_grown
  clear hW
  have HLO := Lib.hid (show gd < B ∧ B ≤ w.heap.size ∧ w.heap.size < w.heap.size + 1 from ⟨HD.out.lt, HD.out.le, by omega⟩)
  have HNE0 := Lib.hid (show ∀ k, (Value.slice p1 l.length c1).ownBlock = some k → B ≤ k ∧ k < w.heap.size from HD.out.o1.lt)
  have HNE1 := Lib.hid (show ∀ k, (Value.slice p2 l.length c2).ownBlock = some k → B ≤ k ∧ k < w.heap.size from HD.out.o2.lt)
  have HNE2 := Lib.hid (show ∀ k, (Value.slice p3 l.length c3).ownBlock = some k → B ≤ k ∧ k < w.heap.size from HD.out.o3.lt)
  have HD := Lib.hid (HD.out.below hbw)
  have HKP := Lib.hid ((Keep.refl B gd w).then (hbw.mono HLO.out.2.1))
  have HX := Lib.hid hX
  have HC := Lib.hid hC
  have i0 := fun d os => hX.grown d os 0
  have i1 := fun d os => hX.grown d os 1
  have x0 := fun d os => hC.grown d os 0
  have x1 := fun d os => hC.grown d os 1
  have x2 := fun d os => hC.grown d os 2
  have x3 := fun d os => hC.grown d os 3
  have x4 := fun d os => hC.grown d os 4
  have x5 := fun d os => hC.grown d os 5
  have x6 := fun d os => hC.grown d os 6
  simp only [List.getElem?_cons_zero, List.getElem?_cons_succ] at i0 i1 x0 x1 x2 x3 x4 x5 x6
  clear hX hC hbw
  generalize w.heap.size + 1 = gc at HC HLO x0 x1 x2 x3 x4 x5 x6 ⊢
  generalize hgi : w.heap.size = gi at HX HLO HNE0 HNE1 HNE2 i0 i1 ⊢
  clear hgi
  by_cases he1 : rightI r s = false
  · have hB : N = false := by
      rcases hcase with ⟨_, e⟩ | ⟨e1, _⟩ | ⟨e1, _⟩ | ⟨e1, _⟩ | ⟨e1, _⟩ | ⟨e1, _⟩
      · exact e
      all_goals rw [he1] at e1; cases e1
    clear hcase
    subst hB
    rw [he1] at K1
    refine wp_region_quiet_below (by as_aux_lemma => kernel_rfl) (by as_aux_lemma => kernel_rfl) ?_
    repeat go_big_quiet_step (first
      | (go_at_call 27; with_reducible exact calls_regrown fun W _ => K1.out W))
    refine wpQuiet_nil ?_
    intro w2 hw'
    have hb2 := below_of_regrown hw'
    have HKP := Lib.hid (HKP.out.then (hb2.mono HD.out.le))
    have HD := Lib.hid (HD.out.below hb2)
    clear hw' hb2 i0 i1 x0 x1 x2 x3 x4 x5 x6
    go_wp2_with fail
    go_ret
    exact ⟨rfl, ⟨_, _, _, _, _, _, HD.out⟩, HKP.out⟩
  have he1 : rightI r s = true := by revert he1; cases rightI r s <;> simp
  rw [he1] at K1 hcase
  simp only [Bool.true_eq_false, false_and, false_or, true_and] at hcase
  have hr7 : 0 ≤ r ∧ r < 7 ∧ 1 ≤ s ∧ s ≤ 1073741824 := by
    rcases rightI_cases r s with ⟨_, e⟩ | ⟨_, _, e⟩ | ⟨_, _, _, e⟩ | ⟨_, _, _, _, e⟩ | ⟨h1, h2, h3, h4, _⟩
    · rw [he1] at e; cases e
    · rw [he1] at e; cases e
    · rw [he1] at e; cases e
    · rw [he1] at e; cases e
    · exact ⟨h1, h2, h3, h4⟩
  clear he1
  obtain ⟨h1, h2, h3, h4⟩ := hr7
  obtain ⟨k, rfl⟩ : ∃ k : Nat, r = k := ⟨r.toNat, by omega⟩
  have hk7 : k < 7 := by omega
  rw [Int.toNat_natCast] at hcase
  have hcut := fun dd os => HD.out.box.grown dd os (3 + k)
  rw [doc_cut _ _ _ _ _ hk7] at hcut
  generalize d k = dk at hcase hcut
  have hms : ¬ (1073741824 < s) := by omega
  rcases hcase with ⟨e2, rfl⟩ | ⟨e2, rfl, rfl⟩ | ⟨e2, rfl, e3, rfl⟩ | ⟨e2, rfl, e3, e4, rfl⟩ | ⟨e2, rfl, e3, e4, rfl⟩
  all_goals
    refine wp_region_quiet_below (by as_aux_lemma => kernel_rfl) (by as_aux_lemma => kernel_rfl) ?_
    repeat go_big_quiet_step (first
      | (go_at_call 27; with_reducible exact calls_regrown fun W _ => K1.out W)
      | (go_at_call 28; with_reducible exact calls_regrown fun W _ => K2.out W))
    refine wpQuiet_nil ?_
    intro w2 hw'
    have hb2 := below_of_regrown hw'
    have HKP := Lib.hid (HKP.out.then (hb2.mono HD.out.le))
    have HD := Lib.hid (HD.out.below hb2)
    clear hcut
  · clear hw' hb2 i0 i1 x0 x1 x2 x3 x4 x5 x6
    go_wp2_with fail
    go_ret
    exact ⟨rfl, ⟨_, _, _, _, _, _, HD.out⟩, HKP.out⟩
  · clear hw' hb2 i0 i1 x0 x1 x2 x3 x4 x5 x6
    go_wp2_with fail
    go_ret
    exact ⟨rfl, ⟨_, _, _, _, _, _, HD.out⟩, HKP.out⟩
  · clear hw' hb2 i0 i1 x0 x1 x2 x3 x4 x5 x6
    go_wp2_with fail
    go_ret
    exact ⟨rfl, ⟨_, _, _, _, _, _, HD.out⟩, HKP.out⟩
  · clear hw' hb2 i0 i1 x0 x1 x2 x3 x4 x5 x6
    go_wp2_with fail
    go_ret
    exact ⟨rfl, ⟨_, _, _, _, _, _, HD.out⟩, HKP.out⟩
  have HX := Lib.hid (HX.out.bel hb2); have HC := Lib.hid (HC.out.bel hb2)
  clear hw' hb2 i0 i1 x0 x1 x2 x3 x4 x5 x6 e2 e3 e4 hms h1 h2 h3 h4 K1 K2
  go_wp2_with fail
  go_loopw [9] (fun vk wr => ∃ j : Nat, j ≤ l.length ∧ vk = .int .i64 j ∧ (∀ i, i < j → ¬ ((entAt l i).r = (k : Int) ∧ (entAt l i).s = s)) ∧ Below w2.heap.size w2 wr) (fun vk _ => l.length - (intOf vk).toNat)
  case atStart => exact ⟨0, by omega, rfl, fun i hi => absurd hi (Nat.not_lt_zero i), Below.refl _ _⟩
  case round =>
    obtain ⟨j, hj, rfl, hnew, hb⟩ := hrel
    have HKP := Lib.hid (HKP.out.then (hb.mono HD.out.le))
    have HD := Lib.hid (HD.out.below hb); have HX := Lib.hid (HX.out.bel hb); have HC := Lib.hid (HC.out.bel hb); have HB2 := Lib.hid hb
    have HNEW := Lib.hid hnew
    clear hb hnew
    have g0 := HD.out.box.cell 0
    simp only [List.getElem?_cons_zero] at g0
    by_cases hjn : j < l.length
    · have HR1 := Lib.hid (own_isrows HD.out.o1 (fun _ => rfl) (by unfold maxLen; omega))
      obtain ⟨pa, poff, hp, hplt⟩ := HR1.out.spot (by omega)
      subst hp
      have hcc := (own_shape HD.out.o1)
      have hcm : l.length ≤ c1 ∧ c1 ≤ maxLen := by
        obtain ⟨p', c', hv, h1, h2⟩ := hcc
        injection hv with _ _ h3
        rw [h3]; exact ⟨h1, h2⟩
      clear hcc
      unfold maxLen at hcm
      obtain ⟨hcm1, hcm2⟩ := hcm
      have j0 := fun d os => HR1.out.grown d os hjn 0 (by omega)
      have j1 := fun d os => HR1.out.grown d os hjn 1 (by omega)
      have i0 := fun d os => HX.out.grown d os 0
      have i1 := fun d os => HX.out.grown d os 1
      have gg0 := fun d os => HD.out.box.grown d os 0
      simp only [VI, List.getElem?_cons_zero, List.getElem?_cons_succ, Nat.add_zero] at j0 j1 i0 i1 gg0
      have heq := eql_inst (entAt l j).r (entAt l j).s k s
      obtain ⟨M, hM⟩ : ∃ M, M = ((entAt l j).r == (k : Int) && (entAt l j).s == s) := ⟨_, rfl⟩
      rw [← hM] at heq
      have HMM := Lib.hid hM
      generalize (entAt l j).r = er at j0 heq
      generalize (entAt l j).s = es at j1 heq
      clear hM
      cases M
      · go_upto_region 6 with (fail)
        refine wp_region_quiet_below (by as_aux_lemma => kernel_rfl) (by as_aux_lemma => kernel_rfl) ?_
        repeat go_big_quiet_step (fail)
        refine wpQuiet_nil ?_
        intro w5 hw'
        have HB2 := Lib.hid (below_next HB2.out (below_of_regrown hw'))
        clear hw' j0 j1 i0 i1 gg0 g0 heq
        go_wp2_with fail
        go_roundw
        case rel =>
          refine ⟨j + 1, by omega, by go_num, fun i hi => ?_, HB2.out⟩
          by_cases hij : i = j
          · subst hij
            intro hc
            have := HMM.out
            simp [hc.1, hc.2] at this
          · exact HNEW.out i (by omega)
        case measure => simp [intOf]; omega
      · have hke : (entAt l j).r = (k : Int) ∧ (entAt l j).s = s := by
          have := HMM.out
          simp only [eq_comm (a := true), Bool.and_eq_true, beq_iff_eq] at this
          exact this
        have HKE := Lib.hid hke
        clear hke HMM
        go_upto_region 6 with (fail)
        refine wp_region_quiet_below (by as_aux_lemma => kernel_rfl) (by as_aux_lemma => kernel_rfl) ?_
        repeat go_big_quiet_step (fail)
        refine wpQuiet_nil ?_
        intro w5 hw'
        have hb5 := below_of_regrown hw'
        have HKP := Lib.hid (HKP.out.then (hb5.mono HD.out.le))
        have HD := Lib.hid (HD.out.below hb5); have HX := Lib.hid (HX.out.bel hb5); have HC := Lib.hid (HC.out.bel hb5)
        clear hw' hb5 j0 j1 i0 i1 gg0 g0 heq HB2 HR1
        obtain ⟨pb, pboff, hp2, _⟩ := (own_isrows HD.out.o2 (fun _ => rfl) (by unfold maxLen; omega)).spot (by omega)
        subst hp2
        obtain ⟨pq, pqoff, hp3, _⟩ := (own_isrows HD.out.o3 (fun _ => rfl) (by unfold maxLen; omega)).spot (by omega)
        subst hp3
        have hm2 : l.length ≤ c2 ∧ c2 ≤ maxLen := by
          obtain ⟨p', c', hv, h1, h2⟩ := own_shape HD.out.o2
          injection hv with _ _ h3
          rw [h3]; exact ⟨h1, h2⟩
        have hm3 : l.length ≤ c3 ∧ c3 ≤ maxLen := by
          obtain ⟨p', c', hv, h1, h2⟩ := own_shape HD.out.o3
          injection hv with _ _ h3
          rw [h3]; exact ⟨h1, h2⟩
        unfold maxLen at hm2 hm3
        obtain ⟨hm21, hm22⟩ := hm2
        obtain ⟨hm31, hm32⟩ := hm3
        have HN := Lib.hid (show NtB w w5.drew B gd gi gc _ (k : Int) s x from (⟨HKP.out, HD.out.le, HD.out.box, HX.out, HC.out, HLO.out⟩ : NtB w w5 B gd gi gc _ (k : Int) s x).below (drew_below _ _))
        have HO0 := Lib.hid (owns_below HD.out.o1 (drew_below _ _)); have HO1 := Lib.hid (owns_below HD.out.o2 (drew_below _ _)); have HO2 := Lib.hid (owns_below HD.out.o3 (drew_below _ _))
        have HK := Lib.hid (show ∀ W, NtB w W B gd gi gc (.slice (some ⟨pa, poff, none⟩) l.length c1 :: .slice (some ⟨pb, pboff, none⟩) l.length c2 :: .slice (some ⟨pq, pqoff, none⟩) l.length c3 :: cutL d) (k : Int) s x → (W.cell? ⟨gd, 1, none⟩ = some (.slice (some ⟨pb, pboff, none⟩) l.length c2) ∧ W.cell? ⟨gd, 2, none⟩ = some (.slice (some ⟨pq, pqoff, none⟩) l.length c3) ∧ W.cell? ⟨gc, 0, none⟩ = some (.int .i64 x.k) ∧ W.cell? ⟨gc, 1, none⟩ = some (.int .i64 x.c) ∧ W.cell? ⟨gc, 2, none⟩ = some (.int .i64 x.s) ∧ W.cell? ⟨gc, 3, none⟩ = some (.string x.a) ∧ W.cell? ⟨gc, 4, none⟩ = some (.string x.b) ∧ W.cell? ⟨gc, 5, none⟩ = some (.string x.o) ∧ W.cell? ⟨gc, 6, none⟩ = some (.string x.v)) from fun W h => ⟨h.hd.cell 1, h.hd.cell 2, h.hc.cell 0, h.hc.cell 1, h.hc.cell 2, h.hc.cell 3, h.hc.cell 4, h.hc.cell 5, h.hc.cell 6⟩)
        clear HD HX HC HKP HNEW
        go_upto_region 7 with (fail)
        refine wp_region_noPanic ?_
        refine wp_region_late (S := fun W => W.cell? ⟨gd, 1, none⟩ = some (.slice (some ⟨pb, pboff, none⟩) l.length c2) ∧ W.cell? ⟨gd, 2, none⟩ = some (.slice (some ⟨pq, pqoff, none⟩) l.length c3) ∧ W.cell? ⟨gc, 0, none⟩ = some (.int .i64 x.k) ∧ W.cell? ⟨gc, 1, none⟩ = some (.int .i64 x.c) ∧ W.cell? ⟨gc, 2, none⟩ = some (.int .i64 x.s) ∧ W.cell? ⟨gc, 3, none⟩ = some (.string x.a) ∧ W.cell? ⟨gc, 4, none⟩ = some (.string x.b) ∧ W.cell? ⟨gc, 5, none⟩ = some (.string x.o) ∧ W.cell? ⟨gc, 6, none⟩ = some (.string x.v)) (X0 := []) (by as_aux_lemma => kernel_rfl) ?_
        generalize w5.drew = wd at HN HO0 HO1 HO2 ⊢
        have hSn := HK.out _ HN.out
        change wpAnyL _ _ _ _ _ _ 16 #[false, false, false, false, false, false, false, false, false, false, false, false, false, false, false, false] _ _
        refine wpAnyL_move (i := 0) (v := ?vm1) (some 61) rfl rfl (by as_aux_lemma => kernel_rfl) (by as_aux_lemma => kernel_rfl) (by as_aux_lemma => kernel_rfl) (by as_aux_lemma => kernel_rfl) (fun _ _ _ h => h) (Or.inl ⟨by rfl, ?hm1⟩) (fun _ => hSn) ?rm1
        case hm1 =>
          intro w _
          go_simp
          try with_reducible rfl
        simp only [Act.put, List.setIfInBounds_toArray, List.set_cons_zero, List.set_cons_succ]
        refine wpAnyL_move (i := 1) (v := ?vm2) (some 62) rfl rfl (by as_aux_lemma => kernel_rfl) (by as_aux_lemma => kernel_rfl) (by as_aux_lemma => kernel_rfl) (by as_aux_lemma => kernel_rfl) (fun _ _ _ h => h) (Or.inl ⟨by rfl, ?hm2⟩) (fun _ => hSn) ?rm2
        case hm2 =>
          intro w _
          go_simp
          try with_reducible rfl
        simp only [Act.put, List.setIfInBounds_toArray, List.set_cons_zero, List.set_cons_succ]
        refine wpAnyL_move (i := 2) (v := ?vm3) (some 63) rfl rfl (by as_aux_lemma => kernel_rfl) (by as_aux_lemma => kernel_rfl) (by as_aux_lemma => kernel_rfl) (by as_aux_lemma => kernel_rfl) (fun _ _ _ h => h) (Or.inl ⟨by rfl, ?hm3⟩) (fun _ => hSn) ?rm3
        case hm3 =>
          intro w _
          go_simp
          try with_reducible rfl
        simp only [Act.put, List.setIfInBounds_toArray, List.set_cons_zero, List.set_cons_succ]
        refine wpAnyL_take (i := 3) (v := ?vm4) [] (some 64) rfl rfl (by as_aux_lemma => kernel_rfl) (by as_aux_lemma => kernel_rfl) (by as_aux_lemma => kernel_rfl) (by as_aux_lemma => kernel_rfl) (fun _ _ _ h => h) (Or.inl ⟨by rfl, ?hm4⟩) hSn ?rm4
        case hm4 =>
          intro w hSw
          obtain ⟨s1, s2, x0, x1, x2, x3, x4, x5, x6⟩ := hSw
          go_simp
          try with_reducible rfl
        simp only [Act.put, List.setIfInBounds_toArray, List.set_cons_zero, List.set_cons_succ]
        refine wpAnyL_move (i := 4) (v := ?vm5) (some 65) rfl rfl (by as_aux_lemma => kernel_rfl) (by as_aux_lemma => kernel_rfl) (by as_aux_lemma => kernel_rfl) (by as_aux_lemma => kernel_rfl) (fun _ _ _ h => h) (Or.inl ⟨by rfl, ?hm5⟩) (fun _ => hSn) ?rm5
        case hm5 =>
          intro w _
          go_simp
          try with_reducible rfl
        simp only [Act.put, List.setIfInBounds_toArray, List.set_cons_zero, List.set_cons_succ]
        refine wpAnyL_move (i := 5) (v := ?vm6) (some 66) rfl rfl (by as_aux_lemma => kernel_rfl) (by as_aux_lemma => kernel_rfl) (by as_aux_lemma => kernel_rfl) (by as_aux_lemma => kernel_rfl) (fun _ _ _ h => h) (Or.inl ⟨by rfl, ?hm6⟩) (fun _ => hSn) ?rm6
        case hm6 =>
          intro w _
          go_simp
          try with_reducible rfl
        simp only [Act.put, List.setIfInBounds_toArray, List.set_cons_zero, List.set_cons_succ]
        refine wpAnyL_move (i := 6) (v := ?vm7) (some 67) rfl rfl (by as_aux_lemma => kernel_rfl) (by as_aux_lemma => kernel_rfl) (by as_aux_lemma => kernel_rfl) (by as_aux_lemma => kernel_rfl) (fun _ _ _ h => h) (Or.inl ⟨by rfl, ?hm7⟩) (fun _ => hSn) ?rm7
        case hm7 =>
          intro w _
          go_simp
          try with_reducible rfl
        simp only [Act.put, List.setIfInBounds_toArray, List.set_cons_zero, List.set_cons_succ]
        refine wpAnyL_move (i := 7) (v := ?vm8) (some 68) rfl rfl (by as_aux_lemma => kernel_rfl) (by as_aux_lemma => kernel_rfl) (by as_aux_lemma => kernel_rfl) (by as_aux_lemma => kernel_rfl) (fun _ _ _ h => h) (Or.inl ⟨by rfl, ?hm8⟩) (fun _ => hSn) ?rm8
        case hm8 =>
          intro w _
          go_simp
          try with_reducible rfl
        simp only [Act.put, List.setIfInBounds_toArray, List.set_cons_zero, List.set_cons_succ]
        refine wpAnyL_take (i := 8) (v := ?vm9) [] (some 69) rfl rfl (by as_aux_lemma => kernel_rfl) (by as_aux_lemma => kernel_rfl) (by as_aux_lemma => kernel_rfl) (by as_aux_lemma => kernel_rfl) (fun _ _ _ h => h) (Or.inl ⟨by rfl, ?hm9⟩) hSn ?rm9
        case hm9 =>
          intro w hSw
          obtain ⟨s1, s2, x0, x1, x2, x3, x4, x5, x6⟩ := hSw
          go_simp
          try with_reducible rfl
        simp only [Act.put, List.setIfInBounds_toArray, List.set_cons_zero, List.set_cons_succ]
        refine wpAnyL_move (i := 9) (v := ?vm10) (some 70) rfl rfl (by as_aux_lemma => kernel_rfl) (by as_aux_lemma => kernel_rfl) (by as_aux_lemma => kernel_rfl) (by as_aux_lemma => kernel_rfl) (fun _ _ _ h => h) (Or.inl ⟨by rfl, ?hm10⟩) (fun _ => hSn) ?rm10
        case hm10 =>
          intro w _
          go_simp
          try with_reducible rfl
        simp only [Act.put, List.setIfInBounds_toArray, List.set_cons_zero, List.set_cons_succ]
        refine wpAnyL_take (i := 10) (v := ?vm11) [] (some 71) rfl rfl (by as_aux_lemma => kernel_rfl) (by as_aux_lemma => kernel_rfl) (by as_aux_lemma => kernel_rfl) (by as_aux_lemma => kernel_rfl) (fun _ _ _ h => h) (Or.inl ⟨by rfl, ?hm11⟩) hSn ?rm11
        case hm11 =>
          intro w hSw
          obtain ⟨s1, s2, x0, x1, x2, x3, x4, x5, x6⟩ := hSw
          go_simp
          try with_reducible rfl
        simp only [Act.put, List.setIfInBounds_toArray, List.set_cons_zero, List.set_cons_succ]
        refine wpAnyL_move (i := 11) (v := ?vm12) (some 72) rfl rfl (by as_aux_lemma => kernel_rfl) (by as_aux_lemma => kernel_rfl) (by as_aux_lemma => kernel_rfl) (by as_aux_lemma => kernel_rfl) (fun _ _ _ h => h) (Or.inl ⟨by rfl, ?hm12⟩) (fun _ => hSn) ?rm12
        case hm12 =>
          intro w _
          go_simp
          try with_reducible rfl
        simp only [Act.put, List.setIfInBounds_toArray, List.set_cons_zero, List.set_cons_succ]
        refine wpAnyL_move (i := 12) (v := ?vm13) (some 73) rfl rfl (by as_aux_lemma => kernel_rfl) (by as_aux_lemma => kernel_rfl) (by as_aux_lemma => kernel_rfl) (by as_aux_lemma => kernel_rfl) (fun _ _ _ h => h) (Or.inl ⟨by rfl, ?hm13⟩) (fun _ => hSn) ?rm13
        case hm13 =>
          intro w _
          go_simp
          try with_reducible rfl
        simp only [Act.put, List.setIfInBounds_toArray, List.set_cons_zero, List.set_cons_succ]
        refine wpAnyL_ready (rs := [13]) (by as_aux_lemma => kernel_rfl) (by simp) ?_
        refine AllReadyL.cons rfl (fun K hK => ?_) (AllReadyL.nil)
        refine step_store_row rfl 29 _ _ rfl rfl B 29 7 pb pboff l.length c2 j (VC l) (VC (l.set j ⟨k, s, x, q⟩)) HO1.out (by decide) hjn (fun _ => rfl) (fun _ => rfl) (fun i _ hne => by unfold VC; rw [entAt_set_other l _ hne]) rfl _ rfl (by unfold VC; rw [entAt_set_same l _ hjn]; rfl) (by as_aux_lemma => kernel_rfl) (by unfold VC; rw [entAt_set_same l _ hjn]; exact ones rfl) ?_
        intro w73 ho ht
        have hg := grownBy_of_touch ht
        have HN := Lib.hid (HN.out.grown hg HNE1.out)
        have HO0 := Lib.hid (HO0.out.kept hg (own_far HO1.out HO0.out (by decide)))
        have HO2 := Lib.hid (HO2.out.kept hg (own_far HO1.out HO2.out (by decide)))
        have HO1 := Lib.hid ho
        clear ho ht hg
        have hSn := HK.out _ HN.out
        refine hK.out _ _ (fun _ => hSn) ?_
        clear hK
        try simp only [Act.put, List.setIfInBounds_toArray, List.set_cons_zero, List.set_cons_succ]
        refine wpAnyL_move (i := 14) (v := ?vm14) (some 74) rfl rfl (by as_aux_lemma => kernel_rfl) (by as_aux_lemma => kernel_rfl) (by as_aux_lemma => kernel_rfl) (by as_aux_lemma => kernel_rfl) (fun _ _ _ h => h) (Or.inl ⟨by rfl, ?hm14⟩) (fun _ => hSn) ?rm14
        case hm14 =>
          intro w _
          go_simp
          try with_reducible rfl
        simp only [Act.put, List.setIfInBounds_toArray, List.set_cons_zero, List.set_cons_succ]
        refine wpAnyL_ready (rs := [15]) (by as_aux_lemma => kernel_rfl) (by simp) ?_
        refine AllReadyL.cons rfl (fun K hK => ?_) (AllReadyL.nil)
        refine step_store_row rfl 3 _ _ rfl rfl B 3 1 pq pqoff l.length c3 j (VQ l) (VQ (l.set j ⟨k, s, x, q⟩)) HO2.out (by decide) hjn (fun _ => rfl) (fun _ => rfl) (fun i _ hne => by unfold VQ; rw [entAt_set_other l _ hne]) (by rw [Nat.mul_one]; rfl) _ rfl (by unfold VQ; rw [entAt_set_same l _ hjn]; rfl) (by as_aux_lemma => kernel_rfl) (by unfold VQ; rw [entAt_set_same l _ hjn]; exact ones rfl) ?_
        intro w75 ho ht
        have hg := grownBy_of_touch ht
        have HN := Lib.hid (HN.out.grown hg HNE2.out)
        have HO0 := Lib.hid (HO0.out.kept hg (own_far HO2.out HO0.out (by decide)))
        have HO1 := Lib.hid (HO1.out.kept hg (own_far HO2.out HO1.out (by decide)))
        have HO2 := Lib.hid ho
        clear ho ht hg
        have hSn := HK.out _ HN.out
        refine hK.out _ _ (fun _ => hSn) ?_
        clear hK
        try simp only [Act.put, List.setIfInBounds_toArray, List.set_cons_zero, List.set_cons_succ]
        refine wpAnyL_done (by as_aux_lemma => kernel_rfl) ?_ _
        refine NoPanic.normal ?_
        have HDN := Lib.hid (doc_set HN.out.hd HO0.out HO1.out HO2.out hjn HKE.out HN.out.lo.1 HN.out.le)
        have HKP := Lib.hid HN.out.kp
        clear hSn HN HO0 HO1 HO2 HK
        go_wp2_with fail
        go_ret
        exact ⟨rfl, ⟨_, _, _, _, _, _, by rw [putE_set HAP.out hjn HKE.out]; exact HDN.out⟩, HKP.out⟩
    · have hjn2 : j = l.length := by omega
      subst hjn2
      clear hj hjn HB2
      have HN := Lib.hid (show NtB w wr.drew B gd gi gc _ (k : Int) s x from (⟨HKP.out, HD.out.le, HD.out.box, HX.out, HC.out, HLO.out⟩ : NtB w wr B gd gi gc _ (k : Int) s x).below (drew_below _ _))
      have HO0 := Lib.hid (owns_below HD.out.o1 (drew_below _ _)); have HO1 := Lib.hid (owns_below HD.out.o2 (drew_below _ _)); have HO2 := Lib.hid (owns_below HD.out.o3 (drew_below _ _))
      have HK := Lib.hid (show ∀ W, NtB w W B gd gi gc (.slice p1 l.length c1 :: .slice p2 l.length c2 :: .slice p3 l.length c3 :: cutL d) (k : Int) s x → (W.cell? ⟨gd, 0, none⟩ = some (.slice p1 l.length c1) ∧ W.cell? ⟨gd, 1, none⟩ = some (.slice p2 l.length c2) ∧ W.cell? ⟨gd, 2, none⟩ = some (.slice p3 l.length c3) ∧ W.cell? ⟨gi, 0, none⟩ = some (.int .i64 k) ∧ W.cell? ⟨gi, 1, none⟩ = some (.int .i64 s) ∧ W.cell? ⟨gc, 0, none⟩ = some (.int .i64 x.k) ∧ W.cell? ⟨gc, 1, none⟩ = some (.int .i64 x.c) ∧ W.cell? ⟨gc, 2, none⟩ = some (.int .i64 x.s) ∧ W.cell? ⟨gc, 3, none⟩ = some (.string x.a) ∧ W.cell? ⟨gc, 4, none⟩ = some (.string x.b) ∧ W.cell? ⟨gc, 5, none⟩ = some (.string x.o) ∧ W.cell? ⟨gc, 6, none⟩ = some (.string x.v)) from fun W h => ⟨h.hd.cell 0, h.hd.cell 1, h.hd.cell 2, h.hi.cell 0, h.hi.cell 1, h.hc.cell 0, h.hc.cell 1, h.hc.cell 2, h.hc.cell 3, h.hc.cell 4, h.hc.cell 5, h.hc.cell 6⟩)
      clear HD HX HC HKP HAP
      go_upto_region 9 with (fail)
      clear g0
      refine wp_region_noPanic ?_
      refine wp_region_late (S := fun W => W.cell? ⟨gd, 0, none⟩ = some (.slice p1 l.length c1) ∧ W.cell? ⟨gd, 1, none⟩ = some (.slice p2 l.length c2) ∧ W.cell? ⟨gd, 2, none⟩ = some (.slice p3 l.length c3) ∧ W.cell? ⟨gi, 0, none⟩ = some (.int .i64 k) ∧ W.cell? ⟨gi, 1, none⟩ = some (.int .i64 s) ∧ W.cell? ⟨gc, 0, none⟩ = some (.int .i64 x.k) ∧ W.cell? ⟨gc, 1, none⟩ = some (.int .i64 x.c) ∧ W.cell? ⟨gc, 2, none⟩ = some (.int .i64 x.s) ∧ W.cell? ⟨gc, 3, none⟩ = some (.string x.a) ∧ W.cell? ⟨gc, 4, none⟩ = some (.string x.b) ∧ W.cell? ⟨gc, 5, none⟩ = some (.string x.o) ∧ W.cell? ⟨gc, 6, none⟩ = some (.string x.v)) (X0 := [26, 29, 32]) (by as_aux_lemma => kernel_rfl) ?_
      generalize wr.drew = wd at HN HO0 HO1 HO2 ⊢
      have hSn := HK.out _ HN.out
      change wpAnyL _ _ _ _ _ _ 33 #[false, false, false, false, false, false, false, false, false, false, false, false, false, false, false, false, false, false, false, false, false, false, false, false, false, false, false, false, false, false, false, false, false] _ _
      refine wpAnyL_move (i := 0) (v := ?vn1) (some 75) rfl rfl (by as_aux_lemma => kernel_rfl) (by as_aux_lemma => kernel_rfl) (by as_aux_lemma => kernel_rfl) (by as_aux_lemma => kernel_rfl) (fun _ _ _ h => h) (Or.inl ⟨by rfl, ?hn1⟩) (fun _ => hSn) ?rn1
      case hn1 =>
        intro w _
        go_simp
        try with_reducible rfl
      simp only [Act.put, List.setIfInBounds_toArray, List.set_cons_zero, List.set_cons_succ]
      refine wpAnyL_move (i := 1) (v := ?vn2) (some 76) rfl rfl (by as_aux_lemma => kernel_rfl) (by as_aux_lemma => kernel_rfl) (by as_aux_lemma => kernel_rfl) (by as_aux_lemma => kernel_rfl) (fun _ _ _ h => h) (Or.inl ⟨by rfl, ?hn2⟩) (fun _ => hSn) ?rn2
      case hn2 =>
        intro w _
        go_simp
        try with_reducible rfl
      simp only [Act.put, List.setIfInBounds_toArray, List.set_cons_zero, List.set_cons_succ]
      refine wpAnyL_move (i := 2) (v := ?vn3) (some 77) rfl rfl (by as_aux_lemma => kernel_rfl) (by as_aux_lemma => kernel_rfl) (by as_aux_lemma => kernel_rfl) (by as_aux_lemma => kernel_rfl) (fun _ _ _ h => h) (Or.inl ⟨by rfl, ?hn3⟩) (fun _ => hSn) ?rn3
      case hn3 =>
        intro w _
        go_simp
        try with_reducible rfl
      simp only [Act.put, List.setIfInBounds_toArray, List.set_cons_zero, List.set_cons_succ]
      refine wpAnyL_move (i := 3) (v := ?vn4) (some 78) rfl rfl (by as_aux_lemma => kernel_rfl) (by as_aux_lemma => kernel_rfl) (by as_aux_lemma => kernel_rfl) (by as_aux_lemma => kernel_rfl) (fun _ _ _ h => h) (Or.inl ⟨by rfl, ?hn4⟩) (fun _ => hSn) ?rn4
      case hn4 =>
        intro w _
        go_simp
        try with_reducible rfl
      simp only [Act.put, List.setIfInBounds_toArray, List.set_cons_zero, List.set_cons_succ]
      refine wpAnyL_move (i := 4) (v := ?vn5) (some 79) rfl rfl (by as_aux_lemma => kernel_rfl) (by as_aux_lemma => kernel_rfl) (by as_aux_lemma => kernel_rfl) (by as_aux_lemma => kernel_rfl) (fun _ _ _ h => h) (Or.inl ⟨by rfl, ?hn5⟩) (fun _ => hSn) ?rn5
      case hn5 =>
        intro w _
        go_simp
        try with_reducible rfl
      simp only [Act.put, List.setIfInBounds_toArray, List.set_cons_zero, List.set_cons_succ]
      refine wpAnyL_move (i := 5) (v := ?vn6) (some 80) rfl rfl (by as_aux_lemma => kernel_rfl) (by as_aux_lemma => kernel_rfl) (by as_aux_lemma => kernel_rfl) (by as_aux_lemma => kernel_rfl) (fun _ _ _ h => h) (Or.inl ⟨by rfl, ?hn6⟩) (fun _ => hSn) ?rn6
      case hn6 =>
        intro w _
        go_simp
        try with_reducible rfl
      simp only [Act.put, List.setIfInBounds_toArray, List.set_cons_zero, List.set_cons_succ]
      refine wpAnyL_take (i := 6) (v := ?vn7) [9, 16, 23, 26, 29, 32] (some 81) rfl rfl (by as_aux_lemma => kernel_rfl) (by as_aux_lemma => kernel_rfl) (by as_aux_lemma => kernel_rfl) (by as_aux_lemma => kernel_rfl) (fun _ _ _ h => h) (Or.inl ⟨by rfl, ?hn7⟩) hSn ?rn7
      case hn7 =>
        intro w hSw
        obtain ⟨s0, s1, s2, i0, i1, x0, x1, x2, x3, x4, x5, x6⟩ := hSw
        go_simp
        try with_reducible rfl
      simp only [Act.put, List.setIfInBounds_toArray, List.set_cons_zero, List.set_cons_succ]
      refine wpAnyL_take (i := 7) (v := ?vn8) [8, 9, 16, 23, 26, 29, 32] (some 82) rfl rfl (by as_aux_lemma => kernel_rfl) (by as_aux_lemma => kernel_rfl) (by as_aux_lemma => kernel_rfl) (by as_aux_lemma => kernel_rfl) (fun _ _ _ h => h) (Or.inl ⟨by rfl, ?hn8⟩) hSn ?rn8
      case hn8 =>
        intro w hSw
        obtain ⟨s0, s1, s2, i0, i1, x0, x1, x2, x3, x4, x5, x6⟩ := hSw
        go_simp
        try with_reducible rfl
      simp only [Act.put, List.setIfInBounds_toArray, List.set_cons_zero, List.set_cons_succ]
      refine wpAnyL_move (i := 10) (v := ?vn9) (some 85) rfl rfl (by as_aux_lemma => kernel_rfl) (by as_aux_lemma => kernel_rfl) (by as_aux_lemma => kernel_rfl) (by as_aux_lemma => kernel_rfl) (fun _ _ _ h => h) (Or.inl ⟨by rfl, ?hn9⟩) (fun _ => hSn) ?rn9
      case hn9 =>
        intro w _
        go_simp
        try with_reducible rfl
      simp only [Act.put, List.setIfInBounds_toArray, List.set_cons_zero, List.set_cons_succ]
      refine wpAnyL_move (i := 11) (v := ?vn10) (some 86) rfl rfl (by as_aux_lemma => kernel_rfl) (by as_aux_lemma => kernel_rfl) (by as_aux_lemma => kernel_rfl) (by as_aux_lemma => kernel_rfl) (fun _ _ _ h => h) (Or.inl ⟨by rfl, ?hn10⟩) (fun _ => hSn) ?rn10
      case hn10 =>
        intro w _
        go_simp
        try with_reducible rfl
      simp only [Act.put, List.setIfInBounds_toArray, List.set_cons_zero, List.set_cons_succ]
      refine wpAnyL_move (i := 12) (v := ?vn11) (some 87) rfl rfl (by as_aux_lemma => kernel_rfl) (by as_aux_lemma => kernel_rfl) (by as_aux_lemma => kernel_rfl) (by as_aux_lemma => kernel_rfl) (fun _ _ _ h => h) (Or.inl ⟨by rfl, ?hn11⟩) (fun _ => hSn) ?rn11
      case hn11 =>
        intro w _
        go_simp
        try with_reducible rfl
      simp only [Act.put, List.setIfInBounds_toArray, List.set_cons_zero, List.set_cons_succ]
      refine wpAnyL_take (i := 13) (v := ?vn12) [16, 23, 26, 29, 32] (some 88) rfl rfl (by as_aux_lemma => kernel_rfl) (by as_aux_lemma => kernel_rfl) (by as_aux_lemma => kernel_rfl) (by as_aux_lemma => kernel_rfl) (fun _ _ _ h => h) (Or.inl ⟨by rfl, ?hn12⟩) hSn ?rn12
      case hn12 =>
        intro w hSw
        obtain ⟨s0, s1, s2, i0, i1, x0, x1, x2, x3, x4, x5, x6⟩ := hSw
        go_simp
        try with_reducible rfl
      simp only [Act.put, List.setIfInBounds_toArray, List.set_cons_zero, List.set_cons_succ]
      refine wpAnyL_take (i := 14) (v := ?vn13) [15, 16, 23, 26, 29, 32] (some 89) rfl rfl (by as_aux_lemma => kernel_rfl) (by as_aux_lemma => kernel_rfl) (by as_aux_lemma => kernel_rfl) (by as_aux_lemma => kernel_rfl) (fun _ _ _ h => h) (Or.inl ⟨by rfl, ?hn13⟩) hSn ?rn13
      case hn13 =>
        intro w hSw
        obtain ⟨s0, s1, s2, i0, i1, x0, x1, x2, x3, x4, x5, x6⟩ := hSw
        go_simp
        try with_reducible rfl
      simp only [Act.put, List.setIfInBounds_toArray, List.set_cons_zero, List.set_cons_succ]
      refine wpAnyL_move (i := 17) (v := ?vn14) (some 92) rfl rfl (by as_aux_lemma => kernel_rfl) (by as_aux_lemma => kernel_rfl) (by as_aux_lemma => kernel_rfl) (by as_aux_lemma => kernel_rfl) (fun _ _ _ h => h) (Or.inl ⟨by rfl, ?hn14⟩) (fun _ => hSn) ?rn14
      case hn14 =>
        intro w _
        go_simp
        try with_reducible rfl
      simp only [Act.put, List.setIfInBounds_toArray, List.set_cons_zero, List.set_cons_succ]
      refine wpAnyL_move (i := 18) (v := ?vn15) (some 93) rfl rfl (by as_aux_lemma => kernel_rfl) (by as_aux_lemma => kernel_rfl) (by as_aux_lemma => kernel_rfl) (by as_aux_lemma => kernel_rfl) (fun _ _ _ h => h) (Or.inl ⟨by rfl, ?hn15⟩) (fun _ => hSn) ?rn15
      case hn15 =>
        intro w _
        go_simp
        try with_reducible rfl
      simp only [Act.put, List.setIfInBounds_toArray, List.set_cons_zero, List.set_cons_succ]
      refine wpAnyL_move (i := 19) (v := ?vn16) (some 94) rfl rfl (by as_aux_lemma => kernel_rfl) (by as_aux_lemma => kernel_rfl) (by as_aux_lemma => kernel_rfl) (by as_aux_lemma => kernel_rfl) (fun _ _ _ h => h) (Or.inl ⟨by rfl, ?hn16⟩) (fun _ => hSn) ?rn16
      case hn16 =>
        intro w _
        go_simp
        try with_reducible rfl
      simp only [Act.put, List.setIfInBounds_toArray, List.set_cons_zero, List.set_cons_succ]
      refine wpAnyL_take (i := 20) (v := ?vn17) [23, 26, 29, 32] (some 95) rfl rfl (by as_aux_lemma => kernel_rfl) (by as_aux_lemma => kernel_rfl) (by as_aux_lemma => kernel_rfl) (by as_aux_lemma => kernel_rfl) (fun _ _ _ h => h) (Or.inl ⟨by rfl, ?hn17⟩) hSn ?rn17
      case hn17 =>
        intro w hSw
        obtain ⟨s0, s1, s2, i0, i1, x0, x1, x2, x3, x4, x5, x6⟩ := hSw
        go_simp
        try with_reducible rfl
      simp only [Act.put, List.setIfInBounds_toArray, List.set_cons_zero, List.set_cons_succ]
      refine wpAnyL_move (i := 21) (v := ?vn18) (some 96) rfl rfl (by as_aux_lemma => kernel_rfl) (by as_aux_lemma => kernel_rfl) (by as_aux_lemma => kernel_rfl) (by as_aux_lemma => kernel_rfl) (fun _ _ _ h => h) (Or.inl ⟨by rfl, ?hn18⟩) (fun _ => hSn) ?rn18
      case hn18 =>
        intro w _
        go_simp
        try with_reducible rfl
      simp only [Act.put, List.setIfInBounds_toArray, List.set_cons_zero, List.set_cons_succ]
      refine wpAnyL_grow (apps := [⟨8, 9, 83, 84, 81, 26, 2, .slice p1 l.length c1, l.length, flat 2 l.length (VI l), [.int .i64 k, .int .i64 s]⟩, ⟨15, 16, 90, 91, 88, 29, 7, .slice p2 l.length c2, l.length, flat 7 l.length (VC l), [.int .i64 x.k, .int .i64 x.c, .int .i64 x.s, .string x.a, .string x.b, .string x.o, .string x.v]⟩, ⟨22, 23, 97, 98, 95, 3, 1, .slice p3 l.length c3, l.length, flat 1 l.length (VQ l), [.int .i64 q]⟩]) [] (f := 9) rfl (B := B) ?ok (fun W => NtB w W B gd gi gc (.slice p1 l.length c1 :: .slice p2 l.length c2 :: .slice p3 l.length c3 :: cutL d) (k : Int) s x) (fun _ _ h hb => h.below hb) ?ing (fun W h => HK.out W h) (by as_aux_lemma => kernel_rfl) (by show List.Nodup [8, 9, 15, 16, 22, 23]; decide) HN.out.le HN.out ?own ?fin
      case ing =>
        intro W W2 y hx hi hg; simp only [List.mem_cons, List.not_mem_nil, or_false] at hx; rcases hx with rfl | rfl | rfl
        · exact hi.grown hg HNE0.out
        · exact hi.grown hg HNE1.out
        · exact hi.grown hg HNE2.out
      case own =>
        intro y hx; simp only [List.mem_cons, List.not_mem_nil, or_false] at hx; rcases hx with rfl | rfl | rfl
        · exact HO0.out
        · exact HO1.out
        · exact HO2.out
      case ok =>
        refine ⟨?_, ?_, ?_, ?_, by simp, ?_, ?_, ?_, ?_, ?_, ?_, ?_⟩
        · intro y hx; simp only [List.mem_cons, List.not_mem_nil, or_false] at hx; rcases hx with rfl | rfl | rfl
          · exact ⟨_, rfl, rfl, rfl, fun a W K hA hK => wp_build_one (q := 82) 49 26 (.agg #[.int .i64 k, .int .i64 s]) [.int .i64 k, .int .i64 s] rfl rfl (eval_known ((hA.2.2 82 (by simp) (by simp)).trans rfl)) (by intro W; go_simp) hK⟩
          · exact ⟨_, rfl, rfl, rfl, fun a W K hA hK => wp_build_one (q := 89) 50 29 (.agg #[.int .i64 x.k, .int .i64 x.c, .int .i64 x.s, .string x.a, .string x.b, .string x.o, .string x.v]) [.int .i64 x.k, .int .i64 x.c, .int .i64 x.s, .string x.a, .string x.b, .string x.o, .string x.v] rfl rfl (eval_known ((hA.2.2 89 (by simp) (by simp)).trans rfl)) (by intro W; go_simp) hK⟩
          · exact ⟨_, rfl, rfl, rfl, fun a W K hA hK => wp_build_one (q := 96) 51 3 (.int .i64 q) [.int .i64 q] rfl rfl (eval_known ((hA.2.2 96 (by simp) (by simp)).trans rfl)) (by intro W; go_simp) hK⟩
        · intro y hx; simp only [List.mem_cons, List.not_mem_nil, or_false] at hx; rcases hx with rfl | rfl | rfl
          · exact ⟨_, 49, .agg #[.int .i64 0, .int .i64 0], 16, rfl, rfl, rfl, rfl, rfl, (by as_aux_lemma => kernel_rfl), rfl, (by show (l.length + 1) * 16 ≤ _; omega), rfl⟩
          · exact ⟨_, 50, .agg #[.int .i64 0, .int .i64 0, .int .i64 0, .string ⟨#[]⟩, .string ⟨#[]⟩, .string ⟨#[]⟩, .string ⟨#[]⟩], 88, rfl, rfl, rfl, rfl, rfl, (by as_aux_lemma => kernel_rfl), rfl, (by show (l.length + 1) * 88 ≤ _; omega), rfl⟩
          · exact ⟨_, 51, .int .i64 0, 8, rfl, rfl, rfl, rfl, rfl, (by as_aux_lemma => kernel_rfl), rfl, (by show (l.length + 1) * 8 ≤ _; omega), rfl⟩
        · intro y hx; simp only [List.mem_cons, List.not_mem_nil, or_false] at hx; rcases hx with rfl | rfl | rfl
          · exact ⟨Nat.succ_pos _, rfl, rfl, (by show l.length + 1 ≤ maxLen; unfold maxLen; omega)⟩
          · exact ⟨Nat.succ_pos _, rfl, rfl, (by show l.length + 1 ≤ maxLen; unfold maxLen; omega)⟩
          · exact ⟨Nat.succ_pos _, rfl, rfl, (by show l.length + 1 ≤ maxLen; unfold maxLen; omega)⟩
        · intro y hx z hz; simp only [List.mem_cons, List.not_mem_nil, or_false] at hx hz; rcases hx with rfl | rfl | rfl <;> rcases hz with rfl | rfl | rfl <;> simp
        · intro y hx z hz; simp only [List.mem_cons, List.not_mem_nil, or_false] at hx hz; rcases hx with rfl | rfl | rfl <;> rcases hz with rfl | rfl | rfl <;> simp
        · intro y hx z hz; simp only [List.mem_cons, List.not_mem_nil, or_false] at hx hz; rcases hx with rfl | rfl | rfl <;> rcases hz with rfl | rfl | rfl <;> simp
        · intro y hx z hz; simp only [List.mem_cons, List.not_mem_nil, or_false] at hx hz; rcases hx with rfl | rfl | rfl <;> rcases hz with rfl | rfl | rfl <;> simp
        · intro y hx; cases hx
        · intro y hx; cases hx
        · intro y hx; cases hx
        · intro y hx; simp only [List.mem_cons, List.not_mem_nil, or_false] at hx; rcases hx with rfl | rfl | rfl
          · exact ⟨_, rfl, (by as_aux_lemma => kernel_rfl)⟩
          · exact ⟨_, rfl, (by as_aux_lemma => kernel_rfl)⟩
          · exact ⟨_, rfl, (by as_aux_lemma => kernel_rfl)⟩
      case fin =>
        intro β ρ W hWle hN hR
        clear hSn HN HO0 HO1 HO2
        have HN := Lib.hid hN
        have HR0 := Lib.hid (hR (⟨8, 9, 83, 84, 81, 26, 2, .slice p1 l.length c1, l.length, flat 2 l.length (VI l), [.int .i64 k, .int .i64 s]⟩) (List.mem_cons_self))
        have HR1 := Lib.hid (hR (⟨15, 16, 90, 91, 88, 29, 7, .slice p2 l.length c2, l.length, flat 7 l.length (VC l), [.int .i64 x.k, .int .i64 x.c, .int .i64 x.s, .string x.a, .string x.b, .string x.o, .string x.v]⟩) (List.mem_cons_of_mem _ List.mem_cons_self))
        have HR2 := Lib.hid (hR (⟨22, 23, 97, 98, 95, 3, 1, .slice p3 l.length c3, l.length, flat 1 l.length (VQ l), [.int .i64 q]⟩) (List.mem_cons_of_mem _ (List.mem_cons_of_mem _ List.mem_cons_self)))
        clear hR hN
        simp only [layM, layL, List.foldl, markL, nums, List.map_cons, List.map_nil, List.flatMap_cons, List.flatMap_nil, List.cons_append, List.nil_append, List.append_nil] at HR0 HR1 HR2 ⊢
        generalize ρ 9 = v90 at HR0 ⊢
        generalize ρ 16 = v91 at HR1 ⊢
        generalize ρ 23 = v92 at HR2 ⊢
        simp only [Act.put, List.setIfInBounds_toArray, List.set_cons_zero, List.set_cons_succ]
        obtain ⟨q0, d0, hq0, _, _⟩ := own_shape HR0.out
        subst hq0
        obtain ⟨q1, d1, hq1, _, _⟩ := own_shape HR1.out
        subst hq1
        obtain ⟨q2, d2, hq2, _, _⟩ := own_shape HR2.out
        subst hq2
        refine wpAnyL_move (i := 24) (v := ?vn19) (some 99) rfl rfl (by as_aux_lemma => kernel_rfl) (by as_aux_lemma => kernel_rfl) (by as_aux_lemma => kernel_rfl) (by as_aux_lemma => kernel_rfl) (fun _ _ _ h => h) (Or.inl ⟨by rfl, ?hn19⟩) (fun _ => HK.out _ HN.out) ?rn19
        case hn19 =>
          intro w _
          go_simp
          try with_reducible rfl
        simp only [Act.put, List.setIfInBounds_toArray, List.set_cons_zero, List.set_cons_succ]
        refine wpAnyL_move (i := 25) (v := ?vn20) (some 100) rfl rfl (by as_aux_lemma => kernel_rfl) (by as_aux_lemma => kernel_rfl) (by as_aux_lemma => kernel_rfl) (by as_aux_lemma => kernel_rfl) (fun _ _ _ h => h) (Or.inl ⟨by rfl, ?hn20⟩) (fun _ => HK.out _ HN.out) ?rn20
        case hn20 =>
          intro w _
          go_simp
          try with_reducible rfl
        simp only [Act.put, List.setIfInBounds_toArray, List.set_cons_zero, List.set_cons_succ]
        refine wpAnyL_ready (rs := [26]) (by as_aux_lemma => kernel_rfl) (by simp) ?_
        refine AllReadyL.cons rfl (fun K hK => ?_) (AllReadyL.nil)
        refine step_store_cell rfl 49 (.tmp 100) (.tmp 84) rfl rfl gd 0 53 _ HN.out.hd (by simp [cutL]) rfl (.slice q0 (l.length + 1) d0) rfl (by simp [Value.cells]) (by as_aux_lemma => kernel_rfl) (by simp [Value.oneCell']) ?_
        intro w80 hd hT
        have HN := Lib.hid (HN.out.stored hd hT)
        have HR0 := Lib.hid (owns_touch HR0.out hT HN.out.lo.1)
        have HR1 := Lib.hid (owns_touch HR1.out hT HN.out.lo.1)
        have HR2 := Lib.hid (owns_touch HR2.out hT HN.out.lo.1)
        clear hd hT
        refine hK.out _ _ (notLate (by as_aux_lemma => kernel_rfl)) ?_
        clear hK
        try simp only [Act.put, List.setIfInBounds_toArray, List.set_cons_zero, List.set_cons_succ]
        refine wpAnyL_move (i := 27) (v := ?vn21) (some 101) rfl rfl (by as_aux_lemma => kernel_rfl) (by as_aux_lemma => kernel_rfl) (by as_aux_lemma => kernel_rfl) (by as_aux_lemma => kernel_rfl) (fun _ _ _ h => h) (Or.inl ⟨by rfl, ?hn21⟩) (notLate (by as_aux_lemma => kernel_rfl)) ?rn21
        case hn21 =>
          intro w _
          go_simp
          try with_reducible rfl
        simp only [Act.put, List.setIfInBounds_toArray, List.set_cons_zero, List.set_cons_succ]
        refine wpAnyL_move (i := 28) (v := ?vn22) (some 102) rfl rfl (by as_aux_lemma => kernel_rfl) (by as_aux_lemma => kernel_rfl) (by as_aux_lemma => kernel_rfl) (by as_aux_lemma => kernel_rfl) (fun _ _ _ h => h) (Or.inl ⟨by rfl, ?hn22⟩) (notLate (by as_aux_lemma => kernel_rfl)) ?rn22
        case hn22 =>
          intro w _
          go_simp
          try with_reducible rfl
        simp only [Act.put, List.setIfInBounds_toArray, List.set_cons_zero, List.set_cons_succ]
        refine wpAnyL_ready (rs := [29]) (by as_aux_lemma => kernel_rfl) (by simp) ?_
        refine AllReadyL.cons rfl (fun K hK => ?_) (AllReadyL.nil)
        refine step_store_cell rfl 50 (.tmp 102) (.tmp 91) rfl rfl gd 1 53 _ HN.out.hd (by simp [cutL]) rfl (.slice q1 (l.length + 1) d1) rfl (by simp [Value.cells]) (by as_aux_lemma => kernel_rfl) (by simp [Value.oneCell']) ?_
        intro w81 hd hT
        have HN := Lib.hid (HN.out.stored hd hT)
        have HR0 := Lib.hid (owns_touch HR0.out hT HN.out.lo.1)
        have HR1 := Lib.hid (owns_touch HR1.out hT HN.out.lo.1)
        have HR2 := Lib.hid (owns_touch HR2.out hT HN.out.lo.1)
        clear hd hT
        refine hK.out _ _ (notLate (by as_aux_lemma => kernel_rfl)) ?_
        clear hK
        try simp only [Act.put, List.setIfInBounds_toArray, List.set_cons_zero, List.set_cons_succ]
        refine wpAnyL_move (i := 30) (v := ?vn23) (some 103) rfl rfl (by as_aux_lemma => kernel_rfl) (by as_aux_lemma => kernel_rfl) (by as_aux_lemma => kernel_rfl) (by as_aux_lemma => kernel_rfl) (fun _ _ _ h => h) (Or.inl ⟨by rfl, ?hn23⟩) (notLate (by as_aux_lemma => kernel_rfl)) ?rn23
        case hn23 =>
          intro w _
          go_simp
          try with_reducible rfl
        simp only [Act.put, List.setIfInBounds_toArray, List.set_cons_zero, List.set_cons_succ]
        refine wpAnyL_move (i := 31) (v := ?vn24) (some 104) rfl rfl (by as_aux_lemma => kernel_rfl) (by as_aux_lemma => kernel_rfl) (by as_aux_lemma => kernel_rfl) (by as_aux_lemma => kernel_rfl) (fun _ _ _ h => h) (Or.inl ⟨by rfl, ?hn24⟩) (notLate (by as_aux_lemma => kernel_rfl)) ?rn24
        case hn24 =>
          intro w _
          go_simp
          try with_reducible rfl
        simp only [Act.put, List.setIfInBounds_toArray, List.set_cons_zero, List.set_cons_succ]
        refine wpAnyL_ready (rs := [32]) (by as_aux_lemma => kernel_rfl) (by simp) ?_
        refine AllReadyL.cons rfl (fun K hK => ?_) (AllReadyL.nil)
        refine step_store_cell rfl 51 (.tmp 104) (.tmp 98) rfl rfl gd 2 53 _ HN.out.hd (by simp [cutL]) rfl (.slice q2 (l.length + 1) d2) rfl (by simp [Value.cells]) (by as_aux_lemma => kernel_rfl) (by simp [Value.oneCell']) ?_
        intro w82 hd hT
        have HN := Lib.hid (HN.out.stored hd hT)
        have HR0 := Lib.hid (owns_touch HR0.out hT HN.out.lo.1)
        have HR1 := Lib.hid (owns_touch HR1.out hT HN.out.lo.1)
        have HR2 := Lib.hid (owns_touch HR2.out hT HN.out.lo.1)
        clear hd hT
        refine hK.out _ _ (notLate (by as_aux_lemma => kernel_rfl)) ?_
        clear hK
        try simp only [Act.put, List.setIfInBounds_toArray, List.set_cons_zero, List.set_cons_succ]
        refine wpAnyL_done (by as_aux_lemma => kernel_rfl) ?_ _
        refine NoPanic.normal ?_
        have HDN := Lib.hid (doc_more (e := ⟨k, s, x, q⟩) HN.out.hd HR0.out HR1.out HR2.out HN.out.lo.1 HN.out.le)
        have HKP := Lib.hid HN.out.kp
        clear HN HR0 HR1 HR2
        go_wp2_with fail
        go_ret
        exact ⟨rfl, ⟨_, _, _, _, _, _, by rw [putE_new HNEW.out]; exact HDN.out⟩, HKP.out⟩
end Go.Proofs.Ytleagecocffihaa
