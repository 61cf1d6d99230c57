/-
  The walk of InterfReach.
-/
import Derived.Test.YtleagecocffihaaIfReachP
import Derived.Test.YtleagecocffihaaFlat
import Derived.Deep.RegionHeld3
namespace Go.Proofs.Ytleagecocffihaa
open Go.RowKit Go.Maps
set_option linter.unusedVariables false
set_option linter.unusedSimpArgs false

set_option maxRecDepth 4000 in
set_option maxHeartbeats 2000000 in
theorem reach_yes (d : Nat → Int) (k : Nat) (s : Int) (w : World) (hk : k < 7) (h : rightI k s = true) (hs : s ≤ d k) :
    Calls Try.prog 25 #[.agg #[.int .i64 (d 0), .int .i64 (d 1), .int .i64 (d 2), .int .i64 (d 3), .int .i64 (d 4), .int .i64 (d 5), .int .i64 (d 6)], .agg #[.int .i64 k, .int .i64 s]] w fun e w' => e = .returned (.bool true) ∧ Below w.heap.size w w' := by
  have K1 := Lib.hid (fun W => right_inst (k : Int) s W)
  rw [h] at K1
  go_enter Try.func25, Try.ntmps25
  go_upto_region 1 with (fail)
  go_name_world W hW
  have hD : Holds W w.heap.size 32 (cutL d) := by rw [← hW]; exact holds_past (holds_alloc w _ _) _
  have hI : Holds W (w.heap.size + 1) 26 [.int .i64 k, .int .i64 s] := by
    rw [← hW]
    have := holds_alloc (w.alloc (.cells (cutL d).toArray 32)) 26 [.int .i64 k, .int .i64 s]
    rw [World.size_alloc] at this
    exact this
  have HB := Lib.hid (show Below w.heap.size w W by rw [← hW]; go_grown)
  clear hW
  have i0 := fun d os => hI.grown d os 0
  have i1 := fun d os => hI.grown d os 1
  have d0 := fun dd os => hD.grown dd os k
  have hg := cut_get (.int .i64 0) d k hk
  rw [Nat.add_comm, List.getElem?_cons_succ] at hg
  rw [hg] at d0
  simp only [List.getElem?_cons_zero, List.getElem?_cons_succ] at i0 i1
  clear hI hD hg
  generalize d k = dk at d0 hs
  refine wp_region_quiet_below (by as_aux_lemma => kernel_rfl) (by as_aux_lemma => kernel_rfl) ?_
  repeat go_big_quiet_step (first
    | (go_at_call 18; with_reducible exact calls_regrown fun W _ => K1.out W))
  refine wpQuiet_nil ?_
  intro w2 hw'
  have HB := Lib.hid (below_next HB.out (below_of_regrown hw'))
  clear hw' i0 i1 d0
  go_wp2_with fail
  go_ret
  exact ⟨rfl, HB.out⟩
/-- An index, and what was handed in in boxes; all below a border. -/
structure Jo (w W : World) (B gi gc gu g b : Nat) (r s : Int) (c : Cm) (u : Nat → Int) (n : Nat) (d : Nat → Int) (l : List Ent) : Prop where
  bel : Below w.heap.size w W
  x : IxAt W g b n d l
  bi : Holds W gi 26 [.int .i64 r, .int .i64 s]
  bc : Holds W gc 29 [.int .i64 c.k, .int .i64 c.c, .int .i64 c.s, .string c.a, .string c.b, .string c.o, .string c.v]
  bu : Holds W gu 32 (cutL u)
  lo : w.heap.size ≤ gi ∧ gi < gc ∧ gc < gu ∧ gu < b ∧ b < g ∧ g < B
  le : B ≤ W.heap.size
theorem Jo.next {w W W' : World} {B gi gc gu g b : Nat} {r s : Int} {c : Cm} {u : Nat → Int} {n : Nat} {d : Nat → Int} {l : List Ent} (h : Jo w W B gi gc gu g b r s c u n d l) (hb : Below B W W') : Jo w W' B gi gc gu g b r s c u n d l := by
  obtain ⟨h1, h2, h3, h4, h5, h6⟩ := h.lo
  exact ⟨h.bel.trans (hb.mono (by omega)), h.x.keep (hb.block g (by omega)) (hb.block b (by omega)), h.bi.below hb (by omega), h.bc.below hb (by omega), h.bu.below hb (by omega), h.lo, Nat.le_trans h.le hb.size⟩
theorem Jo.below {w W W' : World} {B gi gc gu g b : Nat} {r s : Int} {c : Cm} {u : Nat → Int} {n : Nat} {d : Nat → Int} {l : List Ent} (h : Jo w W B gi gc gu g b r s c u n d l) (hb : Below W.heap.size W W') : Jo w W' B gi gc gu g b r s c u n d l := h.next (hb.mono h.le)
theorem Jo.note {w W : World} {B gi gc gu g b : Nat} {r s : Int} {c : Cm} {u : Nat → Int} {n : Nat} {l : List Ent} (h : Jo w W B gi gc gu g b r s c u n (fun _ => 0) l) (hn : n ≤ 1000) (a : Ask) :
    Calls Try.prog 9 #[.pointer (some ⟨g, 0, none⟩), .agg #[.int .i64 a.r, .int .i64 a.s], .agg #[.int .i64 a.c.k, .int .i64 a.c.c, .int .i64 a.c.s, .string a.c.a, .string a.c.b, .string a.c.o, .string a.c.v], .int .i64 a.q] W fun e w' =>
      e = .returned (.bool a.takenB) ∧ Jo w w' B gi gc gu g b r s c u (n + 1) (fun _ => 0) (if a.takenB then putE l a.ent else l) ∧ Touch b W w' := by
  obtain ⟨h1, h2, h3, h4, h5, h6⟩ := h.lo
  refine (note_any g b n (fun _ => 0) l a.r a.s a.c a.q W h.x hn).mono ?_
  rintro e w' ⟨rfl, hx, ht⟩
  exact ⟨rfl, ⟨h.bel.trans (ht.below (by omega) h.bel.size), hx, h.bi.touch ht (by omega), h.bc.touch ht (by omega), h.bu.touch ht (by omega), h.lo, Nat.le_trans h.le ht.size⟩, ht⟩
theorem Jo.more {w W : World} {B gi gc gu g b : Nat} {r s : Int} {c : Cm} {u : Nat → Int} {n : Nat} {d : Nat → Int} {l : List Ent} (h : Jo w W B gi gc gu g b r s c u n d l) : Jo w W B gi gc gu g b r s c u (n + 1) d l :=
  ⟨h.bel, h.x.mono, h.bi, h.bc, h.bu, h.lo, h.le⟩
theorem Jo.pos {w W : World} {B gi gc gu g b : Nat} {r s : Int} {c : Cm} {u : Nat → Int} {n : Nat} {d : Nat → Int} {l : List Ent} (h : Jo w W B gi gc gu g b r s c u n d l) : ∀ e ∈ l, 0 ≤ e.r := fun e he => (h.x.good e he).1.1
theorem Jo.prune {w W W' : World} {B gi gc gu g b : Nat} {r s : Int} {c : Cm} {u : Nat → Int} {n : Nat} {d d' : Nat → Int} {l l' : List Ent} (h : Jo w W B gi gc gu g b r s c u n d l) (hx : IxAt W' g b n d' l') (ht : Touch2 g b W W') : Jo w W' B gi gc gu g b r s c u n d' l' := by
  obtain ⟨h1, h2, h3, h4, h5, h6⟩ := h.lo
  have hk : ∀ k e L, Holds W k e L → k ≠ g → k ≠ b → Holds W' k e L := fun k e L hh hg hb => by unfold Holds; rw [ht.block k hh.lt hg hb]; exact hh
  exact ⟨h.bel.trans (ht.under (by omega) (by omega) h.bel.size), hx, hk _ _ _ h.bi (by omega) (by omega), hk _ _ _ h.bc (by omega) (by omega), hk _ _ _ h.bu (by omega) (by omega), h.lo, Nat.le_trans h.le ht.size⟩
theorem take_dst {P : Program} {ops : Array Oper} {Q : Exit → Act → World → Prop} {md : Region.Mode} {S : World → Prop} {i : Nat} {oi : Oper} {v : Value} {fuel : Nat} {listed : Array Bool} {a : Act} {w : World} (d : Option Tmp) (hi : ops[i]? = some oi) (hd : oi.dst = d)
    (hs : Region.noSelect ops = true) (hf : Region.free md ops listed i = true) (hr : (Region.ready md ops listed).contains i = true)
    (hQ : ∀ c a w, Q (.panic c) (a.put oi.dst v) w → Q (.panic c) a w) (hy : YieldsIf P ops S oi v a) (hS : S w)
    (h : wpAnyH P md ops Q S fuel (listed.setIfInBounds i true) (a.put d v) w) : wpAnyH P md ops Q S (fuel + 1) listed a w := by
  subst hd
  exact wpAnyH_take hi hs hf hr hQ hy hS h
theorem lastTo_start (O : Nat → Ask) (k : Nat) : ∀ j, j ≤ k + 1 → lastTo O k j = true
  | 0, _ => rfl
  | j + 1, h => by
    unfold lastTo
    rw [lastTo_start O k j (by omega), if_neg (by omega)]
    rfl
set_option maxRecDepth 4000 in
set_option maxHeartbeats 40000000 in
theorem interfReach_any (a : Option Addr) (len cap : Nat) (R : Nat → Ask) (r s : Int) (c : Cm) (u : Nat → Int) (w : World) (hV : IsRows w a len 18 fun i => (R i).cells) (hOk : ∀ i, (R i).Ok) (hlc : len ≤ cap) (hcm : cap ≤ maxLen) (hc : c.fits) :
    Calls Try.prog 7 #[.slice a len cap, .agg #[.int .i64 r, .int .i64 s], .agg #[.int .i64 c.k, .int .i64 c.c, .int .i64 c.s, .string c.a, .string c.b, .string c.o, .string c.v], .agg #[.int .i64 (u 0), .int .i64 (u 1), .int .i64 (u 2), .int .i64 (u 3), .int .i64 (u 4), .int .i64 (u 5), .int .i64 (u 6)]] w fun e w' => e = .returned (.bool true) ∧ Below w.heap.size w w' := by
  have HV := Lib.hid hV; clear hV
  have HOK := Lib.hid hOk; clear hOk
  have KL := Lib.hid (fun W => light_any c W hc)
  have KC := Lib.hid (fun W => right_cmd c.k c.c c.s c.a c.b c.o c.v W)
  have KI := Lib.hid (fun W => right_inst r s W)
  have KR := Lib.hid (fun W => interfRuns_any W)
  have hca : lightB c = true → c.a.size ≤ 1000000 := fun h => by unfold lightB at h; simp at h; omega
  have HCA := Lib.hid hca; clear hca
  unfold maxLen at hcm
  obtain ⟨B0, hB0⟩ : ∃ B0, B0 = lightB c := ⟨_, rfl⟩
  obtain ⟨B1, hB1⟩ : ∃ B1, B1 = rightA c.k c.c c.s c.a c.b c.o c.v := ⟨_, rfl⟩
  obtain ⟨B2, hB2⟩ : ∃ B2, B2 = rightI r s := ⟨_, rfl⟩
  have HRI := Lib.hid hB2
  rw [← hB0] at KL HCA
  rw [← hB1] at KC
  rw [← hB2] at KI
  clear hB0 hB1 hB2
  go_enter Try.func7, Try.ntmps7
  go_wp2_with fail
  refine (new_any _).mono ?_
  rintro e w1 ⟨rfl, hx, hb⟩
  have hbi : Holds w1 w.heap.size 26 [.int .i64 r, .int .i64 s] := (holds_past (holds_past (holds_alloc w 26 [.int .i64 r, .int .i64 s]) _) _).below hb (by simp <;> omega)
  have hbc : Holds w1 (w.heap.size + 1) 29 [.int .i64 c.k, .int .i64 c.c, .int .i64 c.s, .string c.a, .string c.b, .string c.o, .string c.v] := by
    have := holds_past (holds_alloc (w.alloc (.cells #[.int .i64 r, .int .i64 s] 26)) 29 [.int .i64 c.k, .int .i64 c.c, .int .i64 c.s, .string c.a, .string c.b, .string c.o, .string c.v]) (.cells (cutL u).toArray 32)
    rw [World.size_alloc] at this
    exact this.below hb (by simp <;> omega)
  have hbu : Holds w1 (w.heap.size + 1 + 1) 32 (cutL u) := by
    have := holds_alloc ((w.alloc (.cells #[.int .i64 r, .int .i64 s] 26)).alloc (.cells #[.int .i64 c.k, .int .i64 c.c, .int .i64 c.s, .string c.a, .string c.b, .string c.o, .string c.v] 29)) 32 (cutL u)
    rw [World.size_alloc, World.size_alloc] at this
    exact this.below hb (by simp <;> omega)
  have hB : Below w.heap.size w w1 := below_next ((((Below.refl _ _).alloc (Nat.le_refl _) _).alloc (by simp) _).alloc (by simp <;> omega) _) hb
  rw [World.size_alloc, World.size_alloc, World.size_alloc] at hx ⊢
  have HI := Lib.hid (show Jo w w1 (w.heap.size + 1 + 1 + 1 + 1 + 1) w.heap.size (w.heap.size + 1) (w.heap.size + 1 + 1) (w.heap.size + 1 + 1 + 1 + 1) (w.heap.size + 1 + 1 + 1) r s c u 0 (fun _ => 0) [] from
    ⟨hB, hx, hbi, hbc, hbu, ⟨Nat.le_refl _, by omega, by omega, by omega, by omega, by omega⟩, hx.lt.1⟩)
  clear hx hbi hbc hbu hB hb
  generalize w.heap.size + 1 + 1 + 1 + 1 + 1 = B at HI
  generalize w.heap.size + 1 + 1 + 1 + 1 = g at HI ⊢
  generalize w.heap.size + 1 + 1 + 1 = b at HI
  generalize w.heap.size + 1 + 1 = gu at HI ⊢
  generalize w.heap.size + 1 = gc at HI ⊢
  generalize w.heap.size = gi at HI ⊢
  have c0 := HI.out.bc.cell 0
  have c1 := HI.out.bc.cell 1
  have c2 := HI.out.bc.cell 2
  have c3 := HI.out.bc.cell 3
  have c4 := HI.out.bc.cell 4
  have c5 := HI.out.bc.cell 5
  have c6 := HI.out.bc.cell 6
  simp only [List.getElem?_cons_zero, List.getElem?_cons_succ] at c0 c1 c2 c3 c4 c5 c6
  go_wp2_with fail
  refine (KL.out _).mono ?_
  rintro e w2 ⟨rfl, hb⟩
  have HI := Lib.hid (HI.out.below hb)
  clear hb c0 c1 c2 c3 c4 c5 c6
  cases B0
  · go_wp2_with fail
    refine (KR.out _).mono ?_
    rintro e w4 ⟨rfl, hb⟩
    have HI := Lib.hid (HI.out.below hb)
    clear hb
    go_wp2_with fail
    go_ret
    exact ⟨rfl, HI.out.bel⟩
  have c0 := HI.out.bc.cell 0
  have c1 := HI.out.bc.cell 1
  have c2 := HI.out.bc.cell 2
  have c3 := HI.out.bc.cell 3
  have c4 := HI.out.bc.cell 4
  have c5 := HI.out.bc.cell 5
  have c6 := HI.out.bc.cell 6
  simp only [List.getElem?_cons_zero, List.getElem?_cons_succ] at c0 c1 c2 c3 c4 c5 c6
  go_wp2_with fail
  refine (KC.out _).mono ?_
  rintro e w3 ⟨rfl, hb⟩
  have HI := Lib.hid (HI.out.below hb)
  clear hb c0 c1 c2 c3 c4 c5 c6
  cases B1
  · go_wp2_with fail
    refine (KR.out _).mono ?_
    rintro e w4 ⟨rfl, hb⟩
    have HI := Lib.hid (HI.out.below hb)
    clear hb
    go_wp2_with fail
    go_ret
    exact ⟨rfl, HI.out.bel⟩
  have i0 := HI.out.bi.cell 0
  have i1 := HI.out.bi.cell 1
  simp only [List.getElem?_cons_zero, List.getElem?_cons_succ] at i0 i1
  go_wp2_with fail
  refine (KI.out _).mono ?_
  rintro e w4 ⟨rfl, hb⟩
  have HI := Lib.hid (HI.out.below hb)
  clear hb i0 i1
  cases B2
  · go_wp2_with fail
    refine (KR.out _).mono ?_
    rintro e w5 ⟨rfl, hb⟩
    have HI := Lib.hid (HI.out.below hb)
    clear hb
    go_wp2_with fail
    go_ret
    exact ⟨rfl, HI.out.bel⟩
  clear KL KC KI
  have hri := HRI.out.symm
  have HRB := Lib.hid (rightI_bounds hri)
  obtain ⟨rn, rfl⟩ : ∃ rn : Nat, r = rn := ⟨r.toNat, by have := HRB.out.1; omega⟩
  have hrn7 : rn < 7 := by have := HRB.out.2.1; omega
  have HRI := Lib.hid hri; clear hri
  go_wp2_with fail
  go_loopw [10, 11] (fun own vk wr => ∃ (k m : Nat) (O : Nat → Ask) (l : List Ent), k ≤ len ∧ k ≤ 40 ∧ m ≤ k ∧ vk = .int .i64 k ∧ wr.ownsRow B 43 18 own m (flat 18 m fun i => (O i).cells) ∧ Known l m O rn s ∧ Jo w wr B gi gc gu g b rn s c u k (fun _ => 0) l) (fun _ vk _ => 40 - (intOf vk).toNat)
  case atStart => exact ⟨0, 0, fun _ => askZero, [], by omega, by omega, by omega, rfl, World.ownsRow_nil _ _ _ _, Known.nil _ _ _, HI.out⟩
  case round =>
    clear HI
    obtain ⟨k, m, O, l, hk, hk40, hmk, rfl, hown, hkn, hio⟩ := hrel
    have HI := Lib.hid hio; have HKN := Lib.hid hkn; have HW := Lib.hid hown
    clear hio hkn hown
    obtain ⟨p, pc, rfl, hrows, hpc, hpm⟩ := own_open HW.out
    unfold maxLen at hpm
    clear hrows
    by_cases h12 : k < len ∧ k < 40
    · obtain ⟨h1, h2⟩ := h12
      have hv := HV.out
      obtain ⟨va, voff, rfl, hlt⟩ := hv.spot (by omega)
      have hv2 := hv.below HI.out.bel
      have KA := Lib.hid (fun W => light_any (R k).c W (HOK.out k).c)
      obtain ⟨x, hx⟩ : ∃ x, x = R k := ⟨_, rfl⟩
      rw [← hx] at KA
      have hcs := fun d os (j : Nat) (hj : j < 18) => hv2.grown d os h1 j hj
      rw [← hx] at hcs
      have hneq := neq_inst x.r x.s (rn : Int) s
      obtain ⟨L, hL⟩ : ∃ L, L = lightB x.c := ⟨_, rfl⟩
      rw [← hL] at KA
      have hcase : (L = false) ∨ (L = true ∧ (!(x.r == (rn : Int) && x.s == s)) = false) ∨ (L = true ∧ (!(x.r == (rn : Int) && x.s == s)) = true ∧ (x.r == (rn : Int)) = true ∧ decide (s < x.s) = true) ∨ (L = true ∧ (!(x.r == (rn : Int) && x.s == s)) = true ∧ (x.r == (rn : Int)) = true ∧ decide (s < x.s) = false) ∨ (L = true ∧ (!(x.r == (rn : Int) && x.s == s)) = true ∧ (x.r == (rn : Int)) = false) := by
        cases L
        · exact .inl rfl
        · cases h3 : (!(x.r == (rn : Int) && x.s == s))
          · exact .inr (.inl ⟨rfl, rfl⟩)
          · cases h4 : (x.r == (rn : Int))
            · exact .inr (.inr (.inr (.inr ⟨rfl, rfl, rfl⟩)))
            · cases h5 : decide (s < x.s)
              · exact .inr (.inr (.inr (.inl ⟨rfl, rfl, rfl, rfl⟩)))
              · exact .inr (.inr (.inl ⟨rfl, rfl, rfl, rfl⟩))
      have HLC := Lib.hid hL; have HXR := Lib.hid hx
      clear hL hx hv hv2
      obtain ⟨N, hN⟩ : ∃ N, N = (!(x.r == (rn : Int) && x.s == s)) := ⟨_, rfl⟩
      rw [← hN] at hneq hcase
      have HN := Lib.hid hN; clear hN
      have x1 := fun d os => hcs d os 1 (by omega)
      have x2 := fun d os => hcs d os 2 (by omega)
      have x3 := fun d os => hcs d os 3 (by omega)
      have x4 := fun d os => hcs d os 4 (by omega)
      have x5 := fun d os => hcs d os 5 (by omega)
      have x6 := fun d os => hcs d os 6 (by omega)
      have x7 := fun d os => hcs d os 7 (by omega)
      have x8 := fun d os => hcs d os 8 (by omega)
      have x9 := fun d os => hcs d os 9 (by omega)
      have x10 := fun d os => hcs d os 10 (by omega)
      have i0 := fun d os => HI.out.bi.grown d os 0
      have i1 := fun d os => HI.out.bi.grown d os 1
      simp only [Ask.cells, List.getElem?_cons_zero, List.getElem?_cons_succ] at x1 x2 x3 x4 x5 x6 x7 x8 x9 x10 i0 i1
      clear hcs
      rcases hcase with rfl | ⟨rfl, rfl⟩ | ⟨rfl, rfl, hrr, hss⟩ | ⟨rfl, rfl, hrr, hss⟩ | ⟨rfl, rfl, hrr⟩
      case inl | inr.inl | inr.inr.inl =>
        all_goals
          go_upto_region 8 with (fail)
          refine wp_region_quiet_below (by as_aux_lemma => kernel_rfl) (by as_aux_lemma => kernel_rfl) ?_
          repeat go_big_quiet_step (first
            | (go_at_call 16; with_reducible exact calls_regrown fun W _ => KA.out W))
          refine wpQuiet_nil ?_
          intro w5 hw'
          have hb5 := below_of_regrown hw'
          have HI := Lib.hid (HI.out.below hb5).more; have HW := Lib.hid (owns_below HW.out hb5)
          clear hw' hb5 x1 x2 x3 x4 x5 x6 x7 x8 x9 x10 i0 i1 hneq
          go_wp2_with fail
          go_roundw
          case rel => exact ⟨k + 1, m, O, l, by omega, by omega, by omega, by go_num, HW.out, HKN.out, HI.out⟩
          case measure => simp [intOf]; omega
      case inr.inr.inr.inl =>
        have hap : ¬ (x.r = (rn : Int) ∧ s ≤ x.s) := by
          intro hc
          have hn := HN.out
          have : x.s = s := by have := of_decide_eq_false hss; omega
          simp [hc.1, this] at hn
        have HAPX := Lib.hid hap; clear hap
        have hbB : b < B := by have := HI.out.lo; omega
        have hk2 : ∀ W, Below w.heap.size w W → Holds W gi 26 [.int .i64 rn, .int .i64 s] → (W.cell? ⟨va, voff + k * 18 + 1, none⟩ = some (.int .i64 x.q) ∧ W.cell? ⟨va, voff + k * 18 + 2, none⟩ = some (.int .i64 x.r) ∧ W.cell? ⟨va, voff + k * 18 + 3, none⟩ = some (.int .i64 x.s) ∧ W.cell? ⟨va, voff + k * 18 + 4, none⟩ = some (.int .i64 x.c.k) ∧ W.cell? ⟨va, voff + k * 18 + 5, none⟩ = some (.int .i64 x.c.c) ∧ W.cell? ⟨va, voff + k * 18 + 6, none⟩ = some (.int .i64 x.c.s) ∧ W.cell? ⟨va, voff + k * 18 + 7, none⟩ = some (.string x.c.a) ∧ W.cell? ⟨va, voff + k * 18 + 8, none⟩ = some (.string x.c.b) ∧ W.cell? ⟨va, voff + k * 18 + 9, none⟩ = some (.string x.c.o) ∧ W.cell? ⟨va, voff + k * 18 + 10, none⟩ = some (.string x.c.v) ∧ W.cell? ⟨gi, 0, none⟩ = some (.int .i64 rn) ∧ W.cell? ⟨gi, 1, none⟩ = some (.int .i64 s)) := fun W hb hi => by
          have hat := fun (j : Nat) (hj : j < 18) => HV.out.at hb h1 j hj
          rw [← HXR.out] at hat
          exact ⟨hat 1 (by omega), hat 2 (by omega), hat 3 (by omega), hat 4 (by omega), hat 5 (by omega), hat 6 (by omega), hat 7 (by omega), hat 8 (by omega), hat 9 (by omega), hat 10 (by omega), hi.cell 0, hi.cell 1⟩
        have HK := Lib.hid hk2
        have HID := Lib.hid (HI.out.below (drew_below _ _)); have HWD := Lib.hid (owns_below HW.out (drew_below _ _))
        clear hk2 x1 x2 x3 x4 x5 x6 x7 x8 x9 x10 i0 i1 HI HW
        have HNT := Lib.hid (show ∀ W, Jo w W B gi gc gu g b rn s c u k (fun _ => 0) l → Calls Try.prog 9 #[.pointer (some ⟨g, 0, none⟩), .agg #[.int .i64 x.r, .int .i64 x.s], .agg #[.int .i64 x.c.k, .int .i64 x.c.c, .int .i64 x.c.s, .string x.c.a, .string x.c.b, .string x.c.o, .string x.c.v], .int .i64 x.q] W fun e w' =>
          e = .returned (.bool x.takenB) ∧ Jo w w' B gi gc gu g b rn s c u (k + 1) (fun _ => 0) (if x.takenB then putE l x.ent else l) ∧ Touch b W w' from fun W h => by
            have h3 := h.note (by omega) x
            exact h3)
        go_upto_region 8 with (fail)
        refine wp_region_noPanic ?_
        refine wp_region_held_drew (S := fun W => W.cell? ⟨va, voff + k * 18 + 1, none⟩ = some (.int .i64 x.q) ∧ W.cell? ⟨va, voff + k * 18 + 2, none⟩ = some (.int .i64 x.r) ∧ W.cell? ⟨va, voff + k * 18 + 3, none⟩ = some (.int .i64 x.s) ∧ W.cell? ⟨va, voff + k * 18 + 4, none⟩ = some (.int .i64 x.c.k) ∧ W.cell? ⟨va, voff + k * 18 + 5, none⟩ = some (.int .i64 x.c.c) ∧ W.cell? ⟨va, voff + k * 18 + 6, none⟩ = some (.int .i64 x.c.s) ∧ W.cell? ⟨va, voff + k * 18 + 7, none⟩ = some (.string x.c.a) ∧ W.cell? ⟨va, voff + k * 18 + 8, none⟩ = some (.string x.c.b) ∧ W.cell? ⟨va, voff + k * 18 + 9, none⟩ = some (.string x.c.o) ∧ W.cell? ⟨va, voff + k * 18 + 10, none⟩ = some (.string x.c.v) ∧ W.cell? ⟨gi, 0, none⟩ = some (.int .i64 rn) ∧ W.cell? ⟨gi, 1, none⟩ = some (.int .i64 s)) (by as_aux_lemma => kernel_rfl) (HK.out _ HID.out.bel HID.out.bi) ?_
        intro hS0
        refine take_dst (i := 0) (some 50) (v := ?vall0) rfl rfl (by as_aux_lemma => kernel_rfl) (by as_aux_lemma => kernel_rfl) (by as_aux_lemma => kernel_rfl) (fun _ _ _ h => h) (Or.inl ⟨by rfl, ?hall0⟩) (by assumption) ?rall0
        case hall0 =>
          intro w hSw
          obtain ⟨s1, s2, s3, s4, s5, s6, s7, s8, s9, s10, s11, s12⟩ := hSw
          go_simp
          try with_reducible rfl
        simp only [Act.put, List.setIfInBounds_toArray, List.set_cons_zero, List.set_cons_succ]
        refine take_dst (i := 1) (some 51) (v := ?vall1) rfl rfl (by as_aux_lemma => kernel_rfl) (by as_aux_lemma => kernel_rfl) (by as_aux_lemma => kernel_rfl) (fun _ _ _ h => h) (Or.inl ⟨by rfl, ?hall1⟩) (by assumption) ?rall1
        case hall1 =>
          intro w hSw
          obtain ⟨s1, s2, s3, s4, s5, s6, s7, s8, s9, s10, s11, s12⟩ := hSw
          go_simp
          try with_reducible rfl
        simp only [Act.put, List.setIfInBounds_toArray, List.set_cons_zero, List.set_cons_succ]
        refine take_dst (i := 2) (some 52) (v := ?vall2) rfl rfl (by as_aux_lemma => kernel_rfl) (by as_aux_lemma => kernel_rfl) (by as_aux_lemma => kernel_rfl) (fun _ _ _ h => h) (Or.inl ⟨by rfl, ?hall2⟩) (by assumption) ?rall2
        case hall2 =>
          intro w hSw
          obtain ⟨s1, s2, s3, s4, s5, s6, s7, s8, s9, s10, s11, s12⟩ := hSw
          go_simp
          try with_reducible rfl
        simp only [Act.put, List.setIfInBounds_toArray, List.set_cons_zero, List.set_cons_succ]
        refine take_dst (i := 3) (some 53) (v := ?vall3) rfl rfl (by as_aux_lemma => kernel_rfl) (by as_aux_lemma => kernel_rfl) (by as_aux_lemma => kernel_rfl) (fun _ _ _ h => h) (Or.inl ⟨by rfl, ?hall3⟩) (by assumption) ?rall3
        case hall3 =>
          intro w hSw
          obtain ⟨s1, s2, s3, s4, s5, s6, s7, s8, s9, s10, s11, s12⟩ := hSw
          go_simp
          try with_reducible rfl
        simp only [Act.put, List.setIfInBounds_toArray, List.set_cons_zero, List.set_cons_succ]
        refine take_dst (i := 4) (some 54) (v := ?vall4) rfl rfl (by as_aux_lemma => kernel_rfl) (by as_aux_lemma => kernel_rfl) (by as_aux_lemma => kernel_rfl) (fun _ _ _ h => h) (Or.inl ⟨by rfl, ?hall4⟩) (by assumption) ?rall4
        case hall4 =>
          intro w hSw
          obtain ⟨s1, s2, s3, s4, s5, s6, s7, s8, s9, s10, s11, s12⟩ := hSw
          go_simp
          try with_reducible rfl
        simp only [Act.put, List.setIfInBounds_toArray, List.set_cons_zero, List.set_cons_succ]
        refine wpAnyH_ready (rs := [5]) (by as_aux_lemma => kernel_rfl) (by simp) ?_
        refine AllReadyH.cons rfl (fun K hK => ?_) AllReadyH.nil
        go_simp
        refine (KA.out _).mono ?_
        rintro e w5 ⟨rfl, hb5⟩
        have hio5 := HID.out.below hb5
        have hown5 := owns_below HWD.out hb5
        refine hK.out _ _ (HK.out _ hio5.bel hio5.bi) (fun hS1 => ?_)
        clear hS0
        clear hK
        try simp only [Act.put, List.setIfInBounds_toArray, List.set_cons_zero, List.set_cons_succ]
        refine take_dst (i := 6) (some 56) (v := ?vall6) rfl rfl (by as_aux_lemma => kernel_rfl) (by as_aux_lemma => kernel_rfl) (by as_aux_lemma => kernel_rfl) (fun _ _ _ h => h) (Or.inl ⟨by rfl, ?hall6⟩) (by assumption) ?rall6
        case hall6 =>
          intro w hSw
          obtain ⟨s1, s2, s3, s4, s5, s6, s7, s8, s9, s10, s11, s12⟩ := hSw
          go_simp
          try with_reducible rfl
        simp only [Act.put, List.setIfInBounds_toArray, List.set_cons_zero, List.set_cons_succ]
        refine take_dst (i := 7) (some 57) (v := ?vall7) rfl rfl (by as_aux_lemma => kernel_rfl) (by as_aux_lemma => kernel_rfl) (by as_aux_lemma => kernel_rfl) (fun _ _ _ h => h) (Or.inl ⟨by rfl, ?hall7⟩) (by assumption) ?rall7
        case hall7 =>
          intro w hSw
          obtain ⟨s1, s2, s3, s4, s5, s6, s7, s8, s9, s10, s11, s12⟩ := hSw
          go_simp
          try with_reducible rfl
        simp only [Act.put, List.setIfInBounds_toArray, List.set_cons_zero, List.set_cons_succ]
        refine take_dst (i := 8) (some 58) (v := ?vall8) rfl rfl (by as_aux_lemma => kernel_rfl) (by as_aux_lemma => kernel_rfl) (by as_aux_lemma => kernel_rfl) (fun _ _ _ h => h) (Or.inl ⟨by rfl, ?hall8⟩) (by assumption) ?rall8
        case hall8 =>
          intro w hSw
          obtain ⟨s1, s2, s3, s4, s5, s6, s7, s8, s9, s10, s11, s12⟩ := hSw
          go_simp
          try with_reducible rfl
        simp only [Act.put, List.setIfInBounds_toArray, List.set_cons_zero, List.set_cons_succ]
        refine take_dst (i := 9) (some 59) (v := ?vall9) rfl rfl (by as_aux_lemma => kernel_rfl) (by as_aux_lemma => kernel_rfl) (by as_aux_lemma => kernel_rfl) (fun _ _ _ h => h) (Or.inl ⟨by rfl, ?hall9⟩) (by assumption) ?rall9
        case hall9 =>
          intro w hSw
          obtain ⟨s1, s2, s3, s4, s5, s6, s7, s8, s9, s10, s11, s12⟩ := hSw
          go_simp
          try with_reducible rfl
        simp only [Act.put, List.setIfInBounds_toArray, List.set_cons_zero, List.set_cons_succ]
        refine take_dst (i := 10) (some 60) (v := ?vall10) rfl rfl (by as_aux_lemma => kernel_rfl) (by as_aux_lemma => kernel_rfl) (by as_aux_lemma => kernel_rfl) (fun _ _ _ h => h) (Or.inl ⟨by rfl, ?hall10⟩) (by assumption) ?rall10
        case hall10 =>
          intro w hSw
          obtain ⟨s1, s2, s3, s4, s5, s6, s7, s8, s9, s10, s11, s12⟩ := hSw
          go_simp
          try with_reducible rfl
        simp only [Act.put, List.setIfInBounds_toArray, List.set_cons_zero, List.set_cons_succ]
        refine take_dst (i := 11) (some 61) (v := ?vall11) rfl rfl (by as_aux_lemma => kernel_rfl) (by as_aux_lemma => kernel_rfl) (by as_aux_lemma => kernel_rfl) (fun _ _ _ h => h) (Or.inl ⟨by rfl, ?hall11⟩) (by assumption) ?rall11
        case hall11 =>
          intro w hSw
          obtain ⟨s1, s2, s3, s4, s5, s6, s7, s8, s9, s10, s11, s12⟩ := hSw
          go_simp
          try with_reducible rfl
        simp only [Act.put, List.setIfInBounds_toArray, List.set_cons_zero, List.set_cons_succ]
        refine take_dst (i := 12) (some 62) (v := ?vall12) rfl rfl (by as_aux_lemma => kernel_rfl) (by as_aux_lemma => kernel_rfl) (by as_aux_lemma => kernel_rfl) (fun _ _ _ h => h) (Or.inl ⟨by rfl, ?hall12⟩) (by assumption) ?rall12
        case hall12 =>
          intro w hSw
          obtain ⟨s1, s2, s3, s4, s5, s6, s7, s8, s9, s10, s11, s12⟩ := hSw
          go_simp
          try with_reducible rfl
        simp only [Act.put, List.setIfInBounds_toArray, List.set_cons_zero, List.set_cons_succ]
        refine take_dst (i := 13) (some 63) (v := ?vall13) rfl rfl (by as_aux_lemma => kernel_rfl) (by as_aux_lemma => kernel_rfl) (by as_aux_lemma => kernel_rfl) (fun _ _ _ h => h) (Or.inl ⟨by rfl, ?hall13⟩) (by assumption) ?rall13
        case hall13 =>
          intro w hSw
          obtain ⟨s1, s2, s3, s4, s5, s6, s7, s8, s9, s10, s11, s12⟩ := hSw
          go_simp
          try with_reducible rfl
        simp only [Act.put, List.setIfInBounds_toArray, List.set_cons_zero, List.set_cons_succ]
        refine take_dst (i := 14) (some 64) (v := ?vall14) rfl rfl (by as_aux_lemma => kernel_rfl) (by as_aux_lemma => kernel_rfl) (by as_aux_lemma => kernel_rfl) (fun _ _ _ h => h) (Or.inl ⟨by rfl, ?hall14⟩) (by assumption) ?rall14
        case hall14 =>
          intro w hSw
          obtain ⟨s1, s2, s3, s4, s5, s6, s7, s8, s9, s10, s11, s12⟩ := hSw
          go_simp
          try with_reducible rfl
        simp only [Act.put, List.setIfInBounds_toArray, List.set_cons_zero, List.set_cons_succ]
        refine take_dst (i := 15) (some 65) (v := ?vall15) rfl rfl (by as_aux_lemma => kernel_rfl) (by as_aux_lemma => kernel_rfl) (by as_aux_lemma => kernel_rfl) (fun _ _ _ h => h) (Or.inl ⟨by rfl, ?hall15⟩) (by assumption) ?rall15
        case hall15 =>
          intro w hSw
          obtain ⟨s1, s2, s3, s4, s5, s6, s7, s8, s9, s10, s11, s12⟩ := hSw
          go_simp
          try with_reducible rfl
        simp only [Act.put, List.setIfInBounds_toArray, List.set_cons_zero, List.set_cons_succ]
        refine take_dst (i := 16) (some 66) (v := ?vall16) rfl rfl (by as_aux_lemma => kernel_rfl) (by as_aux_lemma => kernel_rfl) (by as_aux_lemma => kernel_rfl) (fun _ _ _ h => h) (Or.inl ⟨by rfl, ?hall16⟩) (by assumption) ?rall16
        case hall16 =>
          intro w hSw
          obtain ⟨s1, s2, s3, s4, s5, s6, s7, s8, s9, s10, s11, s12⟩ := hSw
          go_simp
          try with_reducible rfl
        simp only [Act.put, List.setIfInBounds_toArray, List.set_cons_zero, List.set_cons_succ]
        refine take_dst (i := 17) (some 67) (v := ?vall17) rfl rfl (by as_aux_lemma => kernel_rfl) (by as_aux_lemma => kernel_rfl) (by as_aux_lemma => kernel_rfl) (fun _ _ _ h => h) (Or.inl ⟨by rfl, ?hall17⟩) (by assumption) ?rall17
        case hall17 =>
          intro w hSw
          obtain ⟨s1, s2, s3, s4, s5, s6, s7, s8, s9, s10, s11, s12⟩ := hSw
          go_simp
          try with_reducible rfl
        simp only [Act.put, List.setIfInBounds_toArray, List.set_cons_zero, List.set_cons_succ]
        refine take_dst (i := 18) (some 68) (v := ?vall18) rfl rfl (by as_aux_lemma => kernel_rfl) (by as_aux_lemma => kernel_rfl) (by as_aux_lemma => kernel_rfl) (fun _ _ _ h => h) (Or.inl ⟨by rfl, ?hall18⟩) (by assumption) ?rall18
        case hall18 =>
          intro w hSw
          obtain ⟨s1, s2, s3, s4, s5, s6, s7, s8, s9, s10, s11, s12⟩ := hSw
          go_simp
          try with_reducible rfl
        simp only [Act.put, List.setIfInBounds_toArray, List.set_cons_zero, List.set_cons_succ]
        refine take_dst (i := 19) (some 69) (v := ?vall19) rfl rfl (by as_aux_lemma => kernel_rfl) (by as_aux_lemma => kernel_rfl) (by as_aux_lemma => kernel_rfl) (fun _ _ _ h => h) (Or.inl ⟨by rfl, ?hall19⟩) (by assumption) ?rall19
        case hall19 =>
          intro w hSw
          obtain ⟨s1, s2, s3, s4, s5, s6, s7, s8, s9, s10, s11, s12⟩ := hSw
          go_simp
          try with_reducible rfl
        simp only [Act.put, List.setIfInBounds_toArray, List.set_cons_zero, List.set_cons_succ]
        refine take_dst (i := 20) (some 70) (v := ?vall20) rfl rfl (by as_aux_lemma => kernel_rfl) (by as_aux_lemma => kernel_rfl) (by as_aux_lemma => kernel_rfl) (fun _ _ _ h => h) (Or.inl ⟨by rfl, ?hall20⟩) (by assumption) ?rall20
        case hall20 =>
          intro w hSw
          obtain ⟨s1, s2, s3, s4, s5, s6, s7, s8, s9, s10, s11, s12⟩ := hSw
          go_simp
          try with_reducible rfl
        simp only [Act.put, List.setIfInBounds_toArray, List.set_cons_zero, List.set_cons_succ]
        refine take_dst (i := 21) (some 71) (v := ?vall21) rfl rfl (by as_aux_lemma => kernel_rfl) (by as_aux_lemma => kernel_rfl) (by as_aux_lemma => kernel_rfl) (fun _ _ _ h => h) (Or.inl ⟨by rfl, ?hall21⟩) (by assumption) ?rall21
        case hall21 =>
          intro w hSw
          obtain ⟨s1, s2, s3, s4, s5, s6, s7, s8, s9, s10, s11, s12⟩ := hSw
          go_simp
          try with_reducible rfl
        simp only [Act.put, List.setIfInBounds_toArray, List.set_cons_zero, List.set_cons_succ]
        refine take_dst (i := 22) (some 72) (v := ?vall22) rfl rfl (by as_aux_lemma => kernel_rfl) (by as_aux_lemma => kernel_rfl) (by as_aux_lemma => kernel_rfl) (fun _ _ _ h => h) (Or.inl ⟨by rfl, ?hall22⟩) (by assumption) ?rall22
        case hall22 =>
          intro w hSw
          obtain ⟨s1, s2, s3, s4, s5, s6, s7, s8, s9, s10, s11, s12⟩ := hSw
          go_simp
          try with_reducible rfl
        simp only [Act.put, List.setIfInBounds_toArray, List.set_cons_zero, List.set_cons_succ]
        refine take_dst (i := 23) (some 73) (v := ?vall23) rfl rfl (by as_aux_lemma => kernel_rfl) (by as_aux_lemma => kernel_rfl) (by as_aux_lemma => kernel_rfl) (fun _ _ _ h => h) (Or.inl ⟨by rfl, ?hall23⟩) (by assumption) ?rall23
        case hall23 =>
          intro w hSw
          obtain ⟨s1, s2, s3, s4, s5, s6, s7, s8, s9, s10, s11, s12⟩ := hSw
          go_simp
          try with_reducible rfl
        simp only [Act.put, List.setIfInBounds_toArray, List.set_cons_zero, List.set_cons_succ]
        refine take_dst (i := 24) (some 74) (v := ?vall24) rfl rfl (by as_aux_lemma => kernel_rfl) (by as_aux_lemma => kernel_rfl) (by as_aux_lemma => kernel_rfl) (fun _ _ _ h => h) (Or.inl ⟨by rfl, ?hall24⟩) (by assumption) ?rall24
        case hall24 =>
          intro w hSw
          obtain ⟨s1, s2, s3, s4, s5, s6, s7, s8, s9, s10, s11, s12⟩ := hSw
          go_simp
          try with_reducible rfl
        simp only [Act.put, List.setIfInBounds_toArray, List.set_cons_zero, List.set_cons_succ]
        refine take_dst (i := 25) (some 75) (v := ?vall25) rfl rfl (by as_aux_lemma => kernel_rfl) (by as_aux_lemma => kernel_rfl) (by as_aux_lemma => kernel_rfl) (fun _ _ _ h => h) (Or.inl ⟨by rfl, ?hall25⟩) (by assumption) ?rall25
        case hall25 =>
          intro w hSw
          obtain ⟨s1, s2, s3, s4, s5, s6, s7, s8, s9, s10, s11, s12⟩ := hSw
          go_simp
          try with_reducible rfl
        simp only [Act.put, List.setIfInBounds_toArray, List.set_cons_zero, List.set_cons_succ]
        refine take_dst (i := 26) (some 76) (v := ?vall26) rfl rfl (by as_aux_lemma => kernel_rfl) (by as_aux_lemma => kernel_rfl) (by as_aux_lemma => kernel_rfl) (fun _ _ _ h => h) (Or.inl ⟨by rfl, ?hall26⟩) (by assumption) ?rall26
        case hall26 =>
          intro w hSw
          obtain ⟨s1, s2, s3, s4, s5, s6, s7, s8, s9, s10, s11, s12⟩ := hSw
          go_simp
          try with_reducible rfl
        simp only [Act.put, List.setIfInBounds_toArray, List.set_cons_zero, List.set_cons_succ]
        refine take_dst (i := 27) (some 77) (v := ?vall27) rfl rfl (by as_aux_lemma => kernel_rfl) (by as_aux_lemma => kernel_rfl) (by as_aux_lemma => kernel_rfl) (fun _ _ _ h => h) (Or.inl ⟨by rfl, ?hall27⟩) (by assumption) ?rall27
        case hall27 =>
          intro w hSw
          obtain ⟨s1, s2, s3, s4, s5, s6, s7, s8, s9, s10, s11, s12⟩ := hSw
          go_simp
          try with_reducible rfl
        simp only [Act.put, List.setIfInBounds_toArray, List.set_cons_zero, List.set_cons_succ]
        refine take_dst (i := 28) (some 78) (v := ?vall28) rfl rfl (by as_aux_lemma => kernel_rfl) (by as_aux_lemma => kernel_rfl) (by as_aux_lemma => kernel_rfl) (fun _ _ _ h => h) (Or.inl ⟨by rfl, ?hall28⟩) (by assumption) ?rall28
        case hall28 =>
          intro w hSw
          obtain ⟨s1, s2, s3, s4, s5, s6, s7, s8, s9, s10, s11, s12⟩ := hSw
          go_simp
          try with_reducible rfl
        simp only [Act.put, List.setIfInBounds_toArray, List.set_cons_zero, List.set_cons_succ]
        refine take_dst (i := 29) (some 79) (v := ?vall29) rfl rfl (by as_aux_lemma => kernel_rfl) (by as_aux_lemma => kernel_rfl) (by as_aux_lemma => kernel_rfl) (fun _ _ _ h => h) (Or.inl ⟨by rfl, ?hall29⟩) (by assumption) ?rall29
        case hall29 =>
          intro w hSw
          obtain ⟨s1, s2, s3, s4, s5, s6, s7, s8, s9, s10, s11, s12⟩ := hSw
          go_simp
          try with_reducible rfl
        simp only [Act.put, List.setIfInBounds_toArray, List.set_cons_zero, List.set_cons_succ]
        refine take_dst (i := 30) (some 80) (v := ?vall30) rfl rfl (by as_aux_lemma => kernel_rfl) (by as_aux_lemma => kernel_rfl) (by as_aux_lemma => kernel_rfl) (fun _ _ _ h => h) (Or.inl ⟨by rfl, ?hall30⟩) (by assumption) ?rall30
        case hall30 =>
          intro w hSw
          obtain ⟨s1, s2, s3, s4, s5, s6, s7, s8, s9, s10, s11, s12⟩ := hSw
          go_simp
          try with_reducible rfl
        simp only [Act.put, List.setIfInBounds_toArray, List.set_cons_zero, List.set_cons_succ]
        refine take_dst (i := 31) (some 81) (v := ?vall31) rfl rfl (by as_aux_lemma => kernel_rfl) (by as_aux_lemma => kernel_rfl) (by as_aux_lemma => kernel_rfl) (fun _ _ _ h => h) (Or.inl ⟨by rfl, ?hall31⟩) (by assumption) ?rall31
        case hall31 =>
          intro w hSw
          obtain ⟨s1, s2, s3, s4, s5, s6, s7, s8, s9, s10, s11, s12⟩ := hSw
          go_simp
          try with_reducible rfl
        simp only [Act.put, List.setIfInBounds_toArray, List.set_cons_zero, List.set_cons_succ]
        refine take_dst (i := 32) (some 82) (v := ?vall32) rfl rfl (by as_aux_lemma => kernel_rfl) (by as_aux_lemma => kernel_rfl) (by as_aux_lemma => kernel_rfl) (fun _ _ _ h => h) (Or.inl ⟨by rfl, ?hall32⟩) (by assumption) ?rall32
        case hall32 =>
          intro w hSw
          obtain ⟨s1, s2, s3, s4, s5, s6, s7, s8, s9, s10, s11, s12⟩ := hSw
          go_simp
          try with_reducible rfl
        simp only [Act.put, List.setIfInBounds_toArray, List.set_cons_zero, List.set_cons_succ]
        refine take_dst (i := 33) (some 83) (v := ?vall33) rfl rfl (by as_aux_lemma => kernel_rfl) (by as_aux_lemma => kernel_rfl) (by as_aux_lemma => kernel_rfl) (fun _ _ _ h => h) (Or.inl ⟨by rfl, ?hall33⟩) (by assumption) ?rall33
        case hall33 =>
          intro w hSw
          obtain ⟨s1, s2, s3, s4, s5, s6, s7, s8, s9, s10, s11, s12⟩ := hSw
          go_simp
          try with_reducible rfl
        simp only [Act.put, List.setIfInBounds_toArray, List.set_cons_zero, List.set_cons_succ]
        refine take_dst (i := 34) (some 84) (v := ?vall34) rfl rfl (by as_aux_lemma => kernel_rfl) (by as_aux_lemma => kernel_rfl) (by as_aux_lemma => kernel_rfl) (fun _ _ _ h => h) (Or.inl ⟨by rfl, ?hall34⟩) (by assumption) ?rall34
        case hall34 =>
          intro w hSw
          obtain ⟨s1, s2, s3, s4, s5, s6, s7, s8, s9, s10, s11, s12⟩ := hSw
          go_simp
          try with_reducible rfl
        simp only [Act.put, List.setIfInBounds_toArray, List.set_cons_zero, List.set_cons_succ]
        refine take_dst (i := 35) (some 85) (v := ?vall35) rfl rfl (by as_aux_lemma => kernel_rfl) (by as_aux_lemma => kernel_rfl) (by as_aux_lemma => kernel_rfl) (fun _ _ _ h => h) (Or.inl ⟨by rfl, ?hall35⟩) (by assumption) ?rall35
        case hall35 =>
          intro w hSw
          obtain ⟨s1, s2, s3, s4, s5, s6, s7, s8, s9, s10, s11, s12⟩ := hSw
          go_simp
          try with_reducible rfl
        simp only [Act.put, List.setIfInBounds_toArray, List.set_cons_zero, List.set_cons_succ]
        refine take_dst (i := 36) (some 86) (v := ?vall36) rfl rfl (by as_aux_lemma => kernel_rfl) (by as_aux_lemma => kernel_rfl) (by as_aux_lemma => kernel_rfl) (fun _ _ _ h => h) (Or.inl ⟨by rfl, ?hall36⟩) (by assumption) ?rall36
        case hall36 =>
          intro w hSw
          obtain ⟨s1, s2, s3, s4, s5, s6, s7, s8, s9, s10, s11, s12⟩ := hSw
          go_simp
          try with_reducible rfl
        simp only [Act.put, List.setIfInBounds_toArray, List.set_cons_zero, List.set_cons_succ]
        refine take_dst (i := 37) (some 87) (v := ?vall37) rfl rfl (by as_aux_lemma => kernel_rfl) (by as_aux_lemma => kernel_rfl) (by as_aux_lemma => kernel_rfl) (fun _ _ _ h => h) (Or.inl ⟨by rfl, ?hall37⟩) (by assumption) ?rall37
        case hall37 =>
          intro w hSw
          obtain ⟨s1, s2, s3, s4, s5, s6, s7, s8, s9, s10, s11, s12⟩ := hSw
          go_simp
          try with_reducible rfl
        simp only [Act.put, List.setIfInBounds_toArray, List.set_cons_zero, List.set_cons_succ]
        refine take_dst (i := 38) (some 88) (v := ?vall38) rfl rfl (by as_aux_lemma => kernel_rfl) (by as_aux_lemma => kernel_rfl) (by as_aux_lemma => kernel_rfl) (fun _ _ _ h => h) (Or.inl ⟨by rfl, ?hall38⟩) (by assumption) ?rall38
        case hall38 =>
          intro w hSw
          obtain ⟨s1, s2, s3, s4, s5, s6, s7, s8, s9, s10, s11, s12⟩ := hSw
          go_simp
          try with_reducible rfl
        simp only [Act.put, List.setIfInBounds_toArray, List.set_cons_zero, List.set_cons_succ]
        refine take_dst (i := 39) (some 89) (v := ?vall39) rfl rfl (by as_aux_lemma => kernel_rfl) (by as_aux_lemma => kernel_rfl) (by as_aux_lemma => kernel_rfl) (fun _ _ _ h => h) (Or.inl ⟨by rfl, ?hall39⟩) (by assumption) ?rall39
        case hall39 =>
          intro w hSw
          obtain ⟨s1, s2, s3, s4, s5, s6, s7, s8, s9, s10, s11, s12⟩ := hSw
          go_simp
          try with_reducible rfl
        simp only [Act.put, List.setIfInBounds_toArray, List.set_cons_zero, List.set_cons_succ]
        refine take_dst (i := 40) (some 90) (v := ?vall40) rfl rfl (by as_aux_lemma => kernel_rfl) (by as_aux_lemma => kernel_rfl) (by as_aux_lemma => kernel_rfl) (fun _ _ _ h => h) (Or.inl ⟨by rfl, ?hall40⟩) (by assumption) ?rall40
        case hall40 =>
          intro w hSw
          obtain ⟨s1, s2, s3, s4, s5, s6, s7, s8, s9, s10, s11, s12⟩ := hSw
          go_simp
          try with_reducible rfl
        simp only [Act.put, List.setIfInBounds_toArray, List.set_cons_zero, List.set_cons_succ]
        refine take_dst (i := 41) (some 91) (v := ?vall41) rfl rfl (by as_aux_lemma => kernel_rfl) (by as_aux_lemma => kernel_rfl) (by as_aux_lemma => kernel_rfl) (fun _ _ _ h => h) (Or.inl ⟨by rfl, ?hall41⟩) (by assumption) ?rall41
        case hall41 =>
          intro w hSw
          obtain ⟨s1, s2, s3, s4, s5, s6, s7, s8, s9, s10, s11, s12⟩ := hSw
          go_simp
          try with_reducible rfl
        simp only [Act.put, List.setIfInBounds_toArray, List.set_cons_zero, List.set_cons_succ]
        refine take_dst (i := 42) (some 92) (v := ?vall42) rfl rfl (by as_aux_lemma => kernel_rfl) (by as_aux_lemma => kernel_rfl) (by as_aux_lemma => kernel_rfl) (fun _ _ _ h => h) (Or.inl ⟨by rfl, ?hall42⟩) (by assumption) ?rall42
        case hall42 =>
          intro w hSw
          obtain ⟨s1, s2, s3, s4, s5, s6, s7, s8, s9, s10, s11, s12⟩ := hSw
          go_simp
          try with_reducible rfl
        simp only [Act.put, List.setIfInBounds_toArray, List.set_cons_zero, List.set_cons_succ]
        refine take_dst (i := 43) (some 93) (v := ?vall43) rfl rfl (by as_aux_lemma => kernel_rfl) (by as_aux_lemma => kernel_rfl) (by as_aux_lemma => kernel_rfl) (fun _ _ _ h => h) (Or.inl ⟨by rfl, ?hall43⟩) (by assumption) ?rall43
        case hall43 =>
          intro w hSw
          obtain ⟨s1, s2, s3, s4, s5, s6, s7, s8, s9, s10, s11, s12⟩ := hSw
          go_simp
          try with_reducible rfl
        simp only [Act.put, List.setIfInBounds_toArray, List.set_cons_zero, List.set_cons_succ]
        refine take_dst (i := 44) (some 94) (v := ?vall44) rfl rfl (by as_aux_lemma => kernel_rfl) (by as_aux_lemma => kernel_rfl) (by as_aux_lemma => kernel_rfl) (fun _ _ _ h => h) (Or.inl ⟨by rfl, ?hall44⟩) (by assumption) ?rall44
        case hall44 =>
          intro w hSw
          obtain ⟨s1, s2, s3, s4, s5, s6, s7, s8, s9, s10, s11, s12⟩ := hSw
          go_simp
          try with_reducible rfl
        simp only [Act.put, List.setIfInBounds_toArray, List.set_cons_zero, List.set_cons_succ]
        refine take_dst (i := 45) (some 95) (v := ?vall45) rfl rfl (by as_aux_lemma => kernel_rfl) (by as_aux_lemma => kernel_rfl) (by as_aux_lemma => kernel_rfl) (fun _ _ _ h => h) (Or.inl ⟨by rfl, ?hall45⟩) (by assumption) ?rall45
        case hall45 =>
          intro w hSw
          obtain ⟨s1, s2, s3, s4, s5, s6, s7, s8, s9, s10, s11, s12⟩ := hSw
          go_simp
          try with_reducible rfl
        simp only [Act.put, List.setIfInBounds_toArray, List.set_cons_zero, List.set_cons_succ]
        refine take_dst (i := 46) (some 96) (v := ?vall46) rfl rfl (by as_aux_lemma => kernel_rfl) (by as_aux_lemma => kernel_rfl) (by as_aux_lemma => kernel_rfl) (fun _ _ _ h => h) (Or.inl ⟨by rfl, ?hall46⟩) (by assumption) ?rall46
        case hall46 =>
          intro w hSw
          obtain ⟨s1, s2, s3, s4, s5, s6, s7, s8, s9, s10, s11, s12⟩ := hSw
          go_simp
          try with_reducible rfl
        simp only [Act.put, List.setIfInBounds_toArray, List.set_cons_zero, List.set_cons_succ]
        refine take_dst (i := 47) (some 97) (v := ?vall47) rfl rfl (by as_aux_lemma => kernel_rfl) (by as_aux_lemma => kernel_rfl) (by as_aux_lemma => kernel_rfl) (fun _ _ _ h => h) (Or.inl ⟨by rfl, ?hall47⟩) (by assumption) ?rall47
        case hall47 =>
          intro w hSw
          obtain ⟨s1, s2, s3, s4, s5, s6, s7, s8, s9, s10, s11, s12⟩ := hSw
          go_simp
          try with_reducible rfl
        simp only [Act.put, List.setIfInBounds_toArray, List.set_cons_zero, List.set_cons_succ]
        refine take_dst (i := 48) (some 98) (v := ?vall48) rfl rfl (by as_aux_lemma => kernel_rfl) (by as_aux_lemma => kernel_rfl) (by as_aux_lemma => kernel_rfl) (fun _ _ _ h => h) (Or.inl ⟨by rfl, ?hall48⟩) (by assumption) ?rall48
        case hall48 =>
          intro w hSw
          obtain ⟨s1, s2, s3, s4, s5, s6, s7, s8, s9, s10, s11, s12⟩ := hSw
          go_simp
          try with_reducible rfl
        simp only [Act.put, List.setIfInBounds_toArray, List.set_cons_zero, List.set_cons_succ]
        refine take_dst (i := 49) (some 99) (v := ?vall49) rfl rfl (by as_aux_lemma => kernel_rfl) (by as_aux_lemma => kernel_rfl) (by as_aux_lemma => kernel_rfl) (fun _ _ _ h => h) (Or.inl ⟨by rfl, ?hall49⟩) (by assumption) ?rall49
        case hall49 =>
          intro w hSw
          obtain ⟨s1, s2, s3, s4, s5, s6, s7, s8, s9, s10, s11, s12⟩ := hSw
          go_simp
          try with_reducible rfl
        simp only [Act.put, List.setIfInBounds_toArray, List.set_cons_zero, List.set_cons_succ]
        refine take_dst (i := 50) (some 100) (v := ?vall50) rfl rfl (by as_aux_lemma => kernel_rfl) (by as_aux_lemma => kernel_rfl) (by as_aux_lemma => kernel_rfl) (fun _ _ _ h => h) (Or.inl ⟨by rfl, ?hall50⟩) (by assumption) ?rall50
        case hall50 =>
          intro w hSw
          obtain ⟨s1, s2, s3, s4, s5, s6, s7, s8, s9, s10, s11, s12⟩ := hSw
          go_simp
          try with_reducible rfl
        simp only [Act.put, List.setIfInBounds_toArray, List.set_cons_zero, List.set_cons_succ]
        refine take_dst (i := 51) (some 101) (v := ?vall51) rfl rfl (by as_aux_lemma => kernel_rfl) (by as_aux_lemma => kernel_rfl) (by as_aux_lemma => kernel_rfl) (fun _ _ _ h => h) (Or.inl ⟨by rfl, ?hall51⟩) (by assumption) ?rall51
        case hall51 =>
          intro w hSw
          obtain ⟨s1, s2, s3, s4, s5, s6, s7, s8, s9, s10, s11, s12⟩ := hSw
          go_simp
          try with_reducible rfl
        simp only [Act.put, List.setIfInBounds_toArray, List.set_cons_zero, List.set_cons_succ]
        refine take_dst (i := 52) (some 102) (v := ?vall52) rfl rfl (by as_aux_lemma => kernel_rfl) (by as_aux_lemma => kernel_rfl) (by as_aux_lemma => kernel_rfl) (fun _ _ _ h => h) (Or.inl ⟨by rfl, ?hall52⟩) (by assumption) ?rall52
        case hall52 =>
          intro w hSw
          obtain ⟨s1, s2, s3, s4, s5, s6, s7, s8, s9, s10, s11, s12⟩ := hSw
          go_simp
          try with_reducible rfl
        simp only [Act.put, List.setIfInBounds_toArray, List.set_cons_zero, List.set_cons_succ]
        refine take_dst (i := 53) (some 103) (v := ?vall53) rfl rfl (by as_aux_lemma => kernel_rfl) (by as_aux_lemma => kernel_rfl) (by as_aux_lemma => kernel_rfl) (fun _ _ _ h => h) (Or.inl ⟨by rfl, ?hall53⟩) (by assumption) ?rall53
        case hall53 =>
          intro w hSw
          obtain ⟨s1, s2, s3, s4, s5, s6, s7, s8, s9, s10, s11, s12⟩ := hSw
          go_simp
          try with_reducible rfl
        simp only [Act.put, List.setIfInBounds_toArray, List.set_cons_zero, List.set_cons_succ]
        refine take_dst (i := 54) (some 104) (v := ?vall54) rfl rfl (by as_aux_lemma => kernel_rfl) (by as_aux_lemma => kernel_rfl) (by as_aux_lemma => kernel_rfl) (fun _ _ _ h => h) (Or.inl ⟨by rfl, ?hall54⟩) (by assumption) ?rall54
        case hall54 =>
          intro w hSw
          obtain ⟨s1, s2, s3, s4, s5, s6, s7, s8, s9, s10, s11, s12⟩ := hSw
          go_simp
          try with_reducible rfl
        simp only [Act.put, List.setIfInBounds_toArray, List.set_cons_zero, List.set_cons_succ]
        refine wpAnyH_ready (rs := [55]) (by as_aux_lemma => kernel_rfl) (by simp) ?_
        refine AllReadyH.cons rfl (fun K hK => ?_) AllReadyH.nil
        go_simp
        refine (HNT.out _ hio5).mono ?_
        rintro e w6 ⟨rfl, hio6, ht6⟩
        have hown6 := owns_touch hown5 ht6 hbB
        refine hK.out _ _ (HK.out _ hio6.bel hio6.bi) (fun hS2 => ?_)
        clear hS1
        clear hK
        try simp only [Act.put, List.setIfInBounds_toArray, List.set_cons_zero, List.set_cons_succ]
        refine take_dst (i := 56) (some 106) (v := ?vall56) rfl rfl (by as_aux_lemma => kernel_rfl) (by as_aux_lemma => kernel_rfl) (by as_aux_lemma => kernel_rfl) (fun _ _ _ h => h) (Or.inl ⟨by rfl, ?hall56⟩) (by assumption) ?rall56
        case hall56 =>
          intro w hSw
          obtain ⟨s1, s2, s3, s4, s5, s6, s7, s8, s9, s10, s11, s12⟩ := hSw
          go_simp
          try with_reducible rfl
        simp only [Act.put, List.setIfInBounds_toArray, List.set_cons_zero, List.set_cons_succ]
        refine wpAnyH_done (by as_aux_lemma => kernel_rfl) ?_ _
        refine NoPanic.normal ?_
        have HI := Lib.hid hio6; have HW := Lib.hid hown6
        clear hio6 hown6 ht6 hio5 hown5 hb5 HK HID HWD KA hneq
        generalize hz : x.takenB = z at HI ⊢
        cases z
        · have HI := Lib.hid (show Jo w w6 B gi gc gu g b rn s c u (k + 1) (fun _ => 0) l from HI.out)
          go_wp2_with fail
          go_roundw
          case rel => exact ⟨k + 1, m, O, l, by omega, by omega, by omega, by go_num, HW.out, HKN.out, HI.out⟩
          case measure => simp [intOf]; omega
        · have HI := Lib.hid (show Jo w w6 B gi gc gu g b rn s c u (k + 1) (fun _ => 0) (putE l x.ent) from HI.out)
          have hkn2 := HKN.out.snoc hz HAPX.out HLC.out.symm
          have HKN := Lib.hid hkn2
          have hrg := HV.out.range HI.out.bel h1
          rw [← HXR.out] at hrg
          simp only [Ask.cells] at hrg
          have HRG := Lib.hid hrg; clear hrg hkn2 hz
          go_wp2_with (first
            | (refine wpList_load_mid rfl 43 _ rfl va (voff + k * 18) rfl _ _ HRG.out Try.underlying43 rfl (by as_aux_lemma => kernel_rfl) ?_)
            | (at_builtin; go_must (refine append_ask rfl (.tmp 107) (.tmp 112) rfl B m _ O x rfl (owns_below HW.out (by go_grown)) _ rfl (holds_alloc _ _ x.cells) (by omega) (by have := HI.out.le; simp; omega) ?_); intro v4 w7 ho7 hb7))
          have HI := Lib.hid ((HI.out.below (show Below w6.heap.size w6 _ by go_grown)).next hb7)
          clear hb7
          go_roundw
          case rel => exact ⟨k + 1, m + 1, snocA O m x, _, by omega, by omega, by omega, by go_num, ho7, HKN.out, HI.out⟩
          case measure => simp [intOf]; omega
      case inr.inr.inr.inr =>
        have hap : ¬ (x.r = (rn : Int) ∧ s ≤ x.s) := by
          intro hc
          have hn := HN.out
          simp [hc.1] at hrr
        have HAPX := Lib.hid hap; clear hap
        have hbB : b < B := by have := HI.out.lo; omega
        have hk2 : ∀ W, Below w.heap.size w W → Holds W gi 26 [.int .i64 rn, .int .i64 s] → (W.cell? ⟨va, voff + k * 18 + 1, none⟩ = some (.int .i64 x.q) ∧ W.cell? ⟨va, voff + k * 18 + 2, none⟩ = some (.int .i64 x.r) ∧ W.cell? ⟨va, voff + k * 18 + 3, none⟩ = some (.int .i64 x.s) ∧ W.cell? ⟨va, voff + k * 18 + 4, none⟩ = some (.int .i64 x.c.k) ∧ W.cell? ⟨va, voff + k * 18 + 5, none⟩ = some (.int .i64 x.c.c) ∧ W.cell? ⟨va, voff + k * 18 + 6, none⟩ = some (.int .i64 x.c.s) ∧ W.cell? ⟨va, voff + k * 18 + 7, none⟩ = some (.string x.c.a) ∧ W.cell? ⟨va, voff + k * 18 + 8, none⟩ = some (.string x.c.b) ∧ W.cell? ⟨va, voff + k * 18 + 9, none⟩ = some (.string x.c.o) ∧ W.cell? ⟨va, voff + k * 18 + 10, none⟩ = some (.string x.c.v) ∧ W.cell? ⟨gi, 0, none⟩ = some (.int .i64 rn) ∧ W.cell? ⟨gi, 1, none⟩ = some (.int .i64 s)) := fun W hb hi => by
          have hat := fun (j : Nat) (hj : j < 18) => HV.out.at hb h1 j hj
          rw [← HXR.out] at hat
          exact ⟨hat 1 (by omega), hat 2 (by omega), hat 3 (by omega), hat 4 (by omega), hat 5 (by omega), hat 6 (by omega), hat 7 (by omega), hat 8 (by omega), hat 9 (by omega), hat 10 (by omega), hi.cell 0, hi.cell 1⟩
        have HK := Lib.hid hk2
        have HID := Lib.hid (HI.out.below (drew_below _ _)); have HWD := Lib.hid (owns_below HW.out (drew_below _ _))
        clear hk2 x1 x2 x3 x4 x5 x6 x7 x8 x9 x10 i0 i1 HI HW
        have HNT := Lib.hid (show ∀ W, Jo w W B gi gc gu g b rn s c u k (fun _ => 0) l → Calls Try.prog 9 #[.pointer (some ⟨g, 0, none⟩), .agg #[.int .i64 x.r, .int .i64 x.s], .agg #[.int .i64 x.c.k, .int .i64 x.c.c, .int .i64 x.c.s, .string x.c.a, .string x.c.b, .string x.c.o, .string x.c.v], .int .i64 x.q] W fun e w' =>
          e = .returned (.bool x.takenB) ∧ Jo w w' B gi gc gu g b rn s c u (k + 1) (fun _ => 0) (if x.takenB then putE l x.ent else l) ∧ Touch b W w' from fun W h => by
            have h3 := h.note (by omega) x
            exact h3)
        go_upto_region 8 with (fail)
        refine wp_region_noPanic ?_
        refine wp_region_held_drew (S := fun W => W.cell? ⟨va, voff + k * 18 + 1, none⟩ = some (.int .i64 x.q) ∧ W.cell? ⟨va, voff + k * 18 + 2, none⟩ = some (.int .i64 x.r) ∧ W.cell? ⟨va, voff + k * 18 + 3, none⟩ = some (.int .i64 x.s) ∧ W.cell? ⟨va, voff + k * 18 + 4, none⟩ = some (.int .i64 x.c.k) ∧ W.cell? ⟨va, voff + k * 18 + 5, none⟩ = some (.int .i64 x.c.c) ∧ W.cell? ⟨va, voff + k * 18 + 6, none⟩ = some (.int .i64 x.c.s) ∧ W.cell? ⟨va, voff + k * 18 + 7, none⟩ = some (.string x.c.a) ∧ W.cell? ⟨va, voff + k * 18 + 8, none⟩ = some (.string x.c.b) ∧ W.cell? ⟨va, voff + k * 18 + 9, none⟩ = some (.string x.c.o) ∧ W.cell? ⟨va, voff + k * 18 + 10, none⟩ = some (.string x.c.v) ∧ W.cell? ⟨gi, 0, none⟩ = some (.int .i64 rn) ∧ W.cell? ⟨gi, 1, none⟩ = some (.int .i64 s)) (by as_aux_lemma => kernel_rfl) (HK.out _ HID.out.bel HID.out.bi) ?_
        intro hS0
        refine take_dst (i := 0) (some 50) (v := ?v80) rfl rfl (by as_aux_lemma => kernel_rfl) (by as_aux_lemma => kernel_rfl) (by as_aux_lemma => kernel_rfl) (fun _ _ _ h => h) (Or.inl ⟨by rfl, ?h80⟩) (by assumption) ?r80
        case h80 =>
          intro w hSw
          obtain ⟨s1, s2, s3, s4, s5, s6, s7, s8, s9, s10, s11, s12⟩ := hSw
          go_simp
          try with_reducible rfl
        simp only [Act.put, List.setIfInBounds_toArray, List.set_cons_zero, List.set_cons_succ]
        refine take_dst (i := 1) (some 51) (v := ?v81) rfl rfl (by as_aux_lemma => kernel_rfl) (by as_aux_lemma => kernel_rfl) (by as_aux_lemma => kernel_rfl) (fun _ _ _ h => h) (Or.inl ⟨by rfl, ?h81⟩) (by assumption) ?r81
        case h81 =>
          intro w hSw
          obtain ⟨s1, s2, s3, s4, s5, s6, s7, s8, s9, s10, s11, s12⟩ := hSw
          go_simp
          try with_reducible rfl
        simp only [Act.put, List.setIfInBounds_toArray, List.set_cons_zero, List.set_cons_succ]
        refine take_dst (i := 2) (some 52) (v := ?v82) rfl rfl (by as_aux_lemma => kernel_rfl) (by as_aux_lemma => kernel_rfl) (by as_aux_lemma => kernel_rfl) (fun _ _ _ h => h) (Or.inl ⟨by rfl, ?h82⟩) (by assumption) ?r82
        case h82 =>
          intro w hSw
          obtain ⟨s1, s2, s3, s4, s5, s6, s7, s8, s9, s10, s11, s12⟩ := hSw
          go_simp
          try with_reducible rfl
        simp only [Act.put, List.setIfInBounds_toArray, List.set_cons_zero, List.set_cons_succ]
        refine take_dst (i := 3) (some 53) (v := ?v83) rfl rfl (by as_aux_lemma => kernel_rfl) (by as_aux_lemma => kernel_rfl) (by as_aux_lemma => kernel_rfl) (fun _ _ _ h => h) (Or.inl ⟨by rfl, ?h83⟩) (by assumption) ?r83
        case h83 =>
          intro w hSw
          obtain ⟨s1, s2, s3, s4, s5, s6, s7, s8, s9, s10, s11, s12⟩ := hSw
          go_simp
          try with_reducible rfl
        simp only [Act.put, List.setIfInBounds_toArray, List.set_cons_zero, List.set_cons_succ]
        refine take_dst (i := 4) (some 54) (v := ?v84) rfl rfl (by as_aux_lemma => kernel_rfl) (by as_aux_lemma => kernel_rfl) (by as_aux_lemma => kernel_rfl) (fun _ _ _ h => h) (Or.inl ⟨by rfl, ?h84⟩) (by assumption) ?r84
        case h84 =>
          intro w hSw
          obtain ⟨s1, s2, s3, s4, s5, s6, s7, s8, s9, s10, s11, s12⟩ := hSw
          go_simp
          try with_reducible rfl
        simp only [Act.put, List.setIfInBounds_toArray, List.set_cons_zero, List.set_cons_succ]
        refine wpAnyH_ready (rs := [5]) (by as_aux_lemma => kernel_rfl) (by simp) ?_
        refine AllReadyH.cons rfl (fun K hK => ?_) AllReadyH.nil
        go_simp
        refine (KA.out _).mono ?_
        rintro e w5 ⟨rfl, hb5⟩
        have hio5 := HID.out.below hb5
        have hown5 := owns_below HWD.out hb5
        refine hK.out _ _ (HK.out _ hio5.bel hio5.bi) (fun hS1 => ?_)
        clear hS0
        clear hK
        try simp only [Act.put, List.setIfInBounds_toArray, List.set_cons_zero, List.set_cons_succ]
        refine take_dst (i := 6) (some 56) (v := ?v86) rfl rfl (by as_aux_lemma => kernel_rfl) (by as_aux_lemma => kernel_rfl) (by as_aux_lemma => kernel_rfl) (fun _ _ _ h => h) (Or.inl ⟨by rfl, ?h86⟩) (by assumption) ?r86
        case h86 =>
          intro w hSw
          obtain ⟨s1, s2, s3, s4, s5, s6, s7, s8, s9, s10, s11, s12⟩ := hSw
          go_simp
          try with_reducible rfl
        simp only [Act.put, List.setIfInBounds_toArray, List.set_cons_zero, List.set_cons_succ]
        refine take_dst (i := 7) (some 57) (v := ?v87) rfl rfl (by as_aux_lemma => kernel_rfl) (by as_aux_lemma => kernel_rfl) (by as_aux_lemma => kernel_rfl) (fun _ _ _ h => h) (Or.inl ⟨by rfl, ?h87⟩) (by assumption) ?r87
        case h87 =>
          intro w hSw
          obtain ⟨s1, s2, s3, s4, s5, s6, s7, s8, s9, s10, s11, s12⟩ := hSw
          go_simp
          try with_reducible rfl
        simp only [Act.put, List.setIfInBounds_toArray, List.set_cons_zero, List.set_cons_succ]
        refine take_dst (i := 8) (some 58) (v := ?v88) rfl rfl (by as_aux_lemma => kernel_rfl) (by as_aux_lemma => kernel_rfl) (by as_aux_lemma => kernel_rfl) (fun _ _ _ h => h) (Or.inl ⟨by rfl, ?h88⟩) (by assumption) ?r88
        case h88 =>
          intro w hSw
          obtain ⟨s1, s2, s3, s4, s5, s6, s7, s8, s9, s10, s11, s12⟩ := hSw
          go_simp
          try with_reducible rfl
        simp only [Act.put, List.setIfInBounds_toArray, List.set_cons_zero, List.set_cons_succ]
        refine take_dst (i := 9) (some 59) (v := ?v89) rfl rfl (by as_aux_lemma => kernel_rfl) (by as_aux_lemma => kernel_rfl) (by as_aux_lemma => kernel_rfl) (fun _ _ _ h => h) (Or.inl ⟨by rfl, ?h89⟩) (by assumption) ?r89
        case h89 =>
          intro w hSw
          obtain ⟨s1, s2, s3, s4, s5, s6, s7, s8, s9, s10, s11, s12⟩ := hSw
          go_simp
          try with_reducible rfl
        simp only [Act.put, List.setIfInBounds_toArray, List.set_cons_zero, List.set_cons_succ]
        refine take_dst (i := 10) (some 60) (v := ?v810) rfl rfl (by as_aux_lemma => kernel_rfl) (by as_aux_lemma => kernel_rfl) (by as_aux_lemma => kernel_rfl) (fun _ _ _ h => h) (Or.inl ⟨by rfl, ?h810⟩) (by assumption) ?r810
        case h810 =>
          intro w hSw
          obtain ⟨s1, s2, s3, s4, s5, s6, s7, s8, s9, s10, s11, s12⟩ := hSw
          go_simp
          try with_reducible rfl
        simp only [Act.put, List.setIfInBounds_toArray, List.set_cons_zero, List.set_cons_succ]
        refine take_dst (i := 11) (some 61) (v := ?v811) rfl rfl (by as_aux_lemma => kernel_rfl) (by as_aux_lemma => kernel_rfl) (by as_aux_lemma => kernel_rfl) (fun _ _ _ h => h) (Or.inl ⟨by rfl, ?h811⟩) (by assumption) ?r811
        case h811 =>
          intro w hSw
          obtain ⟨s1, s2, s3, s4, s5, s6, s7, s8, s9, s10, s11, s12⟩ := hSw
          go_simp
          try with_reducible rfl
        simp only [Act.put, List.setIfInBounds_toArray, List.set_cons_zero, List.set_cons_succ]
        refine take_dst (i := 12) (some 62) (v := ?v812) rfl rfl (by as_aux_lemma => kernel_rfl) (by as_aux_lemma => kernel_rfl) (by as_aux_lemma => kernel_rfl) (fun _ _ _ h => h) (Or.inl ⟨by rfl, ?h812⟩) (by assumption) ?r812
        case h812 =>
          intro w hSw
          obtain ⟨s1, s2, s3, s4, s5, s6, s7, s8, s9, s10, s11, s12⟩ := hSw
          go_simp
          try with_reducible rfl
        simp only [Act.put, List.setIfInBounds_toArray, List.set_cons_zero, List.set_cons_succ]
        refine take_dst (i := 13) (some 63) (v := ?v813) rfl rfl (by as_aux_lemma => kernel_rfl) (by as_aux_lemma => kernel_rfl) (by as_aux_lemma => kernel_rfl) (fun _ _ _ h => h) (Or.inl ⟨by rfl, ?h813⟩) (by assumption) ?r813
        case h813 =>
          intro w hSw
          obtain ⟨s1, s2, s3, s4, s5, s6, s7, s8, s9, s10, s11, s12⟩ := hSw
          go_simp
          try with_reducible rfl
        simp only [Act.put, List.setIfInBounds_toArray, List.set_cons_zero, List.set_cons_succ]
        refine take_dst (i := 14) (some 64) (v := ?v814) rfl rfl (by as_aux_lemma => kernel_rfl) (by as_aux_lemma => kernel_rfl) (by as_aux_lemma => kernel_rfl) (fun _ _ _ h => h) (Or.inl ⟨by rfl, ?h814⟩) (by assumption) ?r814
        case h814 =>
          intro w hSw
          obtain ⟨s1, s2, s3, s4, s5, s6, s7, s8, s9, s10, s11, s12⟩ := hSw
          go_simp
          try with_reducible rfl
        simp only [Act.put, List.setIfInBounds_toArray, List.set_cons_zero, List.set_cons_succ]
        refine take_dst (i := 15) (some 65) (v := ?v815) rfl rfl (by as_aux_lemma => kernel_rfl) (by as_aux_lemma => kernel_rfl) (by as_aux_lemma => kernel_rfl) (fun _ _ _ h => h) (Or.inl ⟨by rfl, ?h815⟩) (by assumption) ?r815
        case h815 =>
          intro w hSw
          obtain ⟨s1, s2, s3, s4, s5, s6, s7, s8, s9, s10, s11, s12⟩ := hSw
          go_simp
          try with_reducible rfl
        simp only [Act.put, List.setIfInBounds_toArray, List.set_cons_zero, List.set_cons_succ]
        refine take_dst (i := 16) (some 66) (v := ?v816) rfl rfl (by as_aux_lemma => kernel_rfl) (by as_aux_lemma => kernel_rfl) (by as_aux_lemma => kernel_rfl) (fun _ _ _ h => h) (Or.inl ⟨by rfl, ?h816⟩) (by assumption) ?r816
        case h816 =>
          intro w hSw
          obtain ⟨s1, s2, s3, s4, s5, s6, s7, s8, s9, s10, s11, s12⟩ := hSw
          go_simp
          try with_reducible rfl
        simp only [Act.put, List.setIfInBounds_toArray, List.set_cons_zero, List.set_cons_succ]
        refine take_dst (i := 17) (some 67) (v := ?v817) rfl rfl (by as_aux_lemma => kernel_rfl) (by as_aux_lemma => kernel_rfl) (by as_aux_lemma => kernel_rfl) (fun _ _ _ h => h) (Or.inl ⟨by rfl, ?h817⟩) (by assumption) ?r817
        case h817 =>
          intro w hSw
          obtain ⟨s1, s2, s3, s4, s5, s6, s7, s8, s9, s10, s11, s12⟩ := hSw
          go_simp
          try with_reducible rfl
        simp only [Act.put, List.setIfInBounds_toArray, List.set_cons_zero, List.set_cons_succ]
        refine take_dst (i := 18) (some 68) (v := ?v818) rfl rfl (by as_aux_lemma => kernel_rfl) (by as_aux_lemma => kernel_rfl) (by as_aux_lemma => kernel_rfl) (fun _ _ _ h => h) (Or.inl ⟨by rfl, ?h818⟩) (by assumption) ?r818
        case h818 =>
          intro w hSw
          obtain ⟨s1, s2, s3, s4, s5, s6, s7, s8, s9, s10, s11, s12⟩ := hSw
          go_simp
          try with_reducible rfl
        simp only [Act.put, List.setIfInBounds_toArray, List.set_cons_zero, List.set_cons_succ]
        refine take_dst (i := 19) (some 69) (v := ?v819) rfl rfl (by as_aux_lemma => kernel_rfl) (by as_aux_lemma => kernel_rfl) (by as_aux_lemma => kernel_rfl) (fun _ _ _ h => h) (Or.inl ⟨by rfl, ?h819⟩) (by assumption) ?r819
        case h819 =>
          intro w hSw
          obtain ⟨s1, s2, s3, s4, s5, s6, s7, s8, s9, s10, s11, s12⟩ := hSw
          go_simp
          try with_reducible rfl
        simp only [Act.put, List.setIfInBounds_toArray, List.set_cons_zero, List.set_cons_succ]
        refine take_dst (i := 20) (some 70) (v := ?v820) rfl rfl (by as_aux_lemma => kernel_rfl) (by as_aux_lemma => kernel_rfl) (by as_aux_lemma => kernel_rfl) (fun _ _ _ h => h) (Or.inl ⟨by rfl, ?h820⟩) (by assumption) ?r820
        case h820 =>
          intro w hSw
          obtain ⟨s1, s2, s3, s4, s5, s6, s7, s8, s9, s10, s11, s12⟩ := hSw
          go_simp
          try with_reducible rfl
        simp only [Act.put, List.setIfInBounds_toArray, List.set_cons_zero, List.set_cons_succ]
        refine take_dst (i := 21) (some 71) (v := ?v821) rfl rfl (by as_aux_lemma => kernel_rfl) (by as_aux_lemma => kernel_rfl) (by as_aux_lemma => kernel_rfl) (fun _ _ _ h => h) (Or.inl ⟨by rfl, ?h821⟩) (by assumption) ?r821
        case h821 =>
          intro w hSw
          obtain ⟨s1, s2, s3, s4, s5, s6, s7, s8, s9, s10, s11, s12⟩ := hSw
          go_simp
          try with_reducible rfl
        simp only [Act.put, List.setIfInBounds_toArray, List.set_cons_zero, List.set_cons_succ]
        refine take_dst (i := 22) (some 72) (v := ?v822) rfl rfl (by as_aux_lemma => kernel_rfl) (by as_aux_lemma => kernel_rfl) (by as_aux_lemma => kernel_rfl) (fun _ _ _ h => h) (Or.inl ⟨by rfl, ?h822⟩) (by assumption) ?r822
        case h822 =>
          intro w hSw
          obtain ⟨s1, s2, s3, s4, s5, s6, s7, s8, s9, s10, s11, s12⟩ := hSw
          go_simp
          try with_reducible rfl
        simp only [Act.put, List.setIfInBounds_toArray, List.set_cons_zero, List.set_cons_succ]
        refine take_dst (i := 23) (some 73) (v := ?v823) rfl rfl (by as_aux_lemma => kernel_rfl) (by as_aux_lemma => kernel_rfl) (by as_aux_lemma => kernel_rfl) (fun _ _ _ h => h) (Or.inl ⟨by rfl, ?h823⟩) (by assumption) ?r823
        case h823 =>
          intro w hSw
          obtain ⟨s1, s2, s3, s4, s5, s6, s7, s8, s9, s10, s11, s12⟩ := hSw
          go_simp
          try with_reducible rfl
        simp only [Act.put, List.setIfInBounds_toArray, List.set_cons_zero, List.set_cons_succ]
        refine take_dst (i := 24) (some 74) (v := ?v824) rfl rfl (by as_aux_lemma => kernel_rfl) (by as_aux_lemma => kernel_rfl) (by as_aux_lemma => kernel_rfl) (fun _ _ _ h => h) (Or.inl ⟨by rfl, ?h824⟩) (by assumption) ?r824
        case h824 =>
          intro w hSw
          obtain ⟨s1, s2, s3, s4, s5, s6, s7, s8, s9, s10, s11, s12⟩ := hSw
          go_simp
          try with_reducible rfl
        simp only [Act.put, List.setIfInBounds_toArray, List.set_cons_zero, List.set_cons_succ]
        refine take_dst (i := 25) (some 75) (v := ?v825) rfl rfl (by as_aux_lemma => kernel_rfl) (by as_aux_lemma => kernel_rfl) (by as_aux_lemma => kernel_rfl) (fun _ _ _ h => h) (Or.inl ⟨by rfl, ?h825⟩) (by assumption) ?r825
        case h825 =>
          intro w hSw
          obtain ⟨s1, s2, s3, s4, s5, s6, s7, s8, s9, s10, s11, s12⟩ := hSw
          go_simp
          try with_reducible rfl
        simp only [Act.put, List.setIfInBounds_toArray, List.set_cons_zero, List.set_cons_succ]
        refine take_dst (i := 26) (some 76) (v := undef) rfl rfl (by as_aux_lemma => kernel_rfl) (by as_aux_lemma => kernel_rfl) (by as_aux_lemma => kernel_rfl) (fun _ _ _ h => h) (Or.inr ⟨by rfl, rfl⟩) (by assumption) ?_
        simp only [Act.put, List.setIfInBounds_toArray, List.set_cons_zero, List.set_cons_succ]
        refine take_dst (i := 27) (some 77) (v := undef) rfl rfl (by as_aux_lemma => kernel_rfl) (by as_aux_lemma => kernel_rfl) (by as_aux_lemma => kernel_rfl) (fun _ _ _ h => h) (Or.inr ⟨by rfl, rfl⟩) (by assumption) ?_
        simp only [Act.put, List.setIfInBounds_toArray, List.set_cons_zero, List.set_cons_succ]
        refine take_dst (i := 28) (some 78) (v := undef) rfl rfl (by as_aux_lemma => kernel_rfl) (by as_aux_lemma => kernel_rfl) (by as_aux_lemma => kernel_rfl) (fun _ _ _ h => h) (Or.inr ⟨by rfl, rfl⟩) (by assumption) ?_
        simp only [Act.put, List.setIfInBounds_toArray, List.set_cons_zero, List.set_cons_succ]
        refine take_dst (i := 29) (some 79) (v := undef) rfl rfl (by as_aux_lemma => kernel_rfl) (by as_aux_lemma => kernel_rfl) (by as_aux_lemma => kernel_rfl) (fun _ _ _ h => h) (Or.inr ⟨by rfl, rfl⟩) (by assumption) ?_
        simp only [Act.put, List.setIfInBounds_toArray, List.set_cons_zero, List.set_cons_succ]
        refine take_dst (i := 30) (some 80) (v := undef) rfl rfl (by as_aux_lemma => kernel_rfl) (by as_aux_lemma => kernel_rfl) (by as_aux_lemma => kernel_rfl) (fun _ _ _ h => h) (Or.inr ⟨by rfl, rfl⟩) (by assumption) ?_
        simp only [Act.put, List.setIfInBounds_toArray, List.set_cons_zero, List.set_cons_succ]
        refine take_dst (i := 31) (some 81) (v := undef) rfl rfl (by as_aux_lemma => kernel_rfl) (by as_aux_lemma => kernel_rfl) (by as_aux_lemma => kernel_rfl) (fun _ _ _ h => h) (Or.inr ⟨by rfl, rfl⟩) (by assumption) ?_
        simp only [Act.put, List.setIfInBounds_toArray, List.set_cons_zero, List.set_cons_succ]
        refine take_dst (i := 32) (some 82) (v := undef) rfl rfl (by as_aux_lemma => kernel_rfl) (by as_aux_lemma => kernel_rfl) (by as_aux_lemma => kernel_rfl) (fun _ _ _ h => h) (Or.inr ⟨by rfl, rfl⟩) (by assumption) ?_
        simp only [Act.put, List.setIfInBounds_toArray, List.set_cons_zero, List.set_cons_succ]
        refine take_dst (i := 33) (some 83) (v := undef) rfl rfl (by as_aux_lemma => kernel_rfl) (by as_aux_lemma => kernel_rfl) (by as_aux_lemma => kernel_rfl) (fun _ _ _ h => h) (Or.inr ⟨by rfl, rfl⟩) (by assumption) ?_
        simp only [Act.put, List.setIfInBounds_toArray, List.set_cons_zero, List.set_cons_succ]
        refine take_dst (i := 34) (some 84) (v := undef) rfl rfl (by as_aux_lemma => kernel_rfl) (by as_aux_lemma => kernel_rfl) (by as_aux_lemma => kernel_rfl) (fun _ _ _ h => h) (Or.inr ⟨by rfl, rfl⟩) (by assumption) ?_
        simp only [Act.put, List.setIfInBounds_toArray, List.set_cons_zero, List.set_cons_succ]
        refine take_dst (i := 35) (some 85) (v := ?v835) rfl rfl (by as_aux_lemma => kernel_rfl) (by as_aux_lemma => kernel_rfl) (by as_aux_lemma => kernel_rfl) (fun _ _ _ h => h) (Or.inl ⟨by rfl, ?h835⟩) (by assumption) ?r835
        case h835 =>
          intro w hSw
          obtain ⟨s1, s2, s3, s4, s5, s6, s7, s8, s9, s10, s11, s12⟩ := hSw
          go_simp
          try with_reducible rfl
        simp only [Act.put, List.setIfInBounds_toArray, List.set_cons_zero, List.set_cons_succ]
        refine take_dst (i := 36) (some 86) (v := ?v836) rfl rfl (by as_aux_lemma => kernel_rfl) (by as_aux_lemma => kernel_rfl) (by as_aux_lemma => kernel_rfl) (fun _ _ _ h => h) (Or.inl ⟨by rfl, ?h836⟩) (by assumption) ?r836
        case h836 =>
          intro w hSw
          obtain ⟨s1, s2, s3, s4, s5, s6, s7, s8, s9, s10, s11, s12⟩ := hSw
          go_simp
          try with_reducible rfl
        simp only [Act.put, List.setIfInBounds_toArray, List.set_cons_zero, List.set_cons_succ]
        refine take_dst (i := 37) (some 87) (v := ?v837) rfl rfl (by as_aux_lemma => kernel_rfl) (by as_aux_lemma => kernel_rfl) (by as_aux_lemma => kernel_rfl) (fun _ _ _ h => h) (Or.inl ⟨by rfl, ?h837⟩) (by assumption) ?r837
        case h837 =>
          intro w hSw
          obtain ⟨s1, s2, s3, s4, s5, s6, s7, s8, s9, s10, s11, s12⟩ := hSw
          go_simp
          try with_reducible rfl
        simp only [Act.put, List.setIfInBounds_toArray, List.set_cons_zero, List.set_cons_succ]
        refine take_dst (i := 38) (some 88) (v := ?v838) rfl rfl (by as_aux_lemma => kernel_rfl) (by as_aux_lemma => kernel_rfl) (by as_aux_lemma => kernel_rfl) (fun _ _ _ h => h) (Or.inl ⟨by rfl, ?h838⟩) (by assumption) ?r838
        case h838 =>
          intro w hSw
          obtain ⟨s1, s2, s3, s4, s5, s6, s7, s8, s9, s10, s11, s12⟩ := hSw
          go_simp
          try with_reducible rfl
        simp only [Act.put, List.setIfInBounds_toArray, List.set_cons_zero, List.set_cons_succ]
        refine take_dst (i := 39) (some 89) (v := ?v839) rfl rfl (by as_aux_lemma => kernel_rfl) (by as_aux_lemma => kernel_rfl) (by as_aux_lemma => kernel_rfl) (fun _ _ _ h => h) (Or.inl ⟨by rfl, ?h839⟩) (by assumption) ?r839
        case h839 =>
          intro w hSw
          obtain ⟨s1, s2, s3, s4, s5, s6, s7, s8, s9, s10, s11, s12⟩ := hSw
          go_simp
          try with_reducible rfl
        simp only [Act.put, List.setIfInBounds_toArray, List.set_cons_zero, List.set_cons_succ]
        refine take_dst (i := 40) (some 90) (v := ?v840) rfl rfl (by as_aux_lemma => kernel_rfl) (by as_aux_lemma => kernel_rfl) (by as_aux_lemma => kernel_rfl) (fun _ _ _ h => h) (Or.inl ⟨by rfl, ?h840⟩) (by assumption) ?r840
        case h840 =>
          intro w hSw
          obtain ⟨s1, s2, s3, s4, s5, s6, s7, s8, s9, s10, s11, s12⟩ := hSw
          go_simp
          try with_reducible rfl
        simp only [Act.put, List.setIfInBounds_toArray, List.set_cons_zero, List.set_cons_succ]
        refine take_dst (i := 41) (some 91) (v := ?v841) rfl rfl (by as_aux_lemma => kernel_rfl) (by as_aux_lemma => kernel_rfl) (by as_aux_lemma => kernel_rfl) (fun _ _ _ h => h) (Or.inl ⟨by rfl, ?h841⟩) (by assumption) ?r841
        case h841 =>
          intro w hSw
          obtain ⟨s1, s2, s3, s4, s5, s6, s7, s8, s9, s10, s11, s12⟩ := hSw
          go_simp
          try with_reducible rfl
        simp only [Act.put, List.setIfInBounds_toArray, List.set_cons_zero, List.set_cons_succ]
        refine take_dst (i := 42) (some 92) (v := ?v842) rfl rfl (by as_aux_lemma => kernel_rfl) (by as_aux_lemma => kernel_rfl) (by as_aux_lemma => kernel_rfl) (fun _ _ _ h => h) (Or.inl ⟨by rfl, ?h842⟩) (by assumption) ?r842
        case h842 =>
          intro w hSw
          obtain ⟨s1, s2, s3, s4, s5, s6, s7, s8, s9, s10, s11, s12⟩ := hSw
          go_simp
          try with_reducible rfl
        simp only [Act.put, List.setIfInBounds_toArray, List.set_cons_zero, List.set_cons_succ]
        refine take_dst (i := 43) (some 93) (v := ?v843) rfl rfl (by as_aux_lemma => kernel_rfl) (by as_aux_lemma => kernel_rfl) (by as_aux_lemma => kernel_rfl) (fun _ _ _ h => h) (Or.inl ⟨by rfl, ?h843⟩) (by assumption) ?r843
        case h843 =>
          intro w hSw
          obtain ⟨s1, s2, s3, s4, s5, s6, s7, s8, s9, s10, s11, s12⟩ := hSw
          go_simp
          try with_reducible rfl
        simp only [Act.put, List.setIfInBounds_toArray, List.set_cons_zero, List.set_cons_succ]
        refine take_dst (i := 44) (some 94) (v := ?v844) rfl rfl (by as_aux_lemma => kernel_rfl) (by as_aux_lemma => kernel_rfl) (by as_aux_lemma => kernel_rfl) (fun _ _ _ h => h) (Or.inl ⟨by rfl, ?h844⟩) (by assumption) ?r844
        case h844 =>
          intro w hSw
          obtain ⟨s1, s2, s3, s4, s5, s6, s7, s8, s9, s10, s11, s12⟩ := hSw
          go_simp
          try with_reducible rfl
        simp only [Act.put, List.setIfInBounds_toArray, List.set_cons_zero, List.set_cons_succ]
        refine take_dst (i := 45) (some 95) (v := ?v845) rfl rfl (by as_aux_lemma => kernel_rfl) (by as_aux_lemma => kernel_rfl) (by as_aux_lemma => kernel_rfl) (fun _ _ _ h => h) (Or.inl ⟨by rfl, ?h845⟩) (by assumption) ?r845
        case h845 =>
          intro w hSw
          obtain ⟨s1, s2, s3, s4, s5, s6, s7, s8, s9, s10, s11, s12⟩ := hSw
          go_simp
          try with_reducible rfl
        simp only [Act.put, List.setIfInBounds_toArray, List.set_cons_zero, List.set_cons_succ]
        refine take_dst (i := 46) (some 96) (v := ?v846) rfl rfl (by as_aux_lemma => kernel_rfl) (by as_aux_lemma => kernel_rfl) (by as_aux_lemma => kernel_rfl) (fun _ _ _ h => h) (Or.inl ⟨by rfl, ?h846⟩) (by assumption) ?r846
        case h846 =>
          intro w hSw
          obtain ⟨s1, s2, s3, s4, s5, s6, s7, s8, s9, s10, s11, s12⟩ := hSw
          go_simp
          try with_reducible rfl
        simp only [Act.put, List.setIfInBounds_toArray, List.set_cons_zero, List.set_cons_succ]
        refine take_dst (i := 47) (some 97) (v := ?v847) rfl rfl (by as_aux_lemma => kernel_rfl) (by as_aux_lemma => kernel_rfl) (by as_aux_lemma => kernel_rfl) (fun _ _ _ h => h) (Or.inl ⟨by rfl, ?h847⟩) (by assumption) ?r847
        case h847 =>
          intro w hSw
          obtain ⟨s1, s2, s3, s4, s5, s6, s7, s8, s9, s10, s11, s12⟩ := hSw
          go_simp
          try with_reducible rfl
        simp only [Act.put, List.setIfInBounds_toArray, List.set_cons_zero, List.set_cons_succ]
        refine take_dst (i := 48) (some 98) (v := ?v848) rfl rfl (by as_aux_lemma => kernel_rfl) (by as_aux_lemma => kernel_rfl) (by as_aux_lemma => kernel_rfl) (fun _ _ _ h => h) (Or.inl ⟨by rfl, ?h848⟩) (by assumption) ?r848
        case h848 =>
          intro w hSw
          obtain ⟨s1, s2, s3, s4, s5, s6, s7, s8, s9, s10, s11, s12⟩ := hSw
          go_simp
          try with_reducible rfl
        simp only [Act.put, List.setIfInBounds_toArray, List.set_cons_zero, List.set_cons_succ]
        refine take_dst (i := 49) (some 99) (v := ?v849) rfl rfl (by as_aux_lemma => kernel_rfl) (by as_aux_lemma => kernel_rfl) (by as_aux_lemma => kernel_rfl) (fun _ _ _ h => h) (Or.inl ⟨by rfl, ?h849⟩) (by assumption) ?r849
        case h849 =>
          intro w hSw
          obtain ⟨s1, s2, s3, s4, s5, s6, s7, s8, s9, s10, s11, s12⟩ := hSw
          go_simp
          try with_reducible rfl
        simp only [Act.put, List.setIfInBounds_toArray, List.set_cons_zero, List.set_cons_succ]
        refine take_dst (i := 50) (some 100) (v := ?v850) rfl rfl (by as_aux_lemma => kernel_rfl) (by as_aux_lemma => kernel_rfl) (by as_aux_lemma => kernel_rfl) (fun _ _ _ h => h) (Or.inl ⟨by rfl, ?h850⟩) (by assumption) ?r850
        case h850 =>
          intro w hSw
          obtain ⟨s1, s2, s3, s4, s5, s6, s7, s8, s9, s10, s11, s12⟩ := hSw
          go_simp
          try with_reducible rfl
        simp only [Act.put, List.setIfInBounds_toArray, List.set_cons_zero, List.set_cons_succ]
        refine take_dst (i := 51) (some 101) (v := ?v851) rfl rfl (by as_aux_lemma => kernel_rfl) (by as_aux_lemma => kernel_rfl) (by as_aux_lemma => kernel_rfl) (fun _ _ _ h => h) (Or.inl ⟨by rfl, ?h851⟩) (by assumption) ?r851
        case h851 =>
          intro w hSw
          obtain ⟨s1, s2, s3, s4, s5, s6, s7, s8, s9, s10, s11, s12⟩ := hSw
          go_simp
          try with_reducible rfl
        simp only [Act.put, List.setIfInBounds_toArray, List.set_cons_zero, List.set_cons_succ]
        refine take_dst (i := 52) (some 102) (v := ?v852) rfl rfl (by as_aux_lemma => kernel_rfl) (by as_aux_lemma => kernel_rfl) (by as_aux_lemma => kernel_rfl) (fun _ _ _ h => h) (Or.inl ⟨by rfl, ?h852⟩) (by assumption) ?r852
        case h852 =>
          intro w hSw
          obtain ⟨s1, s2, s3, s4, s5, s6, s7, s8, s9, s10, s11, s12⟩ := hSw
          go_simp
          try with_reducible rfl
        simp only [Act.put, List.setIfInBounds_toArray, List.set_cons_zero, List.set_cons_succ]
        refine take_dst (i := 53) (some 103) (v := ?v853) rfl rfl (by as_aux_lemma => kernel_rfl) (by as_aux_lemma => kernel_rfl) (by as_aux_lemma => kernel_rfl) (fun _ _ _ h => h) (Or.inl ⟨by rfl, ?h853⟩) (by assumption) ?r853
        case h853 =>
          intro w hSw
          obtain ⟨s1, s2, s3, s4, s5, s6, s7, s8, s9, s10, s11, s12⟩ := hSw
          go_simp
          try with_reducible rfl
        simp only [Act.put, List.setIfInBounds_toArray, List.set_cons_zero, List.set_cons_succ]
        refine take_dst (i := 54) (some 104) (v := ?v854) rfl rfl (by as_aux_lemma => kernel_rfl) (by as_aux_lemma => kernel_rfl) (by as_aux_lemma => kernel_rfl) (fun _ _ _ h => h) (Or.inl ⟨by rfl, ?h854⟩) (by assumption) ?r854
        case h854 =>
          intro w hSw
          obtain ⟨s1, s2, s3, s4, s5, s6, s7, s8, s9, s10, s11, s12⟩ := hSw
          go_simp
          try with_reducible rfl
        simp only [Act.put, List.setIfInBounds_toArray, List.set_cons_zero, List.set_cons_succ]
        refine wpAnyH_ready (rs := [55]) (by as_aux_lemma => kernel_rfl) (by simp) ?_
        refine AllReadyH.cons rfl (fun K hK => ?_) AllReadyH.nil
        go_simp
        refine (HNT.out _ hio5).mono ?_
        rintro e w6 ⟨rfl, hio6, ht6⟩
        have hown6 := owns_touch hown5 ht6 hbB
        refine hK.out _ _ (HK.out _ hio6.bel hio6.bi) (fun hS2 => ?_)
        clear hS1
        clear hK
        try simp only [Act.put, List.setIfInBounds_toArray, List.set_cons_zero, List.set_cons_succ]
        refine take_dst (i := 56) (some 106) (v := ?v856) rfl rfl (by as_aux_lemma => kernel_rfl) (by as_aux_lemma => kernel_rfl) (by as_aux_lemma => kernel_rfl) (fun _ _ _ h => h) (Or.inl ⟨by rfl, ?h856⟩) (by assumption) ?r856
        case h856 =>
          intro w hSw
          obtain ⟨s1, s2, s3, s4, s5, s6, s7, s8, s9, s10, s11, s12⟩ := hSw
          go_simp
          try with_reducible rfl
        simp only [Act.put, List.setIfInBounds_toArray, List.set_cons_zero, List.set_cons_succ]
        refine wpAnyH_done (by as_aux_lemma => kernel_rfl) ?_ _
        refine NoPanic.normal ?_
        have HI := Lib.hid hio6; have HW := Lib.hid hown6
        clear hio6 hown6 ht6 hio5 hown5 hb5 HK HID HWD KA hneq
        generalize hz : x.takenB = z at HI ⊢
        cases z
        · have HI := Lib.hid (show Jo w w6 B gi gc gu g b rn s c u (k + 1) (fun _ => 0) l from HI.out)
          go_wp2_with fail
          go_roundw
          case rel => exact ⟨k + 1, m, O, l, by omega, by omega, by omega, by go_num, HW.out, HKN.out, HI.out⟩
          case measure => simp [intOf]; omega
        · have HI := Lib.hid (show Jo w w6 B gi gc gu g b rn s c u (k + 1) (fun _ => 0) (putE l x.ent) from HI.out)
          have hkn2 := HKN.out.snoc hz HAPX.out HLC.out.symm
          have HKN := Lib.hid hkn2
          have hrg := HV.out.range HI.out.bel h1
          rw [← HXR.out] at hrg
          simp only [Ask.cells] at hrg
          have HRG := Lib.hid hrg; clear hrg hkn2 hz
          go_wp2_with (first
            | (refine wpList_load_mid rfl 43 _ rfl va (voff + k * 18) rfl _ _ HRG.out Try.underlying43 rfl (by as_aux_lemma => kernel_rfl) ?_)
            | (at_builtin; go_must (refine append_ask rfl (.tmp 107) (.tmp 112) rfl B m _ O x rfl (owns_below HW.out (by go_grown)) _ rfl (holds_alloc _ _ x.cells) (by omega) (by have := HI.out.le; simp; omega) ?_); intro v4 w7 ho7 hb7))
          have HI := Lib.hid ((HI.out.below (show Below w6.heap.size w6 _ by go_grown)).next hb7)
          clear hb7
          go_roundw
          case rel => exact ⟨k + 1, m + 1, snocA O m x, _, by omega, by omega, by omega, by go_num, ho7, HKN.out, HI.out⟩
          case measure => simp [intOf]; omega
    · have hend : (¬ k < len) ∨ (k < len ∧ ¬ k < 40) := by omega
      clear h12
      rcases hend with h1 | ⟨h1, h2⟩
      all_goals
        have HRW := Lib.hid (own_rows HW.out)
        clear HW
        have i0 := HI.out.bi.cell 0
        have i1 := HI.out.bi.cell 1
        have c0 := HI.out.bc.cell 0
        have c1 := HI.out.bc.cell 1
        have c2 := HI.out.bc.cell 2
        have c3 := HI.out.bc.cell 3
        have c4 := HI.out.bc.cell 4
        have c5 := HI.out.bc.cell 5
        have c6 := HI.out.bc.cell 6
        simp only [List.getElem?_cons_zero, List.getElem?_cons_succ] at i0 i1 c0 c1 c2 c3 c4 c5 c6
        have hat := attr_any g b k (fun _ => 0) l rn s c wr HI.out.x (HCA.out (by simp))
        have hre := fun q (hq : q < m) (hl : lastTo O q m = true) (hc : clashC (O q).c c = true) => HKN.out.reaches c hq hl hc
        have hown := own_row l (fun _ => 0) rn s c HRI.out
        have hcv := fun j hj => covers_pruned HI.out.pos u rn s c HRI.out j hj
        rw [Int.toNat_natCast] at hown
        simp only [Int.toNat_natCast] at hcv
        generalize attrQ l rn s c = aq at hat hre
        generalize attrD l (fun _ => 0) rn s c = ad at hat hre hown hcv
        simp only [attL, cutL] at hat
        have HAT := Lib.hid hat; have HRE := Lib.hid hre; have HOWN := Lib.hid hown; have HCV := Lib.hid hcv
        clear hat hre hown hcv
        go_wp2_with fail
        refine HAT.out.mono ?_
        rintro e w5 ⟨rfl, hb⟩
        have HI := Lib.hid (HI.out.below hb); have HRW := Lib.hid (HRW.out.below hb)
        clear hb i0 i1 c0 c1 c2 c3 c4 c5 c6 HAT
        have HGB := Lib.hid HI.out.le
        go_wp2_with fail
        go_name_world W6 hW6
        have hga : Holds W6 w5.heap.size 34 (attL aq ad) := by rw [← hW6]; exact holds_alloc w5 _ (attL aq ad)
        have hb6 : Below w5.heap.size w5 W6 := by rw [← hW6]; go_grown
        have HI := Lib.hid (HI.out.below hb6); have HRW := Lib.hid (HRW.out.below hb6); have HGA := Lib.hid hga
        clear hW6 hb6 hga
        generalize w5.heap.size = ga at HGA HGB ⊢
        go_loopw [13] (fun vk wr2 => ∃ q : Nat, q ≤ m ∧ vk = .int .i64 q ∧ Below W6.heap.size W6 wr2) (fun vk _ => m - (intOf vk).toNat)
        case atStart => exact ⟨0, by omega, rfl, Below.refl _ _⟩
        case round =>
          obtain ⟨q, hq, rfl, hb⟩ := hrel
          have HI := Lib.hid (HI.out.below hb); have HRW := Lib.hid (HRW.out.below hb); have HGA := Lib.hid (HGA.out.bel hb); have HB2 := Lib.hid hb
          clear hb
          by_cases hqm : q < m
          · go_wp2_with fail
            go_loopw [14, 15] (fun fr vj wr3 => ∃ j : Nat, q + 1 ≤ j ∧ j ≤ m ∧ vj = .int .i64 j ∧ fr = .bool (lastTo O q j) ∧ Below wr.heap.size wr wr3) (fun _ vj _ => m - (intOf vj).toNat)
            case atStart => exact ⟨q + 1, by omega, by omega, by go_num, by rw [lastTo_start O q (q + 1) (by omega)], Below.refl _ _⟩
            case round =>
              obtain ⟨j, hqj, hj, rfl, rfl, hb⟩ := hrel
              have HRW := Lib.hid (HRW.out.below hb); have HB3 := Lib.hid hb
              obtain ⟨pa, poff, rfl, hplt⟩ := HRW.out.spot (by omega)
              have q2 := fun d os => HRW.out.grown d os hqm 2 (by omega)
              have q3 := fun d os => HRW.out.grown d os hqm 3 (by omega)
              by_cases hjm : j < m
              · have HLS := Lib.hid (show lastTo O q (j + 1) = (lastTo O q j && !((O j).r == (O q).r && (O j).s == (O q).s)) by
                  rw [show lastTo O q (j + 1) = (lastTo O q j && (if q < j then !((O j).r == (O q).r && (O j).s == (O q).s) else true)) from rfl, if_pos (by omega)])
                have o2 := fun d os => HRW.out.grown d os hjm 2 (by omega)
                have o3 := fun d os => HRW.out.grown d os hjm 3 (by omega)
                simp only [Ask.cells, List.getElem?_cons_zero, List.getElem?_cons_succ] at o2 o3 q2 q3
                have hneq := neq_inst (O j).r (O j).s (O q).r (O q).s
                generalize lastTo O q j = fj at HLS ⊢
                clear hb
                cases fj
                all_goals
                  go_upto_region 18 with (fail)
                  refine wp_region_quiet_below (by as_aux_lemma => kernel_rfl) (by as_aux_lemma => kernel_rfl) ?_
                  repeat go_big_quiet_step (fail)
                  refine wpQuiet_nil ?_
                  intro w7 hw'
                  have HB3 := Lib.hid (below_next HB3.out (below_of_regrown hw'))
                  clear hw' o2 o3 q2 q3 hneq
                  go_wp2_with fail
                  go_roundw
                  case rel => exact ⟨j + 1, by omega, by omega, by go_num, by rw [HLS.out]; simp, HB3.out⟩
                  case measure => simp [intOf]; omega
              · have hjm2 : j = m := by omega
                subst hjm2
                clear hjm hj
                have HI := Lib.hid (HI.out.below hb); have HGA := Lib.hid (HGA.out.bel hb)
                have HB2 := Lib.hid (below_next HB2.out hb)
                clear hb HB3
                have hcl := fun W => clash_any (O q).c c W (by have := HKN.out.light q hqm; unfold lightB at this; simp at this; omega) (HCA.out (by simp))
                have hre := HRE.out q hqm
                have hrt := takenB_right (HKN.out.taken q hqm)
                have hrb := rightI_bounds hrt
                obtain ⟨y, hy⟩ : ∃ y, y = O q := ⟨_, rfl⟩
                have q1 := fun d os => HRW.out.grown d os hqm 1 (by omega)
                have q4 := fun d os => HRW.out.grown d os hqm 4 (by omega)
                have q5 := fun d os => HRW.out.grown d os hqm 5 (by omega)
                have q6 := fun d os => HRW.out.grown d os hqm 6 (by omega)
                have q7 := fun d os => HRW.out.grown d os hqm 7 (by omega)
                have q8 := fun d os => HRW.out.grown d os hqm 8 (by omega)
                have q9 := fun d os => HRW.out.grown d os hqm 9 (by omega)
                have q10 := fun d os => HRW.out.grown d os hqm 10 (by omega)
                rw [← hy] at hcl hre hrt hrb
                simp only [← hy, Ask.cells, List.getElem?_cons_zero, List.getElem?_cons_succ] at q1 q2 q3 q4 q5 q6 q7 q8 q9 q10
                have x0 := fun d os => HI.out.bc.grown d os 0
                have x1 := fun d os => HI.out.bc.grown d os 1
                have x2 := fun d os => HI.out.bc.grown d os 2
                have x3 := fun d os => HI.out.bc.grown d os 3
                have x4 := fun d os => HI.out.bc.grown d os 4
                have x5 := fun d os => HI.out.bc.grown d os 5
                have x6 := fun d os => HI.out.bc.grown d os 6
                have a0 := fun d os => HGA.out.grown d os 0
                have a1 := fun d os => HGA.out.grown d os 1
                have a2 := fun d os => HGA.out.grown d os 2
                have a3 := fun d os => HGA.out.grown d os 3
                have a4 := fun d os => HGA.out.grown d os 4
                have a5 := fun d os => HGA.out.grown d os 5
                have a6 := fun d os => HGA.out.grown d os 6
                have a7 := fun d os => HGA.out.grown d os 7
                simp only [attL, cutL, List.getElem?_cons_zero, List.getElem?_cons_succ] at x0 x1 x2 x3 x4 x5 x6 a0 a1 a2 a3 a4 a5 a6 a7
                clear hy
                obtain ⟨yr, hyr⟩ : ∃ yr : Nat, y.r = yr := ⟨y.r.toNat, by omega⟩
                rw [hyr] at q2 hre hrt hrb
                rw [Int.toNat_natCast] at hre
                obtain ⟨C, hC⟩ : ∃ C, C = clashC y.c c := ⟨_, rfl⟩
                rw [← hC] at hcl hre
                have hca : (lastTo O q j = false) ∨ (lastTo O q j = true ∧ C = false) ∨ (lastTo O q j = true ∧ C = true ∧ y.q < aq ∧ y.s ≤ ad yr) := by
                  cases hl : lastTo O q j
                  · exact .inl rfl
                  · cases hC2 : C
                    · exact .inr (.inl ⟨rfl, rfl⟩)
                    · have := hre hl hC2
                      exact .inr (.inr ⟨rfl, rfl, this.1, this.2⟩)
                clear hre hC hyr
                generalize lastTo O q j = lf at hca ⊢
                have HCL := Lib.hid hcl; clear hcl
                have hyr7 : yr < 7 := by omega
                have HRT := Lib.hid hrt; clear hrt hrb
                rcases hca with rfl | ⟨rfl, rfl⟩ | ⟨rfl, rfl, hq1, hs1⟩
                case inr.inr =>
                  have HRC := Lib.hid (fun W => reach_yes ad yr y.s W hyr7 HRT.out hs1)
                  have hq2 : decide (aq ≤ y.q) = false := by simp; omega
                  clear hs1 hq1
                  go_upto_region 19 with (fail)
                  refine wp_region_quiet_below (by as_aux_lemma => kernel_rfl) (by as_aux_lemma => kernel_rfl) ?_
                  repeat go_big_quiet_step (first
                    | (go_at_call 24; with_reducible exact calls_regrown fun W _ => HCL.out W)
                    | (go_at_call 25; with_reducible exact calls_regrown fun W _ => HRC.out W))
                  refine wpQuiet_nil ?_
                  intro w7 hw'
                  have HB2 := Lib.hid (below_next HB2.out (below_of_regrown hw'))
                  clear hw' q1 q2 q3 q4 q5 q6 q7 q8 q9 q10 x0 x1 x2 x3 x4 x5 x6 a0 a1 a2 a3 a4 a5 a6 a7 hq2
                  go_wp2_with fail
                  go_roundw
                  case rel => exact ⟨q + 1, by omega, by go_num, HB2.out⟩
                  case measure => simp [intOf]; omega
                all_goals
                  go_upto_region 19 with (fail)
                  refine wp_region_quiet_below (by as_aux_lemma => kernel_rfl) (by as_aux_lemma => kernel_rfl) ?_
                  repeat go_big_quiet_step (first
                    | (go_at_call 24; with_reducible exact calls_regrown fun W _ => HCL.out W))
                  refine wpQuiet_nil ?_
                  intro w7 hw'
                  have HB2 := Lib.hid (below_next HB2.out (below_of_regrown hw'))
                  clear hw' q1 q2 q3 q4 q5 q6 q7 q8 q9 q10 x0 x1 x2 x3 x4 x5 x6 a0 a1 a2 a3 a4 a5 a6 a7
                  go_wp2_with fail
                  go_roundw
                  case rel => exact ⟨q + 1, by omega, by go_num, HB2.out⟩
                  case measure => simp [intOf]; omega
          · have hqm2 : q = m := by omega
            subst hqm2
            clear hqm hq HRW
            have g0 := fun d os => HI.out.bi.grown d os 0
            have g1 := fun d os => HI.out.bi.grown d os 1
            have ar := fun d os => HGA.out.grown d os (1 + rn)
            rw [show attL aq ad = Value.int .i64 aq :: cutL ad from rfl, cut_get _ _ _ hrn7] at ar
            simp only [List.getElem?_cons_zero, List.getElem?_cons_succ] at g0 g1
            rw [HOWN.out] at ar
            have hsw : IntKind.i64.wrap (s - 1) = s - 1 := IntWalk.i64_in _ (by have := HRB.out; omega)
            go_upto_region 21 with (fail)
            refine wp_region_quiet_below (by as_aux_lemma => kernel_rfl) (by as_aux_lemma => kernel_rfl) ?_
            repeat go_big_quiet_step (fail)
            refine wpQuiet_nil ?_
            intro w7 hw'
            have hb7 := below_of_regrown hw'
            have HI := Lib.hid (HI.out.below hb7); have HGA := Lib.hid (HGA.out.bel hb7)
            clear hw' g0 g1 ar hsw hb7
            have u0 := HI.out.bu.cell 0
            have u1 := HI.out.bu.cell 1
            have u2 := HI.out.bu.cell 2
            have u3 := HI.out.bu.cell 3
            have u4 := HI.out.bu.cell 4
            have u5 := HI.out.bu.cell 5
            have u6 := HI.out.bu.cell 6
            simp only [cutL, List.getElem?_cons_zero, List.getElem?_cons_succ] at u0 u1 u2 u3 u4 u5 u6
            go_wp2_with fail
            have hpr := prune_any g b k (fun _ => 0) u l w7 HI.out.x
            refine hpr.mono ?_
            rintro e w8 ⟨rfl, hx8, ht8⟩
            have hgab : ga ≠ g ∧ ga ≠ b := by have h1 := HI.out.lo; have h2 := HGB.out; omega
            have hga8 : Holds w8 ga 34 (attL aq ad) := by
              have h1 := HGA.out
              have h2 := h1.lt
              unfold Holds at h1 ⊢
              rw [ht8.block ga h2 hgab.1 hgab.2]; exact h1
            have HGA := Lib.hid hga8
            have HI := Lib.hid (HI.out.prune hx8 ht8)
            clear hpr hx8 ht8 hga8 hgab u0 u1 u2 u3 u4 u5 u6
            have hcv := HCV.out
            generalize newCut (fun _ => 0) u = dd at HI hcv
            generalize pruned l dd = l' at HI hcv
            have hat := attr_any g b k dd l' rn s c w8 HI.out.x (HCA.out (by simp))
            generalize attrQ l' rn s c = bq at hat
            generalize attrD l' dd rn s c = bd at hat hcv
            simp only [attL, cutL] at hat
            have HAT := Lib.hid hat; have HCV := Lib.hid hcv
            clear hat hcv
            have i0 := HI.out.bi.cell 0
            have i1 := HI.out.bi.cell 1
            have c0 := HI.out.bc.cell 0
            have c1 := HI.out.bc.cell 1
            have c2 := HI.out.bc.cell 2
            have c3 := HI.out.bc.cell 3
            have c4 := HI.out.bc.cell 4
            have c5 := HI.out.bc.cell 5
            have c6 := HI.out.bc.cell 6
            simp only [List.getElem?_cons_zero, List.getElem?_cons_succ] at i0 i1 c0 c1 c2 c3 c4 c5 c6
            go_wp2_with fail
            refine HAT.out.mono ?_
            rintro e w9 ⟨rfl, hb⟩
            have HI := Lib.hid (HI.out.below hb); have HGA := Lib.hid (HGA.out.bel hb)
            clear hb i0 i1 c0 c1 c2 c3 c4 c5 c6 HAT
            go_upto_region 25 with (fail)
            go_name_world W10 hW10
            have hgb : Holds W10 w9.heap.size 34 (attL bq bd) := by rw [← hW10]; exact holds_alloc w9 _ (attL bq bd)
            have hb10 : Below w9.heap.size w9 W10 := by rw [← hW10]; go_grown
            have hab : ga < w9.heap.size := HGA.out.lt
            have hlo : gi < w9.heap.size ∧ w.heap.size ≤ w9.heap.size := ⟨HI.out.bi.lt, HI.out.bel.size⟩
            have HI := Lib.hid (HI.out.below hb10); have HGA := Lib.hid (HGA.out.bel hb10)
            clear hW10 hb10
            generalize w9.heap.size = gb at hgb hab hlo ⊢
            have i0 := HI.out.bi.cell 0
            have a0 := HGA.out.cell (1 + rn)
            have b0 := hgb.cell (1 + rn)
            rw [show attL aq ad = Value.int .i64 aq :: cutL ad from rfl, cut_get _ _ _ hrn7] at a0
            rw [show attL bq bd = Value.int .i64 bq :: cutL bd from rfl, cut_get _ _ _ hrn7] at b0
            simp only [List.getElem?_cons_zero] at i0
            have bf := hgb.free (1 + rn)
            have hS := hgb.set (1 + rn) (.int .i64 (max (bd rn) (ad rn)))
            rw [att_set _ _ _ hrn7] at hS
            have hT := (Touch.refl gb W10).setCell (1 + rn) (.int .i64 (max (bd rn) (ad rn)))
            have HS := Lib.hid hS
            have HGA := Lib.hid (HGA.out.touch hT (by omega))
            have HBL := Lib.hid (HI.out.bel.trans (hT.below hlo.2 HI.out.bel.size))
            clear hS hgb hT HI
            go_region
            go_upto_region 26 with (fail)
            go_name_world W11 hW11
            have hSS : Holds W11 gb 34 (attL bq fun j => if j = rn then max (bd rn) (ad rn) else bd j) := by rw [← hW11]; exact HS.out
            have hGG : Holds W11 ga 34 (attL aq ad) := by rw [← hW11]; exact HGA.out
            have hBB : Below w.heap.size w W11 := by rw [← hW11]; exact HBL.out.trans (drew_below _ _)
            clear hW11 i0 a0 b0 bf HS HGA HBL
            have hcov : ∀ i, i < 7 → ad i ≤ (fun j => if j = rn then max (bd rn) (ad rn) else bd j) i := fun i hi => HCV.out i hi
            generalize (fun j => if j = rn then max (bd rn) (ad rn) else bd j) = bf at hSS hcov
            have y1 := hSS.cell 1
            have y2 := hSS.cell 2
            have y3 := hSS.cell 3
            have y4 := hSS.cell 4
            have y5 := hSS.cell 5
            have y6 := hSS.cell 6
            have y7 := hSS.cell 7
            have z1 := hGG.cell 1
            have z2 := hGG.cell 2
            have z3 := hGG.cell 3
            have z4 := hGG.cell 4
            have z5 := hGG.cell 5
            have z6 := hGG.cell 6
            have z7 := hGG.cell 7
            simp only [attL, cutL, List.getElem?_cons_zero, List.getElem?_cons_succ] at y1 y2 y3 y4 y5 y6 y7 z1 z2 z3 z4 z5 z6 z7
            have HCO := Lib.hid hcov; have HB := Lib.hid hBB
            clear hcov hBB hSS hGG
            go_wp2_with fail
            refine (covers_yes bf ad _ HCO.out).mono ?_
            rintro e w12 ⟨rfl, hb⟩
            have HB := Lib.hid (below_next HB.out hb)
            clear hb y1 y2 y3 y4 y5 y6 y7 z1 z2 z3 z4 z5 z6 z7
            go_wp2_with fail
            refine (KR.out _).mono ?_
            rintro e w13 ⟨rfl, hb⟩
            have HB := Lib.hid (below_next HB.out hb)
            clear hb
            go_wp2_with fail
            go_ret
            exact ⟨rfl, HB.out⟩
theorem interfReach_rows (a : Option Addr) (len cap : Nat) (V : Nat → List Value) (r s ck cc cs : Int) (ca cb co cv : ByteArray) (u0 u1 u2 u3 u4 u5 u6 : Int) (w : World) (hV : IsRows w a len 18 V) (hA : ∀ i, i < len → AllOk askLeaves (V i) ∧ Fit reachBytes (V i)) (hlc : len ≤ cap) (hcm : cap ≤ maxLen)
    (_ : (Lit.int .i64 r).wf = true) (_ : (Lit.int .i64 s).wf = true) (_ : (Lit.int .i64 ck).wf = true) (_ : (Lit.int .i64 cc).wf = true) (_ : (Lit.int .i64 cs).wf = true)
    (_ : ca.size ≤ maxLen) (_ : cb.size ≤ maxLen) (_ : co.size ≤ maxLen) (_ : cv.size ≤ maxLen) (hf : Fit reachBytes [.int .i64 ck, .int .i64 cc, .int .i64 cs, .string ca, .string cb, .string co, .string cv])
    (_ : (Lit.int .i64 u0).wf = true) (_ : (Lit.int .i64 u1).wf = true) (_ : (Lit.int .i64 u2).wf = true) (_ : (Lit.int .i64 u3).wf = true) (_ : (Lit.int .i64 u4).wf = true) (_ : (Lit.int .i64 u5).wf = true) (_ : (Lit.int .i64 u6).wf = true) :
    Calls Try.prog 7 #[.slice a len cap, .agg #[.int .i64 r, .int .i64 s], .agg #[.int .i64 ck, .int .i64 cc, .int .i64 cs, .string ca, .string cb, .string co, .string cv], .agg #[.int .i64 u0, .int .i64 u1, .int .i64 u2, .int .i64 u3, .int .i64 u4, .int .i64 u5, .int .i64 u6]] w fun e w' => e = .returned (.bool true) ∧ Below w.heap.size w w' := by
  obtain ⟨R, hR, hO⟩ := asks_at hA
  exact interfReach_any a len cap R r s ⟨ck, cc, cs, ca, cb, co, cv⟩ (fun i => match i with | 0 => u0 | 1 => u1 | 2 => u2 | 3 => u3 | 4 => u4 | 5 => u5 | _ => u6) w (hV.cong hR) hO hlc hcm ⟨hf.at (i := 3) rfl, hf.at (i := 4) rfl, hf.at (i := 5) rfl, hf.at (i := 6) rfl⟩
end Go.Proofs.Ytleagecocffihaa
