/-
  The walks of WordHalves and WordBack.
-/
import Derived.Test.YtpjdgfibmdbgeaaWordTellsW
import Derived.Test.YtpjdgfibmdbgeaaWordQ
import Derived.Test.YtpjdgfibmdbgeaaBook
import Derived.Deep.RegionWith
import Derived.Lib.ItoaWalk
import Derived.Lib.QuietBelow
import Derived.Laws.StructEq
import Derived.Deep.CutRange
import Derived.IntWalk
namespace Go.Proofs.Ytpjdgfibmdbgeaa
open Go.RowKit
set_option linter.unusedVariables false

set_option maxRecDepth 4000 in
set_option maxHeartbeats 1000000 in
theorem wordHalves_any (a0 a1 : Int) (w : World) (h0 : (Lit.int .u64 a0).wf = true) (h1 : (Lit.int .i64 a1).wf = true) :
    Calls Try.prog 10 #[.int .u64 a0, .int .i64 a1] w fun e w' => e = .returned (.bool true) ∧ Below w.heap.size w w' := by
  obtain ⟨u, rfl, hu⟩ := u64_of h0
  have g1 := i64_of h1
  clear h0 h1
  have HB := Below.refl w.heap.size w
  go_enter Try.func10, Try.ntmps10
  go_wp2_with fail
  refine (within_nat a1 1 7 _ g1 (by omega) (by omega) (by omega)).mono ?_
  rintro e w1 ⟨⟨k, hk0, hk, rfl⟩, rfl⟩
  have hk1 : 1 ≤ k := by omega
  have hk7 : k ≤ 7 := by omega
  clear hk0 hk g1
  have hg := get_half k u hu hk1 hk7
  have hw := putN_whole k u (by omega)
  have hyu : u / 2 ^ (8 * k) < 18446744073709551616 := Nat.lt_of_le_of_lt (Nat.div_le_self _ _) hu
  have hy : (u : Int) / 2 ^ (8 * k) = ((u / 2 ^ (8 * k) : Nat) : Int) := by
    rw [show (2 : Int) ^ (8 * k) = ((2 ^ (8 * k) : Nat) : Int) by simp, ← Int.natCast_ediv]
  obtain ⟨y, hy1, hy2⟩ : ∃ y : Nat, y = u / 2 ^ (8 * k) ∧ (u : Int) / 2 ^ (8 * k) = (y : Int) := ⟨_, rfl, hy⟩
  clear hy
  rw [← hy1] at hg hw hyu
  have HG := Lib.hid hg; clear hg hy1
  have HWH := Lib.hid hw; clear hw
  go_wp2_with fail
  refine (put_any none 0 0 [] 8 u _ (IsBytes.nil _ _) (fun _ => rfl) hu (by omega)).mono ?_
  rintro e w1 ⟨p, c, rfl, hc, _, hp, _, hb⟩; have HB := below_next HB hb; clear hb
  rw [show 0 + cut8 8 = 8 from by decide] at hc
  have HC := Lib.hid hc; clear hc
  rw [show 0 + cut8 8 = 8 from by decide, show cut8 8 = 8 from by decide, List.nil_append] at hp
  have HP := Lib.hid hp; clear hp
  rw [show 0 + cut8 8 = 8 from by decide]
  have ck := cut8_nat k (by omega)
  have ck2 : cut8 ((8 : Int) - (k : Int)) = 8 - k := by unfold cut8; omega
  have e8 : k + (8 - k) = 8 := by omega
  have hk8 : (0 : Int) ≤ 8 * (k : Int) := by omega
  have hn8 : (8 * (k : Int)).toNat = 8 * k := by omega
  have hw8 : IntKind.i64.wrap (8 * (k : Int)) = 8 * (k : Int) := IntWalk.i64_in _ (by omega)
  have hw9 : IntKind.i64.wrap (8 - (k : Int)) = 8 - (k : Int) := IntWalk.i64_in _ (by omega)
  go_upto_region 3 with (fail)
  go_cut [7] from 8 to 56 (fun x wx => ∃ p3 c3, x = .slice p3 8 c3 ∧ IsBytes wx p3 8 (putN 8 u) ∧ Below w1.heap.size w1 wx)
  case first =>
    go_region_with (first
      | (go_at_call_of 19 (Value.int .u64 (u : Int)); refine (put_any none 0 0 [] k u _ (IsBytes.nil _ _) (fun _ => rfl) hu (by omega)).mono ?_; rintro e w2 ⟨p2, c2, rfl, _, _, hp2, hn2, hb⟩; rw [ck, Nat.zero_add, List.nil_append] at hp2; have HP2 := Lib.hid hp2; clear hp2; have HN2 := Lib.hid hn2; clear hn2; rw [ck, Nat.zero_add])
      | (go_at_call_of 19 (Value.int .u64 (y : Int)); refine (put_any p2 k c2 (putN k u) ((8 : Int) - (k : Int)) y _ HP2.out HN2.out hyu (by omega)).mono ?_; rintro e w3 ⟨p3, c3, rfl, _, _, hp3, hn3, hb3⟩; rw [ck2, e8, ← HWH.out] at hp3; rw [ck2, e8]))
    all_goals
      go_wp2_with fail
      go_meet
      exact ⟨p3, c3, rfl, hp3, (show Below w1.heap.size w1 w2 from (show Below w1.heap.size w1 w1.drew by go_grown).trans hb).trans (hb3.mono (by have := hb.size; simpa using this))⟩
  case rest =>
    obtain ⟨p3, c3, rfl, hp3, hb3⟩ := hcut
    have HP3 := Lib.hid hp3; clear hp3
    have HP := Lib.hid (HP.out.below hb3)
    have HB := below_next HB hb3; clear hb3
    have k1 := fun W (h : IsBytes W p 8 (putN 8 u)) => get_any p 8 c (putN 8 u) (k : Int) ((8 : Int) - (k : Int)) W h HC.out
    rw [show getN (putN 8 u) (k : Int) ((8 : Int) - (k : Int)) = (y, 0) from by rw [← HG.out]; congr 1; omega] at k1
    have K1 := Lib.hid k1; clear k1
    go_wp2_with fail
    refine (K1.out _ HP.out).mono ?_
    rintro e w2 ⟨rfl, hb⟩
    have HP := Lib.hid (HP.out.below hb)
    have HP3 := Lib.hid (HP3.out.below hb)
    have HB := below_next HB hb; clear hb
    go_wp2_with fail
    refine (same_any p p3 8 8 c c3 _ _ _ HP.out HP3.out).mono ?_
    rintro e w3 ⟨rfl, hb⟩; have HB := below_next HB hb; clear hb
    simp only [decide_true]
    go_wp2_with fail
    refine (wordRuns_any _).mono ?_
    rintro e w4 ⟨rfl, hb⟩; have HB := below_next HB hb; clear hb
    go_wp2_with fail
    go_ret
    exact ⟨rfl, HB⟩

theorem zig_lt (n : Int) (h : -9223372036854775808 ≤ n ∧ n ≤ 9223372036854775807) : WordP.zig n < 18446744073709551616 := by
  unfold WordP.zig; split <;> omega
theorem zag_in (u : Nat) (h : u < 18446744073709551616) : -9223372036854775808 ≤ WordP.zag u ∧ WordP.zag u ≤ 9223372036854775807 := by
  unfold WordP.zag; split <;> omega
theorem holds_past {w : World} {g e : Nat} {L : List Value} (h : Holds w g e L) (o : Obj) : Holds (w.alloc o) g e L := by
  have := h.lt
  exact h.below (B := w.heap.size) ((Below.refl _ _).alloc (Nat.le_refl _) o) this
set_option maxRecDepth 4000 in
set_option maxHeartbeats 8000000 in
theorem wordBack_any (n a1 a2 b0 b1 : Int) (w : World) (h0 : (Lit.int .i64 n).wf = true) (h1 : (Lit.int .u64 a1).wf = true) (h2 : (Lit.int .i64 a2).wf = true) (h3 : (Lit.int .i64 b0).wf = true) (h4 : (Lit.int .i64 b1).wf = true) :
    Calls Try.prog 11 #[.int .i64 n, .int .u64 a1, .int .i64 a2, .agg #[.int .i64 b0, .int .i64 b1]] w fun e w' => e = .returned (.bool true) ∧ Below w.heap.size w w' := by
  obtain ⟨u, rfl, hu⟩ := u64_of h1
  have g0 := i64_of h0
  have g2 := i64_of h2
  have g3 := i64_of h3
  have g4 := i64_of h4
  clear h0 h1 h2 h3 h4
  go_enter Try.func11, Try.ntmps11
  go_wp2_with fail
  refine (within_nat a2 1 8 _ g2 (by omega) (by omega) (by omega)).mono ?_
  rintro e w1 ⟨⟨k, hk0, hk, rfl⟩, rfl⟩
  have hk1 : 1 ≤ k := by omega
  have hk8 : k ≤ 8 := by omega
  clear hk0 hk g2
  have hg := get_back k u 9 hu hk1 hk8
  have HG := Lib.hid hg; clear hg
  have ck := cut8_nat k hk8
  go_wp2_with fail
  have hl := IsBytes.lit (w.alloc (.cells #[.int .i64 b0, .int .i64 b1] 35)) 5 [9] (0, 0) (by decide) (by decide)
  simp only [World.size_alloc] at hl
  refine (put_any (some ⟨w.heap.size + 1, 0, none⟩) 1 1 [9] k u _ hl (by intro h; cases h) hu (by omega)).mono ?_
  rintro e w1 ⟨p, c, rfl, hc, _, hp, _, hb⟩
  rw [ck] at hp hc
  rw [ck]
  have HP := Lib.hid hp; clear hp
  have HC := Lib.hid hc; clear hc hl
  have hI : Holds w1 w.heap.size 35 [.int .i64 b0, .int .i64 b1] := by
    refine (Holds.below (B := w.heap.size + 1) ?_ (hb.mono (by simp)) (Nat.lt_succ_self _))
    exact holds_past (holds_alloc w 35 [.int .i64 b0, .int .i64 b1]) _
  have HB : Below w.heap.size w w1 := (show Below w.heap.size w _ by go_grown).trans (hb.mono (by simp; omega))
  have hsz := hb.size
  simp only [World.size_alloc] at hsz
  clear hb
  go_wp2_with fail
  refine (get_any p (1 + k) c (9 :: putN k u) 1 (k : Int) _ HP.out (by have := HC.out; omega)).mono ?_
  rintro e w2 ⟨rfl, hb⟩
  rw [HG.out]
  have hI := Holds.below hI hb hI.lt
  have hsz : w.heap.size + 1 + 1 ≤ w2.heap.size := by have := hb.size; omega
  have HB := below_next HB hb; clear hb
  clear HP HC HG ck
  go_upto_region 3 with (fail)
  go_name_world W2 hW2
  subst hW2
  have cI0 := hI.cell 0
  have cI1 := hI.cell 1
  simp only [List.getElem?_cons_zero, List.getElem?_cons_succ] at cI0 cI1
  have cD0 : w2.drew.cell? ⟨w.heap.size, 0, none⟩ = some (.int .i64 b0) := cI0
  have cD1 : w2.drew.cell? ⟨w.heap.size, 1, none⟩ = some (.int .i64 b1) := cI1
  have cE0 : ∀ o, (w2.drew.alloc o).cell? ⟨w.heap.size, 0, none⟩ = some (.int .i64 b0) := fun o => by have := (holds_past hI o).cell 0; exact this
  have cF0 : ∀ o, (w2.alloc o).cell? ⟨w.heap.size, 0, none⟩ = some (.int .i64 b0) := fun o => by have := (holds_past hI o).cell 0; exact this
  have cF1 : ∀ o, (w2.alloc o).cell? ⟨w.heap.size, 1, none⟩ = some (.int .i64 b1) := fun o => by have := (holds_past hI o).cell 1; exact this
  have hne1 : ¬ w.heap.size = w2.heap.size := by omega
  have hne2 : ¬ w2.heap.size = w.heap.size := by omega
  have hlt1 : w.heap.size < w2.heap.size := by omega
  have cE1 : ∀ o, (w2.drew.alloc o).cell? ⟨w.heap.size, 1, none⟩ = some (.int .i64 b1) := fun o => by have := (holds_past hI o).cell 1; exact this
  go_cut [12] from 24 to 49 (fun x wx => ∃ r s : Nat, r ≤ 4294967295 ∧ s ≤ 4294967295 ∧ x = .pointer (some ⟨w2.heap.size, 0, none⟩) ∧ wx = (w2.alloc (.cells #[.int .i64 r, .int .i64 s] 35)).drew)
  case first =>
    obtain ⟨r, hr⟩ := Int.eq_ofNat_of_zero_le (show 0 ≤ b0 % 4294967296 by omega)
    obtain ⟨s, hs⟩ := Int.eq_ofNat_of_zero_le (show 0 ≤ b1 % 4294967296 by omega)
    go_region_with (first
      | (go_at_call_of 31 (Value.int .i64 b0); refine (within_any b0 0 4294967295 _ g3 (by omega) (by omega) (by omega)).mono ?_; rintro e w1 ⟨rfl, rfl⟩)
      | (go_at_call_of 31 (Value.int .i64 b1); refine (within_any b1 0 4294967295 _ g4 (by omega) (by omega) (by omega)).mono ?_; rintro e w1 ⟨rfl, rfl⟩))
    all_goals
      go_wp2_with fail
      go_meet
      exact ⟨r, s, by omega, by omega, rfl, by rw [← hr, ← hs]⟩
  case rest =>
    obtain ⟨r, s, hr, hs, rfl, rfl⟩ := hcut
    have hX : Holds (w2.alloc (.cells #[.int .i64 r, .int .i64 s] 35)).drew w2.heap.size 35 [.int .i64 r, .int .i64 s] := holds_alloc w2 35 [.int .i64 r, .int .i64 s]
    have HB := HB.trans (show Below w.heap.size w2 (w2.alloc (.cells #[.int .i64 r, .int .i64 s] 35)).drew from (show Below w2.heap.size w2 _ by go_grown).mono HB.size)
    have k1 := fun W => zig_any n W g0
    have hz := zig_lt n g0
    have k2 := fun W => zag_any (WordP.zig n) W hz
    rw [WordP.zag_zig] at k2
    have k3 := fun W => zag_any u W hu
    have hzz := zag_in u hu
    have k4 := fun W => zig_any (WordP.zag u) W hzz
    rw [WordP.zig_zag] at k4
    have k5 := fun W => low_any u (8 * (k : Int)) W hu
    have k6 := fun W => key_any r s W
    have hkl : keyN r s < 18446744073709551616 := by rw [keyN_eq r s (by omega) (by omega)]; omega
    have k7 := fun W => inst_any (keyN r s) W hkl
    rw [(inst_key r s (by omega) (by omega)).1, (inst_key r s (by omega) (by omega)).2] at k7
    have k8 := fun W => inst_any u W hu
    have k9 := fun W => key_any ((u / 4294967296 : Nat) : Int) ((u % 4294967296 : Nat) : Int) W
    rw [key_inst u hu] at k9
    have K1 := Lib.hid k1; have K2 := Lib.hid k2; have K3 := Lib.hid k3; have K4 := Lib.hid k4; have K5 := Lib.hid k5; have K6 := Lib.hid k6; have K7 := Lib.hid k7
    generalize u / 4294967296 = uh at k8 k9
    generalize u % 4294967296 = ul at k8 k9
    have K8 := Lib.hid k8; have K9 := Lib.hid k9
    clear k1 k2 k3 k4 k5 k6 k7 k8 k9 hz hzz hkl
    generalize WordP.zig n = zn at *
    generalize WordP.zag u = zu at *
    generalize keyN r s = key at *
    generalize WordP.low u (8 * (k : Int)) = lo at *
    clear g0 g3 g4 cI0 cI1 cD0 cD1 cE0 cE1 cF0 cF1 hne1 hne2 hlt1 hI
    generalize (w2.alloc (.cells #[.int .i64 r, .int .i64 s] 35)).drew = W at hX HB ⊢
    have a0 := fun d os => hX.grown d os 0
    have a1 := fun d os => hX.grown d os 1
    simp only [List.getElem?_cons_zero, List.getElem?_cons_succ] at a0 a1
    have hw8 : IntKind.i64.wrap (8 * (k : Int)) = 8 * (k : Int) := IntWalk.i64_in _ (by omega)
    go_upto_region 4 with (fail)
    refine wp_region_quiet_below (by kernel_rfl) (by kernel_rfl) ?_
    repeat go_big_quiet_step (first
      | (go_at_call 16; with_reducible exact calls_regrown fun W _ => K1.out W)
      | (go_at_call 17; with_reducible exact calls_regrown fun W _ => K2.out W)
      | (go_at_call 17; with_reducible exact calls_regrown fun W _ => K3.out W)
      | (go_at_call 16; with_reducible exact calls_regrown fun W _ => K4.out W)
      | (go_at_call 13; with_reducible exact calls_regrown fun W _ => K5.out W)
      | (go_at_call 20; with_reducible exact calls_regrown fun W _ => K6.out W)
      | (go_at_call 33; with_reducible exact calls_regrown fun W _ => K7.out W)
      | (go_at_call 33; with_reducible exact calls_regrown fun W _ => K8.out W)
      | (go_at_call 20; with_reducible exact calls_regrown fun W _ => K9.out W)
      | (go_at_call 3; with_reducible exact calls_regrown fun W _ => wordRuns_any W))
    refine wpQuiet_nil ?_
    intro w' hw'
    have hbw := below_next HB (below_of_regrown hw')
    clear hw' hw8
    go_wp2
    go_ret
    exact ⟨rfl, hbw⟩
end Go.Proofs.Ytpjdgfibmdbgeaa
