/-
  The walk of WordOrder.
-/
import Derived.Test.YtpjdgfibmdbgeaaWordTellsW
import Derived.Test.YtpjdgfibmdbgeaaWordQ
import Derived.Deep.RegionWith
import Derived.Lib.ItoaWalk
import Derived.Lib.QuietBelow
import Derived.Laws.StructEq
import Derived.Deep.CutRange
import Derived.Test.YtpjdgfibmdbgeaaBook
namespace Go.Proofs.Ytpjdgfibmdbgeaa
open Go.RowKit
set_option linter.unusedVariables false

theorem holds_past {w : World} {g e : Nat} {L : List Value} (h : Holds w g e L) (o : Obj) : Holds (w.alloc o) g e L := by
  have := h.lt
  exact h.below (B := w.heap.size) ((Below.refl _ _).alloc (Nat.le_refl _) o) this
theorem Holds.drew' {w : World} {g : Nat} {e : TypeId} {L : List Value} (h : Holds w g e L) : Holds w.drew g e L := h
theorem less_key (a b c d : Nat) (hb : b < 4294967296) (hd : d < 4294967296) : (decide ((a : Int) < (c : Int)) || (a : Int) == (c : Int) && decide ((b : Int) < (d : Int))) = decide (a * 4294967296 + b < c * 4294967296 + d) := by
  rw [Bool.eq_iff_iff]
  simp only [Bool.or_eq_true, Bool.and_eq_true, decide_eq_true_eq, beq_iff_eq]
  omega
set_option maxRecDepth 4000 in
set_option maxHeartbeats 8000000 in
theorem wordOrder_any (a b c d : Int) (w : World) (h0 : (Lit.int .i64 a).wf = true) (h1 : (Lit.int .i64 b).wf = true) (h2 : (Lit.int .i64 c).wf = true) (h3 : (Lit.int .i64 d).wf = true) :
    Calls Try.prog 8 #[.agg #[.int .i64 a, .int .i64 b], .agg #[.int .i64 c, .int .i64 d]] w fun e w' => e = .returned (.bool true) ∧ Below w.heap.size w w' := by
  have g0 := i64_of h0
  have g1 := i64_of h1
  have g2 := i64_of h2
  have g3 := i64_of h3
  clear h0 h1 h2 h3
  go_enter Try.func8, Try.ntmps8
  go_upto_region 1 with (fail)
  go_cut [5] from 6 to 42 (fun x wx => ∃ r s : Nat, r ≤ 6 ∧ s ≤ 1073741824 ∧ x = .pointer (some ⟨w.heap.size + 1 + 1, 0, none⟩) ∧ wx = (((w.alloc (.cells #[.int .i64 a, .int .i64 b] 35)).alloc (.cells #[.int .i64 c, .int .i64 d] 35)).alloc (.cells #[.int .i64 r, .int .i64 s] 35)).drew)
  case first =>
    obtain ⟨r, hr⟩ := Int.eq_ofNat_of_zero_le (show 0 ≤ a % 7 by omega)
    obtain ⟨s, hs⟩ := Int.eq_ofNat_of_zero_le (show 0 ≤ b % 1073741825 by omega)
    go_region_with (first
      | (go_at_call_of 31 (Value.int .i64 a); refine (within_any a 0 6 _ g0 (by omega) (by omega) (by omega)).mono ?_; rintro e w1 ⟨rfl, rfl⟩)
      | (go_at_call_of 31 (Value.int .i64 b); refine (within_any b 0 1073741824 _ g1 (by omega) (by omega) (by omega)).mono ?_; rintro e w1 ⟨rfl, rfl⟩))
    all_goals
      go_wp2_with fail
      go_meet
      exact ⟨r, s, by omega, by omega, rfl, by rw [← hr, ← hs]⟩
  case rest =>
    obtain ⟨r, s, hr, hs, rfl, rfl⟩ := hcut
    go_upto_region 2 with (fail)
    go_cut [6] from 14 to 42 (fun x wx => ∃ p q : Nat, p ≤ 6 ∧ q ≤ 1073741824 ∧ x = .pointer (some ⟨w.heap.size + 1 + 1 + 1, 0, none⟩) ∧ wx = ((((w.alloc (.cells #[.int .i64 a, .int .i64 b] 35)).alloc (.cells #[.int .i64 c, .int .i64 d] 35)).alloc (.cells #[.int .i64 r, .int .i64 s] 35)).alloc (.cells #[.int .i64 p, .int .i64 q] 35)).drew.drew)
    case first =>
      obtain ⟨p, hp⟩ := Int.eq_ofNat_of_zero_le (show 0 ≤ c % 7 by omega)
      obtain ⟨q, hq⟩ := Int.eq_ofNat_of_zero_le (show 0 ≤ d % 1073741825 by omega)
      go_region_with (first
        | (go_at_call_of 31 (Value.int .i64 c); refine (within_any c 0 6 _ g2 (by omega) (by omega) (by omega)).mono ?_; rintro e w1 ⟨rfl, rfl⟩)
        | (go_at_call_of 31 (Value.int .i64 d); refine (within_any d 0 1073741824 _ g3 (by omega) (by omega) (by omega)).mono ?_; rintro e w1 ⟨rfl, rfl⟩))
      all_goals
        go_wp2_with fail
        go_meet
        exact ⟨p, q, by omega, by omega, rfl, by rw [← hp, ← hq]⟩
    case rest =>
      obtain ⟨p, q, hp, hq, rfl, rfl⟩ := hcut
      have k1 := fun W => key_any r s W
      have k2 := fun W => key_any p q W
      have k3 := fun W => rless_any r s p q W
      rw [keyN_eq r s (by omega) (by omega)] at k1
      rw [keyN_eq p q (by omega) (by omega)] at k2
      rw [less_key r s p q (by omega) (by omega)] at k3
      have hxy : (r * 4294967296 + s = p * 4294967296 + q) → r = p ∧ s = q := fun h => by omega
      obtain ⟨x, hx⟩ : ∃ x, x = r * 4294967296 + s := ⟨_, rfl⟩
      obtain ⟨y, hy⟩ : ∃ y, y = p * 4294967296 + q := ⟨_, rfl⟩
      rw [← hx] at k1 k3 hxy
      rw [← hy] at k2 k3 hxy
      rw [show decide (x < y) = decide ((x : Int) < (y : Int)) from by rw [Bool.eq_iff_iff]; simp] at k3
      have K1 := Lib.hid k1; have K2 := Lib.hid k2; have K3 := Lib.hid k3
      clear k1 k2 k3
      go_upto_region 3 with (fail)
      go_name_world W hW
      have hX : Holds W (w.heap.size + 1 + 1) 35 [.int .i64 r, .int .i64 s] := by
        rw [← hW]
        refine Holds.drew' (Holds.drew' (holds_past ?_ _))
        simpa using holds_alloc ((w.alloc (.cells #[.int .i64 a, .int .i64 b] 35)).alloc (.cells #[.int .i64 c, .int .i64 d] 35)) 35 [.int .i64 r, .int .i64 s]
      have hY : Holds W (w.heap.size + 1 + 1 + 1) 35 [.int .i64 p, .int .i64 q] := by
        rw [← hW]
        refine Holds.drew' (Holds.drew' ?_)
        simpa using holds_alloc (((w.alloc (.cells #[.int .i64 a, .int .i64 b] 35)).alloc (.cells #[.int .i64 c, .int .i64 d] 35)).alloc (.cells #[.int .i64 r, .int .i64 s] 35)) 35 [.int .i64 p, .int .i64 q]
      have HBW : Below w.heap.size w W := by rw [← hW]; go_grown
      clear hW
      have a0 := fun d os => hX.grown d os 0
      have a1 := fun d os => hX.grown d os 1
      have b0 := fun d os => hY.grown d os 0
      have b1 := fun d os => hY.grown d os 1
      simp only [List.getElem?_cons_zero, List.getElem?_cons_succ] at a0 a1 b0 b1
      rcases (show (r = p ∧ s = q) ∨ ¬ r = p ∨ (r = p ∧ ¬ s = q) by omega) with ⟨rfl, rfl⟩ | hrp | ⟨rfl, hsq⟩
      · obtain rfl : x = y := by omega
        clear hx hy hxy
        refine wp_region_quiet_below (by kernel_rfl) (by kernel_rfl) ?_
        repeat go_big_quiet_step (first
          | (go_at_call 20; with_reducible exact calls_regrown fun W _ => K1.out W)
          | (go_at_call 32; with_reducible exact calls_regrown fun W _ => K3.out W)
          | (go_at_call 3; with_reducible exact calls_regrown fun W _ => wordRuns_any W))
        refine wpQuiet_nil ?_
        intro w' hw'
        have hbw := below_next HBW (below_of_regrown hw')
        clear hw'
        go_wp2
        go_ret
        exact ⟨rfl, hbw⟩
      · have e1 : ((r : Int) == (p : Int)) = false := by simp; omega
        have e2 : ((x : Int) == (y : Int)) = false := by simp; intro h; have := hxy (by omega); omega
        clear hx hy hxy
        refine wp_region_quiet_below (by kernel_rfl) (by kernel_rfl) ?_
        repeat go_big_quiet_step (first
          | (go_at_call 20; with_reducible exact calls_regrown fun W _ => K1.out W)
          | (go_at_call 20; with_reducible exact calls_regrown fun W _ => K2.out W)
          | (go_at_call 32; with_reducible exact calls_regrown fun W _ => K3.out W)
          | (go_at_call 3; with_reducible exact calls_regrown fun W _ => wordRuns_any W))
        refine wpQuiet_nil ?_
        intro w' hw'
        have hbw := below_next HBW (below_of_regrown hw')
        clear hw'
        go_wp2
        go_ret
        exact ⟨rfl, hbw⟩
      · have e1 : ((s : Int) == (q : Int)) = false := by simp; omega
        have e2 : ((x : Int) == (y : Int)) = false := by simp; intro h; have := hxy (by omega); omega
        clear hx hy hxy
        refine wp_region_quiet_below (by kernel_rfl) (by kernel_rfl) ?_
        repeat go_big_quiet_step (first
          | (go_at_call 20; with_reducible exact calls_regrown fun W _ => K1.out W)
          | (go_at_call 20; with_reducible exact calls_regrown fun W _ => K2.out W)
          | (go_at_call 32; with_reducible exact calls_regrown fun W _ => K3.out W)
          | (go_at_call 3; with_reducible exact calls_regrown fun W _ => wordRuns_any W))
        refine wpQuiet_nil ?_
        intro w' hw'
        have hbw := below_next HBW (below_of_regrown hw')
        clear hw'
        go_wp2
        go_ret
        exact ⟨rfl, hbw⟩
end Go.Proofs.Ytpjdgfibmdbgeaa
