/-
  The walk of WordLows.
-/
import Derived.Test.YtpjdgfibmdbgeaaWordTellsW
import Derived.Test.YtpjdgfibmdbgeaaWordQ
import Derived.Test.YtpjdgfibmdbgeaaBook
namespace Go.Proofs.Ytpjdgfibmdbgeaa
open Go.RowKit
set_option linter.unusedVariables false

set_option maxHeartbeats 4000000 in
theorem wordLows_any (a0 a1 a2 : Int) (w : World) (h0 : (Lit.int .u64 a0).wf = true) (h1 : (Lit.int .i64 a1).wf = true) (h2 : (Lit.int .i64 a2).wf = true) :
    Calls Try.prog 9 #[.int .u64 a0, .int .i64 a1, .int .i64 a2] w fun e w' => e = .returned (.bool true) ∧ Below w.heap.size w w' := by
  obtain ⟨u, rfl, hu⟩ := u64_of h0
  have g1 := i64_of h1
  have g2 := i64_of h2
  clear h0 h1 h2
  have HB := Below.refl w.heap.size w
  go_enter Try.func9, Try.ntmps9
  go_wp2_with fail
  refine (within_nat a1 0 64 _ g1 (by omega) (by omega) (by omega)).mono ?_
  rintro e w1 ⟨⟨i, hi0, hi, rfl⟩, rfl⟩
  go_wp2_with fail
  refine (within_nat a2 0 64 _ g2 (by omega) (by omega) (by omega)).mono ?_
  rintro e w1 ⟨⟨j, hj0, hj, rfl⟩, rfl⟩
  have hxu := low_le u (i : Int)
  have K1 := Lib.hid (fun W => low_any u i W hu)
  have hl : WordP.low u (i : Int) < 18446744073709551616 := by omega
  have K2 := Lib.hid (fun W => low_any (WordP.low u (i : Int)) j W hl)
  rw [low_low u i j hu (by omega) (by omega)] at K2
  have K3 := Lib.hid (fun W => low_any u ((min i j : Nat) : Int) W hu)
  have K4 := Lib.hid (fun W => low_any u 64 W hu)
  rw [WordP.low_all (by omega)] at K4
  have K5 := Lib.hid (fun W => low_any u 0 W hu)
  rw [WordP.low_none (by omega)] at K5
  have hab : ¬ i = 64 → ((WordP.low u (i : Int) : Nat) : Int) / 2 ^ i = 0 := fun h => by
    have := low_above u i (by omega)
    rw [show (2 : Int) ^ i = ((2 ^ i : Nat) : Int) by simp, ← Int.natCast_ediv, this]; rfl
  have hgt : ∀ W, i ≤ j → Calls Try.prog 13 #[.int .u64 u, .int .i64 i] W fun e w' => e = .returned (.int .u64 (WordP.low u ((min i j : Nat) : Int))) ∧ Below W.heap.size W w' := fun W h => by
    have := K3.out W; rw [Nat.min_eq_left h] at this ⊢; exact this
  have hlt : ∀ W, j ≤ i → Calls Try.prog 13 #[.int .u64 u, .int .i64 j] W fun e w' => e = .returned (.int .u64 (WordP.low u ((min i j : Nat) : Int))) ∧ Below W.heap.size W w' := fun W h => by
    have := K3.out W; rw [Nat.min_eq_right h] at this ⊢; exact this
  have K6 := Lib.hid hgt
  have K7 := Lib.hid hlt
  clear hgt hlt K3 g1 g2
  generalize WordP.low u ((min i j : Nat) : Int) = m at K2 K6 K7
  generalize WordP.low u (i : Int) = x at K1 K2 hxu hab hl
  by_cases hij : i ≤ j
  · by_cases h64 : i = 64
    · clear hab
      have h64b : ((i : Int) == 64) = true := by simp; omega
      clear h64
      go_wp2_with fail
      refine (K1.out _).mono ?_
      rintro e w1 ⟨rfl, hb⟩; have HB := below_next HB hb; clear hb
      go_wp2_with fail
      refine (K2.out _).mono ?_
      rintro e w2 ⟨rfl, hb⟩; have HB := below_next HB hb; clear hb
      go_wp2_with fail
      refine (K6.out _ (by omega)).mono ?_
      rintro e w3 ⟨rfl, hb⟩; have HB := below_next HB hb; clear hb
      go_wp2_with fail
      refine (show Calls _ _ _ _ _ from K4.out _).mono ?_
      rintro e w4 ⟨rfl, hb⟩; have HB := below_next HB hb; clear hb
      go_wp2_with fail
      refine (show Calls _ _ _ _ _ from K5.out _).mono ?_
      rintro e w5 ⟨rfl, hb⟩; have HB := below_next HB hb; clear hb
      go_wp2_with fail
      refine (wordRuns_any _).mono ?_
      rintro e w7 ⟨rfl, hb⟩; have HB := below_next HB hb; clear hb
      go_wp2_with fail
      go_ret
      exact ⟨rfl, HB⟩
    · have hz := hab h64
      have h64b : ((i : Int) == 64) = false := by simp; omega
      clear hab
      go_wp2_with fail
      refine (K1.out _).mono ?_
      rintro e w1 ⟨rfl, hb⟩; have HB := below_next HB hb; clear hb
      go_wp2_with fail
      refine (K2.out _).mono ?_
      rintro e w2 ⟨rfl, hb⟩; have HB := below_next HB hb; clear hb
      go_wp2_with fail
      refine (K6.out _ (by omega)).mono ?_
      rintro e w3 ⟨rfl, hb⟩; have HB := below_next HB hb; clear hb
      go_wp2_with fail
      refine (show Calls _ _ _ _ _ from K4.out _).mono ?_
      rintro e w4 ⟨rfl, hb⟩; have HB := below_next HB hb; clear hb
      go_wp2_with fail
      refine (show Calls _ _ _ _ _ from K5.out _).mono ?_
      rintro e w5 ⟨rfl, hb⟩; have HB := below_next HB hb; clear hb
      go_wp2_with fail
      refine (wordRuns_any _).mono ?_
      rintro e w7 ⟨rfl, hb⟩; have HB := below_next HB hb; clear hb
      go_wp2_with fail
      go_ret
      exact ⟨rfl, HB⟩
  · by_cases h64 : i = 64
    · clear hab
      have h64b : ((i : Int) == 64) = true := by simp; omega
      clear h64
      go_wp2_with fail
      refine (K1.out _).mono ?_
      rintro e w1 ⟨rfl, hb⟩; have HB := below_next HB hb; clear hb
      go_wp2_with fail
      refine (K2.out _).mono ?_
      rintro e w2 ⟨rfl, hb⟩; have HB := below_next HB hb; clear hb
      go_wp2_with fail
      refine (K7.out _ (by omega)).mono ?_
      rintro e w3 ⟨rfl, hb⟩; have HB := below_next HB hb; clear hb
      go_wp2_with fail
      refine (show Calls _ _ _ _ _ from K4.out _).mono ?_
      rintro e w4 ⟨rfl, hb⟩; have HB := below_next HB hb; clear hb
      go_wp2_with fail
      refine (show Calls _ _ _ _ _ from K5.out _).mono ?_
      rintro e w5 ⟨rfl, hb⟩; have HB := below_next HB hb; clear hb
      go_wp2_with fail
      refine (wordRuns_any _).mono ?_
      rintro e w7 ⟨rfl, hb⟩; have HB := below_next HB hb; clear hb
      go_wp2_with fail
      go_ret
      exact ⟨rfl, HB⟩
    · have hz := hab h64
      have h64b : ((i : Int) == 64) = false := by simp; omega
      clear hab
      go_wp2_with fail
      refine (K1.out _).mono ?_
      rintro e w1 ⟨rfl, hb⟩; have HB := below_next HB hb; clear hb
      go_wp2_with fail
      refine (K2.out _).mono ?_
      rintro e w2 ⟨rfl, hb⟩; have HB := below_next HB hb; clear hb
      go_wp2_with fail
      refine (K7.out _ (by omega)).mono ?_
      rintro e w3 ⟨rfl, hb⟩; have HB := below_next HB hb; clear hb
      go_wp2_with fail
      refine (show Calls _ _ _ _ _ from K4.out _).mono ?_
      rintro e w4 ⟨rfl, hb⟩; have HB := below_next HB hb; clear hb
      go_wp2_with fail
      refine (show Calls _ _ _ _ _ from K5.out _).mono ?_
      rintro e w5 ⟨rfl, hb⟩; have HB := below_next HB hb; clear hb
      go_wp2_with fail
      refine (wordRuns_any _).mono ?_
      rintro e w7 ⟨rfl, hb⟩; have HB := below_next HB hb; clear hb
      go_wp2_with fail
      go_ret
      exact ⟨rfl, HB⟩
end Go.Proofs.Ytpjdgfibmdbgeaa
