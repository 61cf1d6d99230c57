/-
  The walks of the statements' own helpers (concordbook): Within.
-/
import Derived.Test.YtleagecocffihaaCommon
namespace Go.Proofs.Ytleagecocffihaa
open Go.RowKit

theorem tmod_facts (n m : Int) (h0 : 0 < m) : n % m = (if n.tmod m < 0 then n.tmod m + m else n.tmod m) ∧ -m < n.tmod m ∧ n.tmod m < m := by
  have e := Int.tmod_eq_emod (a := n) (b := m)
  have h1 := Int.emod_nonneg n (show m ≠ 0 by omega)
  have h2 := Int.emod_lt_of_pos n h0
  by_cases hd : 0 ≤ n ∨ m ∣ n
  · rw [if_pos hd] at e; simp only [Int.natCast_zero, Int.sub_zero] at e; rw [if_neg (by omega)]; omega
  · rw [if_neg hd] at e
    have h3 : n % m ≠ 0 := fun h => hd (.inr (Int.dvd_of_emod_eq_zero h))
    rw [if_pos (by omega)]; omega
theorem within_lt (n lo hi : Int) (h : lo ≤ hi) : -(hi - lo) ≤ n.tmod (hi - lo + 1) ∧ n.tmod (hi - lo + 1) ≤ hi - lo := by
  have := tmod_facts n (hi - lo + 1) (by omega); omega
theorem within_neg {n lo hi : Int} (h : lo ≤ hi) (ht : n.tmod (hi - lo + 1) < 0) : n.tmod (hi - lo + 1) + hi - lo + 1 = n % (hi - lo + 1) := by
  have := tmod_facts n (hi - lo + 1) (by omega); rw [if_pos ht] at this; omega
theorem within_pos {n lo hi : Int} (h : lo ≤ hi) (ht : 0 ≤ n.tmod (hi - lo + 1)) : n.tmod (hi - lo + 1) = n % (hi - lo + 1) := by
  have := tmod_facts n (hi - lo + 1) (by omega); rw [if_neg (by omega)] at this; omega

set_option maxHeartbeats 400000 in
theorem within_any (n lo hi : Int) (w : World) (_hn : -9223372036854775808 ≤ n ∧ n ≤ 9223372036854775807) (h : lo ≤ hi) (hlo : -1000000000000000000 ≤ lo) (hhi : hi ≤ 1000000000000000000) :
    Calls Try.prog 17 #[.int .i64 n, .int .i64 lo, .int .i64 hi] w fun e w' => e = .returned (.int .i64 (lo + n % (hi - lo + 1))) ∧ w = w' := by
  have hl := within_lt n lo hi h
  go_enter Try.func17, Try.ntmps17
  go_wp2
  · go_ret
    exact ⟨ret_int (by rw [← within_neg h ‹_›]), rfl⟩
  · go_ret
    exact ⟨ret_int (by rw [← within_pos h ‹_›]), rfl⟩
/-- .. of which only the bounds are wanted. -/
theorem within_nat (n l h : Int) (w : World) (hn : -9223372036854775808 ≤ n ∧ n ≤ 9223372036854775807) (h0 : 0 ≤ l) (hlh : l ≤ h) (hhi : h ≤ 1000000000000000000) :
    Calls Try.prog 17 #[.int .i64 n, .int .i64 l, .int .i64 h] w fun e w' => (∃ k : Nat, l ≤ (k : Int) ∧ (k : Int) ≤ h ∧ e = .returned (.int .i64 k)) ∧ w = w' := by
  refine (within_any n l h w hn (by omega) (by omega) (by omega)).mono ?_
  rintro e w' ⟨rfl, rfl⟩
  have h1 := Int.emod_nonneg n (show (h : Int) - l + 1 ≠ 0 by omega)
  have h2 := Int.emod_lt_of_pos n (show (0 : Int) < (h : Int) - l + 1 by omega)
  generalize n % ((h : Int) - l + 1) = m at h1 h2
  exact ⟨⟨(l + m).toNat, by omega, by omega, ret_int (by omega)⟩, rfl⟩
end Go.Proofs.Ytleagecocffihaa
