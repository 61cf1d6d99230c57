/-
  The walk of WordRuns.
-/
import Derived.Test.YtpjdgfibmdbgeaaWordRefPutW
import Derived.Test.YtpjdgfibmdbgeaaBookBytes
namespace Go.Proofs.Ytpjdgfibmdbgeaa
open Go.RowKit

theorem r_low (W : World) : Calls Try.prog 13 #[.int .u64 511, .int .i64 8] W fun e w' => e = .returned (.int .u64 255) ∧ Below W.heap.size W w' := by
  have h := low_any 511 8 W (by decide)
  rw [show WordP.low 511 8 = 255 from by decide] at h
  exact h
theorem r_sign1 (W : World) : Calls Try.prog 14 #[.int .u64 255, .int .i64 8] W fun e w' => e = .returned (.int .i64 (-1)) ∧ Below W.heap.size W w' := by
  have h := sign_any 255 8 W (by decide)
  rw [show WordP.sign 255 8 = -1 from by decide] at h
  exact h
theorem r_sign2 (W : World) : Calls Try.prog 14 #[.int .u64 127, .int .i64 8] W fun e w' => e = .returned (.int .i64 127) ∧ Below W.heap.size W w' := by
  have h := sign_any 127 8 W (by decide)
  rw [show WordP.sign 127 8 = 127 from by decide] at h
  exact h
theorem r_turn (W : World) : Calls Try.prog 15 #[.int .u64 1, .int .i64 (-1)] W fun e w' => e = .returned (.int .u64 9223372036854775808) ∧ Below W.heap.size W w' := by
  have h := turn_any 1 (-1) W (by decide)
  rw [show WordP.turn 1 ((-1 : Int) % 64).toNat = 9223372036854775808 from by decide] at h
  exact h
theorem r_zig (W : World) : Calls Try.prog 16 #[.int .i64 (-2)] W fun e w' => e = .returned (.int .u64 3) ∧ Below W.heap.size W w' := by
  have h := zig_any (-2) W (by decide)
  rw [show WordP.zig (-2) = 3 from by decide] at h
  exact h
theorem r_zag (W : World) : Calls Try.prog 17 #[.int .u64 3] W fun e w' => e = .returned (.int .i64 (-2)) ∧ Below W.heap.size W w' := by
  have h := zag_any 3 W (by decide)
  rw [show WordP.zag 3 = -2 from by decide] at h
  exact h
theorem r_key (W : World) : Calls Try.prog 20 #[.agg #[.int .i64 2, .int .i64 5]] W fun e w' => e = .returned (.int .u64 8589934597) ∧ Below W.heap.size W w' := by
  have h := key_any 2 5 W
  rw [show keyN 2 5 = 8589934597 from by decide] at h
  exact h
theorem r_put (W : World) : Calls Try.prog 19 #[.slice none 0 0, .int .i64 3, .int .u64 66051] W fun e w' => ∃ p c, e = .returned (.slice p 3 c) ∧ IsBytes w' p 3 [3, 2, 1] ∧ Below W.heap.size W w' := by
  have h := put_any none 0 0 [] 3 66051 W (IsBytes.nil _ _) (fun _ => rfl) (by decide) (by decide)
  rw [show (0 + cut8 3) = 3 from by decide, show [] ++ putN (cut8 3) 66051 = [3, 2, 1] from by decide] at h
  refine Calls.mono h ?_
  rintro e w' ⟨p, c, rfl, _, _, hb, _, hbe⟩
  exact ⟨p, c, rfl, hb, hbe⟩
theorem r_get (W : World) : Calls Try.prog 12 #[.slice (some ⟨W.heap.size, 0, none⟩) 2 2, .int .i64 0, .int .i64 2] (W.alloc (.cells #[.int .u8 1, .int .u8 2] 5)) fun e w' => e = .returned (.tuple #[.int .u64 513, .int .i64 0]) ∧ Below W.heap.size W w' := by
  have h := get_any (some ⟨W.heap.size, 0, none⟩) 2 2 [1, 2] 0 2 _ (IsBytes.lit W 5 [1, 2] (0, 0) (by decide) (by decide)) (by decide)
  rw [show getN [1, 2] 0 2 = (513, 0) from by decide] at h
  refine Calls.mono h ?_
  rintro e w' ⟨rfl, hb⟩
  exact ⟨rfl, ((Below.refl _ _).alloc (Nat.le_refl _) _).trans (hb.mono (by simp))⟩
set_option maxHeartbeats 1000000 in
theorem wordRuns_any (w : World) : Calls Try.prog 3 #[] w fun e w' => e = .returned (.bool true) ∧ Below w.heap.size w w' := by
  go_enter Try.func3, Try.ntmps3
  go_wp2_with fail
  refine (r_get w).mono ?_
  rintro e w1 ⟨rfl, HB⟩
  go_wp2_with fail
  refine (r_low _).mono ?_
  rintro e w2 ⟨rfl, hb⟩; have HB := below_next HB hb; clear hb
  go_wp2_with fail
  refine (r_sign1 _).mono ?_
  rintro e w3 ⟨rfl, hb⟩; have HB := below_next HB hb; clear hb
  go_wp2_with fail
  refine (r_sign2 _).mono ?_
  rintro e w4 ⟨rfl, hb⟩; have HB := below_next HB hb; clear hb
  go_wp2_with fail
  refine (r_turn _).mono ?_
  rintro e w5 ⟨rfl, hb⟩; have HB := below_next HB hb; clear hb
  go_wp2_with fail
  refine (r_zig _).mono ?_
  rintro e w6 ⟨rfl, hb⟩; have HB := below_next HB hb; clear hb
  go_wp2_with fail
  refine (r_zag _).mono ?_
  rintro e w7 ⟨rfl, hb⟩; have HB := below_next HB hb; clear hb
  go_wp2_with fail
  refine (r_put _).mono ?_
  rintro e w8 ⟨p, c, rfl, hp, hb⟩; have HB := below_next HB hb; clear hb
  have HP := Lib.hid hp; clear hp
  go_wp2_with fail
  refine (same_any p (some ⟨w8.heap.size, 0, none⟩) 3 3 c 3 [3, 2, 1] [3, 2, 1] _ (HP.out.below (by go_grown)) (IsBytes.lit w8 5 [3, 2, 1] (0, 0) (by decide) (by decide))).mono ?_
  rintro e w9 ⟨rfl, hb⟩; have HB := below_next HB ((show Below w8.heap.size w8 _ by go_grown).trans (hb.mono (by simp))); clear hb
  rw [show decide (([3, 2, 1] : List Nat) = [3, 2, 1]) = true from by decide]
  go_wp2_with fail
  refine (r_key _).mono ?_
  rintro e w10 ⟨rfl, hb⟩; have HB := below_next HB hb; clear hb
  go_wp2_with fail
  go_ret
  exact ⟨rfl, HB⟩
end Go.Proofs.Ytpjdgfibmdbgeaa
