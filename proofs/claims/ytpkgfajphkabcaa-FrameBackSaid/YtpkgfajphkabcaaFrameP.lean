/-
  Plain law: frames as lists of bytes. No program in sight.
-/
import Derived.Test.YtpkgfajphkabcaaPutW
import Derived.Test.YtpkgfajphkabcaaSumPlain
namespace Go.Proofs.Ytpkgfajphkabcaa
open Go.RowKit

/-- A payload's frame, head and payload. -/
def hd (p : List Nat) : List Nat := putN 2 p.length ++ p
def fr (p : List Nat) : List Nat := if p.length = 0 ∨ 16384 < p.length then [] else hd p ++ putN 4 (SumP.on 0 (hd p))
/-- The frame at the beginning of bytes: the payload, an error; its end is six behind the payload's length. -/
def nx0 (r : List Nat) : List Nat × Int :=
  if r.length < 2 then ([], 3)
  else if leN (r.take 2) = 0 ∨ 16384 < leN (r.take 2) then ([], 4)
  else if r.length < leN (r.take 2) + 6 then ([], 3)
  else if leN ((r.drop (2 + leN (r.take 2))).take 4) ≠ SumP.on 0 (r.take (2 + leN (r.take 2))) then ([], 6)
  else ((r.drop 2).take (leN (r.take 2)), 0)
def nx (bs : List Nat) (at' : Int) : List Nat × Int × Int :=
  if at' < 0 ∨ (bs.length : Int) < at' then ([], 0, 1)
  else ((nx0 (bs.drop at'.toNat)).1, if (nx0 (bs.drop at'.toNat)).2 = 0 then at' + 6 + (nx0 (bs.drop at'.toNat)).1.length else 0, (nx0 (bs.drop at'.toNat)).2)
theorem leN_putN' (n u : Nat) : leN (putN n u) = u % 256 ^ n := by
  induction n generalizing u with
  | zero => simp [putN, leN, Nat.mod_one]
  | succ n ih =>
    rw [putN, leN, ih, Nat.pow_succ, Nat.mul_comm (256 ^ n) 256, Nat.mod_mul]
theorem two_lt (r : List Nat) (h : ∀ x ∈ r, x < 256) : leN (r.take 2) < 65536 := by
  have := leN_lt (r.take 2) (fun x hx => h x (List.mem_of_mem_take hx))
  refine Nat.lt_of_lt_of_le this ?_
  rw [show (65536 : Nat) = 256 ^ 2 from rfl]
  exact Nat.pow_le_pow_right (by decide) (by simp; omega)
theorem fr_len (p : List Nat) : (fr p).length = if p.length = 0 ∨ 16384 < p.length then 0 else p.length + 6 := by
  unfold fr hd
  split
  · rfl
  · simp [putN_len]; omega
theorem fr_lt (p : List Nat) (h : ∀ x ∈ p, x < 256) : ∀ x ∈ fr p, x < 256 := by
  intro x hx
  unfold fr hd at hx
  split at hx
  · simp at hx
  · simp only [List.mem_append] at hx
    rcases hx with (hx | hx) | hx
    · exact putN_lt _ _ x hx
    · exact h x hx
    · exact putN_lt _ _ x hx
end Go.Proofs.Ytpkgfajphkabcaa
