/-
  The walks of Seq and Waits; plain law: in K asks each of K replicas is asked once.
-/
import Derived.Test.YtkojfgebdoojnaaClBeginW
import Derived.Test.YtkojfgebdoojnaaClRunsW
import Derived.Test.YtkojfgebdoojnaaBook
namespace Go.Proofs.Ytkojfgebdoojnaa
open Go.RowKit
set_option linter.unusedVariables false

theorem seq_any (g : Nat) (id seq : Int) (x : Cm) (waits : Bool) (target ticks : Int) (w : World) (h : CAt w g id seq x waits target ticks) :
    Calls Try.prog 16 #[.pointer (some ⟨g, 0, none⟩)] w fun e w' => e = .returned (.int .i64 seq) ∧ Below w.heap.size w w' := by
  have c1 := h.cell 1
  simp only [clientCells, List.getElem?_cons_zero, List.getElem?_cons_succ] at c1
  clear h
  go_enter Try.func16, Try.ntmps16
  go_wp2_with fail
  go_ret
  exact ⟨rfl, by go_grown⟩
theorem waits_any (g : Nat) (id seq : Int) (x : Cm) (waits : Bool) (target ticks : Int) (w : World) (h : CAt w g id seq x waits target ticks) :
    Calls Try.prog 15 #[.pointer (some ⟨g, 0, none⟩)] w fun e w' => e = .returned (.bool waits) ∧ Below w.heap.size w w' := by
  have c9 := h.cell 9
  simp only [clientCells, List.getElem?_cons_zero, List.getElem?_cons_succ] at c9
  clear h
  go_enter Try.func15, Try.ntmps15
  go_wp2_with fail
  go_ret
  exact ⟨rfl, by go_grown⟩
/-- How often replica j has been asked after m asks that began behind t0. -/
def asked (t0 K : Nat) : Nat → Nat → Nat
  | 0, _ => 0
  | m + 1, j => asked t0 K m j + if (t0 + (m + 1)) % K = j then 1 else 0
theorem asked_has (t0 K m j u : Nat) (h1 : 1 ≤ u) (hu : u ≤ m) (hj : (t0 + u) % K = j) : 1 ≤ asked t0 K m j := by
  induction m with
  | zero => omega
  | succ m ih =>
    unfold asked
    by_cases h : u = m + 1
    · subst h; rw [if_pos hj]; omega
    · have := ih (by omega); omega
theorem asked_none (t0 K m j : Nat) (h : ∀ u, 1 ≤ u → u ≤ m → (t0 + u) % K ≠ j) : asked t0 K m j = 0 := by
  induction m with
  | zero => rfl
  | succ m ih =>
    unfold asked
    rw [ih (fun u h1 h2 => h u h1 (by omega)), if_neg (h (m + 1) (by omega) (Nat.le_refl _))]
theorem mod_apart (a b K : Nat) (hK : 0 < K) (hab : a < b) (hb : b < a + K) : a % K ≠ b % K := by
  intro h
  have h1 := Nat.div_add_mod a K
  have h2 := Nat.div_add_mod b K
  rw [h] at h1
  have h3 : K * (b / K) = K * (a / K) + (b - a) := by omega
  have h4 : K * (a / K) < K * (b / K) := by omega
  have h5 : a / K + 1 ≤ b / K := by
    have := Nat.lt_of_mul_lt_mul_left h4
    omega
  have h6 := Nat.mul_le_mul_left K h5
  rw [Nat.mul_add, Nat.mul_one] at h6
  omega
/-- In fewer asks than there are replicas none is asked twice. -/
theorem asked_le (t0 K m j : Nat) (hK : 0 < K) (hm : m ≤ K) : asked t0 K m j ≤ 1 := by
  induction m with
  | zero => exact Nat.zero_le _
  | succ m ih =>
    unfold asked
    by_cases h : (t0 + (m + 1)) % K = j
    · rw [if_pos h, asked_none t0 K m j (fun u h1 h2 h3 => mod_apart (t0 + u) (t0 + (m + 1)) K hK (by omega) (by omega) (by rw [h3, h]))]
      omega
    · rw [if_neg h]; exact ih (by omega)
theorem asked_all (t0 K j : Nat) (hj : j < K) : asked t0 K K j = 1 := by
  have hle := asked_le t0 K K j (by omega) (Nat.le_refl _)
  have h0 : t0 % K < K := Nat.mod_lt _ (by omega)
  have hsome : ∃ u, 1 ≤ u ∧ u ≤ K ∧ (t0 + u) % K = j := by
    by_cases h : t0 % K < j
    · refine ⟨j - t0 % K, by omega, by omega, ?_⟩
      rw [Nat.add_mod, Nat.mod_eq_of_lt (show j - t0 % K < K by omega), Nat.add_sub_cancel' (by omega), Nat.mod_eq_of_lt hj]
    · refine ⟨j + K - t0 % K, by omega, by omega, ?_⟩
      have h2 := Nat.div_add_mod t0 K
      rw [show t0 + (j + K - t0 % K) = j + K * (t0 / K + 1) by rw [Nat.mul_add, Nat.mul_one]; omega, Nat.add_mul_mod_self_left, Nat.mod_eq_of_lt hj]
  obtain ⟨u, h1, h2, h3⟩ := hsome
  have := asked_has t0 K K j u h1 h2 h3
  omega
end Go.Proofs.Ytkojfgebdoojnaa
