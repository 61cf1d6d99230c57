/-
  Plain law: what the turning loop of SumUnlike does to a list of bytes, and that the sum tells it.
-/
import Derived.Test.YtpkgfajphkabcaaSumPlain
namespace SumP
def turnsAt (bit burst n k : Nat) : Bool := burst.testBit k && decide (bit + k < 8 * n)
def flip1 (q : List Nat) (i : Nat) : List Nat := q.set (i / 8) (q.getD (i / 8) 0 ^^^ 2 ^ (i % 8))
def flips (bs : List Nat) (bit burst : Nat) : Nat → List Nat
  | 0 => bs
  | k + 1 => if turnsAt bit burst bs.length k then flip1 (flips bs bit burst k) (bit + k) else flips bs bit burst k
def anyTurn (bit burst n : Nat) : Nat → Bool
  | 0 => false
  | k + 1 => if turnsAt bit burst n k then true else anyTurn bit burst n k
theorem length_flips (bs : List Nat) (bit burst k : Nat) : (flips bs bit burst k).length = bs.length := by
  induction k with
  | zero => rfl
  | succ k ih => unfold flips; split <;> simp [flip1, ih]
theorem flips_lt (bs : List Nat) (bit burst k : Nat) (h8 : ∀ x ∈ bs, x < 256) : ∀ x ∈ flips bs bit burst k, x < 256 := by
  induction k with
  | zero => exact h8
  | succ k ih =>
    unfold flips
    split
    · intro x hx
      unfold flip1 at hx
      rcases List.mem_or_eq_of_mem_set hx with h | h
      · exact ih x h
      · rw [h]
        by_cases hl : (bit + k) / 8 < (flips bs bit burst k).length
        · have h1 := ih _ (getD_mem hl)
          exact Nat.xor_lt_two_pow (n := 8) h1 (Nat.pow_lt_pow_right (by decide) (Nat.mod_lt _ (by decide)))
        · rw [List.set_eq_of_length_le (by omega)] at hx
          rw [← h]; exact ih x hx
    · exact ih
theorem flip1_bit (q : List Nat) (i j : Nat) (hi : i < 8 * q.length) (_hj : j < 8 * q.length) :
    ((flip1 q i).getD (j / 8) 0).testBit (j % 8) = ((q.getD (j / 8) 0).testBit (j % 8) ^^ decide (j = i)) := by
  unfold flip1
  by_cases h : i / 8 = j / 8
  · have hl : j / 8 < q.length := by omega
    have e : (q.set (i / 8) (q.getD (i / 8) 0 ^^^ 2 ^ (i % 8))).getD (j / 8) 0 = q.getD (j / 8) 0 ^^^ 2 ^ (i % 8) := by
      rw [h]; simp [hl]
    rw [e, Nat.testBit_xor, Nat.testBit_two_pow]
    congr 1
    simp only [decide_eq_decide]
    omega
  · have e : (q.set (i / 8) (q.getD (i / 8) 0 ^^^ 2 ^ (i % 8))).getD (j / 8) 0 = q.getD (j / 8) 0 := by
      simp [List.getElem?_set_ne h]
    rw [e]
    have : decide (j = i) = false := decide_eq_false (by omega)
    rw [this, Bool.xor_false]
theorem flips_bit (bs : List Nat) (bit burst k j : Nat) (hj : j < 8 * bs.length) :
    ((flips bs bit burst k).getD (j / 8) 0).testBit (j % 8) = ((bs.getD (j / 8) 0).testBit (j % 8) ^^ (decide (bit ≤ j) && decide (j < bit + k) && turnsAt bit burst bs.length (j - bit))) := by
  induction k with
  | zero =>
    have : (decide (bit ≤ j) && decide (j < bit + 0)) = false := by simp
    rw [this]; simp [flips]
  | succ k ih =>
    unfold flips
    by_cases ht : turnsAt bit burst bs.length k = true
    · rw [if_pos ht]
      have hb : bit + k < 8 * bs.length := by simp [turnsAt] at ht; exact ht.2
      rw [flip1_bit _ _ _ (by rw [length_flips]; exact hb) (by rw [length_flips]; exact hj), ih, Bool.xor_assoc]
      congr 1
      by_cases h1 : bit ≤ j
      · by_cases h2 : j = bit + k
        · subst h2
          simp [ht]
        · by_cases h3 : j < bit + k
          · simp [h1, h2, h3, show j < bit + (k + 1) by omega]
          · simp [h1, h2, h3, show ¬ j < bit + (k + 1) by omega]
      · simp [h1, show ¬ j = bit + k by omega]
    · rw [if_neg ht, ih]
      congr 1
      by_cases h1 : bit ≤ j
      · by_cases h2 : j = bit + k
        · subst h2
          simp [ht]
        · by_cases h3 : j < bit + k
          · simp [h1, h3, show j < bit + (k + 1) by omega]
          · simp [h1, h3, show ¬ j < bit + (k + 1) by omega]
      · simp [h1]
theorem anyTurn_false (bit burst n k : Nat) : anyTurn bit burst n k = false ↔ ∀ i, i < k → turnsAt bit burst n i = false := by
  induction k with
  | zero => simp [anyTurn]
  | succ k ih =>
    unfold anyTurn
    by_cases ht : turnsAt bit burst n k = true
    · rw [if_pos ht]
      constructor
      · intro h; cases h
      · intro h; rw [h k (by omega)] at ht; cases ht
    · rw [if_neg ht, ih]
      constructor
      · intro h i hi
        by_cases hik : i = k
        · subst hik; simpa using ht
        · exact h i (by omega)
      · intro h i hi; exact h i (by omega)
theorem unlike (c : Nat) (bs : List Nat) (bit burst : Nat) (h8 : ∀ x ∈ bs, x < 256) :
    decide (on c bs = on c (flips bs bit burst 32)) = !anyTurn bit burst bs.length 32 := by
  have key := on_unlike c bit bs (flips bs bit burst 32) (length_flips _ _ _ _).symm h8 (flips_lt _ _ _ _ h8) (by
    intro j hj hor
    rw [flips_bit _ _ _ _ _ hj]
    have : (decide (bit ≤ j) && decide (j < bit + 32)) = false := by
      rcases hor with h | h
      · simp; omega
      · simp; omega
    rw [this]; simp)
  have k2 : (∀ i, i < 8 * bs.length → (bs.getD (i / 8) 0).testBit (i % 8) = ((flips bs bit burst 32).getD (i / 8) 0).testBit (i % 8)) ↔ anyTurn bit burst bs.length 32 = false := by
    rw [anyTurn_false]
    constructor
    · intro h i hi
      by_cases ht : turnsAt bit burst bs.length i = true
      · exfalso
        have hb : bit + i < 8 * bs.length := by simp [turnsAt] at ht; exact ht.2
        have h1 := h (bit + i) hb
        rw [flips_bit _ _ _ _ _ hb] at h1
        simp [hi, ht] at h1
      · simpa using ht
    · intro h j hj
      rw [flips_bit _ _ _ _ _ hj]
      by_cases h1 : bit ≤ j ∧ j < bit + 32
      · rw [h (j - bit) (by omega)]; simp
      · have : (decide (bit ≤ j) && decide (j < bit + 32)) = false := by simp; omega
        rw [this]; simp
  rw [k2] at key
  cases ha : anyTurn bit burst bs.length 32
  · simp [key.2 ha]
  · have : ¬ on c bs = on c (flips bs bit burst 32) := fun h => by rw [key.1 h] at ha; cases ha
    simp [this]
end SumP
