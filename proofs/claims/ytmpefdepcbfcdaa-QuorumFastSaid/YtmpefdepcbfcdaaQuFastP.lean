/-
  The fast path's safety: plain laws. No program in sight.
-/
import Derived.Test.YtmpefdepcbfcdaaQuSlowP
namespace Go.Proofs.Ytmpefdepcbfcdaa
open Go.RowKit
set_option linter.unusedVariables false
set_option linter.unusedSimpArgs false

/-- How far behind the owner a replica stands. -/
def behind (K o r : Nat) : Nat := if o ≤ r then r - o else r + K - o
theorem behind_turn (K o j : Nat) (ho : o < K) (hj : j < K) : behind K o ((o + j) % K) = j := by
  unfold behind
  by_cases h : o + j < K
  · rw [Nat.mod_eq_of_lt h, if_pos (by omega)]; omega
  · rw [Nat.mod_eq_sub_mod (by omega), Nat.mod_eq_of_lt (by omega), if_neg (by omega)]; omega
theorem behind_inj (K o j r : Nat) (ho : o < K) (hj : j < K) (hr : r < K) (h : behind K o r = j) : r = (o + j) % K := by
  unfold behind at h
  by_cases h2 : o ≤ r
  · rw [if_pos h2] at h; rw [Nat.mod_eq_of_lt (by omega)]; omega
  · rw [if_neg h2] at h; rw [Nat.mod_eq_sub_mod (by omega), Nat.mod_eq_of_lt (by omega)]; omega
/-- What a replica that is left out has. -/
def outD (nothing : Bool) (c : Cm) (other : At) (r : Nat) : Sd := if nothing = true then zeroSd r else ⟨r, 1, 0, 0, 0, 0, c, other, false⟩
def fastD (K o left : Nat) (nothing : Bool) (c : Cm) (a other : At) (r : Nat) : Sd :=
  if behind K o r = 0 then zeroSd r else if behind K o r = left then outD nothing c other r else ⟨r, 1, 0, 0, 0, 0, c, a, true⟩
/-- The replies after the rounds up to j. -/
def repN (left j : Nat) : Nat := j - 1 - if left < j then 1 else 0
theorem repN_next (left j : Nat) (h1 : 1 ≤ j) (hl : 1 ≤ left) : (j = left → repN left (j + 1) = repN left j) ∧ (j ≠ left → repN left (j + 1) = repN left j + 1) := by
  unfold repN
  refine ⟨fun h => ?_, fun h => ?_⟩
  · rw [if_pos (by omega), if_neg (by omega)]; omega
  · by_cases h2 : left < j
    · rw [if_pos (by omega), if_pos h2]; omega
    · rw [if_neg (by omega), if_neg h2]; omega
theorem repN_end (left K : Nat) (hl : 1 ≤ left) (hK : left < K) : repN left K = K - 2 := by
  unfold repN; rw [if_pos hK]; omega
theorem sameA_self (a : At) (k : Nat) : sameA a (fun _ => a) k = k := by
  induction k with
  | zero => rfl
  | succ k ih => unfold sameA; rw [ih, if_pos (by simp [At.eqB])]
theorem preA_fast (K : Nat) (a : At) (hK : 2 ≤ K) : preA K true a (fun _ => a) (K - 2) false = (1, a) := by
  unfold preA; rw [sameA_self, if_pos ⟨rfl, by omega⟩]
theorem sameTo_but (S : Nat → Sd) (o : Int) (k : Nat) (h : ∀ i j, i < k → j < k → counts S o i = false → counts S o j = false → i = j) : ((∀ i, i < k → counts S o i = true) ∧ sameTo S o k = k) ∨ (∃ b, b < k ∧ counts S o b = false ∧ sameTo S o k = k - 1) := by
  induction k with
  | zero => exact .inl ⟨fun i hi => by omega, rfl⟩
  | succ k ih =>
    rcases ih (fun i j hi hj => h i j (by omega) (by omega)) with ⟨h1, h2⟩ | ⟨b, hb, hc, hs⟩
    · cases hk : counts S o k
      · refine .inr ⟨k, by omega, hk, ?_⟩
        unfold sameTo; rw [h2, hk]; simp
      · refine .inl ⟨fun i hi => ?_, ?_⟩
        · by_cases hik : i = k
          · rw [hik]; exact hk
          · exact h1 i (by omega)
        · unfold sameTo; rw [h2, hk]; simp
    · cases hk : counts S o k
      · have := h b k (by omega) (by omega) hc hk
        omega
      · refine .inr ⟨b, by omega, hc, ?_⟩
        unfold sameTo; rw [hs, hk]; simp; omega
theorem firstTo_counts (S : Nat → Sd) (o : Int) (k : Nat) : firstTo S o k = -1 ∨ ∃ j : Nat, j < k ∧ firstTo S o k = j ∧ counts S o j = true := by
  induction k with
  | zero => exact .inl rfl
  | succ k ih =>
    unfold firstTo
    by_cases hc : counts S o k = true ∧ firstTo S o k < 0
    · rw [if_pos hc]; exact .inr ⟨k, by omega, rfl, hc.1⟩
    · rw [if_neg hc]
      rcases ih with h | ⟨j, hj, h1, h2⟩
      · exact .inl h
      · exact .inr ⟨j, by omega, h1, h2⟩
theorem thereTo_false (S : Nat → Sd) (o : Int) (k : Nat) (h : ∀ i, i < k → (S i).r ≠ o) : thereTo S o k = false := by
  induction k with
  | zero => rfl
  | succ k ih => unfold thereTo; rw [ih fun i hi => h i (by omega)]; simp [h k (by omega)]
theorem fast_law (K o left m f T : Nat) (nothing : Bool) (c : Cm) (a other : At) (hm : m = K / 2 + 1) (hK : 3 ≤ K) (ho : o < K) (hl : 1 ≤ left) (hlK : left < K) :
    prepared K o (fun i => { fastD K o left nothing c a other ((o + 1 + (f + i + T) % (K - 1)) % K) with r := (((o + 1 + (f + i + T) % (K - 1)) % K : Nat) : Int) }) m = (2, c, a) := by
  generalize hS : (fun i => ({ fastD K o left nothing c a other ((o + 1 + (f + i + T) % (K - 1)) % K) with r := (((o + 1 + (f + i + T) % (K - 1)) % K : Nat) : Int) } : Sd)) = S
  have hSi : ∀ i, S i = { fastD K o left nothing c a other ((o + 1 + (f + i + T) % (K - 1)) % K) with r := (((o + 1 + (f + i + T) % (K - 1)) % K : Nat) : Int) } := fun i => by rw [← hS]
  have hu : ∀ i, (f + i + T) % (K - 1) < K - 1 := fun i => Nat.mod_lt _ (by omega)
  have hbh : ∀ i, behind K o ((o + 1 + (f + i + T) % (K - 1)) % K) = 1 + (f + i + T) % (K - 1) := fun i => by
    rw [Nat.add_assoc o 1]; exact behind_turn K o _ ho (by have := hu i; omega)
  have hr : ∀ i, (S i).r ≠ (o : Int) := fun i => by
    rw [hSi i]
    show (((o + 1 + (f + i + T) % (K - 1)) % K : Nat) : Int) ≠ (o : Int)
    intro h
    have h2 : (o + 1 + (f + i + T) % (K - 1)) % K = o := by omega
    have h3 := hbh i
    rw [h2] at h3
    unfold behind at h3
    rw [if_pos (Nat.le_refl _)] at h3
    omega
  have hcase : ∀ i, (1 + (f + i + T) % (K - 1) ≠ left ∧ (S i).st = 1 ∧ (S i).x = c ∧ (S i).a = a ∧ (S i).same = true) ∨ (1 + (f + i + T) % (K - 1) = left ∧ ((S i).st = 0 ∨ (S i).st = 1) ∧ (S i).same = false) := fun i => by
    rw [hSi i]
    unfold fastD
    rw [hbh i, if_neg (by omega)]
    by_cases h : 1 + (f + i + T) % (K - 1) = left
    · rw [if_pos h]
      refine .inr ⟨h, ?_⟩
      unfold outD
      cases nothing
      · exact ⟨.inr rfl, rfl⟩
      · exact ⟨.inl rfl, rfl⟩
    · rw [if_neg h]; exact .inl ⟨h, rfl, rfl, rfl, rfl⟩
  have hcnt : ∀ i, counts S o i = true ↔ 1 + (f + i + T) % (K - 1) ≠ left := fun i => by
    unfold counts
    rcases hcase i with ⟨h1, h2, _, _, h5⟩ | ⟨h1, _, h3⟩
    · simp [hr i, h2, h5, h1]
    · simp [h3, h1]
  have hcom : comTo S m = none := comTo_none S m fun i _ => by
    rcases hcase i with ⟨_, h, _⟩ | ⟨_, h | h, _⟩ <;> omega
  have hb2 : bestTo S 2 m = -1 := bestTo_none S 2 m fun i _ => by
    rcases hcase i with ⟨_, h, _⟩ | ⟨_, h | h, _⟩ <;> omega
  have huniq : ∀ i j, i < m → j < m → counts S o i = false → counts S o j = false → i = j := by
    intro i j hi hj h1 h2
    have e1 : 1 + (f + i + T) % (K - 1) = left := by
      rcases hcase i with ⟨h, _⟩ | ⟨h, _⟩
      · rw [(hcnt i).2 h] at h1; cases h1
      · exact h
    have e2 : 1 + (f + j + T) % (K - 1) = left := by
      rcases hcase j with ⟨h, _⟩ | ⟨h, _⟩
      · rw [(hcnt j).2 h] at h2; cases h2
      · exact h
    have e3 : (f + i + T) % (K - 1) = (f + j + T) % (K - 1) := by omega
    have e4 := Nat.sub_mod_eq_zero_of_mod_eq e3
    have e5 := Nat.sub_mod_eq_zero_of_mod_eq e3.symm
    rw [show f + i + T - (f + j + T) = i - j by omega, Nat.mod_eq_of_lt (by omega)] at e4
    rw [show f + j + T - (f + i + T) = j - i by omega, Nat.mod_eq_of_lt (by omega)] at e5
    omega
  have hsame : K / 2 ≤ sameTo S o m := by
    rcases sameTo_but S o m huniq with ⟨_, h⟩ | ⟨_, _, _, h⟩ <;> omega
  have hf := firstTo_lt S o m
  have hth := thereTo_false S o m fun i _ => hr i
  rcases firstTo_counts S o m with h | ⟨j, hj, hfj, hcj⟩
  · have := hf.2.2 (by omega); omega
  have hb1 : ¬ bestTo S 1 m < 0 := by
    rcases bestTo_some S 1 m with ⟨_, hn⟩ | ⟨i, _, hb, _⟩
    · exfalso
      rcases hcase j with ⟨_, h, _⟩ | ⟨h, _⟩
      · exact hn j hj h
      · exact (hcnt j).1 hcj h
    · omega
  unfold prepared
  rw [if_neg (by omega), hcom, hb2, hth, hfj]
  simp only [Int.toNat_natCast]
  rw [if_neg (by omega), if_neg hb1, if_pos ⟨trivial, hsame⟩]
  rcases hcase j with ⟨_, _, h3, h4, _⟩ | ⟨h, _⟩
  · rw [h3, h4]
  · exact absurd h ((hcnt j).1 hcj)
end Go.Proofs.Ytmpefdepcbfcdaa
