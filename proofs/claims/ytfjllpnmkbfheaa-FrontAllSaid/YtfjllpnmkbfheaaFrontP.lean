/-
  Plain law: fronts of replicas. No program in sight.
-/
namespace FrontP
abbrev Fr := Nat → Nat → Int
def mx (a b : Int) : Int := if a < b then b else a
def mn (a b : Int) : Int := if b < a then b else a
/-- What a replica says is heard: up to index k. -/
def hearTo (F : Fr) (r : Nat) (d : Nat → Int) (k : Nat) : Fr := fun q i => if q = r ∧ i < k then mx (F q i) (d i) else F q i
def hear (F : Fr) (r : Nat) (d : Nat → Int) : Fr := hearTo F r d 7
def right (d : Nat → Int) : Bool := (List.range 7).all fun i => decide (0 ≤ d i) && decide (d i ≤ 1073741824)
def rightTo (d : Nat → Int) (k : Nat) : Bool := (List.range k).all fun i => decide (0 ≤ d i) && decide (d i ≤ 1073741824)
theorem rightTo_succ (d : Nat → Int) (k : Nat) : rightTo d (k + 1) = (rightTo d k && (decide (0 ≤ d k) && decide (d k ≤ 1073741824))) := by
  simp [rightTo, List.range_succ, List.all_append]
theorem right_false (d : Nat → Int) (k : Nat) (hk : k < 7) (h : d k < 0 ∨ 1073741824 < d k) : right d = false := by
  unfold right
  rw [List.all_eq_false]
  exact ⟨k, by simp [hk], by simp; omega⟩
theorem hearTo_zero (F : Fr) (r : Nat) (d : Nat → Int) : hearTo F r d 0 = F := by
  funext q i; simp [hearTo]
theorem hearTo_succ (F : Fr) (r : Nat) (d : Nat → Int) (k : Nat) : hearTo F r d (k + 1) = fun q i => if q = r ∧ i = k then mx (F r k) (d k) else hearTo F r d k q i := by
  funext q i
  simp only [hearTo]
  by_cases h1 : q = r
  · by_cases h2 : i < k
    · simp [h1, h2, show i < k + 1 by omega, show ¬ i = k by omega]
    · by_cases h3 : i = k
      · simp [h1, h3]
      · simp [h1, h2, h3, show ¬ i < k + 1 by omega]
  · simp [h1]
theorem hearTo_at (F : Fr) (r : Nat) (d : Nat → Int) (k : Nat) : hearTo F r d k r k = F r k := by simp [hearTo]
/-- Is what is said taken? -/
def takes (n : Nat) (r : Int) (d : Nat → Int) : Bool := (decide (0 ≤ r) && decide (r < (n : Int))) && right d
def heard (F : Fr) (n : Nat) (r : Int) (d : Nat → Int) : Fr := if takes n r d = true then hear F r.toNat d else F
/-- The least of the rows below m, from a first one on. -/
def leastTo (F : Fr) (a : Nat → Int) : Nat → Nat → Int
  | 0, i => a i
  | m + 1, i => mn (leastTo F a m i) (F m i)
def stable (F : Fr) (n me : Nat) : Nat → Int := leastTo F (F me) n
/-- Row m taken in up to index k. -/
def leastIn (F : Fr) (a : Nat → Int) (m k : Nat) : Nat → Int := fun i => if i < k then leastTo F a (m + 1) i else leastTo F a m i
theorem leastIn_zero (F : Fr) (a : Nat → Int) (m : Nat) : leastIn F a m 0 = leastTo F a m := by funext i; simp [leastIn]
theorem leastIn_succ (F : Fr) (a : Nat → Int) (m k : Nat) : leastIn F a m (k + 1) = fun i => if i = k then mn (leastTo F a m k) (F m k) else leastIn F a m k i := by
  funext i
  simp only [leastIn]
  by_cases h : i = k
  · subst h; simp [leastTo]
  · by_cases h2 : i < k
    · simp [h, h2, show i < k + 1 by omega]
    · simp [h, h2, show ¬ i < k + 1 by omega]
theorem leastIn_at (F : Fr) (a : Nat → Int) (m k : Nat) : leastIn F a m k k = leastTo F a m k := by simp [leastIn]
theorem least_le_first (F : Fr) (a : Nat → Int) (m i : Nat) : leastTo F a m i ≤ a i := by
  induction m with
  | zero => exact Int.le_refl _
  | succ m ih => unfold leastTo mn; split <;> omega
theorem least_le (F : Fr) (a : Nat → Int) (m i q : Nat) (hq : q < m) : leastTo F a m i ≤ F q i := by
  induction m with
  | zero => omega
  | succ m ih =>
    unfold leastTo mn
    by_cases h : q = m
    · subst h; split <;> omega
    · have := ih (by omega); split <;> omega
theorem least_is (F : Fr) (a : Nat → Int) (m i : Nat) : leastTo F a m i = a i ∨ ∃ q, q < m ∧ leastTo F a m i = F q i := by
  induction m with
  | zero => exact .inl rfl
  | succ m ih =>
    unfold leastTo mn
    split
    · exact .inr ⟨m, by omega, rfl⟩
    · rcases ih with h | ⟨q, hq, h⟩
      · exact .inl h
      · exact .inr ⟨q, by omega, h⟩
theorem stable_le (F : Fr) (n me i q : Nat) (hq : q < n) : stable F n me i ≤ F q i := least_le F _ n i q hq
theorem stable_is (F : Fr) (n me i : Nat) (hme : me < n) : ∃ q, q < n ∧ stable F n me i = F q i := by
  rcases least_is F (F me) n i with h | h
  · exact ⟨me, hme, h⟩
  · exact h
theorem stable_eq (F : Fr) (n me me' : Nat) (h : me < n) (h' : me' < n) : stable F n me = stable F n me' := by
  funext i
  obtain ⟨q, hq, e⟩ := stable_is F n me i h
  obtain ⟨q', hq', e'⟩ := stable_is F n me' i h'
  have h1 := stable_le F n me i q' hq'
  have h2 := stable_le F n me' i q hq
  omega
theorem least_one (F : Fr) : leastTo F (F 0) 1 = F 0 := by
  funext i; simp [leastTo, mn]
end FrontP
