/-
  Plain law: ranges of texts. A finite set of texts is put in order by numbers, and 'omega' decides.
-/
import Derived.Test.YtonnidebpbnpaaaSpanOrd
namespace SpanP

theorem lt_eq (a b : T) : lt a b = decide (a.toList < b.toList) := by unfold lt; exact Go.Proofs.bytesLess_eq _ _
theorem lt_irrefl (a : T) : lt a a = false := by rw [lt_eq]; simp
theorem lt_trans {a b c : T} (h1 : lt a b = true) (h2 : lt b c = true) : lt a c = true := by
  rw [lt_eq] at *
  simp only [decide_eq_true_eq] at *
  exact List.lt_trans h1 h2
theorem tri (a b : T) : lt a b = true ∨ same a b = true ∨ lt b a = true := by
  rw [lt_eq, lt_eq, same]
  simp only [decide_eq_true_eq, beq_iff_eq]
  by_cases h1 : a.toList < b.toList
  · exact .inl h1
  · by_cases h2 : b.toList < a.toList
    · exact .inr (.inr h2)
    · exact .inr (.inl (List.le_antisymm (List.not_lt.1 h2) (List.not_lt.1 h1)))
theorem ext {a b : T} (h : a.toList = b.toList) : a = b := by
  rw [Go.ByteArray.toList_eq, Go.ByteArray.toList_eq] at h
  obtain ⟨⟨x⟩⟩ := a
  obtain ⟨⟨y⟩⟩ := b
  simpa using h
theorem same_eq (a b : T) : same a b = true ↔ a = b := by
  unfold same
  simp only [beq_iff_eq]
  exact ⟨ext, fun h => by rw [h]⟩
theorem lt_asymm {a b : T} (h : lt a b = true) : lt b a = false := by
  cases h2 : lt b a
  · rfl
  · have := lt_trans h h2; rw [lt_irrefl] at this; cases this

theorem countP_lt {α : Type} (p q : α → Bool) (a : α) (hq : q a = true) (hp : p a = false) : ∀ (L : List α), (∀ x ∈ L, p x = true → q x = true) → a ∈ L → L.countP p < L.countP q
  | x :: L, h, hm => by
    have hle : L.countP p ≤ L.countP q := List.countP_mono_left fun y hy => h y (List.mem_cons_of_mem _ hy)
    rw [List.countP_cons, List.countP_cons]
    by_cases hx : a = x
    · subst hx; simp [hq, hp]; omega
    · have hm' : a ∈ L := by
        rcases List.mem_cons.1 hm with h | h
        · exact absurd h hx
        · exact h
      have := countP_lt p q a hq hp L (fun y hy => h y (List.mem_cons_of_mem _ hy)) hm'
      have h2 := h x (by simp)
      cases hpx : p x
      · simp; omega
      · simp [h2 hpx]; omega
/-- Numbers in the texts' order. -/
theorem ranks (L : List T) : ∃ f : T → Nat, ∀ a ∈ L, ∀ b ∈ L, lt a b = decide (f a < f b) ∧ same a b = decide (f a = f b) := by
  refine ⟨fun x => L.countP fun y => lt y x, fun a ha b hb => ?_⟩
  have key : ∀ a ∈ L, ∀ b : T, lt a b = true → (L.countP fun y => lt y a) < L.countP fun y => lt y b := fun a ha b h =>
    countP_lt (fun y => lt y a) (fun y => lt y b) a h (lt_irrefl a) L (fun x _ hx => lt_trans hx h) ha
  rcases tri a b with h | h | h
  · have h1 := key a ha b h
    have hs : same a b = false := by
      cases hs : same a b
      · rfl
      · rw [(same_eq a b).1 hs, lt_irrefl] at h; cases h
    rw [h, hs]
    exact ⟨by simp [h1], by simp; omega⟩
  · have e := (same_eq a b).1 h
    subst e
    rw [lt_irrefl, h]
    simp
  · have h1 := key b hb a h
    have hs : same a b = false := by
      cases hs : same a b
      · rfl
      · rw [(same_eq a b).1 hs, lt_irrefl] at h; cases h
    rw [lt_asymm h, hs]
    exact ⟨by simp; omega, by simp; omega⟩

/-! ### The text behind k: k and a nought -/
theorem succ_toList (k : T) : (succ k).toList = k.toList ++ [0] := by
  rw [Go.ByteArray.toList_eq, Go.ByteArray.toList_eq]
  unfold succ
  simp
theorem emp_succ (k : T) : emp (succ k) = false := by unfold emp; rw [succ_toList]; simp
theorem snoc_lt : ∀ (x k : List UInt8), Go.Op.bytesLess x (k ++ [0]) = !Go.Op.bytesLess k x
  | [], [] => rfl
  | [], c :: k => by simp [Go.Op.bytesLess]
  | a :: x, [] => by
    have h : ¬ a < 0 := by simp
    cases x <;> simp [Go.Op.bytesLess]
  | a :: x, c :: k => by
    have ih := snoc_lt x k
    simp only [List.cons_append, Go.Op.bytesLess, ih]
    by_cases h1 : a < c
    · have h2 : ¬ c < a := by intro h; exact absurd (UInt8.lt_trans h1 h) (UInt8.lt_irrefl a)
      have h3 : c ≠ a := fun h => by subst h; exact absurd h1 (UInt8.lt_irrefl _)
      simp [h1, h2, h3]
    · by_cases h3 : c = a
      · subst h3; simp
      · have h4 : c < a := by
          rcases UInt8.lt_or_lt_of_ne h3 with h | h
          · exact h
          · exact absurd h h1
        have h5 : ¬ a = c := fun h => h3 h.symm
        simp [h1, h4, h5]
theorem lt_succ (x k : T) : lt x (succ k) = !lt k x := by unfold lt; rw [succ_toList]; exact snoc_lt _ _
theorem emp_same {a b : T} (h1 : emp a = true) (h2 : emp b = true) : a = b := by
  unfold emp at *
  exact ext (by rw [List.isEmpty_iff.1 h1, List.isEmpty_iff.1 h2])

/-! ### The laws -/
theorem l_empty (lo hi : T) : refEmpty lo hi = empty lo hi := by
  obtain ⟨f, hf⟩ := ranks [lo, hi]
  unfold refEmpty empty under
  rw [(hf hi (by simp) lo (by simp)).1, (hf hi (by simp) lo (by simp)).2, (hf lo (by simp) hi (by simp)).1]
  cases emp hi
  · rw [Bool.eq_iff_iff]; simp; omega
  · simp
theorem l_meets (al ah bl bh : T) : refMeets al ah bl bh = meets al ah bl bh := by
  unfold refMeets meets under
  rw [l_empty, l_empty]
  cases empty al ah <;> cases empty bl bh <;> simp
  rw [Bool.and_comm]
theorem l_covers (al ah bl bh : T) : refCovers al ah bl bh = covers al ah bl bh := by
  unfold refCovers covers
  rw [l_empty]
end SpanP
