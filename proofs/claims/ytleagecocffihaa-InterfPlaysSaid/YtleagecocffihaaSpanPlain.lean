/-
  Plain law: ranges of texts. A finite set of texts is put in order by numbers, and 'omega' decides.
-/
import Derived.Test.YtleagecocffihaaSpanOrd
namespace SpanP

theorem lt_eq (a b : T) : lt a b = decide (a.toList < b.toList) := by unfold lt; exact Go.Proofs.bytesLess_eq _ _
theorem lt_irrefl (a : T) : lt a a = false := by rw [lt_eq]; simp
theorem lt_trans {a b c : T} (h1 : lt a b = true) (h2 : lt b c = true) : lt a c = true := by
  rw [lt_eq] at *
  simp only [decide_eq_true_eq] at *
  exact List.lt_trans h1 h2
theorem tri (a b : T) : lt a b = true ∨ same a b = true ∨ lt b a = true := by
  rw [lt_eq, lt_eq, same]
  simp only [decide_eq_true_eq, beq_iff_eq]
  by_cases h1 : a.toList < b.toList
  · exact .inl h1
  · by_cases h2 : b.toList < a.toList
    · exact .inr (.inr h2)
    · exact .inr (.inl (List.le_antisymm (List.not_lt.1 h2) (List.not_lt.1 h1)))
theorem ext {a b : T} (h : a.toList = b.toList) : a = b := by
  rw [Go.ByteArray.toList_eq, Go.ByteArray.toList_eq] at h
  obtain ⟨⟨x⟩⟩ := a
  obtain ⟨⟨y⟩⟩ := b
  simpa using h
theorem same_eq (a b : T) : same a b = true ↔ a = b := by
  unfold same
  simp only [beq_iff_eq]
  exact ⟨ext, fun h => by rw [h]⟩
theorem lt_asymm {a b : T} (h : lt a b = true) : lt b a = false := by
  cases h2 : lt b a
  · rfl
  · have := lt_trans h h2; rw [lt_irrefl] at this; cases this

theorem countP_lt {α : Type} (p q : α → Bool) (a : α) (hq : q a = true) (hp : p a = false) : ∀ (L : List α), (∀ x ∈ L, p x = true → q x = true) → a ∈ L → L.countP p < L.countP q
  | x :: L, h, hm => by
    have hle : L.countP p ≤ L.countP q := List.countP_mono_left fun y hy => h y (List.mem_cons_of_mem _ hy)
    rw [List.countP_cons, List.countP_cons]
    by_cases hx : a = x
    · subst hx; simp [hq, hp]; omega
    · have hm' : a ∈ L := by
        rcases List.mem_cons.1 hm with h | h
        · exact absurd h hx
        · exact h
      have := countP_lt p q a hq hp L (fun y hy => h y (List.mem_cons_of_mem _ hy)) hm'
      have h2 := h x (by simp)
      cases hpx : p x
      · simp; omega
      · simp [h2 hpx]; omega
/-- Numbers in the texts' order. -/
theorem ranks (L : List T) : ∃ f : T → Nat, ∀ a ∈ L, ∀ b ∈ L, lt a b = decide (f a < f b) ∧ same a b = decide (f a = f b) := by
  refine ⟨fun x => L.countP fun y => lt y x, fun a ha b hb => ?_⟩
  have key : ∀ a ∈ L, ∀ b : T, lt a b = true → (L.countP fun y => lt y a) < L.countP fun y => lt y b := fun a ha b h =>
    countP_lt (fun y => lt y a) (fun y => lt y b) a h (lt_irrefl a) L (fun x _ hx => lt_trans hx h) ha
  rcases tri a b with h | h | h
  · have h1 := key a ha b h
    have hs : same a b = false := by
      cases hs : same a b
      · rfl
      · rw [(same_eq a b).1 hs, lt_irrefl] at h; cases h
    rw [h, hs]
    exact ⟨by simp [h1], by simp; omega⟩
  · have e := (same_eq a b).1 h
    subst e
    rw [lt_irrefl, h]
    simp
  · have h1 := key b hb a h
    have hs : same a b = false := by
      cases hs : same a b
      · rfl
      · rw [(same_eq a b).1 hs, lt_irrefl] at h; cases h
    rw [lt_asymm h, hs]
    exact ⟨by simp; omega, by simp; omega⟩

/-! ### The text behind k: k and a nought -/
theorem succ_toList (k : T) : (succ k).toList = k.toList ++ [0] := by
  rw [Go.ByteArray.toList_eq, Go.ByteArray.toList_eq]
  unfold succ
  simp
theorem emp_succ (k : T) : emp (succ k) = false := by unfold emp; rw [succ_toList]; simp
theorem snoc_lt : ∀ (x k : List UInt8), Go.Op.bytesLess x (k ++ [0]) = !Go.Op.bytesLess k x
  | [], [] => rfl
  | [], c :: k => by simp [Go.Op.bytesLess]
  | a :: x, [] => by
    have h : ¬ a < 0 := by simp
    cases x <;> simp [Go.Op.bytesLess]
  | a :: x, c :: k => by
    have ih := snoc_lt x k
    simp only [List.cons_append, Go.Op.bytesLess, ih]
    by_cases h1 : a < c
    · have h2 : ¬ c < a := by intro h; exact absurd (UInt8.lt_trans h1 h) (UInt8.lt_irrefl a)
      have h3 : c ≠ a := fun h => by subst h; exact absurd h1 (UInt8.lt_irrefl _)
      simp [h1, h2, h3]
    · by_cases h3 : c = a
      · subst h3; simp
      · have h4 : c < a := by
          rcases UInt8.lt_or_lt_of_ne h3 with h | h
          · exact h
          · exact absurd h h1
        have h5 : ¬ a = c := fun h => h3 h.symm
        simp [h1, h4, h5]
theorem lt_succ (x k : T) : lt x (succ k) = !lt k x := by unfold lt; rw [succ_toList]; exact snoc_lt _ _
theorem emp_same {a b : T} (h1 : emp a = true) (h2 : emp b = true) : a = b := by
  unfold emp at *
  exact ext (by rw [List.isEmpty_iff.1 h1, List.isEmpty_iff.1 h2])

/-! ### The laws -/
theorem l_empty (lo hi : T) : refEmpty lo hi = empty lo hi := by
  obtain ⟨f, hf⟩ := ranks [lo, hi]
  unfold refEmpty empty under
  rw [(hf hi (by simp) lo (by simp)).1, (hf hi (by simp) lo (by simp)).2, (hf lo (by simp) hi (by simp)).1]
  cases emp hi
  · rw [Bool.eq_iff_iff]; simp; omega
  · simp
theorem l_meets (al ah bl bh : T) : refMeets al ah bl bh = meets al ah bl bh := by
  unfold refMeets meets under
  rw [l_empty, l_empty]
  cases empty al ah <;> cases empty bl bh <;> simp
  rw [Bool.and_comm]
theorem l_covers (al ah bl bh : T) : refCovers al ah bl bh = covers al ah bl bh := by
  unfold refCovers covers
  rw [l_empty]
theorem max_eq (a b : T) : Go.Lib.maxS a b = if lt a b then b else a := by
  unfold Go.Lib.maxS
  rw [lt_eq, Go.ByteArray.toList_eq, Go.ByteArray.toList_eq]
  simp
theorem l_both (al ah bl bh k : T) : has (Go.Lib.maxS al bl) (bothHi ah bh) k = (has al ah k && has bl bh k) := by
  obtain ⟨f, hf⟩ := ranks [al, ah, bl, bh, k]
  have h1 := (hf al (by simp) bl (by simp)).1
  have h2 := (hf bh (by simp) ah (by simp)).1
  have h3 := (hf k (by simp) al (by simp)).1
  have h4 := (hf k (by simp) bl (by simp)).1
  have h5 := (hf k (by simp) ah (by simp)).1
  have h6 := (hf k (by simp) bh (by simp)).1
  rw [max_eq]
  unfold has bothHi under
  by_cases c1 : lt al bl = true
  · rw [if_pos c1]
    by_cases c2 : (emp ah || (!emp bh && lt bh ah)) = true
    · rw [if_pos c2]
      rw [h1] at c1; rw [h2] at c2; rw [h3, h4, h5, h6, Bool.eq_iff_iff]
      clear h1 h2 h3 h4 h5 h6 hf; revert c1 c2
      cases emp ah <;> cases emp bh <;> simp <;> omega
    · rw [if_neg c2]
      rw [h1] at c1; rw [h2] at c2; rw [h3, h4, h5, h6, Bool.eq_iff_iff]
      clear h1 h2 h3 h4 h5 h6 hf; revert c1 c2
      cases emp ah <;> cases emp bh <;> simp <;> omega
  · rw [if_neg c1]
    by_cases c2 : (emp ah || (!emp bh && lt bh ah)) = true
    · rw [if_pos c2]
      rw [h1] at c1; rw [h2] at c2; rw [h3, h4, h5, h6, Bool.eq_iff_iff]
      clear h1 h2 h3 h4 h5 h6 hf; revert c1 c2
      cases emp ah <;> cases emp bh <;> simp <;> omega
    · rw [if_neg c2]
      rw [h1] at c1; rw [h2] at c2; rw [h3, h4, h5, h6, Bool.eq_iff_iff]
      clear h1 h2 h3 h4 h5 h6 hf; revert c1 c2
      cases emp ah <;> cases emp bh <;> simp <;> omega
theorem l_share (al ah bl bh k : T) (ha : has al ah k = true) (hb : has bl bh k = true) : meets al ah bl bh = true := by
  obtain ⟨f, hf⟩ := ranks [al, ah, bl, bh, k]
  unfold meets empty has under at *
  rw [(hf k (by simp) al (by simp)).1, (hf k (by simp) ah (by simp)).1] at ha
  rw [(hf k (by simp) bl (by simp)).1, (hf k (by simp) bh (by simp)).1] at hb
  rw [(hf al (by simp) ah (by simp)).1, (hf bl (by simp) bh (by simp)).1, (hf al (by simp) bh (by simp)).1, (hf bl (by simp) ah (by simp)).1]
  clear hf; revert ha hb
  cases emp ah <;> cases emp bh <;> simp <;> omega
theorem l_cov (al ah bl bh k : T) (hc : covers al ah bl bh = true) (hb : has bl bh k = true) : has al ah k = true := by
  obtain ⟨f, hf⟩ := ranks [al, ah, bl, bh, k]
  unfold covers empty has under at *
  rw [(hf bl (by simp) bh (by simp)).1, (hf bl (by simp) al (by simp)).1, (hf bh (by simp) ah (by simp)).1, (hf bh (by simp) ah (by simp)).2] at hc
  rw [(hf k (by simp) bl (by simp)).1, (hf k (by simp) bh (by simp)).1] at hb
  rw [(hf k (by simp) al (by simp)).1, (hf k (by simp) ah (by simp)).1]
  clear hf; revert hc hb
  cases emp ah <;> cases emp bh <;> simp <;> omega
theorem l_none (al ah k : T) (he : empty al ah = true) : has al ah k = false := by
  obtain ⟨f, hf⟩ := ranks [al, ah, k]
  unfold empty has under at *
  rw [(hf al (by simp) ah (by simp)).1] at he
  rw [(hf k (by simp) al (by simp)).1, (hf k (by simp) ah (by simp)).1]
  clear hf; revert he
  cases emp ah <;> simp <;> omega
theorem l_own (k : T) : has k (succ k) k = true := by
  unfold has under; rw [lt_succ, lt_irrefl]; simp
theorem l_empty_of (k : T) : empty k (succ k) = false := by
  unfold empty under; rw [lt_succ, lt_irrefl]; simp
theorem l_meets_of (al ah k : T) : meets al ah k (succ k) = has al ah k := by
  unfold meets; rw [l_empty_of]
  unfold empty has under
  rw [lt_succ, emp_succ]
  obtain ⟨f, hf⟩ := ranks [al, ah, k]
  rw [(hf al (by simp) ah (by simp)).1, (hf k (by simp) al (by simp)).1, (hf k (by simp) ah (by simp)).1, Bool.eq_iff_iff]
  cases emp ah <;> simp <;> omega
theorem succ_le (k h : T) : (lt (succ k) h || same (succ k) h) = lt k h := by
  have h1 := lt_succ h k
  cases h2 : lt k h
  · rw [h2] at h1
    have h3 := lt_asymm h1
    rw [h3]
    cases h4 : same (succ k) h
    · rfl
    · have e := (same_eq _ _).1 h4
      rw [e, lt_irrefl] at h1; cases h1
  · rw [h2] at h1
    rcases tri (succ k) h with h3 | h3 | h3
    · rw [h3]; rfl
    · rw [h3]; simp
    · rw [h3] at h1; cases h1
theorem l_covers_of (al ah k : T) : covers al ah k (succ k) = has al ah k := by
  unfold covers; rw [l_empty_of, emp_succ, succ_le]
  unfold has under
  simp
/-! ### SpanMirrors -/
theorem meets_comm (al ah bl bh : T) : meets al ah bl bh = meets bl bh al ah := by
  unfold meets
  cases empty al ah <;> cases empty bl bh <;> simp
  rw [Bool.and_comm]
theorem meets_self (al ah : T) : meets al ah al ah = !empty al ah := by
  unfold meets empty; cases under al ah <;> rfl
theorem max_comm (a b : T) : Go.Lib.maxS a b = Go.Lib.maxS b a := by
  rw [max_eq, max_eq]
  rcases tri a b with h | h | h
  · rw [h, lt_asymm h]; simp
  · have e := (same_eq a b).1 h
    subst e; rfl
  · rw [h, lt_asymm h]; simp
theorem hi_comm (a b : T) : bothHi a b = bothHi b a := by
  unfold bothHi
  cases h1 : emp a <;> cases h2 : emp b <;> simp
  · rcases tri a b with h | h | h
    · rw [h, lt_asymm h]; simp
    · have e := (same_eq a b).1 h
      subst e; rfl
    · rw [h, lt_asymm h]; simp
  · exact emp_same h2 h1
theorem emp_hi (ah bh : T) : emp (bothHi ah bh) = (emp ah && emp bh) := by
  unfold bothHi
  cases h1 : emp ah <;> cases h2 : emp bh <;> simp [h1, h2]
  by_cases h : lt bh ah = true
  · simp [h, h2]
  · simp [h, h1]
theorem l_meets_both (al ah bl bh : T) : meets al ah bl bh = (!empty al ah && !empty bl bh && !empty (Go.Lib.maxS al bl) (bothHi ah bh)) := by
  obtain ⟨f, hf⟩ := ranks [al, ah, bl, bh]
  have h1 := (hf al (by simp) bl (by simp)).1
  have h2 := (hf bh (by simp) ah (by simp)).1
  have h3 := (hf al (by simp) ah (by simp)).1
  have h4 := (hf bl (by simp) bh (by simp)).1
  have h5 := (hf al (by simp) bh (by simp)).1
  have h6 := (hf bl (by simp) ah (by simp)).1
  unfold meets empty under
  rw [emp_hi, max_eq]
  unfold bothHi
  by_cases c1 : lt al bl = true
  · rw [if_pos c1]
    by_cases c2 : (emp ah || (!emp bh && lt bh ah)) = true
    · rw [if_pos c2]
      rw [h1] at c1; rw [h2] at c2; rw [h3, h4, h5, h6, Bool.eq_iff_iff]
      clear h1 h2 h3 h4 h5 h6 hf; revert c1 c2
      cases emp ah <;> cases emp bh <;> simp <;> omega
    · rw [if_neg c2]
      rw [h1] at c1; rw [h2] at c2; rw [h3, h4, h5, h6, Bool.eq_iff_iff]
      clear h1 h2 h3 h4 h5 h6 hf; revert c1 c2
      cases emp ah <;> cases emp bh <;> simp <;> omega
  · rw [if_neg c1]
    by_cases c2 : (emp ah || (!emp bh && lt bh ah)) = true
    · rw [if_pos c2]
      rw [h1] at c1; rw [h2] at c2; rw [h3, h4, h5, h6, Bool.eq_iff_iff]
      clear h1 h2 h3 h4 h5 h6 hf; revert c1 c2
      cases emp ah <;> cases emp bh <;> simp <;> omega
    · rw [if_neg c2]
      rw [h1] at c1; rw [h2] at c2; rw [h3, h4, h5, h6, Bool.eq_iff_iff]
      clear h1 h2 h3 h4 h5 h6 hf; revert c1 c2
      cases emp ah <;> cases emp bh <;> simp <;> omega
theorem covers_self (al ah : T) : covers al ah al ah = true := by
  unfold covers
  have h : same ah ah = true := (same_eq _ _).2 rfl
  rw [lt_irrefl, h]
  cases empty al ah <;> cases emp ah <;> simp
theorem covers_trans (al ah bl bh cl ch : T) (h1 : covers al ah bl bh = true) (h2 : covers bl bh cl ch = true) (hb : empty bl bh = false) : covers al ah cl ch = true := by
  obtain ⟨f, hf⟩ := ranks [al, ah, bl, bh, cl, ch]
  unfold covers at *
  rw [hb] at h1
  rw [(hf bl (by simp) al (by simp)).1, (hf bh (by simp) ah (by simp)).1, (hf bh (by simp) ah (by simp)).2] at h1
  rw [(hf cl (by simp) bl (by simp)).1, (hf ch (by simp) bh (by simp)).1, (hf ch (by simp) bh (by simp)).2] at h2
  rw [(hf cl (by simp) al (by simp)).1, (hf ch (by simp) ah (by simp)).1, (hf ch (by simp) ah (by simp)).2]
  clear hf; revert h1 h2
  cases empty cl ch <;> cases emp ah <;> cases emp bh <;> cases emp ch <;> simp <;> omega
/-! ### SpanPoints -/
theorem l_points (a b : T) : meets a (succ a) b (succ b) = (a.toList == b.toList) := by
  rw [l_meets_of]
  unfold has under
  rw [lt_succ, emp_succ, show (a.toList == b.toList) = same a b from rfl]
  obtain ⟨f, hf⟩ := ranks [a, b]
  rw [(hf a (by simp) b (by simp)).1, (hf b (by simp) a (by simp)).1, (hf a (by simp) b (by simp)).2, Bool.eq_iff_iff]
  simp
  omega
def nil : T := ⟨#[]⟩
theorem emp_nil : emp nil = true := by unfold emp nil; rw [Go.ByteArray.toList_eq]; rfl
theorem lt_nil (a : T) : lt a nil = false := by
  unfold lt nil
  rw [Go.ByteArray.toList_eq ⟨#[]⟩]
  cases a.toList <;> rfl
theorem l_from_self (a : T) : has a nil a = true := by
  unfold has under; rw [lt_irrefl, emp_nil]; rfl
theorem l_from (a b : T) : has a nil b = !Go.Op.bytesLess b.toList a.toList := by
  unfold has under; rw [emp_nil]
  unfold lt
  simp
theorem l_upto (a b : T) : has nil b a = (b.toList.isEmpty || Go.Op.bytesLess a.toList b.toList) := by
  unfold has under; rw [lt_nil]; rfl
end SpanP
