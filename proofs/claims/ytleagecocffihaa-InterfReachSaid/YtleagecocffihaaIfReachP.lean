/-
  Plain: each known instance whose command clashes is reached; pruned it is reached, too.
-/
import Derived.Test.YtleagecocffihaaIfOrdP
namespace Go.Proofs.Ytleagecocffihaa
open Go.RowKit Go.Maps
set_option linter.unusedVariables false

theorem putE_mem (l : List Ent) (e : Ent) : e ∈ putE l e := by
  unfold putE
  split
  · rename_i h
    obtain ⟨x, hx, hk⟩ := List.any_eq_true.1 h
    simp only [Bool.and_eq_true, beq_iff_eq] at hk
    exact List.mem_map.2 ⟨x, hx, if_pos hk⟩
  · simp
theorem putE_other {l : List Ent} {e x : Ent} (hx : x ∈ l) (hn : ¬ (x.r = e.r ∧ x.s = e.s)) : x ∈ putE l e := by
  unfold putE
  split
  · exact List.mem_map.2 ⟨x, hx, if_neg hn⟩
  · exact List.mem_append_left _ hx
/-- The list knows each of the m asks that is the last at its instance; each was taken, and stands neither at the instance nor above it in its row. -/
structure Known (l : List Ent) (m : Nat) (O : Nat → Ask) (r s : Int) : Prop where
  all : ∀ k, k < m → (∀ j, k < j → j < m → ¬ ((O j).r = (O k).r ∧ (O j).s = (O k).s)) → (O k).ent ∈ l
  taken : ∀ k, k < m → (O k).takenB = true
  apart : ∀ k, k < m → ¬ ((O k).r = r ∧ s ≤ (O k).s)
  light : ∀ k, k < m → lightB (O k).c = true
theorem Known.nil (r s : Int) (O : Nat → Ask) : Known [] 0 O r s := ⟨fun k hk => absurd hk (Nat.not_lt_zero k), fun k hk => absurd hk (Nat.not_lt_zero k), fun k hk => absurd hk (Nat.not_lt_zero k), fun k hk => absurd hk (Nat.not_lt_zero k)⟩
theorem Known.snoc {l : List Ent} {m : Nat} {O : Nat → Ask} {r s : Int} (h : Known l m O r s) {x : Ask} (h1 : x.takenB = true) (h2 : ¬ (x.r = r ∧ s ≤ x.s)) (h3 : lightB x.c = true) : Known (putE l x.ent) (m + 1) (snocA O m x) r s := by
  refine ⟨fun k hk hl => ?_, fun k hk => ?_, fun k hk => ?_, fun k hk => ?_⟩
  · by_cases hkm : k < m
    · have hn := hl m hkm (by omega)
      rw [snocA_at, snocA_lt O m x hkm] at hn
      rw [snocA_lt O m x hkm]
      refine putE_other (h.all k hkm fun j hj hjm => ?_) (fun hc => hn ⟨hc.1.symm, hc.2.symm⟩)
      have := hl j hj (by omega)
      rwa [snocA_lt O m x hjm, snocA_lt O m x hkm] at this
    · have : k = m := by omega
      subst this
      rw [snocA_at]
      exact putE_mem _ _
  · by_cases hkm : k < m
    · rw [snocA_lt O m x hkm]; exact h.taken k hkm
    · have : k = m := by omega
      subst this
      rw [snocA_at]; exact h1
  · by_cases hkm : k < m
    · rw [snocA_lt O m x hkm]; exact h.apart k hkm
    · have : k = m := by omega
      subst this
      rw [snocA_at]; exact h2
  · by_cases hkm : k < m
    · rw [snocA_lt O m x hkm]; exact h.light k hkm
    · have : k = m := by omega
      subst this
      rw [snocA_at]; exact h3
/-- Is number k the last at its instance, as far as j? -/
def lastTo (O : Nat → Ask) (k : Nat) : Nat → Bool
  | 0 => true
  | j + 1 => lastTo O k j && (if k < j then !((O j).r == (O k).r && (O j).s == (O k).s) else true)
theorem lastTo_true {O : Nat → Ask} {k m : Nat} (h : lastTo O k m = true) : ∀ j, k < j → j < m → ¬ ((O j).r = (O k).r ∧ (O j).s = (O k).s) := by
  induction m with
  | zero => intro j _ hj; omega
  | succ m ih =>
    unfold lastTo at h
    rw [Bool.and_eq_true] at h
    intro j hkj hj
    by_cases hjm : j = m
    · subst hjm
      have h3 := h.2
      rw [if_pos hkj] at h3
      intro hc
      simp [hc.1, hc.2] at h3
    · exact ih h.1 j hkj (by omega)
theorem takenB_right {x : Ask} (h : x.takenB = true) : rightI x.r x.s = true := by
  unfold Ask.takenB noteB at h
  rw [Bool.and_eq_true] at h
  exact h.1
theorem rightI_bounds {r s : Int} (h : rightI r s = true) : 0 ≤ r ∧ r < 7 ∧ 1 ≤ s ∧ s ≤ 1073741824 := by
  unfold rightI at h
  simp only [Bool.and_eq_true, decide_eq_true_eq] at h
  exact ⟨h.1, h.2.1, h.2.2.1, h.2.2.2⟩
/-- What clashes is reached, and stands below. -/
theorem Known.reaches {l : List Ent} {m : Nat} {O : Nat → Ask} {r s : Int} (h : Known l m O r s) (c : Cm) {k : Nat} (hk : k < m) (hl : lastTo O k m = true) (hc : clashC (O k).c c = true) :
    (O k).q < attrQ l r s c ∧ (O k).s ≤ attrD l (fun _ => 0) r s c (O k).r.toNat := by
  have hm := h.all k hk (lastTo_true hl)
  have hb := rightI_bounds (takenB_right (h.taken k hk))
  have ht : takes r s c (O k).ent = true := by
    unfold takes Ask.ent
    have := h.apart k hk
    simp only [hc, Bool.and_true]
    by_cases h1 : (O k).r = r
    · have h2 : ¬ s ≤ (O k).s := fun h2 => this ⟨h1, h2⟩
      simp [h2]
    · simp [h1]
  obtain ⟨h1, h2⟩ := reached hm r s c ht
  have hr : (((O k).r.toNat : Nat) : Int) = (O k).r := by omega
  refine ⟨by simp only [Ask.ent] at h1; omega, ?_⟩
  simp only [Ask.ent] at h2
  unfold attrD
  rw [hr]
  split
  · split
    · omega
    · exact h2
  · omega
theorem fold_max_le' (f : Ent → Int) (p : Ent → Bool) (M : Int) (hM : 0 ≤ M) : ∀ (l : List Ent), (∀ e ∈ l, p e = true → f e ≤ M) → l.foldr (fun e m => if p e then max (f e) m else m) 0 ≤ M
  | [], _ => hM
  | x :: l, h => by
    have ih := fold_max_le' f p M hM l fun e he => h e (by simp [he])
    rw [List.foldr_cons]
    split
    · rename_i hp
      have := h x (by simp) hp
      omega
    · exact ih
/-- Its own row is reached up to itself. -/
theorem own_row (l : List Ent) (d : Nat → Int) (r s : Int) (c : Cm) (h : rightI r s = true) : attrD l d r s c r.toNat = s - 1 := by
  have hb := rightI_bounds h
  have hr : ((r.toNat : Nat) : Int) = r := by omega
  unfold attrD
  rw [hr, if_pos rfl, if_pos h]
  have : depOf l (takes r s c) r ≤ s - 1 := by
    unfold depOf
    refine fold_max_le' _ _ _ (by omega) l fun e he hp => ?_
    simp only [takes, Bool.and_eq_true, Bool.not_eq_true', Bool.and_eq_false_iff, beq_iff_eq, beq_eq_false_iff_ne, decide_eq_false_iff_not] at hp
    obtain ⟨⟨h1, _⟩, h2⟩ := hp
    rcases h1 with h1 | h1
    · exact absurd h2 h1
    · omega
  omega
/-- Pruned it is reached, too. -/
theorem dep_pruned {l : List Ent} (hg : ∀ e ∈ l, 0 ≤ e.r) (d u : Nat → Int) (hd : ∀ j, 0 ≤ newCut d u j) (vis : Ent → Bool) (j : Nat) : depOf l vis j ≤ max (depOf (pruned l (newCut d u)) vis j) (newCut d u j) := by
  have h0 := fold_max_nonneg (fun e => e.s) (pruned l (newCut d u)) (fun e => vis e && e.r == (j : Int))
  have hdj := hd j
  unfold depOf
  refine fold_max_le' _ _ _ (by omega) l fun e he hp => ?_
  by_cases hk : newCut d u e.r.toNat < e.s
  · have hm : e ∈ pruned l (newCut d u) := List.mem_filter.2 ⟨he, by simpa using hk⟩
    have := fold_max_ge (fun e => e.s) (fun e => vis e && e.r == (j : Int)) _ e hm hp
    omega
  · have hj : e.r.toNat = j := by
      simp only [Bool.and_eq_true, beq_iff_eq] at hp
      have := hg e he
      omega
    rw [hj] at hk
    omega
theorem newCut_nonneg (u : Nat → Int) (j : Nat) : 0 ≤ newCut (fun _ => 0) u j := by unfold newCut; omega
theorem covers_pruned {l : List Ent} (hg : ∀ e ∈ l, 0 ≤ e.r) (u : Nat → Int) (r s : Int) (c : Cm) (hr : rightI r s = true) (j : Nat) (hj : j < 7) :
    attrD l (fun _ => 0) r s c j ≤ if j = r.toNat then max (attrD (pruned l (newCut (fun _ => 0) u)) (newCut (fun _ => 0) u) r s c r.toNat) (attrD l (fun _ => 0) r s c r.toNat) else attrD (pruned l (newCut (fun _ => 0) u)) (newCut (fun _ => 0) u) r s c j := by
  have hb := rightI_bounds hr
  by_cases h : j = r.toNat
  · rw [if_pos h, h]; omega
  · rw [if_neg h]
    have h1 := dep_pruned hg (fun _ => 0) u (newCut_nonneg u) (takes r s c) j
    have h2 := newCut_nonneg u j
    unfold attrD
    rw [if_neg (by omega), if_neg (by omega)]
    simp only
    omega
end Go.Proofs.Ytleagecocffihaa
