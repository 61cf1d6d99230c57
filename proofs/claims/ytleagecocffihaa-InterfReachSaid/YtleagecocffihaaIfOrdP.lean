/-
  Plain: what is noted of a list of asks; noted in another order, each at its own instance, it is the same but for the order.
-/
import Derived.Test.YtleagecocffihaaIfAskW
import Derived.Test.YtleagecocffihaaIfSameP
namespace Go.Proofs.Ytleagecocffihaa
open Go.RowKit Go.Maps
set_option linter.unusedVariables false

def Ask.ent (x : Ask) : Ent := ⟨x.r, x.s, x.c, x.q⟩
def Ask.takenB (x : Ask) : Bool := noteB (fun _ => 0) x.r x.s x.c x.q
def notedL (O : Nat → Ask) : Nat → List Ent
  | 0 => []
  | k + 1 => if (O k).takenB then putE (notedL O k) (O k).ent else notedL O k
/-- Each at its own instance. -/
def Apart (O : Nat → Ask) (m : Nat) : Prop := ∀ i j, i < m → j < m → i ≠ j → ¬ ((O i).r = (O j).r ∧ (O i).s = (O j).s)
theorem Apart.less {O : Nat → Ask} {m k : Nat} (h : Apart O m) (hk : k ≤ m) : Apart O k := fun i j hi hj => h i j (by omega) (by omega)
theorem notedL_eq (O : Nat → Ask) : ∀ m, Apart O m → notedL O m = (((List.range m).filter fun k => (O k).takenB).map fun k => (O k).ent)
  | 0, _ => rfl
  | m + 1, h => by
    have ih := notedL_eq O m (h.less (by omega))
    unfold notedL
    rw [List.range_succ, List.filter_append, List.map_append, ← ih]
    cases hb : (O m).takenB
    · simp [hb]
    · have hn : (notedL O m).any (fun x => x.r == (O m).ent.r && x.s == (O m).ent.s) = false := by
        rw [List.any_eq_false]
        intro x hx
        rw [ih] at hx
        obtain ⟨k, hk, rfl⟩ := List.mem_map.1 hx
        have hk2 : k < m := List.mem_range.1 (List.mem_filter.1 hk).1
        have := h k m (by omega) (by omega) (by omega)
        simp only [Ask.ent, Bool.and_eq_true, beq_iff_eq]
        exact this
      unfold putE
      simp [hn, hb]
theorem turned_range (m n : Nat) (hn : n ≤ m) : (List.range m).map (fun k => (k + n) % m) = (List.range m).drop n ++ (List.range m).take n := by
  apply List.ext_getElem?
  intro i
  by_cases hi : i < m
  · rw [List.getElem?_map, List.getElem?_range hi, Option.map_some]
    by_cases h2 : i < m - n
    · rw [List.getElem?_append_left (by simp; omega), List.getElem?_drop, List.getElem?_range (by omega), Nat.mod_eq_of_lt (by omega), Nat.add_comm]
    · rw [List.getElem?_append_right (by simp; omega), List.length_drop, List.length_range, List.getElem?_take_of_lt (by omega), List.getElem?_range (by omega), show i + n = (i - (m - n)) + m by omega, Nat.add_mod_right, Nat.mod_eq_of_lt (by omega)]
  · rw [List.getElem?_eq_none (by simp; omega), List.getElem?_eq_none (by simp; omega)]
theorem turned_perm (m n : Nat) (hn : n ≤ m) : ((List.range m).map fun k => (k + n) % m).Perm (List.range m) := by
  rw [turned_range m n hn]
  have h := List.perm_append_comm (l₁ := (List.range m).drop n) (l₂ := (List.range m).take n)
  rwa [List.take_append_drop] at h
theorem turned_apart {O : Nat → Ask} {m : Nat} (n : Nat) (h : Apart O m) (hn : n ≤ m) : Apart (fun k => O ((k + n) % m)) m := fun i j hi hj hne => by
  refine h _ _ (Nat.mod_lt _ (by omega)) (Nat.mod_lt _ (by omega)) fun hc => hne ?_
  have hf : ∀ x, x < m → (x + n) % m = if x + n < m then x + n else x + n - m := fun x hx => by
    split
    · rw [Nat.mod_eq_of_lt (by assumption)]
    · rw [Nat.mod_eq_sub_mod (by omega), Nat.mod_eq_of_lt (by omega)]
  rw [hf i hi, hf j hj] at hc
  split at hc <;> split at hc <;> omega
theorem perm_through {f : Nat → Nat} {p : Nat → Bool} {g : Nat → Ent} {l : List Nat} (h : (l.map f).Perm l) : ((l.filter fun k => p (f k)).map fun k => g (f k)).Perm ((l.filter p).map g) := by
  have h1 := (h.filter p).map g
  rw [List.filter_map, List.map_map] at h1
  exact h1
theorem through_noted {O : Nat → Ask} {m : Nat} {f : Nat → Nat} (hp : ((List.range m).map f).Perm (List.range m)) (h : Apart O m) (h2 : Apart (fun k => O (f k)) m) : (notedL (fun k => O (f k)) m).Perm (notedL O m) := by
  rw [notedL_eq _ m h2, notedL_eq O m h]
  have h3 := perm_through (f := f) (p := fun k => (O k).takenB) (g := fun k => (O k).ent) hp
  exact h3
theorem turned_noted {O : Nat → Ask} {m : Nat} (n : Nat) (h : Apart O m) (hn : n ≤ m) : (notedL (fun k => O ((k + n) % m)) m).Perm (notedL O m) := through_noted (f := fun k => (k + n) % m) (turned_perm m n hn) h (turned_apart n h hn)
theorem attL_perm {l l' : List Ent} (h : l.Perm l') (r s : Int) (c : Cm) : attL (attrQ l r s c) (attrD l (fun _ => 0) r s c) = attL (attrQ l' r s c) (attrD l' (fun _ => 0) r s c) := by
  have : attrD l (fun _ => 0) r s c = attrD l' (fun _ => 0) r s c := by
    funext j
    exact attrD_perm h _ r s c j
  rw [attrQ_perm h, this]
/-- Is it new among the first m? -/
def freshTo (O : Nat → Ask) (x : Ask) : Nat → Bool
  | 0 => lightB x.c
  | j + 1 => freshTo O x j && !((O j).r == x.r && (O j).s == x.s)
theorem freshTo_true {O : Nat → Ask} {x : Ask} {m : Nat} (h : freshTo O x m = true) : lightB x.c = true ∧ ∀ j, j < m → ¬ ((O j).r = x.r ∧ (O j).s = x.s) := by
  induction m with
  | zero =>
    unfold freshTo at h
    exact And.intro h (fun j hj => absurd hj (Nat.not_lt_zero j))
  | succ m ih =>
    unfold freshTo at h
    rw [Bool.and_eq_true] at h
    obtain ⟨h1, h2⟩ := ih h.1
    refine ⟨h1, fun j hj => ?_⟩
    by_cases hjm : j = m
    · subst hjm
      have h3 := h.2
      intro hc
      simp [hc.1, hc.2] at h3
    · exact h2 j (by omega)
/-- One more behind. -/
def snocA (O : Nat → Ask) (m : Nat) (x : Ask) : Nat → Ask := fun i => if i < m then O i else x
theorem snocA_lt (O : Nat → Ask) (m : Nat) (x : Ask) {i : Nat} (h : i < m) : snocA O m x i = O i := if_pos h
theorem snocA_at (O : Nat → Ask) (m : Nat) (x : Ask) : snocA O m x m = x := if_neg (Nat.lt_irrefl m)
theorem Apart.snoc {O : Nat → Ask} {m : Nat} {x : Ask} (h : Apart O m) (hx : ∀ j, j < m → ¬ ((O j).r = x.r ∧ (O j).s = x.s)) : Apart (snocA O m x) (m + 1) := fun i j hi hj hne => by
  by_cases h1 : i < m
  · rw [snocA_lt O m x h1]
    by_cases h2 : j < m
    · rw [snocA_lt O m x h2]; exact h i j h1 h2 hne
    · have : j = m := by omega
      subst this
      rw [snocA_at]; exact hx i h1
  · have : i = m := by omega
    subst this
    rw [snocA_at, snocA_lt O i x (show j < i by omega)]
    exact fun hc => hx j (by omega) ⟨hc.1.symm, hc.2.symm⟩
end Go.Proofs.Ytleagecocffihaa
