/-
  Frames one behind the other, cut off anywhere: plain laws. No program in sight.
-/
import Derived.Test.YtpkgfajphkabcaaFrTurnP
import Derived.Test.YtpkgfajphkabcaaFrListsW
namespace Go.Proofs.Ytpkgfajphkabcaa
open Go.RowKit
set_option linter.unusedVariables false
set_option linter.unusedSimpArgs false

def okP (p : List Nat) : Prop := 1 ≤ p.length ∧ p.length ≤ 16384
def cat : List (List Nat) → List Nat
  | [] => []
  | p :: ps => fr p ++ cat ps
theorem cat_append (ps qs : List (List Nat)) : cat (ps ++ qs) = cat ps ++ cat qs := by
  induction ps with
  | nil => rfl
  | cons p ps ih => simp [cat, ih]
theorem fr_ok_len {p : List Nat} (h : okP p) : (fr p).length = p.length + 6 := by
  rw [fr_len, if_neg (by have := h.1; have := h.2; omega)]
theorem fr_bad {p : List Nat} (h : ¬ okP p) : fr p = [] := by
  unfold fr
  rw [if_pos (by unfold okP at h; omega)]
theorem take_in {A B : List Nat} {k : Nat} (h : k ≤ A.length) : (A ++ B).take k = A.take k := by
  rw [List.take_append, Nat.sub_eq_zero_of_le h, List.take_zero, List.append_nil]
theorem take_past {A B : List Nat} {k : Nat} (h : A.length ≤ k) : (A ++ B).take k = A ++ B.take (k - A.length) := by
  rw [List.take_append, List.take_of_length_le h]
/-- A frame that is cut off isn't found. -/
theorem nx0_cut {p : List Nat} (h : okP p) {k : Nat} (hk : k < (fr p).length) : (nx0 ((fr p).take k)).2 ≠ 0 := by
  have hl := fr_ok_len h
  have hkl : ((fr p).take k).length = k := by rw [List.length_take]; omega
  unfold nx0
  rw [hkl]
  by_cases h1 : k < 2
  · rw [if_pos h1]; simp
  · rw [if_neg h1]
    have ht : ((fr p).take k).take 2 = putN 2 p.length := by
      rw [List.take_take, Nat.min_eq_left (by omega)]
      unfold fr
      rw [if_neg (by have := h.1; have := h.2; omega)]
      unfold hd
      rw [List.append_assoc, take_in (by rw [putN_len]; omega), List.take_of_length_le (by rw [putN_len]; omega)]
    have hu : leN (((fr p).take k).take 2) = p.length := by
      rw [ht, leN_putN', show (256 : Nat) ^ 2 = 65536 from rfl, Nat.mod_eq_of_lt (by have := h.2; omega)]
    rw [hu, if_neg (by have := h.1; have := h.2; omega), if_pos (by omega)]
    simp
theorem nx0_none : (nx0 []).2 ≠ 0 := by unfold nx0; simp
theorem scanL_stop (f : Nat) (bs : List Nat) (i : Nat) (h : (nx bs i).2.2 ≠ 0) : scanL (f + 1) bs i = ([], i) := by
  show (if (nx bs i).2.2 = 0 then _ else _) = _
  rw [if_neg h]
theorem scanL_go (f : Nat) (bs : List Nat) (i : Nat) (p : List Nat) (x : Int) (h : nx bs i = (p, x, 0)) : scanL (f + 1) bs i = (p :: (scanL f bs (i + 6 + p.length)).1, (scanL f bs (i + 6 + p.length)).2) := by
  show (if (nx bs i).2.2 = 0 then _ else _) = _
  rw [h, if_pos rfl]
theorem scan_cat : ∀ (ps : List (List Nat)) (pre : List Nat) (k n f : Nat), (∀ p ∈ ps, okP p) → n ≤ ps.length → (cat (ps.take n)).length ≤ k → (n < ps.length → k < (cat (ps.take (n + 1))).length) → n < f →
    scanL f (pre ++ (cat ps).take k) pre.length = (ps.take n, pre.length + (cat (ps.take n)).length)
  | ps, pre, k, 0, f, hok, hn, hk, hlt, hf => by
    obtain ⟨f, rfl⟩ : ∃ g, f = g + 1 := ⟨f - 1, by omega⟩
    rw [scanL_stop]
    · simp [cat]
    · rw [nx_code]
      cases ps with
      | nil => simp only [cat, List.take_nil]; exact nx0_none
      | cons p ps =>
        have h1 := hlt (by simp)
        simp only [List.take_succ_cons, List.take_zero, cat, List.append_nil] at h1
        simp only [cat]
        rw [take_in (by omega)]
        exact nx0_cut (hok p List.mem_cons_self) h1
  | [], pre, k, n + 1, f, hok, hn, hk, hlt, hf => by simp at hn
  | p :: ps, pre, k, n + 1, f, hok, hn, hk, hlt, hf => by
    obtain ⟨f, rfl⟩ : ∃ g, f = g + 1 := ⟨f - 1, by omega⟩
    have hp := hok p List.mem_cons_self
    have hl := fr_ok_len hp
    simp only [List.take_succ_cons, cat, List.length_append] at hk hlt ⊢
    rw [take_past (by omega)]
    have hx := nx_fr pre p ((cat ps).take (k - (fr p).length)) hp.1 hp.2
    rw [scanL_go f _ _ p _ hx]
    have ih := scan_cat ps (pre ++ fr p) (k - (fr p).length) n f (fun q hq => hok q (List.mem_cons_of_mem _ hq)) (by simp at hn; omega) (by omega) (fun h => by have := hlt (by simp; omega); omega) (by omega)
    rw [List.append_assoc, List.length_append] at ih
    rw [show pre.length + 6 + p.length = pre.length + (fr p).length by omega, ih]
    simp [Nat.add_assoc]
/-! ### What the statement lays -/
def valid (p : List Nat) : Bool := decide (1 ≤ p.length) && decide (p.length ≤ 16384)
theorem valid_iff (p : List Nat) : valid p = true ↔ okP p := by simp [valid, okP]
def keepTo (Z : Nat → List Nat) : Nat → List (List Nat)
  | 0 => []
  | j + 1 => if valid (Z j) = true then keepTo Z j ++ [Z j] else keepTo Z j
theorem keepTo_ok (Z : Nat → List Nat) (j : Nat) : ∀ p ∈ keepTo Z j, okP p := by
  induction j with
  | zero => simp [keepTo]
  | succ j ih =>
    unfold keepTo
    split
    · rename_i h
      intro p hp
      rcases List.mem_append.1 hp with hp | hp
      · exact ih p hp
      · simp only [List.mem_singleton] at hp; subst hp; exact (valid_iff _).1 h
    · exact ih
theorem keepTo_le (Z : Nat → List Nat) (j : Nat) : (keepTo Z j).length ≤ j := by
  induction j with
  | zero => simp [keepTo]
  | succ j ih =>
    unfold keepTo
    split
    · rw [List.length_append, List.length_singleton]; omega
    · omega
theorem cat_next (Z : Nat → List Nat) (j : Nat) : cat (keepTo Z (j + 1)) = cat (keepTo Z j) ++ fr (Z j) := by
  show cat (if valid (Z j) = true then keepTo Z j ++ [Z j] else keepTo Z j) = _
  by_cases h : valid (Z j) = true
  · rw [if_pos h, cat_append]; simp [cat]
  · rw [if_neg h, fr_bad (fun h2 => h ((valid_iff _).2 h2)), List.append_nil]
theorem cat_len (ps : List (List Nat)) (h : ∀ p ∈ ps, okP p) : ps.length ≤ (cat ps).length ∧ (cat ps).length ≤ ps.length * 16390 := by
  induction ps with
  | nil => simp [cat]
  | cons p ps ih =>
    have h1 := ih fun q hq => h q (List.mem_cons_of_mem _ hq)
    have h2 := h p List.mem_cons_self
    have h3 := fr_ok_len h2
    have := h2.2
    simp only [cat, List.length_append, List.length_cons, Nat.add_mul, Nat.one_mul]
    omega
/-- Where each frame ends. -/
def endsOf (ps : List (List Nat)) : List Value := (List.range ps.length).map fun i => .int .i64 (((cat (ps.take (i + 1))).length : Nat) : Int)
theorem endsOf_len (ps : List (List Nat)) : (endsOf ps).length = ps.length := by simp [endsOf]
theorem endsOf_get (ps : List (List Nat)) (i : Nat) (h : i < ps.length) : (endsOf ps)[i]? = some (.int .i64 (((cat (ps.take (i + 1))).length : Nat) : Int)) := by simp [endsOf, h]
theorem endsOf_snoc (ps : List (List Nat)) (p : List Nat) : endsOf (ps ++ [p]) = endsOf ps ++ [.int .i64 (((cat ps).length + (fr p).length : Nat) : Int)] := by
  apply List.ext_getElem?
  intro i
  by_cases h : i < ps.length
  · rw [List.getElem?_append_left (by rw [endsOf_len]; exact h), endsOf_get _ _ h, endsOf_get _ _ (by simp; omega), List.take_append_of_le_length (by omega)]
  · by_cases h2 : i = ps.length
    · subst h2
      rw [List.getElem?_append_right (by rw [endsOf_len]; exact Nat.le_refl _), endsOf_len, Nat.sub_self, endsOf_get _ _ (by simp)]
      simp [List.take_of_length_le, cat_append, cat]
    · rw [List.getElem?_eq_none (by rw [endsOf_len]; simp; omega), List.getElem?_eq_none (by simp [endsOf_len]; omega)]
end Go.Proofs.Ytpkgfajphkabcaa
