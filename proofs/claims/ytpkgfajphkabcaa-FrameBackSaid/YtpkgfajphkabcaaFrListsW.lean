/-
  The walks of frame.Scan and the document's own Scan, with what they find; of the statement's own lists.
-/
import Derived.Test.YtpkgfajphkabcaaFrRunsW
namespace Go.Proofs.Ytpkgfajphkabcaa
open Go.RowKit
set_option linter.unusedVariables false

def scanL : Nat → List Nat → Nat → List (List Nat) × Nat
  | 0, _, i => ([], i)
  | f + 1, bs, i => if (nx bs i).2.2 = 0 then ((nx bs i).1 :: (scanL f bs (i + 6 + (nx bs i).1.length)).1, (scanL f bs (i + 6 + (nx bs i).1.length)).2) else ([], i)
theorem nx_ok (bs : List Nat) (i : Nat) (h : (nx bs i).2.2 = 0) : 1 ≤ (nx bs i).1.length ∧ i + 6 + (nx bs i).1.length ≤ bs.length ∧ (nx bs i).2.1 = ((i + 6 + (nx bs i).1.length : Nat) : Int) := by
  unfold nx at h ⊢
  by_cases h1 : (i : Int) < 0 ∨ (bs.length : Int) < (i : Int)
  · rw [if_pos h1] at h; simp at h
  rw [if_neg h1] at h ⊢
  simp only [Int.toNat_natCast] at h ⊢
  rw [if_pos h]
  unfold nx0 at h ⊢
  by_cases h2 : (bs.drop i).length < 2
  · rw [if_pos h2] at h; simp at h
  rw [if_neg h2] at h ⊢
  by_cases h3 : leN ((bs.drop i).take 2) = 0 ∨ 16384 < leN ((bs.drop i).take 2)
  · rw [if_pos h3] at h; simp at h
  rw [if_neg h3] at h ⊢
  by_cases h4 : (bs.drop i).length < leN ((bs.drop i).take 2) + 6
  · rw [if_pos h4] at h; simp at h
  rw [if_neg h4] at h ⊢
  by_cases h5 : leN (((bs.drop i).drop (2 + leN ((bs.drop i).take 2))).take 4) ≠ SumP.on 0 ((bs.drop i).take (2 + leN ((bs.drop i).take 2)))
  · rw [if_pos h5] at h; simp at h
  rw [if_neg h5]
  generalize leN ((bs.drop i).take 2) = u at *
  simp only [List.length_take, List.length_drop] at h4 ⊢
  refine ⟨by omega, by omega, by omega⟩

/-- Slice values that read as these lists of bytes, each at its block's beginning. -/
def Pays (w : World) (xs : List Value) (ps : List (List Nat)) : Prop :=
  xs.length = ps.length ∧ ∀ i, i < ps.length → ∃ k c, xs[i]? = some (.slice (some ⟨k, 0, none⟩) (ps.getD i []).length c) ∧ (ps.getD i []).length ≤ c ∧ 1 ≤ (ps.getD i []).length ∧ IsBytes w (some ⟨k, 0, none⟩) (ps.getD i []).length (ps.getD i [])
theorem Pays.below {w w' : World} {xs : List Value} {ps : List (List Nat)} (h : Pays w xs ps) (hb : Below w.heap.size w w') : Pays w' xs ps :=
  ⟨h.1, fun i hi => by
    obtain ⟨k, c, h1, h2, h3, h4⟩ := h.2 i hi
    exact ⟨k, c, h1, h2, h3, h4.below hb⟩⟩
theorem bytes_kept {w w' : World} {k l : Nat} {bs : List Nat} {row : Option Nat} (h : IsBytes w (some ⟨k, 0, none⟩) l bs) (hg : w.grownBy w' row) (hne : some k ≠ row) : IsBytes w' (some ⟨k, 0, none⟩) l bs := by
  obtain ⟨h1, h2, h3, h4⟩ := h
  refine ⟨h1, h2, h3, fun h0 => ?_⟩
  obtain ⟨b, off, ha, hlt, hc⟩ := h4 h0
  simp only [Option.some.injEq, Addr.mk.injEq] at ha
  obtain ⟨rfl, rfl, _⟩ := ha
  refine ⟨k, 0, rfl, Nat.lt_of_lt_of_le hlt hg.size, fun i hi => ?_⟩
  rw [← hc i hi]
  unfold World.cell?
  simp only []
  rw [hg.block k hlt (by intro h; exact hne h)]
/-- A block of slice values holds no bytes. -/
theorem pays_apart {w : World} {k l : Nat} {bs : List Nat} {base n : Nat} {e : TypeId} {v : Value} {xs : List Value} {ps : List (List Nat)} (h : IsBytes w (some ⟨k, 0, none⟩) l bs) (h1 : 1 ≤ l) (hown : w.ownsRow base e 1 v n xs) (hp : Pays w xs ps) (hn : n = 0 → v.ownBlock = none) : v.ownBlock = none ∨ some k ≠ v.ownBlock := by
  by_cases h0 : n = 0
  · exact .inl (hn h0)
  right
  intro hk
  obtain ⟨g, cap, rest, rfl, _, hh, _, _, hxl⟩ := owns_holds hown (by omega)
  have hgk : k = g := by
    have : (Value.slice (some ⟨g, 0, none⟩) n cap).ownBlock = some g := rfl
    rw [this] at hk
    simpa using hk
  subst hgk
  obtain ⟨_, _, _, h4⟩ := h
  obtain ⟨b, off, ha, hlt, hc⟩ := h4 (by omega)
  simp only [Option.some.injEq, Addr.mk.injEq] at ha
  obtain ⟨rfl, rfl, _⟩ := ha
  have hc0 := hc 0 (by omega)
  have hx := hh.cell 0
  obtain ⟨k2, c2, h5, _⟩ := hp.2 0 (by rw [← hp.1]; omega)
  rw [List.getElem?_append_left (by omega), h5] at hx
  rw [Nat.add_zero, hx] at hc0
  simp at hc0
theorem Pays.kept {w w' : World} {base n : Nat} {e : TypeId} {v : Value} {xs : List Value} {ps : List (List Nat)} (h : Pays w xs ps) (hown : w.ownsRow base e 1 v n xs) (hn : n = 0 → v.ownBlock = none) (hg : w.grownBy w' v.ownBlock) : Pays w' xs ps :=
  ⟨h.1, fun i hi => by
    obtain ⟨k, c, h1, h2, h3, h4⟩ := h.2 i hi
    refine ⟨k, c, h1, h2, h3, bytes_kept h4 hg ?_⟩
    rcases pays_apart h4 h3 hown h hn with h | h
    · rw [h]; intro hh; cases hh
    · exact h⟩
theorem Pays.snoc {w : World} {xs : List Value} {ps : List (List Nat)} {k c : Nat} {q : List Nat} (h : Pays w xs ps) (hq : IsBytes w (some ⟨k, 0, none⟩) q.length q) (h1 : 1 ≤ q.length) (hc : q.length ≤ c) : Pays w (xs ++ [.slice (some ⟨k, 0, none⟩) q.length c]) (ps ++ [q]) := by
  refine ⟨by simp [h.1], fun i hi => ?_⟩
  rw [List.length_append, List.length_singleton] at hi
  by_cases hl : i < ps.length
  · obtain ⟨k', c', h1, h2, h3, h4⟩ := h.2 i hl
    have e : (ps ++ [q]).getD i [] = ps.getD i [] := by simp [List.getElem?_append_left hl]
    rw [e]
    exact ⟨k', c', by rw [List.getElem?_append_left (by rw [h.1]; exact hl)]; exact h1, h2, h3, h4⟩
  · have hi' : i = ps.length := by omega
    subst hi'
    have e : (ps ++ [q]).getD ps.length [] = q := by simp
    rw [e]
    exact ⟨k, c, by rw [List.getElem?_append_right (by rw [h.1]; exact Nat.le_refl _), h.1, Nat.sub_self]; rfl, hc, h1, hq⟩
/-- A list of lists of bytes. -/
def IsLists (w : World) (a : Option Addr) (n : Nat) (ps : List (List Nat)) : Prop :=
  ps.length = n ∧ (0 < n → ∃ b off, a = some ⟨b, off, none⟩ ∧ b < w.heap.size ∧ ∀ i, i < n → ∃ p c, w.cell? ⟨b, off + i, none⟩ = some (.slice p (ps.getD i []).length c) ∧ (ps.getD i []).length ≤ c ∧ IsBytes w p (ps.getD i []).length (ps.getD i []))
theorem IsLists.below {w w' : World} {a : Option Addr} {n : Nat} {ps : List (List Nat)} (h : IsLists w a n ps) (hb : Below w.heap.size w w') : IsLists w' a n ps :=
  ⟨h.1, fun h0 => by
    obtain ⟨b, off, ha, hlt, hc⟩ := h.2 h0
    refine ⟨b, off, ha, Nat.lt_of_lt_of_le hlt hb.size, fun i hi => ?_⟩
    obtain ⟨p, c, h1, h2, h3⟩ := hc i hi
    exact ⟨p, c, by rw [hb.cell (p := ⟨b, off + i, none⟩) hlt]; exact h1, h2, h3.below hb⟩⟩
theorem lists_of_pays {w : World} {base n : Nat} {e : TypeId} {v : Value} {xs : List Value} {ps : List (List Nat)} (hown : w.ownsRow base e 1 v n xs) (hp : Pays w xs ps) (hm : n ≤ 281474976710656) : ∃ a c, v = .slice a n c ∧ n ≤ c ∧ IsLists w a n ps := by
  obtain ⟨a, c, rfl, h1, _, _, _⟩ := owns_form hown hm
  have hxl := hown.1
  refine ⟨a, c, rfl, h1, by rw [← hp.1]; omega, fun h0 => ?_⟩
  obtain ⟨g, cap, rest, hv, _, hh, _, _, _⟩ := owns_holds hown h0
  simp only [Value.slice.injEq] at hv
  refine ⟨g, 0, hv.1, hh.lt, fun i hi => ?_⟩
  obtain ⟨k, c', h5, h6, h7, h8⟩ := hp.2 i (by rw [← hp.1]; omega)
  refine ⟨_, c', ?_, h6, h8⟩
  rw [Nat.zero_add, hh.cell, List.getElem?_append_left (by omega)]
  exact h5
end Go.Proofs.Ytpkgfajphkabcaa
