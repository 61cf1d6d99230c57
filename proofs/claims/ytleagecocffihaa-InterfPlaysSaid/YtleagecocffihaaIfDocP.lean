/-
  The document's index: three lists of its own behind a pointer; what they say as a list of entries. Plain laws, and how it is kept.
-/
import Derived.Test.YtleagecocffihaaFlat
import Derived.Test.YtleagecocffihaaIfSameP
namespace Go.Proofs.Ytleagecocffihaa
open Go.RowKit Go.Maps
set_option linter.unusedVariables false
set_option linter.unusedSimpArgs false

def ent0 : Ent := ⟨0, 0, ⟨0, 0, 0, ⟨#[]⟩, ⟨#[]⟩, ⟨#[]⟩, ⟨#[]⟩⟩, 0⟩
def entAt (l : List Ent) (i : Nat) : Ent := l.getD i ent0
theorem entAt_append_lt (l m : List Ent) {i : Nat} (h : i < l.length) : entAt (l ++ m) i = entAt l i := by
  unfold entAt
  rw [List.getD_eq_getElem?_getD, List.getD_eq_getElem?_getD, List.getElem?_append_left h]
theorem entAt_append_at (l : List Ent) (e : Ent) : entAt (l ++ [e]) l.length = e := by
  unfold entAt
  rw [List.getD_eq_getElem?_getD, List.getElem?_append_right (Nat.le_refl _), Nat.sub_self]
  rfl
theorem entAt_set_same (l : List Ent) (e : Ent) {k : Nat} (h : k < l.length) : entAt (l.set k e) k = e := by
  unfold entAt
  rw [List.getD_eq_getElem?_getD, List.getElem?_set_self h]
  rfl
theorem entAt_set_other (l : List Ent) (e : Ent) {k i : Nat} (h : i ≠ k) : entAt (l.set k e) i = entAt l i := by
  unfold entAt
  rw [List.getD_eq_getElem?_getD, List.getD_eq_getElem?_getD, List.getElem?_set_ne (Ne.symm h)]
theorem entAt_get (l : List Ent) {i : Nat} (h : i < l.length) : l[i]? = some (entAt l i) := by
  unfold entAt
  rw [List.getD_eq_getElem?_getD, List.getElem?_eq_getElem h]
  rfl
theorem entAt_mem (l : List Ent) {i : Nat} (h : i < l.length) : entAt l i ∈ l := List.mem_of_getElem? (entAt_get l h)
/-- No two at one instance. -/
def KeysApart (l : List Ent) : Prop := l.Pairwise fun x y => ¬ (x.r = y.r ∧ x.s = y.s)
theorem putE_new {l : List Ent} {e : Ent} (h : ∀ j, j < l.length → ¬ ((entAt l j).r = e.r ∧ (entAt l j).s = e.s)) : putE l e = l ++ [e] := by
  have hn : l.any (fun x => x.r == e.r && x.s == e.s) = false := by
    rw [List.any_eq_false]
    intro x hx
    obtain ⟨j, hj, rfl⟩ := List.getElem_of_mem hx
    have h1 := h j hj
    have h2 := entAt_get l hj
    rw [List.getElem?_eq_getElem hj, Option.some.injEq] at h2
    rw [← h2] at h1
    simp only [Bool.and_eq_true, beq_iff_eq]
    exact h1
  unfold putE
  simp [hn]
theorem putE_set {l : List Ent} {e : Ent} (hap : KeysApart l) {k : Nat} (hk : k < l.length) (h : (entAt l k).r = e.r ∧ (entAt l k).s = e.s) : putE l e = l.set k e := by
  have hn : l.any (fun x => x.r == e.r && x.s == e.s) = true := List.any_eq_true.2 ⟨_, entAt_mem l hk, by simp [h.1, h.2]⟩
  unfold putE
  rw [if_pos hn]
  apply List.ext_getElem?
  intro i
  rw [List.getElem?_map]
  by_cases hik : i = k
  · subst hik
    rw [List.getElem?_set_self hk, entAt_get l hk, Option.map_some, if_pos h]
  · rw [List.getElem?_set_ne (Ne.symm hik)]
    by_cases hi : i < l.length
    · rw [entAt_get l hi, Option.map_some, if_neg]
      intro hc
      have hp := List.pairwise_iff_getElem.1 hap
      have e1 := entAt_get l hi
      have e2 := entAt_get l hk
      rw [List.getElem?_eq_getElem hi, Option.some.injEq] at e1
      rw [List.getElem?_eq_getElem hk, Option.some.injEq] at e2
      rcases Nat.lt_or_gt_of_ne hik with hlt | hgt
      · have := hp i k hi hk hlt
        rw [e1, e2] at this
        exact this ⟨hc.1.trans h.1.symm, hc.2.trans h.2.symm⟩
      · have := hp k i hk hi hgt
        rw [e1, e2] at this
        exact this ⟨h.1.trans hc.1.symm, h.2.trans hc.2.symm⟩
    · rw [List.getElem?_eq_none (by omega)]; rfl
theorem take_succ_ent (l : List Ent) {k : Nat} (h : k < l.length) : l.take (k + 1) = l.take k ++ [entAt l k] := by
  rw [List.take_add_one, entAt_get l h]; rfl
theorem snoc_perm (l : List Ent) (x : Ent) : (l ++ [x]).Perm (x :: l) := by
  have := List.perm_append_comm (l₁ := l) (l₂ := [x])
  exact this
theorem seqTo_succ (l : List Ent) (vis : Ent → Bool) {k : Nat} (h : k < l.length) : seqOf (l.take (k + 1)) vis = if vis (entAt l k) then max ((entAt l k).q + 1) (seqOf (l.take k) vis) else seqOf (l.take k) vis := by
  rw [take_succ_ent l h]
  unfold seqOf
  rw [fold_max_perm (fun e => e.q + 1) vis (snoc_perm _ _)]
  rfl
theorem depTo_succ (l : List Ent) (vis : Ent → Bool) {k : Nat} (h : k < l.length) (j : Int) : depOf (l.take (k + 1)) vis j = if vis (entAt l k) && (entAt l k).r == j then max (entAt l k).s (depOf (l.take k) vis j) else depOf (l.take k) vis j := by
  rw [take_succ_ent l h]
  unfold depOf
  rw [fold_max_perm (fun e => e.s) (fun e => vis e && e.r == j) (snoc_perm _ _)]
  rfl
theorem prunedTo_succ (l : List Ent) (d : Nat → Int) {k : Nat} (h : k < l.length) : pruned (l.take (k + 1)) d = if d (entAt l k).r.toNat < (entAt l k).s then pruned (l.take k) d ++ [entAt l k] else pruned (l.take k) d := by
  rw [take_succ_ent l h]
  unfold pruned
  rw [List.filter_append]
  split
  · rename_i hd
    simp [hd]
  · rename_i hd
    simp [hd]

/-! ### The three lists -/
def VI (l : List Ent) (i : Nat) : List Value := [.int .i64 (entAt l i).r, .int .i64 (entAt l i).s]
def VC (l : List Ent) (i : Nat) : List Value := (entAt l i).c.cells
def VQ (l : List Ent) (i : Nat) : List Value := [.int .i64 (entAt l i).q]
theorem flat_cong {s n : Nat} {V W : Nat → List Value} (h : ∀ i, i < n → V i = W i) (hs : 0 < s) : flat s n V = flat s n W := by
  unfold flat
  refine List.map_congr_left fun t ht => ?_
  rw [h _ (Nat.div_lt_of_lt_mul (by rw [Nat.mul_comm]; exact List.mem_range.1 ht))]
/-- One more row. -/
theorem flat_more {s n : Nat} {V W : Nat → List Value} {x : List Value} (h : ∀ i, i < n → W i = V i) (hx : W n = x) (hs : 0 < s) (hl : ∀ i, i < n + 1 → (W i).length = s) : flat s n V ++ x = flat s (n + 1) W := by
  rw [← flat_cong h hs, ← hx]
  exact flat_snoc hs hl
theorem own_shape {w : World} {B s : Nat} {e : TypeId} {v : Value} {n : Nat} {xs : List Value} (h : w.ownsRow B e s v n xs) : ∃ p c, v = .slice p n c ∧ n ≤ c ∧ c ≤ maxLen := by
  obtain ⟨_, h2⟩ := h
  rcases h2 with ⟨hv, hn⟩ | ⟨g, cap, cur, hv, _, _, hc, hm, _⟩
  · subst hn; exact ⟨none, 0, hv, Nat.le_refl _, by unfold maxLen; omega⟩
  · exact ⟨_, cap, hv, hc, hm⟩
theorem own_isrows {w : World} {B s : Nat} {e : TypeId} {p : Option Addr} {n c : Nat} {V : Nat → List Value} (h : w.ownsRow B e s (.slice p n c) n (flat s n V)) (hl : ∀ i, (V i).length = s) (hn : n ≤ maxLen) : IsRows w p n s V := by
  by_cases h0 : 0 < n
  · obtain ⟨g, c', hv, _, _, _, hr⟩ := rows_of_owns h h0
    injection hv with h1 h2 h3
    rw [h1]
    exact hr V (fun i _ => hl i) (fun i hi k hk => flat_at s n V i k hi hk (hl i))
  · have hn : n = 0 := by omega
    subst hn
    exact ⟨hn, fun i hi => absurd hi (Nat.not_lt_zero i), fun h => absurd h (Nat.not_lt_zero 0)⟩
structure DocAt (w : World) (B gd : Nat) (p1 : Option Addr) (c1 : Nat) (p2 : Option Addr) (c2 : Nat) (p3 : Option Addr) (c3 : Nat) (l : List Ent) (d : Nat → Int) : Prop where
  box : Holds w gd 53 (.slice p1 l.length c1 :: .slice p2 l.length c2 :: .slice p3 l.length c3 :: cutL d)
  o1 : w.ownsRow B 26 2 (.slice p1 l.length c1) l.length (flat 2 l.length (VI l))
  o2 : w.ownsRow B 29 7 (.slice p2 l.length c2) l.length (flat 7 l.length (VC l))
  o3 : w.ownsRow B 3 1 (.slice p3 l.length c3) l.length (flat 1 l.length (VQ l))
  lt : gd < B
  le : B ≤ w.heap.size
theorem DocAt.below {w w' : World} {B gd : Nat} {p1 p2 p3 : Option Addr} {c1 c2 c3 : Nat} {l : List Ent} {d : Nat → Int} (h : DocAt w B gd p1 c1 p2 c2 p3 c3 l d) (hb : Below w.heap.size w w') : DocAt w' B gd p1 c1 p2 c2 p3 c3 l d :=
  ⟨h.box.bel hb, owns_below h.o1 hb, owns_below h.o2 hb, owns_below h.o3 hb, h.lt, Nat.le_trans h.le hb.size⟩
theorem DocAt.touch {w w' : World} {B gd b : Nat} {p1 p2 p3 : Option Addr} {c1 c2 c3 : Nat} {l : List Ent} {d : Nat → Int} (h : DocAt w B gd p1 c1 p2 c2 p3 c3 l d) (ht : Touch b w w') (hb : b < B) (hne : gd ≠ b) : DocAt w' B gd p1 c1 p2 c2 p3 c3 l d :=
  ⟨h.box.touch ht hne, owns_touch h.o1 ht hb, owns_touch h.o2 ht hb, owns_touch h.o3 ht hb, h.lt, Nat.le_trans h.le ht.size⟩
/-- What the document's index may write: its own box, and what lies from the border on. -/
structure Keep (B gd : Nat) (w w' : World) : Prop where
  os : w'.os = w.os
  tape : w'.tape = w.tape
  output : w'.output = w.output
  size : w.heap.size ≤ w'.heap.size
  block : ∀ k, k < B → k ≠ gd → w'.heap[k]? = w.heap[k]?
theorem Keep.refl (B gd : Nat) (w : World) : Keep B gd w w := ⟨rfl, rfl, rfl, Nat.le_refl _, fun _ _ _ => rfl⟩
theorem Keep.then {B gd : Nat} {w W W' : World} (h : Keep B gd w W) (hb : Below B W W') : Keep B gd w W' :=
  ⟨hb.os.trans h.os, hb.tape.trans h.tape, hb.output.trans h.output, Nat.le_trans h.size hb.size, fun k hk hne => (hb.block k hk).trans (h.block k hk hne)⟩
theorem Keep.touched {B gd : Nat} {w W W' : World} (h : Keep B gd w W) (ht : Touch gd W W') (hB : B ≤ W.heap.size) : Keep B gd w W' :=
  ⟨ht.os.trans h.os, ht.tape.trans h.tape, ht.output.trans h.output, Nat.le_trans h.size ht.size, fun k hk hne => (ht.block k (by omega) hne).trans (h.block k hk hne)⟩
/-- One entry more. -/
theorem doc_more {w : World} {B gd : Nat} {p1 p2 p3 : Option Addr} {c1 c2 c3 : Nat} {l : List Ent} {e : Ent} {d : Nat → Int}
    (hd : Holds w gd 53 (.slice p1 (l.length + 1) c1 :: .slice p2 (l.length + 1) c2 :: .slice p3 (l.length + 1) c3 :: cutL d))
    (r1 : w.ownsRow B 26 2 (.slice p1 (l.length + 1) c1) (l.length + 1) (flat 2 l.length (VI l) ++ [.int .i64 e.r, .int .i64 e.s]))
    (r2 : w.ownsRow B 29 7 (.slice p2 (l.length + 1) c2) (l.length + 1) (flat 7 l.length (VC l) ++ e.c.cells))
    (r3 : w.ownsRow B 3 1 (.slice p3 (l.length + 1) c3) (l.length + 1) (flat 1 l.length (VQ l) ++ [.int .i64 e.q])) (lt : gd < B) (le : B ≤ w.heap.size) : DocAt w B gd p1 c1 p2 c2 p3 c3 (l ++ [e]) d := by
  have hl : (l ++ [e]).length = l.length + 1 := by simp
  refine ⟨by rw [hl]; exact hd, ?_, ?_, ?_, lt, le⟩
  · rw [hl, ← flat_more (V := VI l) (W := VI (l ++ [e])) (x := [.int .i64 e.r, .int .i64 e.s]) (fun i hi => by unfold VI; rw [entAt_append_lt l [e] hi]) (by unfold VI; rw [entAt_append_at]) (by decide) (fun i _ => rfl)]
    exact r1
  · rw [hl, ← flat_more (V := VC l) (W := VC (l ++ [e])) (x := e.c.cells) (fun i hi => by unfold VC; rw [entAt_append_lt l [e] hi]) (by unfold VC; rw [entAt_append_at]) (by decide) (fun i _ => rfl)]
    exact r2
  · rw [hl, ← flat_more (V := VQ l) (W := VQ (l ++ [e])) (x := [.int .i64 e.q]) (fun i hi => by unfold VQ; rw [entAt_append_lt l [e] hi]) (by unfold VQ; rw [entAt_append_at]) (by decide) (fun i _ => rfl)]
    exact r3
/-- One entry in another's place. -/
theorem doc_set {w : World} {B gd j : Nat} {p1 p2 p3 : Option Addr} {c1 c2 c3 : Nat} {l : List Ent} {e : Ent} {d : Nat → Int}
    (hd : Holds w gd 53 (.slice p1 l.length c1 :: .slice p2 l.length c2 :: .slice p3 l.length c3 :: cutL d))
    (o1 : w.ownsRow B 26 2 (.slice p1 l.length c1) l.length (flat 2 l.length (VI l)))
    (o2 : w.ownsRow B 29 7 (.slice p2 l.length c2) l.length (flat 7 l.length (VC (l.set j e))))
    (o3 : w.ownsRow B 3 1 (.slice p3 l.length c3) l.length (flat 1 l.length (VQ (l.set j e)))) (hj : j < l.length) (hk : (entAt l j).r = e.r ∧ (entAt l j).s = e.s) (lt : gd < B) (le : B ≤ w.heap.size) : DocAt w B gd p1 c1 p2 c2 p3 c3 (l.set j e) d := by
  have hl : (l.set j e).length = l.length := by simp
  refine ⟨by rw [hl]; exact hd, ?_, by rw [hl]; exact o2, by rw [hl]; exact o3, lt, le⟩
  rw [hl, ← flat_cong (V := VI l) (fun i hi => ?_) (by decide)]
  · exact o1
  · unfold VI
    by_cases hij : i = j
    · subst hij; rw [entAt_set_same l e hj, hk.1, hk.2]
    · rw [entAt_set_other l e hij]
end Go.Proofs.Ytleagecocffihaa
