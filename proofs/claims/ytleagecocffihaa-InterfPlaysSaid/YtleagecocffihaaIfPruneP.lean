/-
  Striking out of the list: plain; the index with another cut.
-/
import Derived.Test.YtleagecocffihaaIfAttrP
namespace Go.Proofs.Ytleagecocffihaa
open Go.RowKit Go.Maps
set_option linter.unusedVariables false
set_option linter.unusedSimpArgs false

/-- What stays behind a pruning: what has not come yet, and what lies above the cut. -/
def keepB (d : Nat → Int) (left : Lit → Bool) (e : Ent) : Bool := left e.key || decide (d e.r.toNat < e.s)
theorem filter_keep_step {D0 : DataW Value} {l : List Ent} (h : Lists D0 l) (hw : WfE l) {left : Lit → Bool} {e : Ent} (he : e ∈ l) (d : Nat → Int) (hk : d e.r.toNat < e.s) :
    l.filter (keepB d fun z => left z && !z.sameKey e.key) = l.filter (keepB d left) := by
  refine List.filter_congr fun e' he' => ?_
  by_cases hc : e' = e
  · unfold keepB
    rw [hc, show decide (d e.r.toNat < e.s) = true from by simp [hk], Bool.or_true, Bool.or_true]
  · have := Maps.sameKey_ne (fun hc2 => hc (h.one hw he he' hc2))
    show (left e'.key && !e'.key.sameKey e.key || decide (d e'.r.toNat < e'.s)) = _
    rw [this]
    simp [keepB]
theorem filter_gone_step {D0 : DataW Value} {l : List Ent} (h : Lists D0 l) (hw : WfE l) {left : Lit → Bool} {e : Ent} (he : e ∈ l) (d : Nat → Int) (hk : ¬ d e.r.toNat < e.s) :
    l.filter (keepB d fun z => left z && !z.sameKey e.key) = (l.filter (keepB d left)).filter (fun x => !(x.r == e.r && x.s == e.s)) := by
  rw [List.filter_filter]
  refine List.filter_congr fun e' he' => ?_
  by_cases hc : e' = e
  · have hs : e.key.sameKey e.key = true := WideAt.sameKey_self (keyL_is e.r e.s)
    rw [hc]
    show (left e.key && !e.key.sameKey e.key || decide (d e.r.toNat < e.s)) = _
    rw [hs]
    simp [hk]
  · have := Maps.sameKey_ne (fun hc2 => hc (h.one hw he he' hc2))
    have hne : (e'.r == e.r && e'.s == e.s) = false := by
      rw [← sameKey_inst (hw e' he').1 (hw e' he').2 (hw e he).1 (hw e he).2]; exact this
    show (left e'.key && !e'.key.sameKey e.key || decide (d e'.r.toNat < e'.s)) = _
    rw [this, hne]
    simp [keepB]
theorem delE_length : ∀ (l : List Ent) (r s : Int), l.Pairwise (fun x y => ¬ (x.r = y.r ∧ x.s = y.s)) → (delE l r s).length + (if l.any (fun x => x.r == r && x.s == s) then 1 else 0) = l.length
  | [], _, _, _ => rfl
  | x :: l, r, s, h => by
    obtain ⟨h1, h2⟩ := List.pairwise_cons.1 h
    have ih := delE_length l r s h2
    by_cases hx : (x.r == r && x.s == s) = true
    · have hn : l.any (fun x => x.r == r && x.s == s) = false := by
        rw [List.any_eq_false]
        intro y hy hc
        simp only [Bool.and_eq_true, beq_iff_eq] at hc hx
        exact h1 y hy ⟨hx.1.trans hc.1.symm, hx.2.trans hc.2.symm⟩
      rw [hn] at ih
      simp only [delE, List.filter_cons, hx, Bool.not_true, Bool.false_eq_true, if_false, List.any_cons, Bool.true_or, if_true, List.length_cons] at ih ⊢
      omega
    · have hx : (x.r == r && x.s == s) = false := by simpa using hx
      simp only [delE, List.filter_cons, hx, Bool.not_false, if_true, List.any_cons, Bool.false_or, List.length_cons] at ih ⊢
      omega
theorem Lists.del {D : DataW Value} {l : List Ent} (h : Lists D l) (hw : WfE l) (r s : Int) (hr : (Lit.int .i64 r).wf = true) (hs : (Lit.int .i64 s).wf = true) : Lists (D.del (keyL r s)) (delE l r s) := by
  have hh := h.has_inst hw r s hr hs
  have hkk : ∀ x ∈ l, x.key.sameKey (keyL r s) = (x.r == r && x.s == s) := fun x hx => sameKey_inst (hw x hx).1 (hw x hx).2 hr hs
  refine ⟨h.tidy.del _, ?_, h.apart.filter _, fun k => ?_, fun e he z => ?_⟩
  · have h1 := Maps.size_del (k := keyL r s) h.tidy
    have h2 := delE_length l r s h.apart
    rw [hh, h.size] at h1
    omega
  · by_cases hk : k = keyL r s
    · rw [hk, Maps.has_del_same]
      symm
      rw [List.any_eq_false]
      intro x hx
      have hx2 := List.mem_filter.1 hx
      rw [hkk x hx2.1]
      have := hx2.2
      revert this
      cases (x.r == r && x.s == s) <;> simp
    · rw [Maps.has_del_other hk, h.has]
      unfold delE
      rw [List.any_filter, Bool.eq_iff_iff, List.any_eq_true, List.any_eq_true]
      refine ⟨fun ⟨x, hx, hx2⟩ => ⟨x, hx, ?_⟩, fun ⟨x, hx, hx2⟩ => ⟨x, hx, ?_⟩⟩
      · rw [hx2, Bool.and_true, ← hkk x hx]
        have : x.key ≠ keyL r s := fun hc => hk ((WideAt.sameKey_eq hx2).symm.trans hc)
        rw [Maps.sameKey_ne this]
        rfl
      · rw [Bool.and_eq_true] at hx2
        exact hx2.2
  · have hx2 := List.mem_filter.1 he
    rw [Maps.atKey_del_other, h.at_ e hx2.1]
    intro hc
    have := keyL_inj (hw e hx2.1).1 (hw e hx2.1).2 hr hs hc
    have h3 := hx2.2
    simp [this.1, this.2] at h3
end Go.Proofs.Ytleagecocffihaa
