/-
  Plain laws for interf: the document's Clash is the program's; what a new one depends on does not hang on the list's order.
-/
import Derived.Test.YtleagecocffihaaIfAttrP
import Derived.Test.YtleagecocffihaaSpanPlain
namespace Go.Proofs.Ytleagecocffihaa
open Go.RowKit Go.Maps
set_option linter.unusedVariables false

theorem rclash_eq (x y : Cm) : rclashC x y = clashC x y := by
  unfold rclashC clashC
  rw [SpanP.l_meets]
theorem fold_max_perm (f : Ent → Int) (p : Ent → Bool) {l l' : List Ent} (h : l.Perm l') : l.foldr (fun e m => if p e then max (f e) m else m) 0 = l'.foldr (fun e m => if p e then max (f e) m else m) 0 := by
  induction h with
  | nil => rfl
  | cons x _ ih => rw [List.foldr_cons, List.foldr_cons, ih]
  | swap x y l =>
    simp only [List.foldr_cons]
    split <;> split <;> omega
  | trans _ _ h1 h2 => exact h1.trans h2
theorem attrQ_perm {l l' : List Ent} (h : l.Perm l') (r s : Int) (c : Cm) : attrQ l r s c = attrQ l' r s c := fold_max_perm (fun e => e.q + 1) (takes r s c) h
theorem attrD_perm {l l' : List Ent} (h : l.Perm l') (d : Nat → Int) (r s : Int) (c : Cm) (j : Nat) : attrD l d r s c j = attrD l' d r s c j := by
  have : depOf l (takes r s c) j = depOf l' (takes r s c) j := fold_max_perm (fun e => e.s) (fun e => takes r s c e && e.r == (j : Int)) h
  unfold attrD
  rw [this]
theorem fold_max_ge (f : Ent → Int) (p : Ent → Bool) : ∀ (l : List Ent) (e : Ent), e ∈ l → p e = true → f e ≤ l.foldr (fun e m => if p e then max (f e) m else m) 0
  | [], _, he, _ => by cases he
  | x :: l, e, he, hp => by
    rw [List.foldr_cons]
    rcases List.mem_cons.1 he with h | h
    · subst h
      rw [if_pos hp]
      omega
    · have := fold_max_ge f p l e h hp
      split <;> omega
/-- What clashes is reached, and stands below (InterfReach). -/
theorem reached {l : List Ent} {e : Ent} (he : e ∈ l) (r s : Int) (c : Cm) (ht : takes r s c e = true) : e.q + 1 ≤ attrQ l r s c ∧ e.s ≤ depOf l (takes r s c) e.r :=
  ⟨fold_max_ge (fun e => e.q + 1) (takes r s c) l e he ht, fold_max_ge (fun e => e.s) (fun x => takes r s c x && x.r == e.r) l e he (by simp [ht])⟩
end Go.Proofs.Ytleagecocffihaa
