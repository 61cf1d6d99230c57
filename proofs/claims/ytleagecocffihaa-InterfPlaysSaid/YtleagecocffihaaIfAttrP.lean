/-
  What a new one depends on, as a function of the list: plain.
-/
import Derived.Test.YtleagecocffihaaIfIxW
namespace Go.Proofs.Ytleagecocffihaa
open Go.RowKit Go.Maps
set_option linter.unusedVariables false
set_option linter.unusedSimpArgs false

def takes (r s : Int) (c : Cm) (e : Ent) : Bool := !(e.r == r && decide (s ≤ e.s)) && clashC e.c c
def seqOf (l : List Ent) (vis : Ent → Bool) : Int := l.foldr (fun e m => if vis e then max (e.q + 1) m else m) 0
def depOf (l : List Ent) (vis : Ent → Bool) (j : Int) : Int := l.foldr (fun e m => if vis e && e.r == j then max e.s m else m) 0

theorem fold_max_none (f : Ent → Int) : ∀ (l : List Ent) (p : Ent → Bool), (∀ e ∈ l, p e = false) → l.foldr (fun e m => if p e then max (f e) m else m) 0 = 0
  | [], _, _ => rfl
  | x :: l, p, h => by
    rw [List.foldr_cons, h x (by simp), fold_max_none f l p fun e he => h e (by simp [he])]
    rfl
theorem fold_max_congr (f : Ent → Int) : ∀ (l : List Ent) (p p' : Ent → Bool), (∀ e ∈ l, p e = p' e) → l.foldr (fun e m => if p e then max (f e) m else m) 0 = l.foldr (fun e m => if p' e then max (f e) m else m) 0
  | [], _, _, _ => rfl
  | x :: l, p, p', h => by
    rw [List.foldr_cons, List.foldr_cons, h x (by simp), fold_max_congr f l p p' fun e he => h e (by simp [he])]
theorem fold_max_step (f : Ent → Int) (x : Ent) (p p' : Ent → Bool) : ∀ (l : List Ent), x ∈ l → p' x = true → (∀ e ∈ l, e ≠ x → p' e = p e) → l.foldr (fun e m => if p' e then max (f e) m else m) 0 = max (l.foldr (fun e m => if p e then max (f e) m else m) 0) (f x)
  | [], hx, _, _ => by cases hx
  | y :: l, hx, hp, h => by
    rw [List.foldr_cons, List.foldr_cons]
    by_cases hin : x ∈ l
    · have ih := fold_max_step f x p p' l hin hp fun e he hne => h e (by simp [he]) hne
      rw [ih]
      by_cases hyx : y = x
      · subst hyx
        rw [hp]
        simp only [if_true]
        cases p y <;> simp only [Bool.false_eq_true, if_true, if_false] <;> omega
      · rw [h y (by simp) hyx]
        cases p y <;> simp only [Bool.false_eq_true, if_true, if_false] <;> omega
    · have hyx : y = x := by
        rcases List.mem_cons.1 hx with e | e
        · exact e.symm
        · exact absurd e hin
      subst hyx
      rw [hp, fold_max_congr f l p' p fun e he => h e (by simp [he]) fun hc => hin (hc ▸ he)]
      simp only [if_true]
      by_cases hpy : p y = true
      · rw [if_pos hpy]; omega
      · rw [if_neg hpy]; omega
theorem fold_max_same (f : Ent → Int) (x : Ent) (p p' : Ent → Bool) (l : List Ent) (hp : p' x = p x) (h : ∀ e ∈ l, e ≠ x → p' e = p e) : l.foldr (fun e m => if p' e then max (f e) m else m) 0 = l.foldr (fun e m => if p e then max (f e) m else m) 0 :=
  fold_max_congr f l p' p fun e he => by
    by_cases hc : e = x
    · rw [hc, hp]
    · exact h e he hc
theorem fold_max_nonneg (f : Ent → Int) : ∀ (l : List Ent) (p : Ent → Bool), 0 ≤ l.foldr (fun e m => if p e then max (f e) m else m) 0
  | [], _ => Int.le_refl _
  | x :: l, p => by
    have := fold_max_nonneg f l p
    rw [List.foldr_cons]
    split <;> omega
theorem fold_max_le (f : Ent → Int) (M : Int) (hM : 0 ≤ M) : ∀ (l : List Ent) (p : Ent → Bool), (∀ e ∈ l, f e ≤ M) → l.foldr (fun e m => if p e then max (f e) m else m) 0 ≤ M
  | [], _, _ => hM
  | x :: l, p, h => by
    have := fold_max_le f M hM l p fun e he => h e (by simp [he])
    have := h x (by simp)
    rw [List.foldr_cons]
    split <;> omega

/-- Not to come any more, and to be taken. -/
def visT (left : Lit → Bool) (r s : Int) (c : Cm) (e : Ent) : Bool := !left e.key && takes r s c e
theorem Lists.find {D : DataW Value} {l : List Ent} (h : Lists D l) (hw : WfE l) {kl : Lit} {v : Value} (hat : ∀ z, D.atKey kl z = .held v) : ∃ e ∈ l, e.key = kl ∧ v = e.val := by
  have hh := Maps.has_true_of_atKey hat
  rw [h.has, List.any_eq_true] at hh
  obtain ⟨e, he, hk⟩ := hh
  have hek : e.key = kl := WideAt.sameKey_eq hk
  refine ⟨e, he, hek, ?_⟩
  have := h.at_ e he .nil
  rw [hek, hat] at this
  injection this
theorem Lists.one {D : DataW Value} {l : List Ent} (h : Lists D l) (hw : WfE l) {e e' : Ent} (he : e ∈ l) (he' : e' ∈ l) (hk : e'.key = e.key) : e' = e := by
  have hrs := keyL_inj (hw e' he').1 (hw e' he').2 (hw e he).1 (hw e he).2 hk
  have := h.apart
  clear h hk hw
  induction l with
  | nil => cases he
  | cons x l ih =>
    obtain ⟨h1, h2⟩ := List.pairwise_cons.1 this
    rcases List.mem_cons.1 he with h3 | h3
    · rcases List.mem_cons.1 he' with h4 | h4
      · rw [h3, h4]
      · exact absurd ⟨by rw [← h3]; exact hrs.1.symm, by rw [← h3]; exact hrs.2.symm⟩ (h1 e' h4)
    · rcases List.mem_cons.1 he' with h4 | h4
      · exact absurd ⟨by rw [← h4]; exact hrs.1, by rw [← h4]; exact hrs.2⟩ (h1 e h3)
      · exact ih h3 h4 h2
/-- THE STEP: an entry e has come: what has come is what had come, and e. -/
theorem vis_step {D : DataW Value} {l : List Ent} (h : Lists D l) (hw : WfE l) {left : Lit → Bool} {e : Ent} (he : e ∈ l) (r s : Int) (c : Cm) :
    (visT (fun z => left z && !z.sameKey e.key) r s c e = takes r s c e) ∧ ∀ e' ∈ l, e' ≠ e → visT (fun z => left z && !z.sameKey e.key) r s c e' = visT left r s c e' := by
  refine ⟨?_, fun e' he' hne => ?_⟩
  · unfold visT
    have : e.key.sameKey e.key = true := WideAt.sameKey_self (keyL_is e.r e.s)
    show (!(left e.key && !e.key.sameKey e.key) && takes r s c e) = takes r s c e
    rw [this]
    simp
  · unfold visT
    have := Maps.sameKey_ne (fun hc => hne (h.one hw he he' hc))
    show (!(left e'.key && !e'.key.sameKey e.key) && takes r s c e') = (!left e'.key && takes r s c e')
    rw [this]
    simp
theorem seq_taken {D : DataW Value} {l : List Ent} (h : Lists D l) (hw : WfE l) {left : Lit → Bool} {e : Ent} (he : e ∈ l) (r s : Int) (c : Cm) (ht : takes r s c e = true) :
    seqOf l (visT (fun z => left z && !z.sameKey e.key) r s c) = max (seqOf l (visT left r s c)) (e.q + 1) :=
  fold_max_step (fun e => e.q + 1) e _ _ l he ((vis_step h hw he r s c).1.trans ht) (vis_step h hw he r s c).2
theorem dep_taken {D : DataW Value} {l : List Ent} (h : Lists D l) (hw : WfE l) {left : Lit → Bool} {e : Ent} (he : e ∈ l) (r s : Int) (c : Cm) (ht : takes r s c e = true) :
    depOf l (visT (fun z => left z && !z.sameKey e.key) r s c) e.r = max (depOf l (visT left r s c) e.r) e.s :=
  fold_max_step (fun e => e.s) e _ _ l he (by simp [(vis_step h hw he r s c).1.trans ht]) (fun e' he' hne => by simp only [(vis_step h hw he r s c).2 e' he' hne])
theorem dep_other {D : DataW Value} {l : List Ent} (h : Lists D l) (hw : WfE l) {left : Lit → Bool} {e : Ent} (he : e ∈ l) (r s : Int) (c : Cm) (j : Int) (hj : e.r ≠ j) (hl : left e.key = true) :
    depOf l (visT (fun z => left z && !z.sameKey e.key) r s c) j = depOf l (visT left r s c) j :=
  fold_max_congr (fun e => e.s) l _ _ fun e' he' => by
    by_cases hc : e' = e
    · rw [hc, show (e.r == j) = false from by simp [hj], Bool.and_false, Bool.and_false]
    · rw [(vis_step h hw he r s c).2 e' he' hc]
theorem seq_passed {D : DataW Value} {l : List Ent} (h : Lists D l) (hw : WfE l) {left : Lit → Bool} {e : Ent} (he : e ∈ l) (r s : Int) (c : Cm) (ht : takes r s c e = false) :
    seqOf l (visT (fun z => left z && !z.sameKey e.key) r s c) = seqOf l (visT left r s c) :=
  fold_max_same (fun e => e.q + 1) e _ _ l ((vis_step h hw he r s c).1.trans (by simp [visT, ht])) (vis_step h hw he r s c).2
theorem dep_passed {D : DataW Value} {l : List Ent} (h : Lists D l) (hw : WfE l) {left : Lit → Bool} {e : Ent} (he : e ∈ l) (r s : Int) (c : Cm) (ht : takes r s c e = false) (j : Int) :
    depOf l (visT (fun z => left z && !z.sameKey e.key) r s c) j = depOf l (visT left r s c) j :=
  fold_max_congr (fun e => e.s) l _ _ fun e' he' => by
    by_cases hc : e' = e
    · subst hc
      rw [(vis_step h hw he r s c).1, ht]
      simp [visT, ht]
    · simp only [(vis_step h hw he r s c).2 e' he' hc]
theorem vis_start {D : DataW Value} {l : List Ent} (h : Lists D l) (r s : Int) (c : Cm) (e : Ent) (he : e ∈ l) : visT (Maps.has D) r s c e = false := by
  unfold visT
  have : Maps.has D e.key = true := Maps.has_true_of_atKey (h.at_ e he)
  rw [this]
  rfl
/-- What a new one depends on. -/
def attrQ (l : List Ent) (r s : Int) (c : Cm) : Int := seqOf l (takes r s c)
def attrD (l : List Ent) (d : Nat → Int) (r s : Int) (c : Cm) (j : Nat) : Int :=
  if (j : Int) = r then (if rightI r s then max (depOf l (takes r s c) j) (s - 1) else depOf l (takes r s c) j) else max (depOf l (takes r s c) j) (d j)
theorem vis_end {left : Lit → Bool} (hl : ∀ k, left k = false) (r s : Int) (c : Cm) : visT left r s c = takes r s c := by
  funext e
  simp [visT, hl]
end Go.Proofs.Ytleagecocffihaa
