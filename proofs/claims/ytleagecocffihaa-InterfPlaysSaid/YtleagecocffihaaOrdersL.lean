/-
  A load may be taken first in a region that writes its cell late: no program in sight. As Derived.OrdersHeld; but the condition on the world is asked only as long as none of the late operations has come.
-/
import Derived.Test.YtleagecocffihaaCommon
import Derived.Deep.RegionHeld
namespace Go.Proofs.Ytleagecocffihaa
open Go.RowKit
set_option linter.unusedVariables false

section
variable {P : Program} {ops : Array Oper} {Q : Exit → Act → World → Prop} {md : Region.Mode} {S : World → Prop} {X0 : List Nat}
/-- None of these has come. -/
def LateFree (X : List Nat) (L : Array Bool) : Prop := ∀ j ∈ X, L.getD j false = false
theorem notLate {X : List Nat} {L : Array Bool} {p : Prop} (h : (X.any fun j => L.getD j false) = true) : LateFree X L → p := fun hl => by
  obtain ⟨j, hj, hb⟩ := List.any_eq_true.1 h
  rw [hl j hj] at hb
  cases hb
/-- Whatever order is picked from here on; as long as none of the late ones has come, S holds behind each operation that is carried out. -/
def wpAnyL (P : Program) (md : Region.Mode) (ops : Array Oper) (Q : Exit → Act → World → Prop) (S : World → Prop) (X0 : List Nat) : Nat → Array Bool → Act → World → Prop
  | 0, listed, a, w => Region.ready md ops listed = [] ∧ Q .normal a w
  | fuel + 1, listed, a, w =>
    (Region.ready md ops listed = [] → Q .normal a w) ∧
    ∀ i ∈ Region.ready md ops listed, wpOp P ops Q i (fun a' w' => (LateFree X0 (listed.setIfInBounds i true) → S w') ∧ wpAnyL P md ops Q S X0 fuel (listed.setIfInBounds i true) a' w') a w
theorem wpAny_of_late : ∀ (fuel : Nat) (listed : Array Bool) (a : Act) (w : World), wpAnyL P md ops Q S X0 fuel listed a w → wpAny P md ops Q fuel listed a w
  | 0, _, _, _, h => h
  | fuel + 1, _, _, _, h => ⟨h.1, fun i hi => wpOp_mono (fun a' w' h' => wpAny_of_late fuel _ a' w' h'.2) (h.2 i hi)⟩
theorem wpAnyL_first {i : Nat} {oi : Oper} {v : Value} {X : List Nat} (hi : ops[i]? = some oi) (hsel : ∀ (j : Nat) (o : Oper) cs b, ops[j]? = some o → o.op ≠ .select cs b)
    (hQ : ∀ c a w, Q (.panic c) (a.put oi.dst v) w → Q (.panic c) a w) (hX0 : ∀ j ∈ X0, j ∈ X) (hXi : i ∉ X)
    (hX : ∀ j ∈ X, ∀ oj, ops[j]? = some oj → ∃ e ∈ oj.after, Region.binds md e = true ∧ (e.on = i ∨ e.on ∈ X)) :
    ∀ (fuel : Nat) (listed : Array Bool) (a : Act) (w : World),
      (∀ j oj, ops[j]? = some oj → j ≠ i → listed.getD j true = false → (∀ e ∈ oj.after, Region.binds md e = true → e.on ≠ i) → oi.apart ops oj = true) →
      i ∈ Region.ready md ops listed → LateFree X listed → YieldsIf P ops S oi v a → S w →
      wpAnyL P md ops Q S X0 fuel (listed.setIfInBounds i true) (a.put oi.dst v) w → wpAnyL P md ops Q S X0 (fuel + 1) listed a w := by
  intro fuel
  induction fuel with
  | zero =>
    intro listed a w _ hr _ hy hS H
    refine ⟨fun h => (by rw [h] at hr; cases hr), fun j hj => ?_⟩
    by_cases hji : j = i
    · subst hji; exact hy.wpOp hi hS ⟨fun _ => hS, H⟩
    · have := ready_mono hj hji
      rw [H.1] at this
      cases this
  | succ fuel ih =>
    intro listed a w hfree hr hl hy hS H
    refine ⟨fun h => (by rw [h] at hr; cases hr), fun j hj => ?_⟩
    by_cases hji : j = i
    · subst hji; exact hy.wpOp hi hS ⟨fun _ => hS, H⟩
    · have h1 := H.2 j (ready_mono hj hji)
      obtain ⟨hjun, oj, hoj, hall⟩ := mem_ready.1 hj
      have hiun : listed.getD i false = false := by
        have h0 := (mem_ready.1 hr).1
        rcases Nat.lt_or_ge i listed.size with h' | h'
        · simp [h'] at h0 ⊢; exact h0
        · simp [Array.getElem?_eq_none h']
      have hnot : ∀ e ∈ oj.after, Region.binds md e = true → e.on ≠ i := fun e he hb heq => by
        have h2 := hall e he hb
        rw [heq, hiun] at h2
        cases h2
      have hjX : j ∉ X := fun hjX => by
        obtain ⟨e, he, hb, hon⟩ := hX j hjX oj hoj
        have h2 := hall e he hb
        rcases hon with hon | hon
        · rw [hon, hiun] at h2; cases h2
        · rw [hl _ hon] at h2; cases h2
      have h2 := wpOp_putIf hoj (hfree j oj hoj hji hjun hnot) (fun cs b => hsel i oi cs b hi) (fun cs b => hsel j oj cs b hoj) hQ hy h1
      have hfree' : ∀ k ok, ops[k]? = some ok → k ≠ i → (listed.setIfInBounds j true).getD k true = false →
          (∀ e ∈ ok.after, Region.binds md e = true → e.on ≠ i) → oi.apart ops ok = true := fun k ok hk hki hun hno => by
        refine hfree k ok hk hki ?_ hno
        by_cases hjk : j = k
        · subst hjk; exact hjun
        · rw [getD_set_ne true hjk] at hun; exact hun
      have hl' : LateFree X (listed.setIfInBounds j true) := fun x hx => by
        rw [getD_set_ne (i := j) (j := x) false (fun hc => hjX (by rw [hc]; exact hx))]; exact hl x hx
      have hl0 : LateFree X0 ((listed.setIfInBounds i true).setIfInBounds j true) := fun x hx => by
        have hxX := hX0 x hx
        rw [getD_set_ne (i := j) (j := x) false (fun hc => hjX (by rw [hc]; exact hxX)), getD_set_ne (i := i) (j := x) false (fun hc => hXi (by rw [hc]; exact hxX))]; exact hl x hxX
      refine wpOp_mono (fun a' w' h3 => ⟨fun _ => h3.2.1 hl0, ih (listed.setIfInBounds j true) a' w' hfree' (ready_mono hr (Ne.symm hji)) hl' h3.1 (h3.2.1 hl0) ?_⟩) h2
      rw [Array.setIfInBounds_comm _ _ hji]
      exact h3.2.2
/-- X holds all the late ones, each of which waits for i, if only through others of X; none of them has come. -/
def lateB (md : Region.Mode) (ops : Array Oper) (X0 X : List Nat) (listed : Array Bool) (i : Nat) : Bool :=
  X0.all (fun j => X.contains j) && X.all fun j => j != i && (!listed.getD j false && match ops[j]? with
    | some oj => oj.after.any fun e => Region.binds md e && (e.on == i || X.contains e.on)
    | none => false)
theorem wpAnyL_take {i : Nat} {oi : Oper} {v : Value} {fuel : Nat} {listed : Array Bool} {a : Act} {w : World} (X : List Nat) (d : Option Tmp) (hi : ops[i]? = some oi) (hd : oi.dst = d)
    (hs : Region.noSelect ops = true) (hf : Region.free md ops listed i = true) (hr : (Region.ready md ops listed).contains i = true) (hx : lateB md ops X0 X listed i = true)
    (hQ : ∀ c a w, Q (.panic c) (a.put oi.dst v) w → Q (.panic c) a w) (hy : YieldsIf P ops S oi v a) (hS : S w)
    (h : wpAnyL P md ops Q S X0 fuel (listed.setIfInBounds i true) (a.put d v) w) : wpAnyL P md ops Q S X0 (fuel + 1) listed a w := by
  subst hd
  simp only [lateB, Bool.and_eq_true, List.all_eq_true, bne_iff_ne, Bool.not_eq_true'] at hx
  refine wpAnyL_first (X := X) hi (Region.noSelect_spec hs) hQ (fun j hj => by simpa using hx.1 j hj) (fun hc => (hx.2 i hc).1 rfl) (fun j hj oj hoj => ?_) fuel listed a w (Region.free_spec hi hf) (by simpa using hr) (fun j hj => (hx.2 j hj).2.1) hy hS h
  have := (hx.2 j hj).2.2
  rw [hoj] at this
  obtain ⟨e, he, hb⟩ := Array.any_eq_true'.1 this
  simp only [Bool.and_eq_true, Bool.or_eq_true, beq_iff_eq] at hb
  exact ⟨e, he, hb.1, hb.2.imp id fun h => by simpa using h⟩
/-- An operation that yields in whatever world is taken first as ever. -/
theorem wpAnyL_first0 {i : Nat} {oi : Oper} {v : Value} (hi : ops[i]? = some oi) (hsel : ∀ (j : Nat) (o : Oper) cs b, ops[j]? = some o → o.op ≠ .select cs b)
    (hQ : ∀ c a w, Q (.panic c) (a.put oi.dst v) w → Q (.panic c) a w) (hi0 : i ∉ X0) :
    ∀ (fuel : Nat) (listed : Array Bool) (a : Act) (w : World),
      (∀ j oj, ops[j]? = some oj → j ≠ i → listed.getD j true = false → (∀ e ∈ oj.after, Region.binds md e = true → e.on ≠ i) → oi.apart ops oj = true) →
      i ∈ Region.ready md ops listed → YieldsIf P ops (fun _ => True) oi v a → (LateFree X0 listed → S w) →
      wpAnyL P md ops Q S X0 fuel (listed.setIfInBounds i true) (a.put oi.dst v) w → wpAnyL P md ops Q S X0 (fuel + 1) listed a w := by
  have hset : ∀ (L : Array Bool), LateFree X0 (L.setIfInBounds i true) → LateFree X0 L := fun L h x hx => by
    rw [← getD_set_ne (i := i) (j := x) false (fun hc => hi0 (by rw [hc]; exact hx))]; exact h x hx
  have hset2 : ∀ (L : Array Bool), LateFree X0 L → LateFree X0 (L.setIfInBounds i true) := fun L h x hx => by
    rw [getD_set_ne (i := i) (j := x) false (fun hc => hi0 (by rw [hc]; exact hx))]; exact h x hx
  intro fuel
  induction fuel with
  | zero =>
    intro listed a w _ hr hy hS H
    refine ⟨fun h => (by rw [h] at hr; cases hr), fun j hj => ?_⟩
    by_cases hji : j = i
    · subst hji; exact hy.wpOp hi trivial ⟨fun h => hS (hset _ h), H⟩
    · have := ready_mono hj hji
      rw [H.1] at this
      cases this
  | succ fuel ih =>
    intro listed a w hfree hr hy hS H
    refine ⟨fun h => (by rw [h] at hr; cases hr), fun j hj => ?_⟩
    by_cases hji : j = i
    · subst hji; exact hy.wpOp hi trivial ⟨fun h => hS (hset _ h), H⟩
    · have h1 := H.2 j (ready_mono hj hji)
      obtain ⟨hjun, oj, hoj, hall⟩ := mem_ready.1 hj
      have hnot : ∀ e ∈ oj.after, Region.binds md e = true → e.on ≠ i := fun e he hb heq => by
        have h1 := hall e he hb
        have h0 := (mem_ready.1 hr).1
        rw [heq] at h1
        rcases Nat.lt_or_ge i listed.size with h' | h'
        · simp [h'] at h0 h1; rw [h0] at h1; cases h1
        · simp [Array.getElem?_eq_none h'] at h1
      have h2 := wpOp_putIf hoj (hfree j oj hoj hji hjun hnot) (fun cs b => hsel i oi cs b hi) (fun cs b => hsel j oj cs b hoj) hQ hy h1
      have hfree' : ∀ k ok, ops[k]? = some ok → k ≠ i → (listed.setIfInBounds j true).getD k true = false →
          (∀ e ∈ ok.after, Region.binds md e = true → e.on ≠ i) → oi.apart ops ok = true := fun k ok hk hki hun hno => by
        refine hfree k ok hk hki ?_ hno
        by_cases hjk : j = k
        · subst hjk; exact hjun
        · rw [getD_set_ne true hjk] at hun; exact hun
      have hcom : (listed.setIfInBounds i true).setIfInBounds j true = (listed.setIfInBounds j true).setIfInBounds i true := Array.setIfInBounds_comm _ _ (Ne.symm hji)
      refine wpOp_mono (fun a' w' h3 => ⟨fun h => h3.2.1 (by rw [hcom]; exact hset2 _ h), ih (listed.setIfInBounds j true) a' w' hfree' (ready_mono hr (Ne.symm hji)) h3.1 (fun h => h3.2.1 (by rw [hcom]; exact hset2 _ h)) ?_⟩) h2
      rw [← hcom]
      exact h3.2.2
theorem wpAnyL_move {i : Nat} {oi : Oper} {v : Value} {fuel : Nat} {listed : Array Bool} {a : Act} {w : World} (d : Option Tmp) (hi : ops[i]? = some oi) (hd : oi.dst = d)
    (hs : Region.noSelect ops = true) (hf : Region.free md ops listed i = true) (hr : (Region.ready md ops listed).contains i = true) (hx : X0.contains i = false)
    (hQ : ∀ c a w, Q (.panic c) (a.put oi.dst v) w → Q (.panic c) a w) (hy : YieldsIf P ops (fun _ => True) oi v a) (hS : LateFree X0 listed → S w)
    (h : wpAnyL P md ops Q S X0 fuel (listed.setIfInBounds i true) (a.put d v) w) : wpAnyL P md ops Q S X0 (fuel + 1) listed a w := by
  subst hd
  exact wpAnyL_first0 hi (Region.noSelect_spec hs) hQ (fun hc => by simp [hc] at hx) fuel listed a w (Region.free_spec hi hf) (by simpa using hr) hy hS h
theorem wpAnyL_done {listed : Array Bool} {a : Act} {w : World} (hr : Region.ready md ops listed = []) (h : Q .normal a w) : ∀ fuel, wpAnyL P md ops Q S X0 fuel listed a w
  | 0 => ⟨hr, h⟩
  | _ + 1 => ⟨fun _ => h, by rw [hr]; simp⟩
def AllReadyL (P : Program) (md : Region.Mode) (ops : Array Oper) (Q : Exit → Act → World → Prop) (S : World → Prop) (X0 : List Nat) (fuel : Nat) (listed : Array Bool) (a : Act) (w : World) (rs : List Nat) : Prop :=
  ∀ i ∈ rs, wpOp P ops Q i (fun a' w' => (LateFree X0 (listed.setIfInBounds i true) → S w') ∧ wpAnyL P md ops Q S X0 fuel (listed.setIfInBounds i true) a' w') a w
theorem AllReadyL.nil {fuel : Nat} {listed : Array Bool} {a : Act} {w : World} : AllReadyL P md ops Q S X0 fuel listed a w [] := fun _ h => by cases h
theorem AllReadyL.cons {fuel : Nat} {listed : Array Bool} {a : Act} {w : World} {i : Nat} {o : Oper} {rs : List Nat} (ho : ops[i]? = some o)
    (h : ∀ K' : Act → World → Prop, Shut (∀ a w, (LateFree X0 (listed.setIfInBounds i true) → S w) → wpAnyL P md ops Q S X0 fuel (listed.setIfInBounds i true) a w → K' a w) → if Region.wanted o (yielded ops a.tmps) = true then Oper.wp P o a w K' Q else K' (a.put o.dst undef) w)
    (hs : AllReadyL P md ops Q S X0 fuel listed a w rs) : AllReadyL P md ops Q S X0 fuel listed a w (i :: rs) := fun j hj => by
  rcases List.mem_cons.1 hj with rfl | hj
  · exact wpOp_step ho (fun K' hK => h K' (fun a w hS hW => hK a w ⟨hS, hW⟩))
  · exact hs j hj
theorem wpAnyL_ready {rs : List Nat} {fuel : Nat} {listed : Array Bool} {a : Act} {w : World} (hr : Region.ready md ops listed = rs) (hne : rs ≠ [])
    (h : AllReadyL P md ops Q S X0 fuel listed a w rs) : wpAnyL P md ops Q S X0 (fuel + 1) listed a w :=
  ⟨fun h0 => absurd (hr ▸ h0) hne, hr ▸ h⟩
theorem wp_region_late {id : Nat} {a : Act} {w : World} (hm : P.follows .mixedOrders = true)
    (h : wpAnyL P .any ops Q S X0 ops.size (Array.replicate ops.size false) a w.drew) : (Code.region id ops true).wp P Q a w :=
  wp_region_any hm (wpAny_of_late _ _ _ _ h)
end
end Go.Proofs.Ytleagecocffihaa
