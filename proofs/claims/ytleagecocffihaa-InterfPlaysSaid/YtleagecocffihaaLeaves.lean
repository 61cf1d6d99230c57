/-
  An argument whose type is made of booleans, integers, texts and slices (structs and arrays of these): its cells, each of its kind; of a slice, that it is one.
-/
import Derived.Test.YtleagecocffihaaCommon
import Derived.Deep.Slices
namespace Go.Proofs.Ytleagecocffihaa
open Go.RowKit

inductive Leaf where
  | bool
  | int (k : IntKind)
  | string
  | slice
def Leaf.ok : Leaf → Value → Prop
  | .bool, v => ∃ b, v = .bool b
  | .int k, v => ∃ n, v = .int k n ∧ (Lit.int k n).wf = true
  | .string, v => ∃ s, v = .string s ∧ s.size ≤ maxLen
  | .slice, v => ∃ a l c, v = .slice a l c
def AllOk : List Leaf → List Value → Prop
  | [], [] => True
  | l :: ls, v :: vs => l.ok v ∧ AllOk ls vs
  | _, _ => False
theorem AllOk.length : ∀ {ls : List Leaf} {vs : List Value}, AllOk ls vs → vs.length = ls.length
  | [], [], _ => rfl
  | _ :: ls, _ :: vs, h => by simp [AllOk.length h.2]
  | [], _ :: _, h => h.elim
  | _ :: _, [], h => h.elim
theorem AllOk.append : ∀ {ls ms : List Leaf} {vs us : List Value}, AllOk ls vs → AllOk ms us → AllOk (ls ++ ms) (vs ++ us)
  | [], _, [], _, _, h => h
  | _ :: _, _, _ :: _, _, h, k => ⟨h.1, AllOk.append h.2 k⟩
  | [], _, _ :: _, _, h, _ => h.elim
  | _ :: _, _, [], _, h, _ => h.elim

theorem AllOk.cons {l : Leaf} {ls : List Leaf} : ∀ {vs : List Value}, AllOk (l :: ls) vs → ∃ v r, vs = v :: r ∧ l.ok v ∧ AllOk ls r
  | v :: r, h => ⟨v, r, rfl, h.1, h.2⟩
theorem AllOk.nil : ∀ {vs : List Value}, AllOk [] vs → vs = []
  | [], _ => rfl
theorem okWide_cells {P : Program} {w : World} {r : Reach} {base : Nat} {t : TypeId} {v : Value} (ht : (∃ fs, P.underlying t = some (.struct fs)) ∨ ∃ n e, P.underlying t = some (.array n e)) (h : Value.okWide P w r base t v) : ∃ l : List Value, v = .agg l.toArray := by
  rcases ht with ⟨fs, ht⟩ | ⟨n, e, ht⟩
  · simp only [Value.okWide, ht] at h
    obtain ⟨cs, h1, _⟩ := h
    exact ⟨cs.toList, by rw [h1]⟩
  · simp only [Value.okWide, ht] at h
    obtain ⟨cs, h1, _⟩ := h
    exact ⟨cs.toList, by rw [h1]⟩

/-- The leaves of a struct's fields from an offset on: they must lie one behind the other. -/
def fieldLeaves (rc : TypeId → Option (List Leaf)) (P : Program) : Nat → List Field → Option (List Leaf)
  | _, [] => some []
  | off, f :: fs =>
    if f.offset = off then
      match rc f.type with
      | some l => if l.length = P.cellsOf f.type then (match fieldLeaves rc P (off + l.length) fs with | some r => some (l ++ r) | none => none) else none
      | none => none
    else none
def leaves (P : Program) : Nat → TypeId → Option (List Leaf)
  | 0, _ => none
  | n + 1, t =>
    match P.underlying t with
    | some .bool => some [.bool]
    | some (.int k) => some [.int k]
    | some .string => some [.string]
    | some (.struct fs) => match fieldLeaves (leaves P n) P 0 fs.toList with
      | some l => if l.length = P.cellsOf t then some l else none
      | none => none
    | some (.array m e) => match leaves P n e with
      | some l => if l.length = P.cellsOf e ∧ m * l.length = P.cellsOf t then some (List.replicate m l).flatten else none
      | none => none
    | some (.slice _) => some [.slice]
    | _ => none

section
variable {H : Type} {enc : TypeId × Value → H} {P : Program} {w : World} {base : Nat} {spare : Nat → Bool} {held : Bool}

theorem fields_ok {m : Nat} {rc : TypeId → Option (List Leaf)} (ih : ∀ t cs x l, DataW.trod enc P w base spare held m t cs = some x → rc t = some l → AllOk l cs) (cs : List Value) :
    ∀ (fs : List Field) (off : Nat) (ls : List Leaf), (∀ f ∈ fs, ∃ y, DataW.trod enc P w base spare held m f.type ((cs.drop f.offset).take (P.cellsOf f.type)) = some y) → fieldLeaves rc P off fs = some ls → AllOk ls ((cs.drop off).take ls.length)
  | [], off, ls, _, h => by
    simp only [fieldLeaves, Option.some.injEq] at h
    subst h
    simp [AllOk]
  | f :: fs, off, ls, hf, h => by
    unfold fieldLeaves at h
    split at h
    · rename_i ho
      split at h
      · rename_i l hl
        split at h
        · rename_i hlen
          split at h
          · rename_i r hr
            simp only [Option.some.injEq] at h
            subst h
            obtain ⟨y, hy⟩ := hf f (by simp)
            have h1 := ih _ _ _ _ hy hl
            have h2 := fields_ok ih cs fs _ r (fun g hg => hf g (by simp [hg])) hr
            rw [ho, ← hlen] at h1
            have := h1.append h2
            rw [List.length_append, List.take_add, List.drop_drop]
            exact this
          · cases h
        · cases h
      · cases h
    · cases h
theorem array_ok {cs : List Value} {l : List Leaf} : ∀ (m k : Nat), (∀ i, i < m → AllOk l ((cs.drop ((k + i) * l.length)).take l.length)) → AllOk (List.replicate m l).flatten ((cs.drop (k * l.length)).take (m * l.length))
  | 0, k, _ => by simp [AllOk]
  | m + 1, k, h => by
    rw [List.replicate_succ, List.flatten_cons, Nat.succ_mul, Nat.add_comm (m * l.length), List.take_add, List.drop_drop]
    refine AllOk.append (by simpa using h 0 (by omega)) ?_
    have := array_ok (cs := cs) (l := l) m (k + 1) (fun i hi => by
      have := h (i + 1) (by omega)
      rwa [show k + (i + 1) = k + 1 + i from by omega] at this)
    rwa [Nat.succ_mul] at this
theorem leaves_ok : ∀ (n m : Nat) (t : TypeId) (cs : List Value) (x : DataW H × List MemPlace) (ls : List Leaf), DataW.trod enc P w base spare held m t cs = some x → leaves P n t = some ls → AllOk ls cs
  | 0, _, _, _, _, _, _, h => by cases h
  | n + 1, m, t, cs, x, ls, h, hl => by
    unfold leaves at hl
    split at hl
    · rename_i hu
      simp only [Option.some.injEq] at hl
      subst hl
      obtain ⟨b, rfl, _⟩ := DataW.trod_bool hu h
      exact ⟨⟨_, rfl⟩, trivial⟩
    · rename_i k hu
      simp only [Option.some.injEq] at hl
      subst hl
      obtain ⟨q, rfl, _, hwf⟩ := DataW.trod_int hu h
      exact ⟨⟨q, rfl, hwf⟩, trivial⟩
    · rename_i hu
      simp only [Option.some.injEq] at hl
      subst hl
      obtain ⟨s, rfl, _, hs⟩ := DataW.trod_string hu h
      exact ⟨⟨_, rfl, hs⟩, trivial⟩
    · rename_i fs hu
      split at hl
      · rename_i l hfl
        split at hl
        · rename_i hlen
          simp only [Option.some.injEq] at hl
          subst hl
          obtain ⟨xs, k, _, _, hcs, hxs, hx⟩ := DataW.trod_struct hu h
          have := fields_ok (m := k) (fun t cs x l h1 h2 => leaves_ok n k t cs x l h1 h2) cs fs.toList 0 l (fun f hf => by
            obtain ⟨i, hi, hfi⟩ := List.getElem_of_mem hf
            have hi2 : i < fs.size := by simpa using hi
            have h2 := hx i f (by rw [Array.getElem?_eq_getElem hi2]; simpa using hfi)
            rw [List.getElem?_eq_getElem (by omega)] at h2
            exact ⟨_, h2⟩) hfl
          rw [List.drop_zero, List.take_of_length_le (by omega)] at this
          exact this
        · cases hl
      · cases hl
    · rename_i q e hu
      split at hl
      · rename_i l hle
        split at hl
        · rename_i hlen
          simp only [Option.some.injEq] at hl
          subst hl
          obtain ⟨xs, k, _, _, hcs, hxs, hx⟩ := DataW.trod_array hu h
          have := array_ok (cs := cs) (l := l) q 0 (fun i hi => by
            have h2 := hx i hi
            rw [List.getElem?_eq_getElem (by omega), ← hlen.1] at h2
            rw [Nat.zero_add]
            exact leaves_ok n k e _ _ _ h2 hle)
          rw [Nat.zero_mul, List.drop_zero, List.take_of_length_le (by rw [hcs, ← hlen.2]; exact Nat.le_refl _)] at this
          exact this
        · cases hl
      · cases hl
    · rename_i e hu
      simp only [Option.some.injEq] at hl
      subst hl
      rcases Deep.open_slice hu h with ⟨rfl, _⟩ | ⟨a, l, c, _, _, _, _, rfl, _⟩
      · exact ⟨⟨_, _, _, rfl⟩, trivial⟩
      · exact ⟨⟨_, _, _, rfl⟩, trivial⟩
    · cases hl
end
end Go.Proofs.Ytleagecocffihaa
