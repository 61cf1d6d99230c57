/-
  A slice whose elements are made of booleans, integers and texts alone: the cells of each element.
-/
import Derived.Test.YtleagecocffihaaLeaves
import Derived.Deep.Slices
namespace Go.Proofs.Ytleagecocffihaa
open Go.RowKit

/-- The cells of element i are V i, n of them. -/
def IsRows (w : World) (a : Option Addr) (len n : Nat) (V : Nat → List Value) : Prop :=
  len ≤ maxLen ∧ (∀ i, i < len → (V i).length = n) ∧ (0 < len → ∃ b off, a = some ⟨b, off, none⟩ ∧ b < w.heap.size ∧ ∀ i, i < len → ∀ j, j < n → w.cell? ⟨b, off + i * n + j, none⟩ = (V i)[j]?)
theorem IsRows.below {w w' : World} {a : Option Addr} {len n : Nat} {V : Nat → List Value} (h : IsRows w a len n V) (hb : Below w.heap.size w w') : IsRows w' a len n V := by
  obtain ⟨h1, h2, h3⟩ := h
  refine ⟨h1, h2, fun h => ?_⟩
  obtain ⟨b, off, ha, hlt, hc⟩ := h3 h
  exact ⟨b, off, ha, Nat.lt_of_lt_of_le hlt hb.size, fun i hi j hj => by rw [hb.cell (p := ⟨b, _, none⟩) hlt]; exact hc i hi j hj⟩

theorem open_rows {H : Type} {enc : TypeId × Value → H} {P : Program} {W : World} {t e : TypeId} {a : Option Addr} {len cap n : Nat} {ls : List Leaf} {d : DataW H} {pl : List MemPlace}
    (ht : P.underlying t = some (.slice e)) (hl : leaves P 9 e = some ls) (hn : P.cellsOf e = n) (h0 : 0 < n)
    (h : DataW.Trod enc P W 0 (fun _ => true) true t (.slice a len cap) d pl) : ∃ V : Nat → List Value, IsRows W a len n V ∧ (∀ i, i < len → AllOk ls (V i)) ∧ len ≤ cap ∧ cap ≤ maxLen := by
  obtain ⟨fuel, hf⟩ := h
  subst hn
  rcases Deep.open_slice ht hf with ⟨hcs, _⟩ | ⟨x, l, c, m, k, D, Pl, hcs, _, hlc, hm, hmm, hx, hc⟩
  · simp [Value.cells] at hcs
    obtain ⟨rfl, rfl, rfl⟩ := hcs
    exact ⟨fun _ => [], ⟨by omega, fun i hi => by omega, fun h => by omega⟩, fun i hi => by omega, by omega, by unfold maxLen; omega⟩
  · simp [Value.cells] at hcs
    obtain ⟨rfl, rfl, rfl⟩ := hcs
    simp only [if_true] at hmm
    subst hmm
    obtain ⟨V, hV⟩ := Deep.choose_lt (α := List Value) (p := fun i cs' => W.cells? 0 (x.add (i * P.cellsOf e)) (P.cellsOf e) = some cs' ∧ DataW.trod enc P W 0 (fun _ => true) true k e cs' = some (D i, Pl i)) hc
    refine ⟨V, ⟨by omega, fun i hi => (World.cells?_some (hV i (by omega)).1).2.1, fun hlen => ?_⟩, fun i hi => leaves_ok 9 k e _ _ _ (hV i (by omega)).2 hl, hlc, hm⟩
    obtain ⟨b, off, spot⟩ := x
    obtain ⟨_, hl0, hc0⟩ := World.cells?_some (hV 0 (by omega)).1
    have h1 := hc0 0 h0
    have hne : ∃ v, (V 0)[0]? = some v := ⟨_, List.getElem?_eq_getElem (by omega)⟩
    obtain ⟨v, hv⟩ := hne
    rw [hv] at h1
    have hspot : spot = none := by simpa [Addr.add] using World.cell?_spot h1
    subst hspot
    refine ⟨b, off, rfl, by simpa [add_at] using block_lt_of_cell h1, fun i hi j hj => ?_⟩
    have h2 := (World.cells?_some (hV i (by omega)).1).2.2 j hj
    rw [add_at, add_at] at h2
    exact h2

/-- Integers alone. -/
theorem AllOk.ints {k : IntKind} : ∀ {n : Nat} {vs : List Value}, AllOk (List.replicate n (.int k)) vs → ∀ j, j < n → vs[j]? = some (.int k (intOf (vs.getD j undef))) ∧ (Lit.int k (intOf (vs.getD j undef))).wf = true
  | 0, _, _, j, hj => by omega
  | n + 1, [], h, _, _ => h.elim
  | n + 1, v :: vs, h, j, hj => by
    obtain ⟨⟨q, rfl, hq⟩, h2⟩ := h
    cases j with
    | zero => exact ⟨rfl, hq⟩
    | succ j => simpa using AllOk.ints h2 j (by omega)
end Go.Proofs.Ytleagecocffihaa
