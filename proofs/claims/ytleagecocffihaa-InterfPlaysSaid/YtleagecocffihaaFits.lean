/-
  The texts inside an argument are no longer than what the machine reaches: of a struct, of an array, of a slice of structs.
-/
import Derived.Test.YtleagecocffihaaCellRows
import Derived.SizedLaws
namespace Go.Proofs.Ytleagecocffihaa
open Go.RowKit
set_option linter.unusedVariables false

/-- Each text among these cells has at most so many bytes. -/
def Fit (B : Nat) (cs : List Value) : Prop := ∀ v ∈ cs, ∀ s, v = .string s → s.size ≤ B
theorem Fit.append {B : Nat} {a b : List Value} (h : Fit B a) (k : Fit B b) : Fit B (a ++ b) := fun v hv s e => by
  rcases List.mem_append.1 hv with hv | hv
  · exact h v hv s e
  · exact k v hv s e
theorem Fit.nil {B : Nat} : Fit B [] := fun v hv => by cases hv
theorem Fit.at {B : Nat} {cs : List Value} (h : Fit B cs) {i : Nat} {s : ByteArray} (hi : cs[i]? = some (.string s)) : s.size ≤ B := h _ (List.mem_of_getElem? hi) s rfl
theorem weightsAll_at {H : Type} {P : Program} {e : TypeId} {n : Nat} : ∀ {l : List (DataW H)} {i : Nat} {d : DataW H}, l[i]? = some d → n ∈ DataW.weights P e d → n ∈ DataW.weightsAll P e l
  | x :: l, 0, d, hd, hn => by
    unfold DataW.weightsAll
    simp only [List.getElem?_cons_zero, Option.some.injEq] at hd
    subst hd
    exact List.mem_append_left _ hn
  | x :: l, i + 1, d, hd, hn => by
    unfold DataW.weightsAll
    rw [List.getElem?_cons_succ] at hd
    exact List.mem_append_right _ (weightsAll_at hd hn)
section
variable {H : Type} {enc : TypeId × Value → H} {P : Program} {w : World} {base : Nat} {spare : Nat → Bool} {held : Bool} {B : Nat}

theorem fields_fit {m : Nat} {rc : TypeId → Option (List Leaf)} (cs : List Value) :
    ∀ (fs : List Field) (off : Nat) (ls : List Leaf), (∀ f ∈ fs, ∀ l, rc f.type = some l → Fit B ((cs.drop f.offset).take (P.cellsOf f.type))) → fieldLeaves rc P off fs = some ls → Fit B ((cs.drop off).take ls.length)
  | [], off, ls, _, h => by
    simp only [fieldLeaves, Option.some.injEq] at h
    subst h
    simpa using Fit.nil
  | f :: fs, off, ls, hf, h => by
    unfold fieldLeaves at h
    split at h
    · rename_i ho
      split at h
      · rename_i l hl
        split at h
        · rename_i hlen
          split at h
          · rename_i r hr
            simp only [Option.some.injEq] at h
            subst h
            have h1 := hf f (by simp) l hl
            have h2 := fields_fit (m := m) cs fs _ r (fun g hg => hf g (by simp [hg])) hr
            rw [ho, ← hlen] at h1
            have := h1.append h2
            rw [List.length_append, List.take_add, List.drop_drop]
            exact this
          · cases h
        · cases h
      · cases h
    · cases h
theorem array_fit {cs : List Value} {n : Nat} : ∀ (m k : Nat), (∀ i, i < m → Fit B ((cs.drop ((k + i) * n)).take n)) → Fit B ((cs.drop (k * n)).take (m * n))
  | 0, k, _ => by simpa using Fit.nil
  | m + 1, k, h => by
    rw [Nat.succ_mul, Nat.add_comm (m * n), List.take_add, List.drop_drop]
    refine Fit.append (by simpa using h 0 (by omega)) ?_
    have := array_fit (cs := cs) (n := n) m (k + 1) (fun i hi => by
      have := h (i + 1) (by omega)
      rwa [show k + (i + 1) = k + 1 + i from by omega] at this)
    rwa [Nat.succ_mul] at this
theorem leaves_fit : ∀ (n m : Nat) (t : TypeId) (cs : List Value) (x : DataW H × List MemPlace) (ls : List Leaf), DataW.trod enc P w base spare held m t cs = some x → leaves P n t = some ls → (∀ q ∈ DataW.weights P t x.1, q ≤ B) → Fit B cs
  | 0, _, _, _, _, _, _, h, _ => by cases h
  | n + 1, m, t, cs, x, ls, h, hl, hw => by
    unfold leaves at hl
    split at hl
    · rename_i hu
      obtain ⟨b, rfl, _⟩ := DataW.trod_bool hu h
      intro v hv s e; rw [List.mem_singleton.1 hv] at e; cases e
    · rename_i k hu
      obtain ⟨q, rfl, _, hwf⟩ := DataW.trod_int hu h
      intro v hv s e; rw [List.mem_singleton.1 hv] at e; cases e
    · rename_i hu
      obtain ⟨s, rfl, hx, hs⟩ := DataW.trod_string hu h
      intro v hv s' e
      rw [List.mem_singleton.1 hv] at e
      injection e with e
      subst e
      have := hw s.data.toList.length (by rw [hx]; simp [DataW.weights])
      simpa using this
    · rename_i fs hu
      split at hl
      · rename_i l hfl
        split at hl
        · rename_i hlen
          obtain ⟨xs, k, _, hxx, hcs, hxs, hx⟩ := DataW.trod_struct hu h
          have := fields_fit (m := k) (B := B) (P := P) (rc := leaves P n) cs fs.toList 0 l (fun f hf l' hl' => by
            obtain ⟨i, hi, hfi⟩ := List.getElem_of_mem hf
            have hi2 : i < fs.size := by simpa using hi
            have h2 := hx i f (by rw [Array.getElem?_eq_getElem hi2]; simpa using hfi)
            rw [List.getElem?_eq_getElem (by omega)] at h2
            refine leaves_fit n k f.type _ _ l' h2 hl' fun q hq => hw q ?_
            rw [hxx]
            simp only [DataW.weights, hu]
            refine DataW.weights_mem_each (j := i) (t := f.type) (d := (xs[i]).1) ?_ ?_ q hq
            · rw [List.getElem?_map, List.getElem?_eq_getElem (by simpa using hi2)]; simp only [Option.map_some, hfi]
            · rw [List.getElem?_map, List.getElem?_eq_getElem (by omega)]; rfl) hfl
          rw [List.drop_zero, List.take_of_length_le (by omega)] at this
          exact this
        · cases hl
      · cases hl
    · rename_i q e hu
      split at hl
      · rename_i l hle
        split at hl
        · rename_i hlen
          obtain ⟨xs, k, _, hxx, hcs, hxs, hx⟩ := DataW.trod_array hu h
          have := array_fit (cs := cs) (B := B) (n := P.cellsOf e) q 0 (fun i hi => by
            have h2 := hx i hi
            rw [List.getElem?_eq_getElem (by omega)] at h2
            rw [Nat.zero_add]
            refine leaves_fit n k e _ _ _ h2 hle fun p hp => hw p ?_
            rw [hxx]
            simp only [DataW.weights, hu]
            exact weightsAll_at (i := i) (d := (xs[i]).1) (by rw [List.getElem?_map, List.getElem?_eq_getElem (by omega)]; rfl) hp)
          rw [Nat.zero_mul, List.drop_zero, List.take_of_length_le (by rw [hcs, ← hlen.2, hlen.1]; exact Nat.le_refl _)] at this
          exact this
        · cases hl
      · cases hl
    · rename_i e hu
      rcases Deep.open_slice hu h with ⟨rfl, _⟩ | ⟨a, l, c, _, _, _, _, rfl, _⟩
      · intro v hv s e; rw [List.mem_singleton.1 hv] at e; cases e
      · intro v hv s e; rw [List.mem_singleton.1 hv] at e; cases e
    · cases hl
end
/-- A slice of structs, as open_rows; and each text in it has at most reachBytes. -/
theorem open_rows_fit {H : Type} {enc : TypeId × Value → H} {P : Program} {W : World} {t e : TypeId} {a : Option Addr} {len cap n : Nat} {ls : List Leaf} {d : DataW H} {pl : List MemPlace}
    (ht : P.underlying t = some (.slice e)) (hl : leaves P 9 e = some ls) (hn : P.cellsOf e = n) (h0 : 0 < n)
    (hall : ∀ q ∈ DataW.weights P t d, q ≤ reachBytes) (h : DataW.Trod enc P W 0 (fun _ => true) true t (.slice a len cap) d pl) :
    ∃ V : Nat → List Value, IsRows W a len n V ∧ (∀ i, i < len → AllOk ls (V i) ∧ Fit reachBytes (V i)) ∧ len ≤ cap ∧ cap ≤ maxLen := by
  obtain ⟨fuel, hf⟩ := h
  subst hn
  rcases Deep.open_slice ht hf with ⟨hcs, _⟩ | ⟨x, l, c, m, k, D, Pl, hcs, hd, hlc, hm, hmm, hx, hc⟩
  · simp [Value.cells] at hcs
    obtain ⟨rfl, rfl, rfl⟩ := hcs
    exact ⟨fun _ => [], ⟨by omega, fun i hi => by omega, fun h => by omega⟩, fun i hi => by omega, by omega, by unfold maxLen; omega⟩
  · simp [Value.cells] at hcs
    obtain ⟨rfl, rfl, rfl⟩ := hcs
    simp only [if_true] at hmm
    subst hmm
    obtain ⟨V, hV⟩ := Deep.choose_lt (α := List Value) (p := fun i cs' => W.cells? 0 (x.add (i * P.cellsOf e)) (P.cellsOf e) = some cs' ∧ DataW.trod enc P W 0 (fun _ => true) true k e cs' = some (D i, Pl i)) hc
    have hw : ∀ i, i < len → ∀ q ∈ DataW.weights P e (D i), q ≤ reachBytes := fun i hi q hq => by
      simp only [Prod.mk.injEq] at hx
      refine hall q ?_
      rw [hx.1]
      simp only [DataW.weights, ht]
      exact List.mem_cons_of_mem _ (List.mem_append_left _ (weightsAll_at (i := i) (by rw [List.getElem?_map, List.getElem?_range (by omega)]; rfl) hq))
    refine ⟨V, ⟨by omega, fun i hi => (World.cells?_some (hV i (by omega)).1).2.1, fun hlen => ?_⟩, fun i hi => ⟨leaves_ok 9 k e _ _ _ (hV i (by omega)).2 hl, leaves_fit 9 k e _ _ _ (hV i (by omega)).2 hl (hw i hi)⟩, hlc, hm⟩
    obtain ⟨b, off, spot⟩ := x
    obtain ⟨_, hl0, hc0⟩ := World.cells?_some (hV 0 (by omega)).1
    have h1 := hc0 0 h0
    have hne : ∃ v, (V 0)[0]? = some v := ⟨_, List.getElem?_eq_getElem (by omega)⟩
    obtain ⟨v, hv⟩ := hne
    rw [hv] at h1
    have hspot : spot = none := by simpa [Addr.add] using World.cell?_spot h1
    subst hspot
    refine ⟨b, off, rfl, by simpa [add_at] using block_lt_of_cell h1, fun i hi j hj => ?_⟩
    have h2 := (World.cells?_some (hV i (by omega)).1).2.2 j hj
    rw [add_at, add_at] at h2
    exact h2
end Go.Proofs.Ytleagecocffihaa
