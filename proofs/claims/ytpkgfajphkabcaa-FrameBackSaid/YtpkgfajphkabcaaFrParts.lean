/-
  A list of lists of bytes that comes in, opened.
-/
import Derived.Test.YtpkgfajphkabcaaFrListsW
import Derived.Deep.Matrix
namespace Go.Proofs.Ytpkgfajphkabcaa
open Go.RowKit
set_option linter.unusedVariables false

/-- A list of lists of bytes that came in: each element's header, and what it reads as. -/
def IsParts (w : World) (a : Option Addr) (len : Nat) (A : Nat → Option Addr) (L C : Nat → Nat) (Z : Nat → List Nat) : Prop :=
  (0 < len → ∃ b off, a = some ⟨b, off, none⟩ ∧ b < w.heap.size ∧ ∀ r, r < len → w.cell? ⟨b, off + r, none⟩ = some (.slice (A r) (L r) (C r))) ∧
  ∀ r, r < len → L r ≤ C r ∧ (A r = none → C r = 0) ∧ IsBytes w (A r) (L r) (Z r) ∧ L r ≤ 140737488351232
theorem IsParts.below {w w' : World} {a : Option Addr} {len : Nat} {A : Nat → Option Addr} {L C : Nat → Nat} {Z : Nat → List Nat} (h : IsParts w a len A L C Z) (hb : Below w.heap.size w w') : IsParts w' a len A L C Z :=
  ⟨fun h0 => by
    obtain ⟨b, off, ha, hlt, hc⟩ := h.1 h0
    exact ⟨b, off, ha, Nat.lt_of_lt_of_le hlt hb.size, fun r hr => by rw [hb.cell (p := ⟨b, off + r, none⟩) hlt]; exact hc r hr⟩, fun r hr => by
    obtain ⟨h1, h2, h3, h4⟩ := h.2 r hr
    exact ⟨h1, h2, h3.below hb, h4⟩⟩
theorem weightsAll_mem {H : Type} {P : Program} {e : TypeId} {d : DataW H} {n : Nat} : ∀ {l : List (DataW H)}, d ∈ l → n ∈ DataW.weights P e d → n ∈ DataW.weightsAll P e l
  | x :: l, hd, hn => by
    unfold DataW.weightsAll
    rcases List.mem_cons.1 hd with rfl | hd
    · exact List.mem_append_left _ hn
    · exact List.mem_append_right _ (weightsAll_mem hd hn)
theorem open_parts {H : Type} {enc : TypeId × Value → H} {P : Program} {W : World} {t e q : TypeId} {a : Option Addr} {len cap : Nat} {d : DataW H} {pl : List MemPlace}
    (ht : P.underlying t = some (.slice e)) (he : P.underlying e = some (.slice q)) (hq : P.underlying q = some (.int .u8)) (ce : P.cellsOf e = 1) (cq : P.cellsOf q = 1) (hb1 : P.bytesOf q = 1)
    (hall : ∀ n ∈ DataW.weights P t d, n ≤ reachBytes) (h : DataW.Trod enc P W 0 (fun _ => true) true t (.slice a len cap) d pl) :
    ∃ A L C Z, IsParts W a len A L C Z ∧ len ≤ cap ∧ cap ≤ maxLen ∧ (a = none → cap = 0) := by
  obtain ⟨fuel, hf⟩ := h
  rcases Deep.open_int_rows ht he hq ce cq hf with ⟨hcs, _⟩ | ⟨x, l, c, A, L, C, Z, hcs, _, hl, hm, hx, hr⟩
  · simp [Value.cells] at hcs
    obtain ⟨rfl, rfl, rfl⟩ := hcs
    exact ⟨fun _ => none, fun _ => 0, fun _ => 0, fun _ => [], ⟨fun h => by omega, fun r hr => by omega⟩, Nat.le_refl _, Nat.zero_le _, fun _ => rfl⟩
  · simp [Value.cells] at hcs
    obtain ⟨rfl, rfl, rfl⟩ := hcs
    simp only [Prod.mk.injEq] at hx
    obtain ⟨hd, _⟩ := hx
    have hcell : ∀ r, r < len → W.cell? (x.add r) = some (.slice (A r) (L r) (C r)) := fun r hr' => (hr r (by omega)).1
    have hC : ∀ r, r < len → C r ≤ 140737488351232 := by
      intro r hr'
      obtain ⟨_, _, _, hz, _, hnone, _⟩ := hr r (by omega)
      cases hA : A r with
      | none => rw [hnone hA]; omega
      | some a' =>
        have hw : C r ≤ reachBytes := by
          refine hall _ ?_
          rw [hd]
          simp only [DataW.weights, ht]
          refine List.mem_cons_of_mem _ (List.mem_append_left _ (weightsAll_mem (d := Deep.intRow .u8 (A r) (L r) (Z r)) (List.mem_map.2 ⟨r, List.mem_range.2 hr', rfl⟩) ?_))
          rw [hA]
          simp only [Deep.intRow, DataW.weights, he, hb1, Nat.mul_one]
          have hlr := (hr r (by omega)).2.1
          refine List.mem_cons.2 (.inl ?_)
          simp [ChangeShapes.lits]
          omega
        simpa [reachBytes] using hw
    refine ⟨A, L, C, fun r => ((Z r).take (L r)).map Int.toNat, ⟨fun h0 => ?_, fun r hr' => ?_⟩, hl, hm, fun h => by cases h⟩
    · obtain ⟨b, off, spot⟩ := x
      have h1 := hcell 0 h0
      have hspot : spot = none := by simpa [Addr.add] using World.cell?_spot h1
      subst hspot
      refine ⟨b, off, rfl, by simpa [add_at] using block_lt_of_cell h1, fun r hr' => ?_⟩
      rw [← add_at]; exact hcell r hr'
    · obtain ⟨_, h2, h3, hz, hwz, hnone, hsome⟩ := hr r (by omega)
      have hw : ∀ n ∈ Z r, 0 ≤ n ∧ n ≤ 255 := fun n hn => by
        have := hwz n hn
        simp [Lit.wf, IntKind.min, IntKind.max, IntKind.signed, IntKind.bits] at this
        omega
      have hCr := hC r hr'
      refine ⟨h2, hnone, ⟨by simp; omega, by omega, ?_, fun h0 => ?_⟩, by omega⟩
      · intro y hy
        simp only [List.mem_map] at hy
        obtain ⟨n, hn, rfl⟩ := hy
        have := hw n (List.mem_of_mem_take hn)
        omega
      · cases hA : A r with
        | none => have := hnone hA; omega
        | some a' =>
          obtain ⟨_, hc⟩ := hsome a' hA
          obtain ⟨b, off, spot⟩ := a'
          have h1 := hc 0 (by omega)
          have hspot : spot = none := by simpa [Addr.add] using World.cell?_spot h1
          subst hspot
          refine ⟨b, off, rfl, by simpa [add_at] using block_lt_of_cell h1, fun i hi => ?_⟩
          have h5 := hc i (by omega)
          rw [add_at] at h5
          rw [h5]
          have hin : i < (Z r).length := by omega
          have hmem : (Z r)[i] ∈ Z r := List.getElem_mem hin
          have := hw _ hmem
          simp [hi, hin]
          omega
end Go.Proofs.Ytpkgfajphkabcaa
