/-
  A list of bytes that comes in, opened under a bound of one's own; what the bound on the bulk gives.
-/
import Derived.Test.YtpkgfajphkabcaaCommon
import Derived.Test.YtpkgfajphkabcaaRows
namespace Go.Proofs.Ytpkgfajphkabcaa
open Go.RowKit

theorem open_bytes_le {H : Type} {enc : TypeId × Value → H} {P : Program} {W : World} {t e : TypeId} {a : Option Addr} {len cap : Nat} {d : DataW H} {pl : List MemPlace} {B : Nat} (hB : B ≤ 140737488351232 := by decide)
    (hsz : ∀ elems spare, d = .slice elems spare → elems.length + spare.length ≤ B) (ht : P.underlying t = some (.slice e)) (he : P.underlying e = some (.int .u8)) (hc : P.cellsOf e = 1)
    (h : DataW.Trod enc P W 0 (fun _ => true) true t (.slice a len cap) d pl) : ∃ bs, IsBytes W a len bs ∧ cap ≤ B ∧ len ≤ cap := by
  obtain ⟨bs, h1, h2, h3⟩ := open_bytes (hsz := fun e s hd => Nat.le_trans (hsz e s hd) (Nat.le_trans hB (by decide))) ht he hc h
  refine ⟨bs, h1, ?_, h3⟩
  obtain ⟨fuel, hf⟩ := h
  rcases ChangeShapes.open_ints ht he hc hf with ⟨hcs, _⟩ | ⟨x, l, c, zs, hcs, _, hl, hm, hz, hx, _⟩
  · simp [Value.cells] at hcs
    obtain ⟨rfl, rfl, rfl⟩ := hcs
    exact Nat.zero_le _
  · simp [Value.cells] at hcs
    obtain ⟨rfl, rfl, rfl⟩ := hcs
    simp only [if_true] at hz
    simp only [Prod.mk.injEq] at hx
    have hs := hsz _ _ hx.1
    simp only [ChangeShapes.lits, List.length_map, List.length_take, List.length_drop] at hs
    omega
namespace Rows
theorem one_le {H : Type} (d : DataW H) : 1 ≤ uptoBulk d := by
  cases d with
  | lit l => cases l <;> simp [uptoBulk]
  | nil => simp [uptoBulk]
  | ptr d => simp [uptoBulk]
  | slice elems spare => simp [uptoBulk]
  | agg parts => simp [uptoBulk]
  | iface t d => simp [uptoBulk]
  | map entries => simp [uptoBulk]
  | held h => simp [uptoBulk]
theorem part_le {H : Type} {d : DataW H} {l : List (DataW H)} (h : d ∈ l) : uptoBulk d ≤ uptoBulkAll l := by
  induction l with
  | nil => cases h
  | cons x r ih =>
    simp only [uptoBulkAll]
    cases List.mem_cons.1 h with
    | inl e => subst e; omega
    | inr e => have := ih e; omega
theorem length_le {H : Type} (l : List (DataW H)) : l.length ≤ uptoBulkAll l := by
  induction l with
  | nil => simp [uptoBulkAll]
  | cons x r ih => have := one_le x; simp only [uptoBulkAll, List.length_cons]; omega
theorem slice_len {H : Type} (elems spare : List (DataW H)) : elems.length + spare.length ≤ uptoBulk (.slice elems spare) := by
  have h1 := length_le elems
  have h2 := length_le spare
  simp only [uptoBulk]
  omega
end Rows
end Go.Proofs.Ytpkgfajphkabcaa
