/-
  Slices of the call's own, grown by append: the kit's law in the words of XCommon; a block known whole.
-/
import Derived.Test.YtleagecocffihaaCommon
import Derived.Laws.AppendOwnNone
namespace Go.Proofs.Ytleagecocffihaa
open Go.RowKit

theorem wpList_append_cells {P : Program} {w : World} {ops : Array Oper} {rest : List Oper} {o : Oper} {a : Act} {Q : Exit → Act → World → Prop} (hgd : o.guard = none) (s x : Operand) (t : TypeId)
    (ho : o.op = .call { callee := .builtin .append, args := #[s, x], argTypes := #[t, t] })
    (base : Nat) (e : TypeId) (z : Value) (size bytes : Nat) (ht : P.underlying t = some (.slice e)) (hi : (P.info? e).map (fun i => (i.zero, i.size, i.bytes)) = some (some z, size, bytes)) (hzs : z.cells.size = size) (hsz : 0 < size)
    (v : Value) (n : Nat) (xs : List Value) (hs : a.eval s = v) (hown : w.ownsRow base e size v n xs)
    (sp : Option Addr) (m c : Nat) (news : List Value) (hx : a.eval x = .slice sp m c) (hl : news.length = m * size) (hsrc : Reads w sp news) (hnil : sp = none → c = 0) (h1 : ∀ u ∈ news, u.oneCell' = true)
    (h63 : n + m ≤ maxLen) (hbytes : (n + m) * bytes ≤ 140737488355328) (hbase : base ≤ w.heap.size)
    (h : ∀ v' w', w'.ownsRow base e size v' (n + m) (xs ++ news) → Below base w w' → w.grownBy w' v.ownBlock → wpList P ops Q rest (a.put o.dst v') w') : wpList P ops Q (o :: rest) a w := by
  obtain ⟨i, hi0, hz, hsize, hby⟩ := info_parts hi
  cases sp with
  | none =>
    obtain rfl := hnil rfl
    have hm : news = [] := by
      by_cases h0 : 0 < news.length
      · obtain ⟨b, off, hb, _⟩ := hsrc h0; cases hb
      · exact List.eq_nil_of_length_eq_zero (by omega)
    subst hm
    have hm0 : m = 0 := by
      have hl' : m * size = 0 := by simpa using hl.symm
      rcases Nat.mul_eq_zero.1 hl' with h | h <;> omega
    subst hm0
    refine wpList_append_own_none hgd s x t ho base e i size ht hi0 v n xs hs hown hx ?_
    exact h v w (by simpa using hown) (Below.refl _ _) ⟨rfl, rfl, rfl, Nat.le_refl _, fun _ _ _ => rfl⟩
  | some ad =>
    refine wpList_append_own w hgd s x t ho base e i z size bytes ht hi0 hz hsize hby hzs hsz v n xs hs hown ad m c news hx hl ?_ h1 h63 hbytes hbase ?_
    · intro j u hu
      have h0 : 0 < news.length := by have := (List.getElem?_eq_some_iff.1 hu).1; omega
      obtain ⟨b, off, hb, _, hc⟩ := hsrc h0
      simp only [Option.some.injEq] at hb
      subst hb
      rw [add_at]; exact hc j u hu
    · intro v' w' ho' hg _
      exact h v' w' ho' ((Below.refl _ _).grown hg hbase fun k hk => (hown.lt k hk).1) hg

/-- A slice that is owned and not empty: its block, told whole. -/
theorem owns_holds {w : World} {base e n : Nat} {v : Value} {xs : List Value} (h : w.ownsRow base e 1 v n xs) (hn : 0 < n) :
    ∃ g cap rest, v = .slice (some ⟨g, 0, none⟩) n cap ∧ base ≤ g ∧ Holds w g e (xs ++ rest) ∧ n ≤ cap ∧ cap ≤ maxLen ∧ xs.length = n := by
  obtain ⟨h1, h2⟩ := h
  rcases h2 with ⟨_, h0⟩ | ⟨g, cap, cur, hv, hb, hh, hc, hm, hs, ht⟩
  · omega
  · refine ⟨g, cap, cur.toList.drop n, hv, hb, ?_, hc, hm, by omega⟩
    unfold Holds
    rw [← ht, Nat.mul_one, List.take_append_drop, hh]
theorem lit_owns (w : World) (e : TypeId) (base : Nat) (hb : base ≤ w.heap.size) : (w.alloc (.cells #[] e)).ownsRow base e 1 (.slice (some ⟨w.heap.size, 0, none⟩) 0 0) 0 [] := by
  simpa using World.ownsRow_lit (size := 1) w #[] 0 hb (by unfold maxLen; omega) (by simp)
theorem getElem_cells8 (l : List Nat) (i : Nat) (h : i < l.length) : (cells8 l)[i]? = some (.int .u8 ((l.getD i 0 : Nat) : Int)) := by simp [cells8, h]
theorem set_cells8 (l : List Nat) (i x : Nat) : (cells8 l).set i (.int .u8 (x : Int)) = cells8 (l.set i x) := by simp [cells8, List.map_set]
/-- A nil list that is handed in has no room. -/
theorem open_nil {H : Type} {enc : TypeId × Value → H} {P : Program} {W : World} {t e : TypeId} {a : Option Addr} {len cap : Nat} {d : DataW H} {pl : List MemPlace}
    (ht : P.underlying t = some (.slice e)) (he : P.underlying e = some (.int .u8)) (hc : P.cellsOf e = 1)
    (h : DataW.Trod enc P W 0 (fun _ => true) true t (.slice a len cap) d pl) : a = none → cap = 0 := by
  obtain ⟨fuel, hf⟩ := h
  rcases ChangeShapes.open_ints ht he hc hf with ⟨hcs, _⟩ | ⟨x, l, c, zs, hcs, _⟩
  · simp [Value.cells] at hcs
    obtain ⟨rfl, rfl, rfl⟩ := hcs
    exact fun _ => rfl
  · simp [Value.cells] at hcs
    obtain ⟨rfl, rfl, rfl⟩ := hcs
    intro h; cases h
end Go.Proofs.Ytleagecocffihaa
