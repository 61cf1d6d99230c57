/-
  Blocks of rows: made, copied into, one row written.
-/
import Derived.Test.YtmpefdepcbfcdaaQuFewW
import Derived.Laws.CopyRow
import Derived.Laws.CopyOwn
namespace Go.Proofs.Ytmpefdepcbfcdaa
open Go.RowKit
set_option linter.unusedVariables false
set_option linter.unusedSimpArgs false

theorem flat_ext {s n : Nat} {L : List Value} {V : Nat → List Value} (hl : L.length = n * s) (hs : 0 < s) (hv : ∀ i, i < n → (V i).length = s) (h : ∀ i, i < n → ∀ j, j < s → L[i * s + j]? = (V i)[j]?) : L = flat s n V := by
  apply List.ext_getElem?
  intro t
  by_cases ht : t < n * s
  · have hk : t / s < n := Nat.div_lt_of_lt_mul (by rwa [Nat.mul_comm] at ht)
    have hm := Nat.mod_lt t hs
    have e : t / s * s + t % s = t := by rw [Nat.mul_comm]; exact Nat.div_add_mod t s
    have h1 := h (t / s) hk (t % s) hm
    have h2 := flat_at s n V (t / s) (t % s) hk hm (hv _ hk)
    rw [e] at h1 h2
    rw [h1, h2]
  · rw [List.getElem?_eq_none (by omega), List.getElem?_eq_none (by rw [flat_len]; omega)]
theorem splice_get {L cs : List Value} {o : Nat} (h : o + cs.length ≤ L.length) (t : Nat) : (splice L o cs)[t]? = if o ≤ t ∧ t < o + cs.length then cs[t - o]? else L[t]? := by
  unfold splice
  by_cases h1 : t < o
  · rw [if_neg (by omega), List.getElem?_append_left (by simp; omega), List.getElem?_take_of_lt h1]
  · rw [List.getElem?_append_right (by simp; omega)]
    simp only [List.length_take, Nat.min_eq_left (show o ≤ L.length by omega)]
    by_cases h2 : t < o + cs.length
    · rw [if_pos ⟨by omega, h2⟩, List.getElem?_append_left (by omega)]
    · rw [if_neg (by omega), List.getElem?_append_right (by omega), List.getElem?_drop]
      congr 1
      omega
theorem flat_put {s n k : Nat} {V : Nat → List Value} {M : List Value} (hs : 0 < s) (hv : ∀ i, i < n → (V i).length = s) (hM : M.length = s) (hk : k < n) : splice (flat s n V) (k * s) M = flat s n (fun i => if i = k then M else V i) := by
  have hks : k * s + s ≤ n * s := by
    have h3 : (k + 1) * s ≤ n * s := Nat.mul_le_mul_right s (by omega)
    rw [Nat.add_mul, Nat.one_mul] at h3; exact h3
  have hf : k * s + M.length ≤ (flat s n V).length := by rw [flat_len, hM]; exact hks
  have hl : ∀ i, i < n → (if i = k then M else V i).length = s := fun i hi => by
    by_cases e : i = k
    · rw [if_pos e]; exact hM
    · rw [if_neg e]; exact hv i hi
  refine flat_ext (by rw [length_splice _ _ _ hf, flat_len]) hs hl (fun i hi j hj => ?_)
  rw [splice_get hf, hM]
  by_cases e : i = k
  · subst e
    rw [if_pos ⟨by omega, by omega⟩, if_pos rfl]
    congr 1
    omega
  · rw [if_neg ?_, if_neg e]
    · exact flat_at s n V i j hi hj (hv i hi)
    · rintro ⟨h1, h2⟩
      rcases Nat.lt_or_gt_of_ne e with h3 | h3
      · have : (i + 1) * s ≤ k * s := Nat.mul_le_mul_right s (by omega)
        rw [Nat.add_mul, Nat.one_mul] at this; omega
      · have : (k + 1) * s ≤ i * s := Nat.mul_le_mul_right s (by omega)
        rw [Nat.add_mul, Nat.one_mul] at this; omega
theorem flat_pre {s n m : Nat} {V Z : Nat → List Value} (hs : 0 < s) (hv : ∀ i, i < m → (V i).length = s) (hz : ∀ i, i < n → (Z i).length = s) (hmn : m ≤ n) : splice (flat s n Z) 0 (flat s m V) = flat s n (fun i => if i < m then V i else Z i) := by
  have hms : m * s ≤ n * s := Nat.mul_le_mul_right s hmn
  have hf : 0 + (flat s m V).length ≤ (flat s n Z).length := by rw [flat_len, flat_len]; omega
  have hl : ∀ i, i < n → (if i < m then V i else Z i).length = s := fun i hi => by
    by_cases e : i < m
    · rw [if_pos e]; exact hv i e
    · rw [if_neg e]; exact hz i hi
  refine flat_ext (by rw [length_splice _ _ _ hf, flat_len]) hs hl (fun i hi j hj => ?_)
  rw [splice_get hf, flat_len, Nat.zero_add, Nat.sub_zero]
  by_cases e : i < m
  · have : (i + 1) * s ≤ m * s := Nat.mul_le_mul_right s (by omega)
    rw [Nat.add_mul, Nat.one_mul] at this
    rw [if_pos ⟨Nat.zero_le _, by omega⟩, if_pos e]
    exact flat_at s m V i j e hj (hv i e)
  · have : m * s ≤ i * s := Nat.mul_le_mul_right s (by omega)
    rw [if_neg (by omega), if_neg e]
    exact flat_at s n Z i j hi hj (hz i hi)
/-- make([]T, n): a new block of n zero rows. -/
theorem wpList_make_rows {P : Program} (w : World) {ops : Array Oper} {rest : List Oper} {o : Oper} {a : Act} {Q : Exit → Act → World → Prop}
    (hg : o.guard = none) (l c : Operand) (t : TypeId) (hop : o.op = Op.makeSlice t l c) (e : TypeId) (z : Value) (s bytes : Nat) (h1 : P.underlying t = some (.slice e))
    (h2 : (P.info? e).map (fun i => (i.zero, i.size, i.bytes)) = some (some z, s, bytes)) (Z : List Value) (hz : z.cells = Z.toArray) (hZ : Z.length = s) (hs : 0 < s) (kl kc : IntKind) (L C : Int) (n : Nat) (hl : a.eval l = .int kl L) (hc : a.eval c = .int kc C) (hL : L = (n : Int)) (hC : C = (n : Int))
    (b2 : bytes * n ≤ 281474976710656) (b3 : n ≤ maxLen)
    (hK : ∀ w', Holds w' w.heap.size e (flat s n fun _ => Z) → Below w.heap.size w w' → w'.heap.size = w.heap.size + 1 → wpList P ops Q rest (a.put o.dst (.slice (some ⟨w.heap.size, 0, none⟩) n n)) w') :
    wpList P ops Q (o :: rest) a w := by
  refine wpList_plain hg fun K hK' => ?_
  obtain ⟨i, hi, hz0, hz1, hz2⟩ := info_parts h2
  subst hL hC
  have hb : i.bytes * n ≤ 281474976710656 := by rw [hz2]; exact b2
  have hr := run_make (P := P) w t e i z h1 hi hz0 kl kc (n : Int) (n : Int) (by omega) (by omega) (by rw [← Int.natCast_mul]; omega) (by unfold maxLen at b3; omega)
  unfold Oper.wp
  simp only [Int.toNat_natCast] at hr
  simp [execOp, hop, hl, hc, hr, Result.andThen]
  refine hK' _ _ (hK _ ?_ ?_ (by simp))
  · unfold Holds
    rw [hz1, hz]
    have e2 : madeCells Z.toArray (n * s) = (flat s n fun _ => Z).toArray := by
      apply Array.ext_getElem?
      intro t
      by_cases ht : t < n * s
      · simp [madeCells, flat, ht, hZ, List.getElem?_range, List.getD_eq_getElem?_getD, List.getElem?_eq_getElem (show t % s < Z.length by rw [hZ]; exact Nat.mod_lt t hs), getElem!_pos, Nat.mod_lt t hs]
      · rw [Array.getElem?_eq_none (by simp [size_madeCells]; omega), Array.getElem?_eq_none (by simp [flat_len]; omega)]
    rw [e2]
    show (w.heap.push _)[w.heap.size]? = _
    simp
  · exact (Below.refl _ _).alloc (Nat.le_refl _) _
theorem run_copy_rows {P : Program} (w : World) (dT sT ty elem : TypeId) (g dLen dCap : Nat) (a : Addr) (sLen sCap : Nat) (cur : Array Value) (t : TypeId) (cs : List Value) (s : Nat)
    (hu : P.underlying dT = some (.slice elem)) (hs : (P.info? elem).map (·.size) = some s)
    (hg : w.heap[g]? = some (.cells cur t (0, 0))) (hn : cs.length = Nat.min sLen dLen * s)
    (hsrc : ∀ j v, cs[j]? = some v → w.cell? (a.add j) = some v) (hfit : 0 + cs.length ≤ cur.size) (h1 : ∀ v ∈ cs, v.oneCell' = true) :
    (Builtin.copy_ #[dT, sT] ty #[.slice (some ⟨g, 0, none⟩) dLen dCap, .slice (some a) sLen sCap]).run P w =
      .ok (goInt (Nat.min sLen dLen)) (w.setRow g (cur.toList.take 0 ++ cs ++ cur.toList.drop (0 + cs.length)).toArray) := by
  have hl := run_loadCells_list (P := P) w a cs hsrc
  have hst := run_storeCells_at P g 0 t cs 0 cur w hg (by simpa using hfit) h1
  cases hq : P.info? elem with
  | none => simp [hq] at hs
  | some i =>
    have hi : i.size = s := by simpa [hq] using hs
    simp [Builtin.copy_, run_underlying hu, Builtin.lenOf, Builtin.firstCells, sizeOf, typeInfo, hq, hi, ← hn, hl, hst]
/-- copy into a block of rows, from its head. -/
theorem wpList_copy_rows {P : Program} {w : World} {ops : Array Oper} {rest : List Oper} {o : Oper} {a : Act} {Q : Exit → Act → World → Prop} (hgd : o.guard = none) (d s : Operand) (dT sT : TypeId)
    (ho : o.op = .call { callee := .builtin .copy, args := #[d, s], argTypes := #[dT, sT] }) (elem : TypeId) (hu : P.underlying dT = some (.slice elem)) (sz : Nat) (hsz : (P.info? elem).map (·.size) = some sz)
    (g dLen dCap : Nat) (ad : Addr) (sLen sCap : Nat) (hd : a.eval d = .slice (some ⟨g, 0, none⟩) dLen dCap) (hs : a.eval s = .slice (some ad) sLen sCap)
    (cur : List Value) (t : TypeId) (hg : Holds w g t cur) (cs : List Value) (hn : cs.length = Nat.min sLen dLen * sz)
    (hsrc : ∀ (j : Nat) v, cs[j]? = some v → w.cell? (ad.add j) = some v) (hfit : cs.length ≤ cur.length) (h1 : ∀ v ∈ cs, v.oneCell' = true)
    (h : ∀ w', Holds w' g t (splice cur 0 cs) → Below g w w' → w'.heap.size = w.heap.size → wpList P ops Q rest (a.put o.dst (goInt (Nat.min sLen dLen))) w') : wpList P ops Q (o :: rest) a w := by
  refine wpList_plain hgd fun K hK => ?_
  have hrun := run_copy_rows (P := P) w dT sT o.type elem g dLen dCap ad sLen sCap cur.toArray t cs sz hu hsz hg hn hsrc (by simpa using hfit) h1
  unfold Oper.wp
  simp only [execOp, ho, resolve, invoke, builtin, hd, hs]
  simp [execOp, ho, resolve, invoke, builtin, hd, hs, hrun, Result.andThen]
  refine hK _ _ (h _ ?_ (below_setRow (Below.refl _ _) (Nat.le_refl _) _) (by simp [World.setRow]))
  simpa [splice, Holds] using setRow_heap w g _ _ t _ hg
/-- A whole value into one row of a block. -/
theorem wpList_store_splice {P : Program} {ops : Array Oper} {rest : List Oper} {op : Oper} {a : Act} {w : World} {Q : Exit → Act → World → Prop} (hgd : op.guard = none) (ty : TypeId) (x y : Operand) (ho : op.op = .store ty x y) (hd : op.dst = none)
    (g o : Nat) (cur : List Value) (t : TypeId) (hg : Holds w g t cur) (hx : a.eval x = .pointer (some ⟨g, o, none⟩)) (cs : List Value) (hy : a.eval y = .agg cs.toArray)
    (hi : (P.info? ty).map (·.size) = some cs.length) (hfit : o + cs.length ≤ cur.length) (h1 : ∀ v ∈ cs, v.oneCell' = true)
    (h : ∀ w', Holds w' g t (splice cur o cs) → Below g w w' → w'.heap.size = w.heap.size → (∀ k, k ≠ g → w'.heap[k]? = w.heap[k]?) → wpList P ops Q rest a w') : wpList P ops Q (op :: rest) a w :=
  wpList_plain hgd fun _ hK => by
    have hst := run_storeCells_at P g o t cs 0 cur.toArray w hg (by simpa using hfit) h1
    have hrun : (storeVar ty ⟨g, o, none⟩ (.agg cs.toArray)).run P w = .ok () (w.setRow g (cur.toArray.toList.take (o + 0) ++ cs ++ cur.toArray.toList.drop (o + 0 + cs.length)).toArray) := by
      cases hq : P.info? ty with
      | none => simp [hq] at hi
      | some i =>
        have hs : cs.length = i.size := by simp [hq] at hi; omega
        simp [storeVar, sizeOf, typeInfo, hq, Value.cells, hs] at hst ⊢
        exact hst
    unfold Oper.wp execOp
    simp only [ho, hx, hy, Instr.storeAt, Instr.sureAddr, Sem.run_bind, Sem.run_pure, Result.andThen_ok, hrun]
    refine hK _ _ ?_
    rw [hd]
    refine h _ ?_ (below_setRow (Below.refl _ _) (Nat.le_refl _) _) (by simp [World.setRow]) (fun k hk => setRow_other w g k _ hk)
    simpa [splice, Holds] using setRow_heap w g _ _ t _ hg
end Go.Proofs.Ytmpefdepcbfcdaa
