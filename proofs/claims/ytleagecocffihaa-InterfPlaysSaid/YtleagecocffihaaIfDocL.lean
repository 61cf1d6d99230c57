/-
  Laws for the document's index: append as a step that tells what it may touch; lists of different element types lie apart; a row of an owned list written in place.
-/
import Derived.Test.YtleagecocffihaaIfDocP
import Derived.Deep.RegionHeld3
import Derived.Laws.CopyRow
namespace Go.Proofs.Ytleagecocffihaa
open Go.RowKit Go.Maps
set_option linter.unusedVariables false
set_option linter.unusedSimpArgs false

theorem own_far {w : World} {B B' s s' n n' : Nat} {e e' : TypeId} {v v' : Value} {xs xs' : List Value} (h : w.ownsRow B e s v n xs) (h' : w.ownsRow B' e' s' v' n' xs') (he : e ≠ e') : v'.ownBlock = none ∨ v'.ownBlock ≠ v.ownBlock := by
  obtain ⟨_, h1⟩ := h
  obtain ⟨_, h2⟩ := h'
  rcases h2 with ⟨rfl, _⟩ | ⟨g', c', cur', rfl, _, hh', _⟩
  · exact .inl rfl
  · right
    rcases h1 with ⟨rfl, _⟩ | ⟨g, c, cur, rfl, _, hh, _⟩
    · intro hc; cases hc
    · intro hc
      have hg : g' = g := by simpa [Value.ownBlock] using hc
      rw [hg, hh] at hh'
      injection hh' with hh'
      injection hh' with _ h2 _
      exact he h2
theorem holds_far {w w' : World} {B s n g : Nat} {e e' : TypeId} {v : Value} {xs L : List Value} (h : w.ownsRow B e s v n xs) (hg : w.grownBy w' v.ownBlock) (hh : Holds w g e' L) (he : e ≠ e') : Holds w' g e' L := by
  unfold Holds at hh ⊢
  rw [hg.block g (Array.getElem?_eq_some_iff.1 hh).1, hh]
  intro hc
  obtain ⟨_, h1⟩ := h
  rcases h1 with ⟨rfl, _⟩ | ⟨g1, c, cur, rfl, _, h1, _⟩
  · cases hc
  · have : g = g1 := by simpa [Value.ownBlock] using hc
    rw [← this, hh] at h1
    injection h1 with h1
    injection h1 with _ h2 _
    exact he h2.symm
theorem step_append_grown {P : Program} {ops : Array Oper} {o : Oper} {a : Act} {w : World} {K : Act → World → Prop} {Q : Exit → Act → World → Prop} {E : Prop}
    (hg : o.guard = none) (s x : Operand) (t : TypeId) (hop : o.op = Op.call { callee := Callee.builtin Builtin.append, args := #[s, x], argTypes := #[t, t] })
    (base : Nat) (e : TypeId) (z : Value) (size bytes : Nat) (ht : P.underlying t = some (.slice e)) (hi : (P.info? e).map (fun i => (i.zero, i.size, i.bytes)) = some (some z, size, bytes)) (hzs : z.cells.size = size) (hsz : 0 < size)
    (v : Value) (n : Nat) (xs : List Value) (hs : a.eval s = v) (hown : w.ownsRow base e size v n xs)
    (gx : Nat) (L : List Value) (hx : a.eval x = .slice (some ⟨gx, 0, none⟩) 1 1) (hsrc : Holds w gx e L) (hL : L.length = size) (h1 : ∀ u ∈ L, u.oneCell' = true)
    (h63 : n + 1 ≤ maxLen) (hbytes : (n + 1) * bytes ≤ 140737488355328) (hbase : base ≤ w.heap.size)
    (hK : ∀ v' w', w'.ownsRow base e size v' (n + 1) (xs ++ L) → Below base w w' → w.grownBy w' v.ownBlock → K (a.put o.dst v') w') :
    if Region.wanted o (yielded ops a.tmps) = true then Oper.wp P o a w K Q else E := by
  have hw : Region.wanted o (yielded ops a.tmps) = true := by simp [Region.wanted, hg]
  rw [if_pos hw]
  obtain ⟨i, hi0, hz, hsize, hby⟩ := info_parts hi
  have hnews : ∀ j u, L[j]? = some u → w.cell? ((⟨gx, 0, none⟩ : Addr).add j) = some u := by
    intro j u hu
    rw [add_at, Nat.zero_add, hsrc.cell]; exact hu
  obtain ⟨v', w', hrun, r1, r2, _⟩ := run_append_own (P := P) w base t o.type e i z size bytes ht hi0 hz hsize hby hzs hsz v n xs hown ⟨gx, 0, none⟩ 1 1 L (by omega) hnews h1 h63 hbytes hbase
  unfold Oper.wp
  simp [execOp, hop, resolve, invoke, builtin, hs, hx, hrun, Result.andThen]
  exact hK v' w' r1 ((Below.refl _ _).grown r2 hbase fun k hk => (hown.lt k hk).1) r2
/-- A block told whole in which rows begin: what a row becomes when it is written anew. -/
theorem flat_set {s n k : Nat} {V W : Nat → List Value} {cur cs : List Value} (hs : 0 < s) (hk : k < n) (hv : ∀ i, (V i).length = s) (hw : ∀ i, (W i).length = s) (hcur : cur.take (n * s) = flat s n V) (hlen : n * s ≤ cur.length) (hcs : cs = W k) (ho : ∀ i, i < n → i ≠ k → W i = V i) :
    (cur.take (k * s) ++ cs ++ cur.drop (k * s + s)).take (n * s) = flat s n W := by
  have hks : (k + 1) * s ≤ n * s := Nat.mul_le_mul_right s (by omega)
  rw [Nat.add_mul, Nat.one_mul] at hks
  apply List.ext_getElem?
  intro t
  by_cases ht : t < n * s
  · rw [List.getElem?_take_of_lt ht]
    have hm := Nat.mod_lt t hs
    have e : t / s * s + t % s = t := by rw [Nat.mul_comm]; exact Nat.div_add_mod t s
    have hi : t / s < n := Nat.div_lt_of_lt_mul (by rwa [Nat.mul_comm] at ht)
    have h1 := flat_at s n W (t / s) (t % s) hi hm (hw _)
    have h2 := flat_at s n V (t / s) (t % s) hi hm (hv _)
    rw [e] at h1 h2
    rw [h1]
    have h3 : cur[t]? = (V (t / s))[t % s]? := by rw [← h2, ← hcur, List.getElem?_take_of_lt ht]
    have hl1 : (cur.take (k * s)).length = k * s := by rw [List.length_take]; omega
    have hl2 : cs.length = s := by rw [hcs]; exact hw k
    by_cases hlt : t < k * s
    · have hne : t / s ≠ k := fun hc => by
        have : k * s ≤ t := by rw [← e, hc]; omega
        omega
      rw [List.append_assoc, List.getElem?_append_left (by omega), List.getElem?_take_of_lt hlt, h3, ho _ hi hne]
    · by_cases hlt2 : t < k * s + s
      · have htk : t / s = k := by
          have h4 : k ≤ t / s := (Nat.le_div_iff_mul_le hs).2 (by omega)
          have h5 : t / s < k + 1 := Nat.div_lt_of_lt_mul (by rw [Nat.mul_comm, Nat.add_mul]; omega)
          omega
        rw [List.append_assoc, List.getElem?_append_right (by omega), List.getElem?_append_left (by omega), hl1, htk, ← hcs]
        congr 1
        rw [htk] at e
        omega
      · have hne : t / s ≠ k := fun hc => by rw [hc] at e; omega
        rw [List.getElem?_append_right (by rw [List.length_append]; omega), List.length_append, hl1, hl2, List.getElem?_drop, show k * s + s + (t - (k * s + s)) = t by omega, h3, ho _ hi hne]
  · rw [List.getElem?_eq_none (by rw [List.length_take]; omega), List.getElem?_eq_none (by rw [flat_len]; omega)]
/-- A row of an owned list written in place. -/
theorem step_store_row {P : Program} {ops : Array Oper} {o : Oper} {a : Act} {w : World} {K : Act → World → Prop} {Q : Exit → Act → World → Prop} {E : Prop}
    (hgd : o.guard = none) (ty : TypeId) (x y : Operand) (ho : o.op = .store ty x y) (hd : o.dst = none)
    (base : Nat) (e : TypeId) (s : Nat) (pb poff : Nat) (n c k : Nat) (V W : Nat → List Value) (hown : w.ownsRow base e s (.slice (some ⟨pb, poff, none⟩) n c) n (flat s n V)) (hs : 0 < s) (hk : k < n) (hv : ∀ i, (V i).length = s) (hw : ∀ i, (W i).length = s) (hoth : ∀ i, i < n → i ≠ k → W i = V i)
    (hx : a.eval x = .pointer (some ⟨pb, poff + k * s, none⟩)) (u : Value) (hy : a.eval y = u) (hu : u.cells.toList = W k) (hi : (P.info? ty).map (·.size) = some s) (h1 : ∀ v ∈ W k, v.oneCell' = true)
    (h : ∀ w', w'.ownsRow base e s (.slice (some ⟨pb, poff, none⟩) n c) n (flat s n W) → Touch pb w w' → K a w') :
    if Region.wanted o (yielded ops a.tmps) = true then Oper.wp P o a w K Q else E := by
  have hwd : Region.wanted o (yielded ops a.tmps) = true := by simp [Region.wanted, hgd]
  rw [if_pos hwd]
  obtain ⟨hl, hor⟩ := hown
  rcases hor with ⟨hc, _⟩ | ⟨g, cap, cur, hv0, hg, hh, hnc, hcm, hcs, htk⟩
  · cases hc
  injection hv0 with hp hn2 hc2
  simp only [Option.some.injEq, Addr.mk.injEq] at hp
  obtain ⟨rfl, rfl, _⟩ := hp
  subst hc2
  have hns : n * s ≤ c * s := Nat.mul_le_mul_right s hnc
  have hks : (k + 1) * s ≤ n * s := Nat.mul_le_mul_right s (by omega)
  rw [Nat.add_mul, Nat.one_mul] at hks
  have hst := run_storeCells_at P pb (k * s) e (W k) 0 cur w hh (by rw [hw k]; omega) h1
  have hcell : u.cells = (W k).toArray := by rw [← hu]
  have hrun : (storeVar ty ⟨pb, k * s, none⟩ u).run P w = .ok () (w.setRow pb (cur.toList.take (k * s + 0) ++ W k ++ cur.toList.drop (k * s + 0 + (W k).length)).toArray) := by
    cases hq : P.info? ty with
    | none => simp [hq] at hi
    | some i =>
      have hs2 : (W k).length = i.size := by rw [hw k]; simp [hq] at hi; omega
      simp [storeVar, sizeOf, typeInfo, hq, hcell, hs2] at hst ⊢
      exact hst
  rw [Nat.zero_add] at hx
  unfold Oper.wp execOp
  simp only [ho, hx, hy, Instr.storeAt, Instr.sureAddr, Sem.run_bind, Sem.run_pure, Result.andThen_ok, hrun]
  show K (a.put o.dst undef) _
  rw [hd]
  have hr := setRow_heap w pb cur (cur.toList.take (k * s + 0) ++ W k ++ cur.toList.drop (k * s + 0 + (W k).length)).toArray e (0, 0) hh
  refine h _ ⟨by rw [flat_len], .inr ⟨pb, c, _, rfl, hg, hr, hnc, hcm, ?_, ?_⟩⟩ ⟨rfl, rfl, rfl, by simp [World.setRow], fun j hj hne => setRow_other w pb j _ hne⟩
  · simp [hw k]
    omega
  · rw [Nat.add_zero, hw k]
    exact flat_set hs hk hv hw htk (by simp; omega) rfl hoth
/-- One cell of a block told whole. -/
theorem step_store_cell {P : Program} {ops : Array Oper} {o : Oper} {a : Act} {w : World} {K : Act → World → Prop} {Q : Exit → Act → World → Prop} {E : Prop}
    (hgd : o.guard = none) (ty : TypeId) (x y : Operand) (ho : o.op = .store ty x y) (hd : o.dst = none) (g i : Nat) (e : TypeId) (L : List Value) (hh : Holds w g e L) (hi : i < L.length)
    (hx : a.eval x = .pointer (some ⟨g, i, none⟩)) (u : Value) (hy : a.eval y = u) (hu : u.cells = #[u]) (hz : (P.info? ty).map (·.size) = some 1) (h1 : u.oneCell' = true)
    (h : ∀ w', Holds w' g e (L.set i u) → Touch g w w' → K a w') :
    if Region.wanted o (yielded ops a.tmps) = true then Oper.wp P o a w K Q else E := by
  have hwd : Region.wanted o (yielded ops a.tmps) = true := by simp [Region.wanted, hgd]
  rw [if_pos hwd]
  have hst := run_storeCells_at P g i e [u] 0 L.toArray w hh (by simp; omega) (by simpa using h1)
  have hrun : (storeVar ty ⟨g, i, none⟩ u).run P w = .ok () (w.setRow g (L.toArray.toList.take (i + 0) ++ [u] ++ L.toArray.toList.drop (i + 0 + 1)).toArray) := by
    cases hq : P.info? ty with
    | none => simp [hq] at hz
    | some z =>
      have hs2 : z.size = 1 := by simp [hq] at hz; omega
      simp [storeVar, sizeOf, typeInfo, hq, hu, hs2] at hst ⊢
      exact hst
  unfold Oper.wp execOp
  simp only [ho, hx, hy, Instr.storeAt, Instr.sureAddr, Sem.run_bind, Sem.run_pure, Result.andThen_ok, hrun]
  show K (a.put o.dst undef) _
  rw [hd]
  have hr := setRow_heap w g L.toArray (L.toArray.toList.take (i + 0) ++ [u] ++ L.toArray.toList.drop (i + 0 + 1)).toArray e (0, 0) hh
  refine h _ ?_ ⟨rfl, rfl, rfl, by simp [World.setRow], fun j hj hne => setRow_other w g j _ hne⟩
  unfold Holds
  rw [hr, List.set_eq_take_append_cons_drop, if_pos hi]
  simp
theorem ones {L : List Value} (h : L.all (·.oneCell') = true) : ∀ u ∈ L, u.oneCell' = true := fun u hu => List.all_eq_true.1 h u hu
/-- While the document's index is written: what was handed in, and its box. -/
structure NtB (w W : World) (B gd gi gc : Nat) (L : List Value) (r s : Int) (x : Cm) : Prop where
  kp : Keep B gd w W
  le : B ≤ W.heap.size
  hd : Holds W gd 53 L
  hi : Holds W gi 26 [.int .i64 r, .int .i64 s]
  hc : Holds W gc 29 [.int .i64 x.k, .int .i64 x.c, .int .i64 x.s, .string x.a, .string x.b, .string x.o, .string x.v]
  lo : gd < B ∧ B ≤ gi ∧ gi < gc
theorem NtB.below {w W W' : World} {B gd gi gc : Nat} {L : List Value} {r s : Int} {x : Cm} (h : NtB w W B gd gi gc L r s x) (hb : Below W.heap.size W W') : NtB w W' B gd gi gc L r s x :=
  ⟨h.kp.then (hb.mono h.le), Nat.le_trans h.le hb.size, h.hd.bel hb, h.hi.bel hb, h.hc.bel hb, h.lo⟩
theorem holds_kept {w w' : World} {g : Nat} {e : TypeId} {L : List Value} {row : Option Nat} (h : Holds w g e L) (hg : w.grownBy w' row) (hne : row ≠ some g) : Holds w' g e L := by
  have hl := h.lt
  unfold Holds at h ⊢
  rw [hg.block g hl (fun hc => hne hc.symm)]; exact h
theorem NtB.grown {w W W' : World} {B gd gi gc : Nat} {L : List Value} {r s : Int} {x : Cm} {row : Option Nat} (h : NtB w W B gd gi gc L r s x) (hg : W.grownBy W' row) (hr : ∀ k, row = some k → B ≤ k ∧ k < gi) : NtB w W' B gd gi gc L r s x := by
  obtain ⟨h1, h2, h3⟩ := h.lo
  refine ⟨⟨hg.os.trans h.kp.os, hg.tape.trans h.kp.tape, hg.output.trans h.kp.output, Nat.le_trans h.kp.size hg.size, fun k hk hne => (hg.block k (by have := h.le; omega) (fun hc => by have := hr k hc.symm; omega)).trans (h.kp.block k hk hne)⟩, Nat.le_trans h.le hg.size,
    holds_kept h.hd hg (fun hc => by have := hr _ hc; omega), holds_kept h.hi hg (fun hc => by have := hr _ hc; omega), holds_kept h.hc hg (fun hc => by have := hr _ hc; omega), h.lo⟩
theorem NtB.stored {w W W' : World} {B gd gi gc : Nat} {L L' : List Value} {r s : Int} {x : Cm} (h : NtB w W B gd gi gc L r s x) (hd : Holds W' gd 53 L') (ht : Touch gd W W') : NtB w W' B gd gi gc L' r s x := by
  obtain ⟨h1, h2, h3⟩ := h.lo
  exact ⟨h.kp.touched ht h.le, Nat.le_trans h.le ht.size, hd, h.hi.touch ht (by omega), h.hc.touch ht (by omega), h.lo⟩
end Go.Proofs.Ytleagecocffihaa
