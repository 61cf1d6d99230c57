/-
  The index' map: its keys (instances), its elements (noted ones), and the list that it agrees with. Plain, but for the types' rows.
-/
import Derived.Test.YtleagecocffihaaClP
import Derived.Maps.RangeWalk
import Derived.Maps.OwnSet
import Derived.DeepKeys4
namespace Go.Proofs.Ytleagecocffihaa
open Go.RowKit Go.Maps
set_option linter.unusedVariables false
set_option linter.unusedSimpArgs false

theorem keyRow : (26 : TypeId) < Try.prog.types.size := of_decide_eq_true (by kernel_rfl)
theorem keyLaid : laidOutB Try.prog = true := by kernel_rfl
theorem keyLaw : Keyed Try.prog 26 := Keyed.of_law (deep_law_laid keyLaid (m := 2) (by omega) keyRow (by kernel_rfl) (by kernel_rfl))
theorem keyCells : Try.prog.cellsOf 26 = 2 := by kernel_rfl
theorem intCells : Try.prog.cellsOf 3 = 1 := by kernel_rfl
theorem keyType : Try.prog.keyType 26 = true := by kernel_rfl

/-- An instance as a value, and what it reads as where it is a key. -/
def instV (r s : Int) : Value := .agg #[.int .i64 r, .int .i64 s]
def keyL (r s : Int) : Lit := .string (keyBytes [.int .i64 r, .int .i64 s])
theorem keyLits_inst (d : Nat) (r s : Int) (hr : (Lit.int .i64 r).wf = true) (hs : (Lit.int .i64 s).wf = true) : Try.prog.keyLits (d + 2) 26 [.int .i64 r, .int .i64 s] = some [.int .i64 r, .int .i64 s] := by
  have h3 : ∀ n, (Lit.int .i64 n).wf = true → Try.prog.keyLits (d + 1) 3 [.int .i64 n] = some [.int .i64 n] := fun n hn => by
    unfold Program.keyLits
    rw [Try.underlying3]
    simp [hn]
  unfold Program.keyLits
  rw [Try.underlying26]
  simp [keyCells, intCells, h3 r hr, h3 s hs]
theorem key_inst (r s : Int) (hr : (Lit.int .i64 r).wf = true) (hs : (Lit.int .i64 s).wf = true) : keyOf Try.prog 26 (instV r s) = some (keyL r s) := by
  have hz : ∃ d, Try.prog.types.size + 1 = d + 2 := by
    obtain ⟨d, hd⟩ := Nat.exists_eq_add_of_le (show 1 ≤ Try.prog.types.size from Nat.le_trans (by decide) (Nat.le_of_lt keyRow))
    exact ⟨d, by rw [hd, Nat.add_comm 1 d]⟩
  obtain ⟨d, hd⟩ := hz
  unfold keyOf
  rw [Try.underlying26]
  have hf : (instV r s).formed Try.prog 26 = true := by
    simp [instV, Value.formed, Try.underlying26, keyCells]
  simp only [keyType, hf, hd, Bool.and_self, if_true]
  simp only [instV, Value.cells, Array.toList]
  rw [keyLits_inst d r s hr hs]
  rfl
theorem key_inv {v : Value} {l : Lit} (h : keyOf Try.prog 26 v = some l) : ∃ r s, v = instV r s ∧ (Lit.int .i64 r).wf = true ∧ (Lit.int .i64 s).wf = true := by
  unfold keyOf at h
  rw [Try.underlying26] at h
  simp only at h
  split at h
  case isFalse => cases h
  rename_i hf
  simp only [Bool.and_eq_true] at hf
  obtain ⟨_, hf⟩ := hf
  rw [Option.map_eq_some_iff] at h
  obtain ⟨ls, h, _⟩ := h
  unfold Value.formed at hf
  rw [Try.underlying26] at hf
  cases v <;> simp only [Bool.false_eq_true] at hf
  rename_i cs
  rw [keyCells, beq_iff_eq] at hf
  obtain ⟨cl⟩ := cs
  match cl, hf with
  | [c0, c1], _ =>
    have h3 : ∀ (d : Nat) (c : Value) (x : List Lit), Try.prog.keyLits d 3 [c] = some x → ∃ n, c = .int .i64 n ∧ (Lit.int .i64 n).wf = true := fun d c x hx => by
      cases d
      · simp [Program.keyLits] at hx
      unfold Program.keyLits at hx
      rw [Try.underlying3] at hx
      cases c <;> simp at hx
      obtain ⟨⟨rfl, hw⟩, _⟩ := hx
      exact ⟨_, rfl, hw⟩
    unfold Program.keyLits at h
    rw [Try.underlying26] at h
    simp [Value.cells, keyCells, intCells, Option.bind_eq_some_iff] at h
    obtain ⟨x0, h0, y, ⟨x1, h1, _⟩, _⟩ := h
    obtain ⟨r, rfl, hr⟩ := h3 _ _ _ h0
    obtain ⟨t, rfl, ht⟩ := h3 _ _ _ h1
    exact ⟨r, t, rfl, hr, ht⟩
/-- What is noted: a command and its number. -/
def notedV (x : Cm) (q : Int) : Value := .agg #[.int .i64 x.k, .int .i64 x.c, .int .i64 x.s, .string x.a, .string x.b, .string x.o, .string x.v, .int .i64 q]
structure Ent where
  r : Int
  s : Int
  c : Cm
  q : Int
def Ent.key (e : Ent) : Lit := keyL e.r e.s
def Ent.val (e : Ent) : Value := notedV e.c e.q
def readN (v : Value) : Option (DataW Value × List MemPlace) := some (.held v, [])
/-- The list l says what is in the map that reads as D. -/
structure Lists (D : DataW Value) (l : List Ent) : Prop where
  tidy : Tidy D
  size : Maps.size D = l.length
  apart : l.Pairwise fun x y => ¬ (x.r = y.r ∧ x.s = y.s)
  has : ∀ k, Maps.has D k = l.any fun e => e.key.sameKey k
  at_ : ∀ e ∈ l, ∀ z, D.atKey e.key z = .held e.val
theorem keyL_inj {r s r' s' : Int} (hr : (Lit.int .i64 r).wf = true) (hs : (Lit.int .i64 s).wf = true) (hr' : (Lit.int .i64 r').wf = true) (hs' : (Lit.int .i64 s').wf = true) (h : keyL r s = keyL r' s') : r = r' ∧ s = s' := by
  have := keyLaw.inj (key_inst r s hr hs) (by rw [h]; exact key_inst r' s' hr' hs')
  simp only [instV, Value.agg.injEq, Array.mk.injEq, List.cons.injEq, Value.int.injEq] at this
  exact ⟨this.1.2, this.2.1.2⟩
theorem keyL_is (r s : Int) : WideAt.IsKeyLit (keyL r s) := by unfold keyL; trivial
theorem Lists.empty : Lists (.map []) [] := ⟨tidy_empty, rfl, List.Pairwise.nil, fun k => rfl, fun e he => by cases he⟩
/-- Noted: in the place of what was noted there, or behind all. -/
def putE (l : List Ent) (e : Ent) : List Ent := if l.any (fun x => x.r == e.r && x.s == e.s) then l.map (fun x => if x.r = e.r ∧ x.s = e.s then e else x) else l ++ [e]
/-- All are keys. -/
def WfE (l : List Ent) : Prop := ∀ e ∈ l, (Lit.int .i64 e.r).wf = true ∧ (Lit.int .i64 e.s).wf = true
theorem sameKey_inst {r s r' s' : Int} (hr : (Lit.int .i64 r).wf = true) (hs : (Lit.int .i64 s).wf = true) (hr' : (Lit.int .i64 r').wf = true) (hs' : (Lit.int .i64 s').wf = true) : (keyL r s).sameKey (keyL r' s') = (r == r' && s == s') := by
  by_cases h : r = r' ∧ s = s'
  · obtain ⟨rfl, rfl⟩ := h
    rw [WideAt.sameKey_self (keyL_is r s)]
    simp
  · rw [Maps.sameKey_ne (fun e => h (keyL_inj hr hs hr' hs' e))]
    symm
    rw [Bool.and_eq_false_iff, beq_eq_false_iff_ne, beq_eq_false_iff_ne]
    by_cases h1 : r = r'
    · exact .inr fun h2 => h ⟨h1, h2⟩
    · exact .inl h1
theorem putE_wf {l : List Ent} (h : WfE l) {e : Ent} (he : (Lit.int .i64 e.r).wf = true ∧ (Lit.int .i64 e.s).wf = true) : WfE (putE l e) := by
  unfold putE
  split
  · intro x hx
    obtain ⟨y, hy, rfl⟩ := List.mem_map.1 hx
    split
    · exact he
    · exact h y hy
  · intro x hx
    rcases List.mem_append.1 hx with hx | hx
    · exact h x hx
    · rw [List.mem_singleton.1 hx]; exact he
theorem Lists.has_inst {D : DataW Value} {l : List Ent} (h : Lists D l) (hw : WfE l) (r s : Int) (hr : (Lit.int .i64 r).wf = true) (hs : (Lit.int .i64 s).wf = true) : Maps.has D (keyL r s) = l.any fun x => x.r == r && x.s == s := by
  rw [h.has]
  rw [Bool.eq_iff_iff, List.any_eq_true, List.any_eq_true]
  constructor
  · rintro ⟨x, hx, hk⟩
    exact ⟨x, hx, by rw [← sameKey_inst (hw x hx).1 (hw x hx).2 hr hs]; exact hk⟩
  · rintro ⟨x, hx, hk⟩
    exact ⟨x, hx, by rw [Ent.key, sameKey_inst (hw x hx).1 (hw x hx).2 hr hs]; exact hk⟩
theorem Lists.put {D : DataW Value} {l : List Ent} (h : Lists D l) (hw : WfE l) (e : Ent) (he : (Lit.int .i64 e.r).wf = true ∧ (Lit.int .i64 e.s).wf = true) : Lists (D.put e.key (.held e.val)) (putE l e) := by
  have hi : IsMap D := h.tidy.isMap
  have hk : WideAt.IsKeyLit e.key := keyL_is _ _
  have hh := h.has_inst hw e.r e.s he.1 he.2
  refine ⟨h.tidy.put hk _, ?_, ?_, fun k => ?_, ?_⟩
  · rw [Maps.size_put h.tidy, show Maps.has D e.key = _ from hh, h.size]
    unfold putE
    split <;> simp
  · unfold putE
    split
    · rw [List.pairwise_map]
      refine h.apart.imp fun {x y} hxy => ?_
      split <;> split <;> rename_i h1 h2
      · exact fun _ => hxy ⟨h1.1.trans h2.1.symm, h1.2.trans h2.2.symm⟩
      · exact fun hc => h2 ⟨hc.1.symm, hc.2.symm⟩
      · exact fun hc => h1 hc
      · exact hxy
    · rename_i hn
      refine List.pairwise_append.2 ⟨h.apart, List.pairwise_singleton _ _, fun x hx y hy hc => ?_⟩
      rw [List.mem_singleton.1 hy] at hc
      exact hn (List.any_eq_true.2 ⟨x, hx, by simp [hc.1, hc.2]⟩)
  · by_cases hke : k = e.key
    · rw [hke, Maps.has_put_same hi hk]
      symm
      rw [List.any_eq_true]
      refine ⟨e, ?_, WideAt.sameKey_self hk⟩
      unfold putE
      split
      · rename_i ha
        obtain ⟨x, hx, hx2⟩ := List.any_eq_true.1 ha
        simp only [Bool.and_eq_true, beq_iff_eq] at hx2
        exact List.mem_map.2 ⟨x, hx, if_pos hx2⟩
      · simp
    · rw [Maps.has_put_other hke, h.has]
      have hek : e.key.sameKey k = false := Maps.sameKey_ne (fun hc => hke hc.symm)
      unfold putE
      split
      · rw [List.any_map]
        rw [Bool.eq_iff_iff, List.any_eq_true, List.any_eq_true]
        refine ⟨?_, ?_⟩
        all_goals
          rintro ⟨x, hx, hx2⟩
          refine ⟨x, hx, ?_⟩
        · simp only [Function.comp]
          rw [if_neg]
          · exact hx2
          · intro hc
            have : x.key = e.key := by unfold Ent.key; rw [hc.1, hc.2]
            rw [this, hek] at hx2
            cases hx2
        · simp only [Function.comp] at hx2
          split at hx2
          · rw [hek] at hx2; cases hx2
          · exact hx2
      · simp [hek]
  · intro x hx z
    unfold putE at hx
    have other : x ∈ l → ¬ (x.r = e.r ∧ x.s = e.s) → (D.put e.key (.held e.val)).atKey x.key z = .held x.val := fun hl hn => by
      rw [Maps.atKey_put_other, h.at_ x hl]
      intro hc
      exact hn (keyL_inj (hw x hl).1 (hw x hl).2 he.1 he.2 hc)
    split at hx
    · obtain ⟨y, hy, rfl⟩ := List.mem_map.1 hx
      split
      · exact Maps.atKey_put_same hi hk _ _
      · rename_i hn
        rw [if_neg hn] at other
        exact other hy hn
    · rename_i hn
      rcases List.mem_append.1 hx with hx | hx
      · exact other hx fun hc => hn (List.any_eq_true.2 ⟨x, hx, by simp [hc.1, hc.2]⟩)
      · rw [List.mem_singleton.1 hx]
        exact Maps.atKey_put_same hi hk _ _
/-- What may be noted at all. -/
def GoodE (l : List Ent) : Prop := ∀ e ∈ l, (0 ≤ e.r ∧ e.r < 7) ∧ (1 ≤ e.s ∧ e.s ≤ 1073741824) ∧ (0 ≤ e.q ∧ e.q ≤ 1099511627776) ∧ e.c.a.size ≤ 16
theorem GoodE.wf {l : List Ent} (h : GoodE l) : WfE l := fun e he => ⟨WalkArith.wf_i64 (by have := (h e he).1; omega), WalkArith.wf_i64 (by have := (h e he).2.1; omega)⟩
theorem putE_good {l : List Ent} (h : GoodE l) {e : Ent} (he : (0 ≤ e.r ∧ e.r < 7) ∧ (1 ≤ e.s ∧ e.s ≤ 1073741824) ∧ (0 ≤ e.q ∧ e.q ≤ 1099511627776) ∧ e.c.a.size ≤ 16) : GoodE (putE l e) := by
  unfold putE
  split
  · intro x hx
    obtain ⟨y, hy, rfl⟩ := List.mem_map.1 hx
    split
    · exact he
    · exact h y hy
  · intro x hx
    rcases List.mem_append.1 hx with hx | hx
    · exact h x hx
    · rw [List.mem_singleton.1 hx]; exact he
/-- Struck out. -/
def delE (l : List Ent) (r s : Int) : List Ent := l.filter fun x => !(x.r == r && x.s == s)
end Go.Proofs.Ytleagecocffihaa
