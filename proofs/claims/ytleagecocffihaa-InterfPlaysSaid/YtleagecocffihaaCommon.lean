/-
  Small helpers for the walks: how an ending is told; what a slice of bytes reads as.
-/
import Derived.Test.YtleagecocffihaaRows
import Derived.WalkKit
import Derived.ProofKit
import Derived.OpenShut
import Derived.ShutString
import Derived.ChangeOld
import Derived.Below
import Derived.Lib.Hide
import Derived.WalkLawsBesides
import Derived.WalkSpells
import Derived.Laws.BitsAllLaws
import Derived.LoopTactic
import Derived.Laws.CopyOwn
import Derived.OwnWalk
import Derived.BigQuiet
import Derived.Deep.Cut
import Derived.Deep.CutBlock
import Derived.Handy
import Derived.Lib.SlBytesConst
import Derived.Lib.QuietBelow
import Derived.Deep.QuietTactic
namespace Go.Proofs.Ytleagecocffihaa
open Go.RowKit
theorem ret_int {k : IntKind} {a b : Int} (h : a = b) : Ending.returned (.int k a) = .returned (.int k b) := by rw [h]
theorem ret_bool {a b : Bool} (h : a = b) : Ending.returned (.bool a) = .returned (.bool b) := by rw [h]

/-- A slice value that reads as these bytes: its cells, if it has any. -/
def IsBytes (w : World) (a : Option Addr) (len : Nat) (bs : List Nat) : Prop :=
  bs.length = len ∧ len ≤ 281474976710656 ∧ (∀ x ∈ bs, x < 256) ∧ (0 < len → ∃ b off, a = some ⟨b, off, none⟩ ∧ b < w.heap.size ∧ ∀ i, i < len → w.cell? ⟨b, off + i, none⟩ = some (.int .u8 ((bs.getD i 0 : Nat) : Int)))
theorem IsBytes.nil (w : World) (a : Option Addr) : IsBytes w a 0 [] := ⟨rfl, by omega, by simp, fun h => by omega⟩
theorem IsBytes.len {w : World} {a : Option Addr} {len : Nat} {bs : List Nat} (h : IsBytes w a len bs) : bs.length = len := h.1
theorem IsBytes.below {w w' : World} {a : Option Addr} {len : Nat} {bs : List Nat} (h : IsBytes w a len bs) (hb : Below w.heap.size w w') : IsBytes w' a len bs := by
  obtain ⟨h1, h2, h3, h4⟩ := h
  refine ⟨h1, h2, h3, fun h => ?_⟩
  obtain ⟨b, off, ha, hlt, hc⟩ := h4 h
  exact ⟨b, off, ha, Nat.lt_of_lt_of_le hlt hb.size, fun i hi => by rw [hb.cell (p := ⟨b, off + i, none⟩) hlt]; exact hc i hi⟩
/-- A piece of it: s[i:j]. -/
theorem IsBytes.cut {w : World} {b off len : Nat} {bs : List Nat} (h : IsBytes w (some ⟨b, off, none⟩) len bs) (i j : Nat) (hij : i ≤ j) (hj : j ≤ len) :
    IsBytes w (some ⟨b, off + i, none⟩) (j - i) ((bs.take j).drop i) := by
  obtain ⟨h1, h2, h3, h4⟩ := h
  refine ⟨by simp; omega, by omega, fun x hx => h3 x (List.mem_of_mem_take (List.mem_of_mem_drop hx)), fun h => ?_⟩
  obtain ⟨b', off', ha, hlt, hc⟩ := h4 (by omega)
  simp only [Option.some.injEq, Addr.mk.injEq] at ha
  obtain ⟨rfl, rfl, _⟩ := ha
  refine ⟨b, off + i, rfl, hlt, fun k hk => ?_⟩
  have := hc (i + k) (by omega)
  rw [Nat.add_assoc, this]
  congr 3
  rw [List.getD_eq_getElem?_getD, List.getD_eq_getElem?_getD, List.getElem?_drop, List.getElem?_take, if_pos (by omega)]

theorem IsBytes.pre {w : World} {a : Option Addr} {len : Nat} {bs : List Nat} (h : IsBytes w a len bs) (j : Nat) (hj : j ≤ len) : IsBytes w a j (bs.take j) := by
  obtain ⟨h1, h2, h3, h4⟩ := h
  refine ⟨by simp; omega, by omega, fun x hx => h3 x (List.mem_of_mem_take hx), fun h0 => ?_⟩
  obtain ⟨b, off, ha, hlt, hc⟩ := h4 (by omega)
  refine ⟨b, off, ha, hlt, fun i hi => ?_⟩
  rw [hc i (by omega), List.getD_eq_getElem?_getD, List.getD_eq_getElem?_getD, List.getElem?_take, if_pos hi]
theorem add_at (b o j : Nat) : Addr.add ⟨b, o, none⟩ j = ⟨b, o + j, none⟩ := by
  unfold Addr.add
  split
  · next h => subst h; rfl
  · rfl
theorem IsBytes.sub {w : World} {a : Option Addr} {len cap : Nat} {bs : List Nat} (h : IsBytes w a len bs) (hlc : len ≤ cap) (i j : Nat) (hij : i ≤ j) (hj : j ≤ len) :
    IsBytes w (if cap = i then a else Option.map (fun x => x.add i) a) (j - i) ((bs.take j).drop i) := by
  by_cases h0 : i = j
  · subst h0
    have : (bs.take i).drop i = [] := by simp
    rw [this, Nat.sub_self]
    exact IsBytes.nil _ _
  · rw [if_neg (by omega)]
    obtain ⟨b, off, rfl, _⟩ := h.2.2.2 (by omega)
    rw [Option.map_some, add_at]
    exact h.cut i j hij hj

/-! ### A block of the call's own, told as a list -/
def Holds (w : World) (g : Nat) (e : TypeId) (L : List Value) : Prop := w.heap[g]? = some (.cells L.toArray e (0, 0))
theorem Holds.cell {w : World} {g : Nat} {e : TypeId} {L : List Value} (h : Holds w g e L) (i : Nat) : w.cell? ⟨g, i, none⟩ = L[i]? := by
  unfold Holds at h
  simp [World.cell?, h]
theorem Holds.free {w : World} {g : Nat} {e : TypeId} {L : List Value} (h : Holds w g e L) (i : Nat) : w.frozen? ⟨g, i, none⟩ = false := by
  unfold Holds at h
  simp [World.frozen?, h]
theorem Holds.lt {w : World} {g : Nat} {e : TypeId} {L : List Value} (h : Holds w g e L) : g < w.heap.size := by
  unfold Holds at h
  exact (Array.getElem?_eq_some_iff.1 h).1
theorem Holds.set {w : World} {g : Nat} {e : TypeId} {L : List Value} (h : Holds w g e L) (i : Nat) (v : Value) : Holds (w.setCell ⟨g, i, none⟩ v) g e (L.set i v) := by
  unfold Holds at *
  simp [World.setCell, Array.getElem?_modify, h]
theorem Holds.below {w w' : World} {B g : Nat} {e : TypeId} {L : List Value} (h : Holds w g e L) (hb : Below B w w') (hg : g < B) : Holds w' g e L := by
  unfold Holds at *
  rw [hb.block g hg]; exact h
theorem Holds.drewN {w : World} {g : Nat} {e : TypeId} {L : List Value} (h : Holds w g e L) (n : Nat) : Holds (w.drewN n) g e L := h
theorem Holds.bytes {w : World} {g : Nat} {e : TypeId} {bs : List Nat} (h : Holds w g e (bs.map fun (x : Nat) => .int .u8 (x : Int))) (h8 : ∀ x ∈ bs, x < 256) (hl : bs.length ≤ 281474976710656) : IsBytes w (some ⟨g, 0, none⟩) bs.length bs := by
  refine ⟨rfl, hl, h8, fun _ => ⟨g, 0, rfl, h.lt, fun i hi => ?_⟩⟩
  rw [Nat.zero_add, h.cell]
  simp [hi]
theorem below_drewN {B : Nat} {w w' : World} (h : Below B w w') (n : Nat) : Below B w (w'.drewN n) := h.trans ⟨rfl, rfl, rfl, Nat.le_refl _, fun _ _ => rfl⟩

/-- make([]T, n), its element of one cell: a new block of n zeros. -/
theorem wpList_make_block {P : Program} (w : World) {ops : Array Oper} {rest : List Oper} {o : Oper} {a : Act} {Q : Exit → Act → World → Prop}
    (hg : o.guard = none) (l c : Operand) (t : TypeId) (hop : o.op = Op.makeSlice t l c) (e : TypeId) (z : Value) (bytes : Nat) (h1 : P.underlying t = some (.slice e))
    (h2 : (P.info? e).map (fun i => (i.zero, i.size, i.bytes)) = some (some z, 1, bytes)) (hz : z.cells = #[z]) (kl kc : IntKind) (L C : Int) (m n : Nat) (hl : a.eval l = .int kl L) (hc : a.eval c = .int kc C) (hL : L = (m : Int)) (hC : C = (n : Int))
    (hmn : m ≤ n) (b2 : bytes * n ≤ 281474976710656) (b3 : n ≤ maxLen)
    (hK : ∀ w', Holds w' w.heap.size e (List.replicate n z) → Below w.heap.size w w' → w'.heap.size = w.heap.size + 1 → wpList P ops Q rest (a.put o.dst (.slice (some ⟨w.heap.size, 0, none⟩) m n)) w') :
    wpList P ops Q (o :: rest) a w := by
  refine wpList_plain hg fun K hK' => ?_
  obtain ⟨i, hi, hz0, hz1, hz2⟩ := info_parts h2
  subst hL hC
  have hb : i.bytes * n ≤ 281474976710656 := by rw [hz2]; exact b2
  have hr := run_make (P := P) w t e i z h1 hi hz0 kl kc (m : Int) (n : Int) (by omega) (by omega) (by rw [← Int.natCast_mul]; omega) (by unfold maxLen at b3; omega)
  unfold Oper.wp
  simp only [Int.toNat_natCast] at hr
  simp [execOp, hop, hl, hc, hr, Result.andThen]
  refine hK' _ _ (hK _ ?_ ?_ (by simp))
  · unfold Holds
    rw [hz1, Nat.mul_one, hz]
    have e2 : madeCells #[z] n = (List.replicate n z).toArray := by rw [← toList_madeCells_one]
    rw [e2]
    show (w.heap.push _)[w.heap.size]? = _
    simp
  · exact (Below.refl _ _).alloc (Nat.le_refl _) _

/-- What stands from an address on. -/
def Reads (w : World) (sp : Option Addr) (cs : List Value) : Prop := 0 < cs.length → ∃ b off, sp = some ⟨b, off, none⟩ ∧ b < w.heap.size ∧ ∀ (j : Nat) v, cs[j]? = some v → w.cell? ⟨b, off + j, none⟩ = some v
theorem Reads.below {w w' : World} {sp : Option Addr} {cs : List Value} (h : Reads w sp cs) (hb : Below w.heap.size w w') : Reads w' sp cs := fun h0 => by
  obtain ⟨b, off, ha, hlt, hc⟩ := h h0
  exact ⟨b, off, ha, Nat.lt_of_lt_of_le hlt hb.size, fun j v hv => by rw [hb.cell (p := ⟨b, off + j, none⟩) hlt]; exact hc j v hv⟩
theorem Holds.reads {w : World} {g : Nat} {e : TypeId} {L : List Value} (h : Holds w g e L) (i : Nat) (cs : List Value) (hc : ∀ (j : Nat) v, cs[j]? = some v → L[i + j]? = some v) : Reads w (some ⟨g, i, none⟩) cs :=
  fun _ => ⟨g, i, rfl, h.lt, fun j v hv => by rw [h.cell]; exact hc j v hv⟩
def cells8 (l : List Nat) : List Value := l.map fun (x : Nat) => .int .u8 (x : Int)
theorem length_cells8 (l : List Nat) : (cells8 l).length = l.length := by simp [cells8]
theorem cells8_one (l : List Nat) : ∀ v ∈ cells8 l, v.oneCell' = true := by simp [cells8, Value.oneCell']
theorem IsBytes.reads {w : World} {a : Option Addr} {len : Nat} {bs : List Nat} (h : IsBytes w a len bs) : Reads w a (cells8 bs) := by
  obtain ⟨h1, h2, h3, h4⟩ := h
  intro h0
  rw [length_cells8, h1] at h0
  obtain ⟨b, off, rfl, hlt, hc⟩ := h4 h0
  refine ⟨b, off, rfl, hlt, fun j v hv => ?_⟩
  simp only [cells8, List.getElem?_map, Option.map_eq_some_iff] at hv
  obtain ⟨x, hx, rfl⟩ := hv
  have hj : j < bs.length := (List.getElem?_eq_some_iff.1 hx).1
  rw [hc j (by omega)]
  simp [hx]

theorem IsBytes.lit (w : World) (e : TypeId) (bs : List Nat) (fz : Nat × Nat) (h8 : ∀ x ∈ bs, x < 256) (hl : bs.length ≤ 281474976710656) :
    IsBytes (w.alloc (.cells (cells8 bs).toArray e fz)) (some ⟨w.heap.size, 0, none⟩) bs.length bs := by
  refine ⟨rfl, hl, h8, fun _ => ⟨w.heap.size, 0, rfl, by simp, fun i hi => ?_⟩⟩
  have : (w.alloc (.cells (cells8 bs).toArray e fz)).heap[w.heap.size]? = some (.cells (cells8 bs).toArray e fz) := by
    show (w.heap.push _)[w.heap.size]? = _
    simp
  unfold World.cell?
  simp only []
  rw [this]
  simp [cells8, hi]

/-- copy(dst, src) into a block of the call's own. -/
theorem wpList_copy_block {P : Program} {w : World} {ops : Array Oper} {rest : List Oper} {o : Oper} {a : Act} {Q : Exit → Act → World → Prop} (hgd : o.guard = none) (d s : Operand) (dT sT : TypeId)
    (ho : o.op = .call { callee := .builtin .copy, args := #[d, s], argTypes := #[dT, sT] }) (elem : TypeId) (hu : P.underlying dT = some (.slice elem)) (hsz : (P.info? elem).map (·.size) = some 1)
    (g off dLen dCap : Nat) (sp : Option Addr) (sLen sCap : Nat) (hd : a.eval d = .slice (some ⟨g, off, none⟩) dLen dCap) (hs : a.eval s = .slice sp sLen sCap)
    (cur : List Value) (t : TypeId) (hg : Holds w g t cur) (cs : List Value) (hn : cs.length = Nat.min sLen dLen) (hsrc : Reads w sp cs)
    (hfit : off + cs.length ≤ cur.length) (h1 : ∀ v ∈ cs, v.oneCell' = true)
    (h : ∀ w', Holds w' g t (splice cur off cs) → Below g w w' → (∀ k, k ≠ g → w'.heap[k]? = w.heap[k]?) → w'.heap.size = w.heap.size → wpList P ops Q rest (a.put o.dst (goInt cs.length)) w') :
    wpList P ops Q (o :: rest) a w := by
  by_cases h0 : cs.length = 0
  · obtain rfl : cs = [] := List.eq_nil_of_length_eq_zero h0
    refine wpList_copy_nothing hgd d s dT sT ho elem hu hsz (some ⟨g, off, none⟩) sp dLen dCap sLen sCap hd hs (by simpa using hn.symm) ?_
    exact h w (by simpa [splice] using hg) (Below.refl _ _) (fun _ _ => rfl) rfl
  · obtain ⟨b, so, rfl, hlt, hc⟩ := hsrc (by omega)
    have hc' : ∀ (j : Nat) v, cs[j]? = some v → w.cell? (Addr.add ⟨b, so, none⟩ j) = some v := fun j v hv => by rw [add_at]; exact hc j v hv
    refine wpList_copy_own hgd d s dT sT ho elem hu hsz g off dLen dCap ⟨b, so, none⟩ sLen sCap hd hs cur.toArray t hg cs hn hc' (by simpa using hfit) h1 ?_
    exact h _ (by simpa [splice, Holds] using setRow_heap w g _ _ t _ hg) (below_setRow (Below.refl _ _) (Nat.le_refl _) _) (fun k hk => setRow_other w g k _ hk) (by simp [World.setRow])

/-! ### An argument of the type []byte, opened -/
theorem open_bytes {H : Type} {enc : TypeId × Value → H} {P : Program} {W : World} {t e : TypeId} {a : Option Addr} {len cap : Nat} {d : DataW H} {pl : List MemPlace}
    (hsz : ∀ elems spare, d = .slice elems spare → elems.length + spare.length ≤ reachBytes) (ht : P.underlying t = some (.slice e)) (he : P.underlying e = some (.int .u8)) (hc : P.cellsOf e = 1)
    (h : DataW.Trod enc P W 0 (fun _ => true) true t (.slice a len cap) d pl) : ∃ bs, IsBytes W a len bs ∧ cap ≤ 140737488351232 ∧ len ≤ cap := by
  obtain ⟨fuel, hf⟩ := h
  rcases ChangeShapes.open_ints ht he hc hf with ⟨hcs, _⟩ | ⟨x, l, c, zs, hcs, _, hl, hm, hz, hx, hcell, hwz⟩
  · simp [Value.cells] at hcs
    obtain ⟨rfl, rfl, rfl⟩ := hcs
    exact ⟨[], IsBytes.nil _ _, by omega, by omega⟩
  · simp [Value.cells] at hcs
    obtain ⟨rfl, rfl, rfl⟩ := hcs
    simp only [if_true] at hz
    simp only [Prod.mk.injEq] at hx
    have hs := hsz _ _ hx.1
    simp only [ChangeShapes.lits, List.length_map, List.length_take, List.length_drop, reachBytes] at hs
    have hcap : cap ≤ 140737488351232 := by omega
    have hw : ∀ n ∈ zs, 0 ≤ n ∧ n ≤ 255 := fun n hn => by
      have := hwz n hn
      simp [Lit.wf, IntKind.min, IntKind.max, IntKind.signed, IntKind.bits] at this
      omega
    refine ⟨(zs.take len).map Int.toNat, ⟨by simp; omega, by omega, ?_, fun h0 => ?_⟩, hcap, hl⟩
    · intro y hy
      simp only [List.mem_map] at hy
      obtain ⟨n, hn, rfl⟩ := hy
      have := hw n (List.mem_of_mem_take hn)
      omega
    · obtain ⟨b, off, spot⟩ := x
      have h1 := hcell 0 (by omega)
      have hspot : spot = none := by simpa [Addr.add] using World.cell?_spot h1
      subst hspot
      refine ⟨b, off, rfl, by simpa [add_at] using block_lt_of_cell h1, fun i hi => ?_⟩
      have h2 := hcell i (by omega)
      rw [add_at] at h2
      rw [h2]
      have hin : i < zs.length := by omega
      have hmem : zs[i] ∈ zs := List.getElem_mem hin
      have := hw _ hmem
      simp [hi, hin]
      omega

theorem bcell {W w1 : World} (hb : Below W.heap.size W w1) : (∀ b o, b < W.heap.size → w1.cell? ⟨b, o, none⟩ = W.cell? ⟨b, o, none⟩) ∧ (∀ b o, b < W.heap.size → w1.frozen? ⟨b, o, none⟩ = W.frozen? ⟨b, o, none⟩) :=
  ⟨fun b o h => hb.cell (p := ⟨b, o, none⟩) h, fun b o h => hb.frozen (p := ⟨b, o, none⟩) h⟩
theorem below_next {w w1 w2 : World} (h : Below w.heap.size w w1) (h2 : Below w1.heap.size w1 w2) : Below w.heap.size w w2 := h.trans (h2.mono h.size)

/-! ### A region that draws its order, walked once: its operations read nothing that the class leaves open -/
theorem calls_regrown {P : Program} {f : FuncId} {args : Array Value} {w : World} {d : Nat} {os : Array Obj} {v : Value}
    (h : ∀ W, Below w.heap.size w W → Calls P f args W fun e w' => e = .returned v ∧ Below W.heap.size W w') :
    Calls P f args (Sort.grow (redrawn w d) os) fun e w'' => e = .returned v ∧ ∃ p : Regrown, w'' = Sort.grow (redrawn w p.d) p.os :=
  Calls.regrown_of (h _ (below_regrown w d os))
theorem calls_weak {P : Program} {f : FuncId} {args : Array Value} {W : World} {v : Value} (h : Calls P f args W fun e w' => e = .returned v ∧ W = w') :
    Calls P f args W fun e w' => e = .returned v ∧ Below W.heap.size W w' := h.mono fun _ _ ⟨he, hw⟩ => ⟨he, hw ▸ Below.refl _ _⟩
theorem below_of_regrown {w w' : World} (h : ∃ p : Regrown, w' = Sort.grow (redrawn w p.d) p.os) : Below w.heap.size w w' := by
  obtain ⟨p, rfl⟩ := h; exact below_regrown _ _ _

/-- A region in the text's order, walked in a class of worlds. -/
theorem wpList_of_quiet {P : Program} {ops : Array Oper} {Q : Exit → Act → World → Prop} {C : World → Prop} : ∀ (l : List Oper) (a : Act) (w : World), C w →
    wpQuiet P ops C (fun a' => ∀ w', C w' → Q .normal a' w') l a → wpList P ops Q l a w
  | [], _, w, hC, h => h w hC
  | o :: l, a, w, hC, h => by
    unfold wpQuiet at h
    unfold wpList
    split
    · rename_i hw
      rw [if_pos hw] at h
      exact .inl (Oper.wp_of_quiet hC (fun a' w' hw' hK => wpList_of_quiet l a' w' hw' hK) h)
    · rename_i hw
      rw [if_neg hw] at h
      exact wpList_of_quiet l _ w hC h
theorem wp_region_seq_below {P : Program} {id : Nat} {Q : Exit → Act → World → Prop} {a : Act} {w : World} {l : List Oper}
    (h : wpQuiet P l.toArray (fun w' => ∃ p : Regrown, w' = Sort.grow (redrawn w p.d) p.os) (fun a' => ∀ w', (∃ p : Regrown, w' = Sort.grow (redrawn w p.d) p.os) → Q .normal a' w') l a) : (Code.region id l.toArray false).wp P Q a w :=
  wp_region_lit (wpList_of_quiet l a w ⟨⟨w.drawn, #[]⟩, by rw [Sort.grow_empty]; rfl⟩ h)
theorem Holds.grown {w : World} {g : Nat} {e : TypeId} {L : List Value} (h : Holds w g e L) (d : Nat) (os : Array Obj) (i : Nat) : (Sort.grow (redrawn w d) os).cell? ⟨g, i, none⟩ = L[i]? := by
  rw [(below_regrown w d os).cell (p := ⟨g, i, none⟩) h.lt]; exact h.cell i
theorem holds_alloc (w : World) (e : TypeId) (L : List Value) : Holds (w.alloc (.cells L.toArray e)) w.heap.size e L := by
  unfold Holds
  show (w.heap.push _)[w.heap.size]? = _
  simp

/-- One block may have been written; blocks may have been laid; nothing else has turned. -/
structure Touch (g : Nat) (w w' : World) : Prop where
  os : w'.os = w.os
  tape : w'.tape = w.tape
  output : w'.output = w.output
  size : w.heap.size ≤ w'.heap.size
  block : ∀ k, k < w.heap.size → k ≠ g → w'.heap[k]? = w.heap[k]?
theorem Touch.refl (g : Nat) (w : World) : Touch g w w := ⟨rfl, rfl, rfl, Nat.le_refl _, fun _ _ _ => rfl⟩
theorem Touch.trans {g : Nat} {a b c : World} (h : Touch g a b) (k : Touch g b c) : Touch g a c :=
  ⟨k.os.trans h.os, k.tape.trans h.tape, k.output.trans h.output, Nat.le_trans h.size k.size, fun i hi hg => (k.block i (Nat.lt_of_lt_of_le hi h.size) hg).trans (h.block i hi hg)⟩
theorem Touch.of_below {g : Nat} {w w' : World} (h : Below w.heap.size w w') : Touch g w w' := ⟨h.os, h.tape, h.output, h.size, fun k hk _ => h.block k hk⟩
theorem Touch.next {g : Nat} {w w1 w2 : World} (h : Touch g w w1) (h2 : Below w1.heap.size w1 w2) : Touch g w w2 := h.trans (.of_below h2)
theorem Touch.setCell {g : Nat} {w w' : World} (h : Touch g w w') (i : Nat) (v : Value) : Touch g w (w'.setCell ⟨g, i, none⟩ v) :=
  h.trans ⟨rfl, rfl, rfl, by simp [World.setCell], fun k _ hk => Below.heap_setCell _ _ _ _ hk⟩
theorem Touch.drew {g : Nat} {w w' : World} (h : Touch g w w') : Touch g w w'.drew := ⟨h.os, h.tape, h.output, h.size, h.block⟩
theorem Touch.below {g B : Nat} {w w' : World} (h : Touch g w w') (hB : B ≤ g) (hs : B ≤ w.heap.size) : Below B w w' :=
  ⟨h.os, h.tape, h.output, h.size, fun k hk => h.block k (by omega) (by omega)⟩
theorem Holds.touch {w w' : World} {g g' : Nat} {e : TypeId} {L : List Value} (h : Holds w g' e L) (ht : Touch g w w') (hg : g' ≠ g) : Holds w' g' e L := by
  have := h.lt
  unfold Holds at *
  rw [ht.block g' this hg]; exact h
end Go.Proofs.Ytleagecocffihaa
