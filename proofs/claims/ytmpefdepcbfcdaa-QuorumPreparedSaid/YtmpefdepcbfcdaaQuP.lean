/-
  Attributes, ballots and what was said, as values; what replies come to, as functions. No program in sight.
-/
import Derived.Test.YtmpefdepcbfcdaaClP
import Derived.Test.YtmpefdepcbfcdaaCellRows
namespace Go.Proofs.Ytmpefdepcbfcdaa
open Go.RowKit

structure At where
  q : Int
  d : Nat → Int
def At.cells (a : At) : List Value := [.int .i64 a.q, .int .i64 (a.d 0), .int .i64 (a.d 1), .int .i64 (a.d 2), .int .i64 (a.d 3), .int .i64 (a.d 4), .int .i64 (a.d 5), .int .i64 (a.d 6)]
def At.of (k : Int) : At := ⟨k, fun _ => 0⟩
def At.eqB (a b : At) : Bool := a.q == b.q && (a.d 0 == b.d 0 && (a.d 1 == b.d 1 && (a.d 2 == b.d 2 && (a.d 3 == b.d 3 && (a.d 4 == b.d 4 && (a.d 5 == b.d 5 && a.d 6 == b.d 6))))))
structure Sd where
  r : Int
  st : Int
  pe : Int
  pr : Int
  ve : Int
  vr : Int
  x : Cm
  a : At
  same : Bool
def Sd.cells (s : Sd) : List Value := .int .i64 s.r :: .int .i64 s.st :: .int .i64 s.pe :: .int .i64 s.pr :: .int .i64 s.ve :: .int .i64 s.vr :: (s.x.cells ++ (s.a.cells ++ [.bool s.same]))
def below (e1 r1 e2 r2 : Int) : Bool := decide (e1 < e2) || (e1 == e2 && decide (r1 < r2))
/-- Is s taken, where at is the best so far? -/
def takes (S : Nat → Sd) (st at' : Int) (k : Nat) : Bool := (S k).st == st && (decide (at' < 0) || below (S at'.toNat).ve (S at'.toNat).vr (S k).ve (S k).vr)
def bestTo (S : Nat → Sd) (st : Int) : Nat → Int
  | 0 => -1
  | k + 1 => if takes S st (bestTo S st k) k = true then (k : Int) else bestTo S st k
theorem bestTo_lt (S : Nat → Sd) (st : Int) (k : Nat) : -1 ≤ bestTo S st k ∧ bestTo S st k < k := by
  induction k with
  | zero => unfold bestTo; omega
  | succ k ih =>
    unfold bestTo
    split
    · omega
    · omega
/-! ### What replies to a Prepare come to -/
def comTo (S : Nat → Sd) : Nat → Option Nat
  | 0 => none
  | k + 1 => match comTo S k with
    | some i => some i
    | none => if (S k).st = 3 then some k else none
def counts (S : Nat → Sd) (o : Int) (k : Nat) : Bool := !((S k).r == o) && ((S k).st == 1 && (S k).same)
def sameTo (S : Nat → Sd) (o : Int) : Nat → Nat
  | 0 => 0
  | k + 1 => sameTo S o k + if counts S o k = true then 1 else 0
def firstTo (S : Nat → Sd) (o : Int) : Nat → Int
  | 0 => -1
  | k + 1 => if counts S o k = true ∧ firstTo S o k < 0 then (k : Int) else firstTo S o k
def thereTo (S : Nat → Sd) (o : Int) : Nat → Bool
  | 0 => false
  | k + 1 => thereTo S o k || (S k).r == o
def prepared (K : Nat) (o : Int) (S : Nat → Sd) (len : Nat) : Int × Cm × At :=
  if len < K / 2 + 1 then (0, Cm.zero, At.of 0)
  else match comTo S len with
    | some i => (1, (S i).x, (S i).a)
    | none =>
      if 0 ≤ bestTo S 2 len then (2, (S (bestTo S 2 len).toNat).x, (S (bestTo S 2 len).toNat).a)
      else if bestTo S 1 len < 0 then (4, Cm.zero, At.of 0)
      else if thereTo S o len = false ∧ K / 2 ≤ sameTo S o len then (2, (S (firstTo S o len).toNat).x, (S (firstTo S o len).toNat).a)
      else (3, (S (bestTo S 1 len).toNat).x, (S (bestTo S 1 len).toNat).a)
theorem comTo_more {S : Nat → Sd} {k i : Nat} (h : comTo S k = some i) (m : Nat) : comTo S (k + m) = some i := by
  induction m with
  | zero => exact h
  | succ m ih => rw [← Nat.add_assoc, comTo, ih]
theorem comTo_at {S : Nat → Sd} {k len : Nat} (h : comTo S k = none) (hs : (S k).st = 3) (hk : k < len) : comTo S len = some k := by
  have h1 : comTo S (k + 1) = some k := by rw [comTo, h]; simp [hs]
  have := comTo_more h1 (len - (k + 1))
  rwa [Nat.add_sub_cancel' (by omega)] at this
theorem comTo_next {S : Nat → Sd} {k : Nat} (h : comTo S k = none) (hs : ¬ (S k).st = 3) : comTo S (k + 1) = none := by rw [comTo, h]; simp [hs]
theorem firstTo_lt (S : Nat → Sd) (o : Int) (k : Nat) : -1 ≤ firstTo S o k ∧ firstTo S o k < k ∧ (0 < sameTo S o k → 0 ≤ firstTo S o k) := by
  induction k with
  | zero => refine ⟨by simp [firstTo], by simp [firstTo], by simp [sameTo]⟩
  | succ k ih =>
    unfold firstTo sameTo
    by_cases hc : counts S o k = true
    · by_cases hf : firstTo S o k < 0
      · rw [if_pos ⟨hc, hf⟩]; exact ⟨by omega, by omega, fun _ => by omega⟩
      · rw [if_neg (fun h => hf h.2)]; exact ⟨by omega, by omega, fun _ => by omega⟩
    · rw [if_neg (fun h => hc h.1), if_neg hc]; exact ⟨by omega, by omega, fun h => by have := ih.2.2 (by omega); omega⟩
theorem sameTo_le (S : Nat → Sd) (o : Int) (k : Nat) : sameTo S o k ≤ k := by
  induction k with
  | zero => exact Nat.le_refl _
  | succ k ih => unfold sameTo; split <;> omega
/-! ### Joins -/
def mxI (a b : Int) : Int := if b > a then b else a
def At.join (a b : At) : At := ⟨mxI a.q b.q, fun i => mxI (a.d i) (b.d i)⟩
def joinAll (S : Nat → At) : Nat → At
  | 0 => S 0
  | k + 1 => (joinAll S k).join (S (k + 1))
def joinIn (a b : At) (k : Nat) : At := ⟨mxI a.q b.q, fun i => if i < k then mxI (a.d i) (b.d i) else a.d i⟩
theorem joinIn_seven (a b : At) : (joinIn a b 7).cells = (a.join b).cells := by simp [At.cells, joinIn, At.join]
theorem joinIn_zero (a b : At) : (joinIn a b 0).cells = a.cells.set 0 (.int .i64 (mxI a.q b.q)) := by simp [At.cells, joinIn]
theorem joinIn_get (a b : At) (k : Nat) (hk : k < 7) : (joinIn a b k).cells[1 + k]? = some (.int .i64 (a.d k)) := by
  rcases (show k = 0 ∨ k = 1 ∨ k = 2 ∨ k = 3 ∨ k = 4 ∨ k = 5 ∨ k = 6 by omega) with rfl | rfl | rfl | rfl | rfl | rfl | rfl <;> rfl
theorem joinIn_set (a b : At) (k : Nat) (hk : k < 7) : (joinIn a b k).cells.set (1 + k) (.int .i64 (mxI (a.d k) (b.d k))) = (joinIn a b (k + 1)).cells := by
  rcases (show k = 0 ∨ k = 1 ∨ k = 2 ∨ k = 3 ∨ k = 4 ∨ k = 5 ∨ k = 6 by omega) with rfl | rfl | rfl | rfl | rfl | rfl | rfl <;> simp [At.cells, joinIn]
theorem At.cells_one (s : At) : s.cells.toArray.all (·.oneCell') = true := by simp [At.cells, Value.oneCell']
/-! ### What replies to a proposal come to -/
def sameA (own : At) (R : Nat → At) : Nat → Nat
  | 0 => 0
  | k + 1 => sameA own R k + if (R k).eqB own = true then 1 else 0
theorem sameA_le (own : At) (R : Nat → At) (k : Nat) : sameA own R k ≤ k := by
  induction k with
  | zero => exact Nat.le_refl _
  | succ k ih => unfold sameA; split <;> omega
def consA (own : At) (R : Nat → At) : Nat → At
  | 0 => own
  | k + 1 => R k
def preA (K : Nat) (first : Bool) (own : At) (R : Nat → At) (len : Nat) (late : Bool) : Int × At :=
  if first = true ∧ K ≤ sameA own R len + 2 then (1, own)
  else if len < K / 2 ∨ (first = true ∧ late = false ∧ len < sameA own R len + 2) then (0, At.of 0)
  else (2, joinAll (consA own R) len)
end Go.Proofs.Ytmpefdepcbfcdaa
