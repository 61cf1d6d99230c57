/-
  QuorumSlow's walk at bare cells.
-/
import Derived.Test.YtmpefdepcbfcdaaQuSlowW
namespace Go.Proofs.Ytmpefdepcbfcdaa
open Go.RowKit
theorem AllOk.split : ∀ {ls ms : List Leaf} {l : List Value}, AllOk (ls ++ ms) l → ∃ l1 l2, l = l1 ++ l2 ∧ AllOk ls l1 ∧ AllOk ms l2
  | [], ms, l, h => ⟨[], l, rfl, trivial, h⟩
  | x :: ls, ms, v :: vs, h => by
    obtain ⟨l1, l2, rfl, h1, h2⟩ := AllOk.split (ls := ls) h.2
    exact ⟨v :: l1, l2, rfl, ⟨h.1, h1⟩, h2⟩
  | x :: ls, ms, [], h => h.elim
def cellLeaves : List Leaf := [.int .i64, .int .i64, .int .i64, .int .i64, .int .i64, .int .i64, .int .i64, .int .i64, .string, .string, .string, .string, .int .i64, .int .i64, .int .i64, .int .i64, .int .i64, .int .i64, .int .i64, .int .i64, .bool]
def leavesTo : Nat → List Leaf
  | 0 => []
  | n + 1 => leavesTo n ++ cellLeaves
theorem cell_of {l : List Value} (h : AllOk cellLeaves l) : ∃ s : Sd, l = celL s := by
  have h2 : AllOk saidLeaves (.int .i64 0 :: l) := ⟨⟨0, rfl, by decide⟩, h⟩
  obtain ⟨s, hs⟩ := sd_of h2
  rw [sd_cel] at hs
  exact ⟨s, (List.cons.inj hs).2⟩
theorem cells_of (n : Nat) : ∀ {l : List Value}, AllOk (leavesTo n) l → ∃ C : Nat → Sd, l = flat 21 n fun i => celL (C i) := by
  induction n with
  | zero => intro l h; exact ⟨fun _ => zeroSd 0, by rw [flat_zero]; exact h.nil⟩
  | succ n ih =>
    intro l h
    obtain ⟨l1, l2, rfl, h1, h2⟩ := AllOk.split (ls := leavesTo n) h
    obtain ⟨C, rfl⟩ := ih h1
    obtain ⟨s, rfl⟩ := cell_of h2
    refine ⟨fun i => if i < n then C i else s, ?_⟩
    rw [← flat_snoc (by omega) (fun i _ => celL_len _)]
    rw [if_neg (by omega)]
    congr 1
    exact flat_congr' (fun i hi => by rw [if_pos hi])
def cellLeaves7 : List Leaf := [.int .i64, .int .i64, .int .i64, .int .i64, .int .i64, .int .i64, .int .i64, .int .i64, .string, .string, .string, .string, .int .i64, .int .i64, .int .i64, .int .i64, .int .i64, .int .i64, .int .i64, .int .i64, .bool, .int .i64, .int .i64, .int .i64, .int .i64, .int .i64, .int .i64, .int .i64, .int .i64, .string, .string, .string, .string, .int .i64, .int .i64, .int .i64, .int .i64, .int .i64, .int .i64, .int .i64, .int .i64, .bool, .int .i64, .int .i64, .int .i64, .int .i64, .int .i64, .int .i64, .int .i64, .int .i64, .string, .string, .string, .string, .int .i64, .int .i64, .int .i64, .int .i64, .int .i64, .int .i64, .int .i64, .int .i64, .bool, .int .i64, .int .i64, .int .i64, .int .i64, .int .i64, .int .i64, .int .i64, .int .i64, .string, .string, .string, .string, .int .i64, .int .i64, .int .i64, .int .i64, .int .i64, .int .i64, .int .i64, .int .i64, .bool, .int .i64, .int .i64, .int .i64, .int .i64, .int .i64, .int .i64, .int .i64, .int .i64, .string, .string, .string, .string, .int .i64, .int .i64, .int .i64, .int .i64, .int .i64, .int .i64, .int .i64, .int .i64, .bool, .int .i64, .int .i64, .int .i64, .int .i64, .int .i64, .int .i64, .int .i64, .int .i64, .string, .string, .string, .string, .int .i64, .int .i64, .int .i64, .int .i64, .int .i64, .int .i64, .int .i64, .int .i64, .bool, .int .i64, .int .i64, .int .i64, .int .i64, .int .i64, .int .i64, .int .i64, .int .i64, .string, .string, .string, .string, .int .i64, .int .i64, .int .i64, .int .i64, .int .i64, .int .i64, .int .i64, .int .i64, .bool]
theorem quorumSlow_flat (n : Int) (b0 b1 b2 b3 b4 b5 b6 : Bool) (k c s : Int) (A B O V : ByteArray) (q d0 d1 d2 d3 d4 d5 d6 be br : Int) (L : List Value) (fr : Int) (w : World) (hn : (Lit.int .i64 n).wf = true)
    (_ : (Lit.int .i64 k).wf = true) (_ : (Lit.int .i64 c).wf = true) (_ : (Lit.int .i64 s).wf = true) (_ : A.size ≤ maxLen) (_ : B.size ≤ maxLen) (_ : O.size ≤ maxLen) (_ : V.size ≤ maxLen)
    (_ : (Lit.int .i64 q).wf = true) (_ : (Lit.int .i64 d0).wf = true) (_ : (Lit.int .i64 d1).wf = true) (_ : (Lit.int .i64 d2).wf = true) (_ : (Lit.int .i64 d3).wf = true) (_ : (Lit.int .i64 d4).wf = true) (_ : (Lit.int .i64 d5).wf = true) (_ : (Lit.int .i64 d6).wf = true)
    (_ : (Lit.int .i64 be).wf = true) (_ : (Lit.int .i64 br).wf = true) (hL : AllOk cellLeaves7 L) (hfr : (Lit.int .i64 fr).wf = true) :
    Calls Try.prog 7 #[.int .i64 n, .agg #[.bool b0, .bool b1, .bool b2, .bool b3, .bool b4, .bool b5, .bool b6], .agg #[.int .i64 k, .int .i64 c, .int .i64 s, .string A, .string B, .string O, .string V], .agg #[.int .i64 q, .int .i64 d0, .int .i64 d1, .int .i64 d2, .int .i64 d3, .int .i64 d4, .int .i64 d5, .int .i64 d6], .agg #[.int .i64 be, .int .i64 br], .agg L.toArray, .int .i64 fr] w fun e w' => e = .returned (.bool true) ∧ Below w.heap.size w w' := by
  obtain ⟨C, rfl⟩ := cells_of 7 (show AllOk (leavesTo 7) L from hL)
  exact quorumSlow_any n (fun i => match i with | 0 => b0 | 1 => b1 | 2 => b2 | 3 => b3 | 4 => b4 | 5 => b5 | _ => b6) ⟨k, c, s, A, B, O, V⟩ (mkAt q d0 d1 d2 d3 d4 d5 d6) be br C fr w hn hfr
end Go.Proofs.Ytmpefdepcbfcdaa
