/-
  QuorumPrepared's walk at lists of cells.
-/
import Derived.Test.YtmpefdepcbfcdaaQuPpW
namespace Go.Proofs.Ytmpefdepcbfcdaa
open Go.RowKit
theorem quorumPrepared_rows (n o : Int) (a : Option Addr) (len cap : Nat) (V : Nat → List Value) (w : World) (hn : (Lit.int .i64 n).wf = true) (_ : (Lit.int .i64 o).wf = true)
    (hV : IsRows w a len 22 V) (hA : ∀ i, i < len → AllOk saidLeaves (V i)) (hlc : len ≤ cap) (hcm : cap ≤ maxLen) (hnil : a = none → cap = 0) :
    Calls Try.prog 5 #[.int .i64 n, .int .i64 o, .slice a len cap] w fun e w' => e = .returned (.bool true) ∧ Below w.heap.size w w' := by
  obtain ⟨S, hS⟩ := rows_sd hA
  exact quorumPrepared_any n o a len cap S w hn (hV.cong hS) hlc hcm hnil
end Go.Proofs.Ytmpefdepcbfcdaa
