/-
  QuorumPre's walk at lists of cells.
-/
import Derived.Test.YtmpefdepcbfcdaaQuPreLW
namespace Go.Proofs.Ytmpefdepcbfcdaa
open Go.RowKit
theorem quorumPre_rows (n : Int) (first : Bool) (q d0 d1 d2 d3 d4 d5 d6 : Int) (a : Option Addr) (len cap : Nat) (V : Nat → List Value) (late : Bool) (w : World) (hn : (Lit.int .i64 n).wf = true)
    (_ : (Lit.int .i64 q).wf = true) (_ : (Lit.int .i64 d0).wf = true) (_ : (Lit.int .i64 d1).wf = true) (_ : (Lit.int .i64 d2).wf = true) (_ : (Lit.int .i64 d3).wf = true) (_ : (Lit.int .i64 d4).wf = true) (_ : (Lit.int .i64 d5).wf = true) (_ : (Lit.int .i64 d6).wf = true)
    (hV : IsRows w a len 8 V) (hA : ∀ i, i < len → AllOk attrLeaves (V i)) (hlc : len ≤ cap) (hcm : cap ≤ maxLen) (hnil : a = none → cap = 0) :
    Calls Try.prog 4 #[.int .i64 n, .bool first, .agg #[.int .i64 q, .int .i64 d0, .int .i64 d1, .int .i64 d2, .int .i64 d3, .int .i64 d4, .int .i64 d5, .int .i64 d6], .slice a len cap, .bool late] w fun e w' => e = .returned (.bool true) ∧ Below w.heap.size w w' := by
  obtain ⟨R, hR⟩ := rows_at hA
  exact quorumPre_any n first late (mkAt q d0 d1 d2 d3 d4 d5 d6) a len cap R w hn (hV.cong hR) hlc hcm hnil
end Go.Proofs.Ytmpefdepcbfcdaa
