/-
  QuorumOwner's walk at bare cells.
-/
import Derived.Test.YtmpefdepcbfcdaaQuOwnW
namespace Go.Proofs.Ytmpefdepcbfcdaa
open Go.RowKit
theorem quorumOwner_flat (n o : Int) (b0 b1 b2 b3 b4 b5 b6 : Bool) (k c s : Int) (A B O V : ByteArray) (q d0 d1 d2 d3 d4 d5 d6 fr : Int) (w : World) (hn : (Lit.int .i64 n).wf = true) (ho : (Lit.int .i64 o).wf = true)
    (_ : (Lit.int .i64 k).wf = true) (_ : (Lit.int .i64 c).wf = true) (_ : (Lit.int .i64 s).wf = true) (_ : A.size ≤ maxLen) (_ : B.size ≤ maxLen) (_ : O.size ≤ maxLen) (_ : V.size ≤ maxLen)
    (_ : (Lit.int .i64 q).wf = true) (_ : (Lit.int .i64 d0).wf = true) (_ : (Lit.int .i64 d1).wf = true) (_ : (Lit.int .i64 d2).wf = true) (_ : (Lit.int .i64 d3).wf = true) (_ : (Lit.int .i64 d4).wf = true) (_ : (Lit.int .i64 d5).wf = true) (_ : (Lit.int .i64 d6).wf = true) (hfr : (Lit.int .i64 fr).wf = true) :
    Calls Try.prog 8 #[.int .i64 n, .int .i64 o, .agg #[.bool b0, .bool b1, .bool b2, .bool b3, .bool b4, .bool b5, .bool b6], .agg #[.int .i64 k, .int .i64 c, .int .i64 s, .string A, .string B, .string O, .string V], .agg #[.int .i64 q, .int .i64 d0, .int .i64 d1, .int .i64 d2, .int .i64 d3, .int .i64 d4, .int .i64 d5, .int .i64 d6], .int .i64 fr] w fun e w' => e = .returned (.bool true) ∧ Below w.heap.size w w' :=
  quorumOwner_any n o (fun i => match i with | 0 => b0 | 1 => b1 | 2 => b2 | 3 => b3 | 4 => b4 | 5 => b5 | _ => b6) ⟨k, c, s, A, B, O, V⟩ (mkAt q d0 d1 d2 d3 d4 d5 d6) fr w hn ho hfr
end Go.Proofs.Ytmpefdepcbfcdaa
