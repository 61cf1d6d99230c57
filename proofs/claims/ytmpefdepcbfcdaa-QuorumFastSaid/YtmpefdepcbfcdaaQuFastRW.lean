/-
  QuorumFast's walk at bare cells.
-/
import Derived.Test.YtmpefdepcbfcdaaQuFastW
namespace Go.Proofs.Ytmpefdepcbfcdaa
open Go.RowKit
theorem quorumFast_flat (n ow ou : Int) (p0 p1 p2 p3 p4 p5 p6 p7 : Int) (nothing : Bool) (k c s : Int) (A B O V : ByteArray) (q d0 d1 d2 d3 d4 d5 d6 tu : Int) (w : World) (hn : (Lit.int .i64 n).wf = true) (how : (Lit.int .i64 ow).wf = true) (hou : (Lit.int .i64 ou).wf = true)
    (_ : (Lit.int .i64 p0).wf = true) (_ : (Lit.int .i64 p1).wf = true) (_ : (Lit.int .i64 p2).wf = true) (_ : (Lit.int .i64 p3).wf = true) (_ : (Lit.int .i64 p4).wf = true) (_ : (Lit.int .i64 p5).wf = true) (_ : (Lit.int .i64 p6).wf = true) (_ : (Lit.int .i64 p7).wf = true)
    (_ : (Lit.int .i64 k).wf = true) (_ : (Lit.int .i64 c).wf = true) (_ : (Lit.int .i64 s).wf = true) (_ : A.size ≤ maxLen) (_ : B.size ≤ maxLen) (_ : O.size ≤ maxLen) (_ : V.size ≤ maxLen)
    (_ : (Lit.int .i64 q).wf = true) (_ : (Lit.int .i64 d0).wf = true) (_ : (Lit.int .i64 d1).wf = true) (_ : (Lit.int .i64 d2).wf = true) (_ : (Lit.int .i64 d3).wf = true) (_ : (Lit.int .i64 d4).wf = true) (_ : (Lit.int .i64 d5).wf = true) (_ : (Lit.int .i64 d6).wf = true) (htu : (Lit.int .i64 tu).wf = true) :
    Calls Try.prog 6 #[.int .i64 n, .int .i64 ow, .int .i64 ou, .agg #[.int .i64 p0, .int .i64 p1, .int .i64 p2, .int .i64 p3, .int .i64 p4, .int .i64 p5, .int .i64 p6, .int .i64 p7], .bool nothing, .agg #[.int .i64 k, .int .i64 c, .int .i64 s, .string A, .string B, .string O, .string V], .agg #[.int .i64 q, .int .i64 d0, .int .i64 d1, .int .i64 d2, .int .i64 d3, .int .i64 d4, .int .i64 d5, .int .i64 d6], .int .i64 tu] w fun e w' => e = .returned (.bool true) ∧ Below w.heap.size w w' :=
  quorumFast_any n ow ou (mkAt p0 p1 p2 p3 p4 p5 p6 p7) nothing ⟨k, c, s, A, B, O, V⟩ (mkAt q d0 d1 d2 d3 d4 d5 d6) tu w hn how hou htu
end Go.Proofs.Ytmpefdepcbfcdaa
