/-
  FrameBack's walk, its facts in the parameters' order.
-/
import Derived.Test.YtpkgfajphkabcaaFrBackW
namespace Go.Proofs.Ytpkgfajphkabcaa
open Go.RowKit
theorem frameBack_parts (a : Option Addr) (len cap : Nat) (A : Nat → Option Addr) (L C : Nat → Nat) (Z : Nat → List Nat) (ct : Int) (w : World) (hP : IsParts w a len A L C Z) (hlc : len ≤ cap) (hm : cap ≤ maxLen) (hct : (Lit.int .i64 ct).wf = true) :
    Calls Try.prog 6 #[.slice a len cap, .int .i64 ct] w fun e w' => e = .returned (.bool true) ∧ Below w.heap.size w w' :=
  frameBack_any a len cap A L C Z ct w hP hlc hct hm
end Go.Proofs.Ytpkgfajphkabcaa
