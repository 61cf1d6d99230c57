/-
  No cell of these rows narrows 'for every input' (looked for: loops, veiled, ifaces, maps, wideKeys, modest, calm, conditions, laid).
  DERIVED. THE GIVEN ROWS OF THIS SEAT. 4 by the template 'for every input the law returns true; each argument reads behind the call as it read before'; 0 by the template 'total and deterministic' (their statements: YtkojfgebdoojnaaTotals.lean).
  GIVEN WITH THE SEED: the statements are not yours to turn. If you find one false, say at which input.
  Laid BY PROGRAM, IN A SANDBOX (cutbox-rows.mjs): the forced cells as the released guide's own fill.sh prints them over the translation 1d3eac566f18680c… (all of the seat's roots in one cut). By AI agents, Wed Nov 11 2026. No macro, syntax, notation, axiom, sorry.
-/
import Derived.Test.YtkojfgebdoojnaaChecked
import GoSem.Claim
import GoSem.ClaimJoined
import GoSem.ClaimMapViews
import Derived.JoinedTies
import Derived.KernelRfl
namespace Go.Proofs.Ytkojfgebdoojnaa
/- THE CELL 'sum', in the pinned program and in every row, IS THE sha256 OF THE DUMP (.gsa) THAT YtkojfgebdoojnaaProg.lean LOADS. Nothing in Lean hashes anything: it is a label: what it is worth is what the hold of that sum in a sandbox is worth. -/
noncomputable def Try.pinned : Pinned := { name := "ytkojfgebdoojnaa", sum := "1d3eac566f18680c269bbd918283258178bcba5e71e221eef5ecb4d5f21fe883", checked := Try.checked }
namespace Rows
def none {H : Type} : Left H := { results := [], args := [] }

/-- 'concordlaw24.ClientRuns': WHATEVER THE INPUT: true; the input reads as it did. -/
def clientRunsSpec : ChangeSpec := { name := "clientRuns", fn := fun _ => fun
  | [] => { results := [.lit (.bool true)], args := [] }
  | _ => none }
def clientRunsRow : OpenClaim := { program := "ytkojfgebdoojnaa", sum := "1d3eac566f18680c269bbd918283258178bcba5e71e221eef5ecb4d5f21fe883", func := "concord/concordlaw24.ClientRuns", spec := "clientRuns", apart := false }
def ClientRunsSaid : Prop := clientRunsRow.holds Try.pinned (OpenSpec.ofChange clientRunsSpec)

/-- ITS FALSE NEIGHBOUR: 'it returns false'. Refute it at one input. -/
def clientRunsWrong : ChangeSpec := { name := "clientRuns", fn := fun _ => fun
  | [] => { results := [.lit (.bool false)], args := [] }
  | _ => none }
def ClientRunsWrongFalsely : Prop := clientRunsRow.holds Try.pinned (OpenSpec.ofChange clientRunsWrong)

/-- 'concordlaw24.ClientPlays': WHATEVER THE INPUT: true; the input reads as it did. -/
def clientPlaysSpec : ChangeSpec := { name := "clientPlays", fn := fun _ => fun
  | [d1, d2, d3] => { results := [.lit (.bool true)], args := [d1, d2, d3] }
  | _ => none }
def clientPlaysRow : OpenClaim := { program := "ytkojfgebdoojnaa", sum := "1d3eac566f18680c269bbd918283258178bcba5e71e221eef5ecb4d5f21fe883", func := "concord/concordlaw24.ClientPlays", spec := "clientPlays", apart := false }
def ClientPlaysSaid : Prop := clientPlaysRow.holds Try.pinned (OpenSpec.ofChange clientPlaysSpec)

/-- ITS FALSE NEIGHBOUR: 'it returns false'. Refute it at one input. -/
def clientPlaysWrong : ChangeSpec := { name := "clientPlays", fn := fun _ => fun
  | [d1, d2, d3] => { results := [.lit (.bool false)], args := [d1, d2, d3] }
  | _ => none }
def ClientPlaysWrongFalsely : Prop := clientPlaysRow.holds Try.pinned (OpenSpec.ofChange clientPlaysWrong)

/-- 'concordlaw24.ClientRound': WHATEVER THE INPUT: true; the input reads as it did. -/
def clientRoundSpec : ChangeSpec := { name := "clientRound", fn := fun _ => fun
  | [d1, d2, d3, d4] => { results := [.lit (.bool true)], args := [d1, d2, d3, d4] }
  | _ => none }
def clientRoundRow : OpenClaim := { program := "ytkojfgebdoojnaa", sum := "1d3eac566f18680c269bbd918283258178bcba5e71e221eef5ecb4d5f21fe883", func := "concord/concordlaw24.ClientRound", spec := "clientRound", apart := false }
def ClientRoundSaid : Prop := clientRoundRow.holds Try.pinned (OpenSpec.ofChange clientRoundSpec)

/-- ITS FALSE NEIGHBOUR: 'it returns false'. Refute it at one input. -/
def clientRoundWrong : ChangeSpec := { name := "clientRound", fn := fun _ => fun
  | [d1, d2, d3, d4] => { results := [.lit (.bool false)], args := [d1, d2, d3, d4] }
  | _ => none }
def ClientRoundWrongFalsely : Prop := clientRoundRow.holds Try.pinned (OpenSpec.ofChange clientRoundWrong)

/-- 'concordlaw24.ClientOther': WHATEVER THE INPUT: true; the input reads as it did. -/
def clientOtherSpec : ChangeSpec := { name := "clientOther", fn := fun _ => fun
  | [d1, d2, d3] => { results := [.lit (.bool true)], args := [d1, d2, d3] }
  | _ => none }
def clientOtherRow : OpenClaim := { program := "ytkojfgebdoojnaa", sum := "1d3eac566f18680c269bbd918283258178bcba5e71e221eef5ecb4d5f21fe883", func := "concord/concordlaw24.ClientOther", spec := "clientOther", apart := false }
def ClientOtherSaid : Prop := clientOtherRow.holds Try.pinned (OpenSpec.ofChange clientOtherSpec)

/-- ITS FALSE NEIGHBOUR: 'it returns false'. Refute it at one input. -/
def clientOtherWrong : ChangeSpec := { name := "clientOther", fn := fun _ => fun
  | [d1, d2, d3] => { results := [.lit (.bool false)], args := [d1, d2, d3] }
  | _ => none }
def ClientOtherWrongFalsely : Prop := clientOtherRow.holds Try.pinned (OpenSpec.ofChange clientOtherWrong)

/- THE SECOND FORM. 'bulk': how many values and letters a reading holds, each counted each time it is reached (what is shared counts as often as it is met; a slice's spare places count too). A statement '..UptoSaid' is the law's where the arguments, and the package variables that the reading takes, are together of bulk at most 1048576: NARROWER than '..Said'. Prove '..Said' where nothing that the law and all that it calls make is longer than what came in: it says more and counts as full. Else prove '..UptoSaid'. A law counts once. -/
mutual
def uptoBulk {H : Type} : DataW H → Nat
  | .lit (.string bytes) => bytes.length + 1
  | .lit _ => 1
  | .nil => 1
  | .ptr d => uptoBulk d + 1
  | .slice elems spare => uptoBulkAll elems + uptoBulkAll spare + 1
  | .agg parts => uptoBulkAll parts + 1
  | .iface _ d => uptoBulk d + 1
  | .map entries => uptoBulkEntries entries + 1
  | .held _ => 1
def uptoBulkAll {H : Type} : List (DataW H) → Nat
  | [] => 0
  | d :: r => uptoBulk d + uptoBulkAll r
def uptoBulkEntries {H : Type} : List (Lit × DataW H) → Nat
  | [] => 0
  | x :: r => uptoBulkEntry x + uptoBulkEntries r
def uptoBulkEntry {H : Type} : Lit × DataW H → Nat
  | (.string bytes, d) => bytes.length + uptoBulk d + 1
  | (_, d) => uptoBulk d + 1
 end
def uptoSmall : (H : Type) → List (DataW H) → Bool := fun _ ds => decide (uptoBulkAll ds ≤ 1048576)
def OpenSpec.upto (s : _root_.Go.ChangeSpec) : _root_.Go.OpenSpec := { _root_.Go.OpenSpec.ofChange s with cond := some uptoSmall }

/-- 'concordlaw24.ClientRuns', WHERE WHAT IT READS IS OF BULK AT MOST 1048576: true; the input reads as it did. -/
def clientRunsUptoRow : OpenClaim := { program := "ytkojfgebdoojnaa", sum := "1d3eac566f18680c269bbd918283258178bcba5e71e221eef5ecb4d5f21fe883", func := "concord/concordlaw24.ClientRuns", spec := "clientRuns", apart := false, narrowed := true }
def ClientRunsUptoSaid : Prop := clientRunsUptoRow.holds Try.pinned (OpenSpec.upto clientRunsSpec)

/-- 'concordlaw24.ClientPlays', WHERE WHAT IT READS IS OF BULK AT MOST 1048576: true; the input reads as it did. -/
def clientPlaysUptoRow : OpenClaim := { program := "ytkojfgebdoojnaa", sum := "1d3eac566f18680c269bbd918283258178bcba5e71e221eef5ecb4d5f21fe883", func := "concord/concordlaw24.ClientPlays", spec := "clientPlays", apart := false, narrowed := true }
def ClientPlaysUptoSaid : Prop := clientPlaysUptoRow.holds Try.pinned (OpenSpec.upto clientPlaysSpec)

/-- 'concordlaw24.ClientRound', WHERE WHAT IT READS IS OF BULK AT MOST 1048576: true; the input reads as it did. -/
def clientRoundUptoRow : OpenClaim := { program := "ytkojfgebdoojnaa", sum := "1d3eac566f18680c269bbd918283258178bcba5e71e221eef5ecb4d5f21fe883", func := "concord/concordlaw24.ClientRound", spec := "clientRound", apart := false, narrowed := true }
def ClientRoundUptoSaid : Prop := clientRoundUptoRow.holds Try.pinned (OpenSpec.upto clientRoundSpec)

/-- 'concordlaw24.ClientOther', WHERE WHAT IT READS IS OF BULK AT MOST 1048576: true; the input reads as it did. -/
def clientOtherUptoRow : OpenClaim := { program := "ytkojfgebdoojnaa", sum := "1d3eac566f18680c269bbd918283258178bcba5e71e221eef5ecb4d5f21fe883", func := "concord/concordlaw24.ClientOther", spec := "clientOther", apart := false, narrowed := true }
def ClientOtherUptoSaid : Prop := clientOtherUptoRow.holds Try.pinned (OpenSpec.upto clientOtherSpec)

end Rows
end Go.Proofs.Ytkojfgebdoojnaa
