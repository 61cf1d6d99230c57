/-
  No cell of these rows narrows 'for every input' (looked for: loops, veiled, ifaces, maps, wideKeys, modest, calm, conditions, laid).
  DERIVED. THE GIVEN ROWS OF THIS SEAT. 4 by the template 'for every input the law returns true; each argument reads behind the call as it read before'; 0 by the template 'total and deterministic' (their statements: YtfjllpnmkbfheaaTotals.lean).
  GIVEN WITH THE SEED: the statements are not yours to turn. If you find one false, say at which input.
  Laid BY PROGRAM, IN A SANDBOX (cutbox-rows.mjs): the forced cells as the released guide's own fill.sh prints them over the translation 007d3c29c8dd7966… (all of the seat's roots in one cut). By AI agents, Wed Nov 11 2026. No macro, syntax, notation, axiom, sorry.
-/
import Derived.Test.YtfjllpnmkbfheaaChecked
import GoSem.Claim
import GoSem.ClaimJoined
import GoSem.ClaimMapViews
import Derived.JoinedTies
import Derived.KernelRfl
namespace Go.Proofs.Ytfjllpnmkbfheaa
/- THE CELL 'sum', in the pinned program and in every row, IS THE sha256 OF THE DUMP (.gsa) THAT YtfjllpnmkbfheaaProg.lean LOADS. Nothing in Lean hashes anything: it is a label: what it is worth is what the hold of that sum in a sandbox is worth. -/
noncomputable def Try.pinned : Pinned := { name := "ytfjllpnmkbfheaa", sum := "007d3c29c8dd796601eed244b0b86559d51bfc9f036fe6b593d80c3dc07fbc75", checked := Try.checked }
namespace Rows
def none {H : Type} : Left H := { results := [], args := [] }

/-- 'concordlaw22.FrontRuns': WHATEVER THE INPUT: true; the input reads as it did. -/
def frontRunsSpec : ChangeSpec := { name := "frontRuns", fn := fun _ => fun
  | [] => { results := [.lit (.bool true)], args := [] }
  | _ => none }
def frontRunsRow : OpenClaim := { program := "ytfjllpnmkbfheaa", sum := "007d3c29c8dd796601eed244b0b86559d51bfc9f036fe6b593d80c3dc07fbc75", func := "concord/concordlaw22.FrontRuns", spec := "frontRuns", apart := false }
def FrontRunsSaid : Prop := frontRunsRow.holds Try.pinned (OpenSpec.ofChange frontRunsSpec)

/-- ITS FALSE NEIGHBOUR: 'it returns false'. Refute it at one input. -/
def frontRunsWrong : ChangeSpec := { name := "frontRuns", fn := fun _ => fun
  | [] => { results := [.lit (.bool false)], args := [] }
  | _ => none }
def FrontRunsWrongFalsely : Prop := frontRunsRow.holds Try.pinned (OpenSpec.ofChange frontRunsWrong)

/-- 'concordlaw22.FrontPlays': WHATEVER THE INPUT: true; the input reads as it did. -/
def frontPlaysSpec : ChangeSpec := { name := "frontPlays", fn := fun _ => fun
  | [d1, d2, d3] => { results := [.lit (.bool true)], args := [d1, d2, d3] }
  | _ => none }
def frontPlaysRow : OpenClaim := { program := "ytfjllpnmkbfheaa", sum := "007d3c29c8dd796601eed244b0b86559d51bfc9f036fe6b593d80c3dc07fbc75", func := "concord/concordlaw22.FrontPlays", spec := "frontPlays", apart := false }
def FrontPlaysSaid : Prop := frontPlaysRow.holds Try.pinned (OpenSpec.ofChange frontPlaysSpec)

/-- ITS FALSE NEIGHBOUR: 'it returns false'. Refute it at one input. -/
def frontPlaysWrong : ChangeSpec := { name := "frontPlays", fn := fun _ => fun
  | [d1, d2, d3] => { results := [.lit (.bool false)], args := [d1, d2, d3] }
  | _ => none }
def FrontPlaysWrongFalsely : Prop := frontPlaysRow.holds Try.pinned (OpenSpec.ofChange frontPlaysWrong)

/-- 'concordlaw22.FrontAll': WHATEVER THE INPUT: true; the input reads as it did. -/
def frontAllSpec : ChangeSpec := { name := "frontAll", fn := fun _ => fun
  | [d1, d2, d3] => { results := [.lit (.bool true)], args := [d1, d2, d3] }
  | _ => none }
def frontAllRow : OpenClaim := { program := "ytfjllpnmkbfheaa", sum := "007d3c29c8dd796601eed244b0b86559d51bfc9f036fe6b593d80c3dc07fbc75", func := "concord/concordlaw22.FrontAll", spec := "frontAll", apart := false }
def FrontAllSaid : Prop := frontAllRow.holds Try.pinned (OpenSpec.ofChange frontAllSpec)

/-- ITS FALSE NEIGHBOUR: 'it returns false'. Refute it at one input. -/
def frontAllWrong : ChangeSpec := { name := "frontAll", fn := fun _ => fun
  | [d1, d2, d3] => { results := [.lit (.bool false)], args := [d1, d2, d3] }
  | _ => none }
def FrontAllWrongFalsely : Prop := frontAllRow.holds Try.pinned (OpenSpec.ofChange frontAllWrong)

/-- 'concordlaw22.FrontOrder': WHATEVER THE INPUT: true; the input reads as it did. -/
def frontOrderSpec : ChangeSpec := { name := "frontOrder", fn := fun _ => fun
  | [d1, d2, d3, d4] => { results := [.lit (.bool true)], args := [d1, d2, d3, d4] }
  | _ => none }
def frontOrderRow : OpenClaim := { program := "ytfjllpnmkbfheaa", sum := "007d3c29c8dd796601eed244b0b86559d51bfc9f036fe6b593d80c3dc07fbc75", func := "concord/concordlaw22.FrontOrder", spec := "frontOrder", apart := false }
def FrontOrderSaid : Prop := frontOrderRow.holds Try.pinned (OpenSpec.ofChange frontOrderSpec)

/-- ITS FALSE NEIGHBOUR: 'it returns false'. Refute it at one input. -/
def frontOrderWrong : ChangeSpec := { name := "frontOrder", fn := fun _ => fun
  | [d1, d2, d3, d4] => { results := [.lit (.bool false)], args := [d1, d2, d3, d4] }
  | _ => none }
def FrontOrderWrongFalsely : Prop := frontOrderRow.holds Try.pinned (OpenSpec.ofChange frontOrderWrong)

/- THE SECOND FORM. 'bulk': how many values and letters a reading holds, each counted each time it is reached (what is shared counts as often as it is met; a slice's spare places count too). A statement '..UptoSaid' is the law's where the arguments, and the package variables that the reading takes, are together of bulk at most 1048576: NARROWER than '..Said'. Prove '..Said' where nothing that the law and all that it calls make is longer than what came in: it says more and counts as full. Else prove '..UptoSaid'. A law counts once. -/
mutual
def uptoBulk {H : Type} : DataW H → Nat
  | .lit (.string bytes) => bytes.length + 1
  | .lit _ => 1
  | .nil => 1
  | .ptr d => uptoBulk d + 1
  | .slice elems spare => uptoBulkAll elems + uptoBulkAll spare + 1
  | .agg parts => uptoBulkAll parts + 1
  | .iface _ d => uptoBulk d + 1
  | .map entries => uptoBulkEntries entries + 1
  | .held _ => 1
def uptoBulkAll {H : Type} : List (DataW H) → Nat
  | [] => 0
  | d :: r => uptoBulk d + uptoBulkAll r
def uptoBulkEntries {H : Type} : List (Lit × DataW H) → Nat
  | [] => 0
  | x :: r => uptoBulkEntry x + uptoBulkEntries r
def uptoBulkEntry {H : Type} : Lit × DataW H → Nat
  | (.string bytes, d) => bytes.length + uptoBulk d + 1
  | (_, d) => uptoBulk d + 1
 end
def uptoSmall : (H : Type) → List (DataW H) → Bool := fun _ ds => decide (uptoBulkAll ds ≤ 1048576)
def OpenSpec.upto (s : _root_.Go.ChangeSpec) : _root_.Go.OpenSpec := { _root_.Go.OpenSpec.ofChange s with cond := some uptoSmall }

/-- 'concordlaw22.FrontRuns', WHERE WHAT IT READS IS OF BULK AT MOST 1048576: true; the input reads as it did. -/
def frontRunsUptoRow : OpenClaim := { program := "ytfjllpnmkbfheaa", sum := "007d3c29c8dd796601eed244b0b86559d51bfc9f036fe6b593d80c3dc07fbc75", func := "concord/concordlaw22.FrontRuns", spec := "frontRuns", apart := false, narrowed := true }
def FrontRunsUptoSaid : Prop := frontRunsUptoRow.holds Try.pinned (OpenSpec.upto frontRunsSpec)

/-- 'concordlaw22.FrontPlays', WHERE WHAT IT READS IS OF BULK AT MOST 1048576: true; the input reads as it did. -/
def frontPlaysUptoRow : OpenClaim := { program := "ytfjllpnmkbfheaa", sum := "007d3c29c8dd796601eed244b0b86559d51bfc9f036fe6b593d80c3dc07fbc75", func := "concord/concordlaw22.FrontPlays", spec := "frontPlays", apart := false, narrowed := true }
def FrontPlaysUptoSaid : Prop := frontPlaysUptoRow.holds Try.pinned (OpenSpec.upto frontPlaysSpec)

/-- 'concordlaw22.FrontAll', WHERE WHAT IT READS IS OF BULK AT MOST 1048576: true; the input reads as it did. -/
def frontAllUptoRow : OpenClaim := { program := "ytfjllpnmkbfheaa", sum := "007d3c29c8dd796601eed244b0b86559d51bfc9f036fe6b593d80c3dc07fbc75", func := "concord/concordlaw22.FrontAll", spec := "frontAll", apart := false, narrowed := true }
def FrontAllUptoSaid : Prop := frontAllUptoRow.holds Try.pinned (OpenSpec.upto frontAllSpec)

/-- 'concordlaw22.FrontOrder', WHERE WHAT IT READS IS OF BULK AT MOST 1048576: true; the input reads as it did. -/
def frontOrderUptoRow : OpenClaim := { program := "ytfjllpnmkbfheaa", sum := "007d3c29c8dd796601eed244b0b86559d51bfc9f036fe6b593d80c3dc07fbc75", func := "concord/concordlaw22.FrontOrder", spec := "frontOrder", apart := false, narrowed := true }
def FrontOrderUptoSaid : Prop := frontOrderUptoRow.holds Try.pinned (OpenSpec.upto frontOrderSpec)

end Rows
end Go.Proofs.Ytfjllpnmkbfheaa
