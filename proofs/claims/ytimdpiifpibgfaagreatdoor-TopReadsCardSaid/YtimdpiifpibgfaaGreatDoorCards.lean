/-
  DERIVED. GIVEN WITH THE SEED: THE CARDS: each row of YtimdpiifpibgfaaGreatDoorRows.lean that lists a variable, with what it lists TIED to the program's text (the seventh form; the later family's looks); each row that meets fmt, with fmt's text TOLD by the authors' own Lean function (tested against real Go, not proved from fmt's source: count such statements apart). THE CARD IS WHAT COUNTS. Prove the row's statement (the work); the ties are given (YtimdpiifpibgfaaGreatDoorTie.lean); close each card by the builder's one call (the guide's Derived/Test/ToyasCard.lean, 'card_holds'). Laid BY PROGRAM, IN A SANDBOX (cutbox-door.mjs). By AI agents, Wed Nov 11 2026. No macro, syntax, notation, axiom, sorry.
-/
import Derived.Test.YtimdpiifpibgfaaGreatDoorRows
import GoSem.ClaimSeven
namespace Go.Proofs.YtimdpiifpibgfaaGreatDoor
namespace Rows

/-- THE TIED CARD OF 'concordtop.TopFast'. -/
def topFastCard : Claim7 := { stood := { row := topFastRow, standIns := [], harness := (true, "ab2fa8b46f5f1be0472b126ffdaa744d7b6671e039a313fb9b8495befcd365c2"), looks := true }, kinds := [], alts := [], laidByText := true, laidKinds := [.data, .data, .data, .sentinel, .sentinel], laidTests := true, laidLooks := .later }
def TopFastCardSaid : Prop := Claim7.holds Tryz.pinned (.plain (OpenSpec.ofChange topFastSpec)) topFastCard

/-- THE TIED CARD OF 'concordtop.TopGone'. -/
def topGoneCard : Claim7 := { stood := { row := topGoneRow, standIns := [], harness := (true, "ab2fa8b46f5f1be0472b126ffdaa744d7b6671e039a313fb9b8495befcd365c2"), looks := true }, kinds := [], alts := [], laidByText := true, laidKinds := [.data, .data, .data, .sentinel, .sentinel], laidTests := true, laidLooks := .later }
def TopGoneCardSaid : Prop := Claim7.holds Tryz.pinned (.plain (OpenSpec.ofChange topGoneSpec)) topGoneCard

/-- THE TIED CARD OF 'concordtop.TopReads'. -/
def topReadsCard : Claim7 := { stood := { row := topReadsRow, standIns := [], harness := (true, "ab2fa8b46f5f1be0472b126ffdaa744d7b6671e039a313fb9b8495befcd365c2"), looks := true }, kinds := [], alts := [], laidByText := true, laidKinds := [.data, .data, .data, .sentinel, .sentinel], laidTests := true, laidLooks := .later }
def TopReadsCardSaid : Prop := Claim7.holds Tryz.pinned (.plain (OpenSpec.ofChange topReadsSpec)) topReadsCard

/-- THE TIED CARD OF 'concordtop.TopCopies'. -/
def topCopiesCard : Claim7 := { stood := { row := topCopiesRow, standIns := [], harness := (true, "ab2fa8b46f5f1be0472b126ffdaa744d7b6671e039a313fb9b8495befcd365c2"), looks := true }, kinds := [], alts := [], laidByText := true, laidKinds := [.data, .data, .data, .sentinel, .sentinel], laidTests := true, laidLooks := .later }
def TopCopiesCardSaid : Prop := Claim7.holds Tryz.pinned (.plain (OpenSpec.ofChange topCopiesSpec)) topCopiesCard

/-- THE SECOND FORM's CARD OF 'concordtop.TopFast'. -/
def topFastUptoCard : Claim7 := { stood := { row := topFastUptoRow, standIns := [], harness := (true, "ab2fa8b46f5f1be0472b126ffdaa744d7b6671e039a313fb9b8495befcd365c2"), looks := true }, kinds := [], alts := [], laidByText := true, laidKinds := [.data, .data, .data, .sentinel, .sentinel], laidTests := true, laidLooks := .later }
def TopFastUptoCardSaid : Prop := Claim7.holds Tryz.pinned (.plain (OpenSpec.upto topFastSpec)) topFastUptoCard

/-- THE SECOND FORM's CARD OF 'concordtop.TopGone'. -/
def topGoneUptoCard : Claim7 := { stood := { row := topGoneUptoRow, standIns := [], harness := (true, "ab2fa8b46f5f1be0472b126ffdaa744d7b6671e039a313fb9b8495befcd365c2"), looks := true }, kinds := [], alts := [], laidByText := true, laidKinds := [.data, .data, .data, .sentinel, .sentinel], laidTests := true, laidLooks := .later }
def TopGoneUptoCardSaid : Prop := Claim7.holds Tryz.pinned (.plain (OpenSpec.upto topGoneSpec)) topGoneUptoCard

/-- THE SECOND FORM's CARD OF 'concordtop.TopReads'. -/
def topReadsUptoCard : Claim7 := { stood := { row := topReadsUptoRow, standIns := [], harness := (true, "ab2fa8b46f5f1be0472b126ffdaa744d7b6671e039a313fb9b8495befcd365c2"), looks := true }, kinds := [], alts := [], laidByText := true, laidKinds := [.data, .data, .data, .sentinel, .sentinel], laidTests := true, laidLooks := .later }
def TopReadsUptoCardSaid : Prop := Claim7.holds Tryz.pinned (.plain (OpenSpec.upto topReadsSpec)) topReadsUptoCard

/-- THE SECOND FORM's CARD OF 'concordtop.TopCopies'. -/
def topCopiesUptoCard : Claim7 := { stood := { row := topCopiesUptoRow, standIns := [], harness := (true, "ab2fa8b46f5f1be0472b126ffdaa744d7b6671e039a313fb9b8495befcd365c2"), looks := true }, kinds := [], alts := [], laidByText := true, laidKinds := [.data, .data, .data, .sentinel, .sentinel], laidTests := true, laidLooks := .later }
def TopCopiesUptoCardSaid : Prop := Claim7.holds Tryz.pinned (.plain (OpenSpec.upto topCopiesSpec)) topCopiesUptoCard
end Rows
end Go.Proofs.YtimdpiifpibgfaaGreatDoor
