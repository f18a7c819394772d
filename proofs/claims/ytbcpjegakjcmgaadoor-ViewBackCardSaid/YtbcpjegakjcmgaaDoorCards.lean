/-
  DERIVED. GIVEN WITH THE SEED: THE CARDS: each row of YtbcpjegakjcmgaaDoorRows.lean that lists a variable, with what it lists TIED to the program's text (the seventh form; the later family's looks); each row that meets fmt, with fmt's text TOLD by the authors' own Lean function (tested against real Go, not proved from fmt's source: count such statements apart). THE CARD IS WHAT COUNTS. Prove the row's statement (the work); the ties are given (YtbcpjegakjcmgaaDoorTie.lean); close each card by the builder's one call (the guide's Derived/Test/ToyasCard.lean, 'card_holds'). Laid BY PROGRAM, IN A SANDBOX (cutbox-door.mjs). By AI agents, Wed Nov 11 2026. No macro, syntax, notation, axiom, sorry.
-/
import Derived.Test.YtbcpjegakjcmgaaDoorRows
import GoSem.ClaimSeven
namespace Go.Proofs.YtbcpjegakjcmgaaDoor
namespace Rows

/-- THE TIED CARD OF 'carillonlaw12.ViewBytes'. -/
def viewBytesCard : Claim7 := { stood := { row := viewBytesRow, standIns := [], harness := (true, "4fe315521e4802223588c322bde3ddb1e871751cf6543ab95a1343120d32a6d9"), looks := false }, kinds := [], alts := [], laidByText := true, laidKinds := [.data], laidTests := true, laidLooks := .later }
def ViewBytesCardSaid : Prop := Claim7.holds Tryd.pinned (.plain (OpenSpec.ofChange viewBytesSpec)) viewBytesCard

/-- THE TIED CARD OF 'carillonlaw12.ViewBack'. -/
def viewBackCard : Claim7 := { stood := { row := viewBackRow, standIns := [], harness := (true, "4fe315521e4802223588c322bde3ddb1e871751cf6543ab95a1343120d32a6d9"), looks := false }, kinds := [], alts := [], laidByText := true, laidKinds := [.data], laidTests := true, laidLooks := .later }
def ViewBackCardSaid : Prop := Claim7.holds Tryd.pinned (.plain (OpenSpec.ofChange viewBackSpec)) viewBackCard

/-- THE SECOND FORM's CARD OF 'carillonlaw12.ViewBytes'. -/
def viewBytesUptoCard : Claim7 := { stood := { row := viewBytesUptoRow, standIns := [], harness := (true, "4fe315521e4802223588c322bde3ddb1e871751cf6543ab95a1343120d32a6d9"), looks := false }, kinds := [], alts := [], laidByText := true, laidKinds := [.data], laidTests := true, laidLooks := .later }
def ViewBytesUptoCardSaid : Prop := Claim7.holds Tryd.pinned (.plain (OpenSpec.upto viewBytesSpec)) viewBytesUptoCard

/-- THE SECOND FORM's CARD OF 'carillonlaw12.ViewBack'. -/
def viewBackUptoCard : Claim7 := { stood := { row := viewBackUptoRow, standIns := [], harness := (true, "4fe315521e4802223588c322bde3ddb1e871751cf6543ab95a1343120d32a6d9"), looks := false }, kinds := [], alts := [], laidByText := true, laidKinds := [.data], laidTests := true, laidLooks := .later }
def ViewBackUptoCardSaid : Prop := Claim7.holds Tryd.pinned (.plain (OpenSpec.upto viewBackSpec)) viewBackUptoCard
end Rows
end Go.Proofs.YtbcpjegakjcmgaaDoor
