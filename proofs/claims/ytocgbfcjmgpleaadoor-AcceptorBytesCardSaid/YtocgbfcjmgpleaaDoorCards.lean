/-
  DERIVED. GIVEN WITH THE SEED: THE CARDS: each row of YtocgbfcjmgpleaaDoorRows.lean that lists a variable, with what it lists TIED to the program's text (the seventh form; the later family's looks); each row that meets fmt, with fmt's text TOLD by the authors' own Lean function (tested against real Go, not proved from fmt's source: count such statements apart). THE CARD IS WHAT COUNTS. Prove the row's statement (the work); the ties are given (YtocgbfcjmgpleaaDoorTie.lean); close each card by the builder's one call (the guide's Derived/Test/ToyasCard.lean, 'card_holds'). Laid BY PROGRAM, IN A SANDBOX (cutbox-door.mjs). By AI agents, Wed Nov 11 2026. No macro, syntax, notation, axiom, sorry.
-/
import Derived.Test.YtocgbfcjmgpleaaDoorRows
import GoSem.ClaimSeven
namespace Go.Proofs.YtocgbfcjmgpleaaDoor
namespace Rows

/-- THE TIED CARD OF 'carillonlaw10.AcceptorBytes'. -/
def acceptorBytesCard : Claim7 := { stood := { row := acceptorBytesRow, standIns := [], harness := (true, "4cd897412571d5a61a33ae9028acccbe179240e7f3bedf44a0110b4aee3d63ba"), looks := false }, kinds := [], alts := [], laidByText := true, laidKinds := [.data], laidTests := true, laidLooks := .later }
def AcceptorBytesCardSaid : Prop := Claim7.holds Tryd.pinned (.plain (OpenSpec.ofChange acceptorBytesSpec)) acceptorBytesCard

/-- THE TIED CARD OF 'carillonlaw10.AcceptorKeeps'. -/
def acceptorKeepsCard : Claim7 := { stood := { row := acceptorKeepsRow, standIns := [], harness := (true, "4cd897412571d5a61a33ae9028acccbe179240e7f3bedf44a0110b4aee3d63ba"), looks := false }, kinds := [], alts := [], laidByText := true, laidKinds := [.data], laidTests := true, laidLooks := .later }
def AcceptorKeepsCardSaid : Prop := Claim7.holds Tryd.pinned (.plain (OpenSpec.ofChange acceptorKeepsSpec)) acceptorKeepsCard

/-- THE TIED CARD OF 'carillonlaw10.AcceptorBack'. -/
def acceptorBackCard : Claim7 := { stood := { row := acceptorBackRow, standIns := [], harness := (true, "4cd897412571d5a61a33ae9028acccbe179240e7f3bedf44a0110b4aee3d63ba"), looks := false }, kinds := [], alts := [], laidByText := true, laidKinds := [.data], laidTests := true, laidLooks := .later }
def AcceptorBackCardSaid : Prop := Claim7.holds Tryd.pinned (.plain (OpenSpec.ofChange acceptorBackSpec)) acceptorBackCard

/-- THE SECOND FORM's CARD OF 'carillonlaw10.AcceptorBytes'. -/
def acceptorBytesUptoCard : Claim7 := { stood := { row := acceptorBytesUptoRow, standIns := [], harness := (true, "4cd897412571d5a61a33ae9028acccbe179240e7f3bedf44a0110b4aee3d63ba"), looks := false }, kinds := [], alts := [], laidByText := true, laidKinds := [.data], laidTests := true, laidLooks := .later }
def AcceptorBytesUptoCardSaid : Prop := Claim7.holds Tryd.pinned (.plain (OpenSpec.upto acceptorBytesSpec)) acceptorBytesUptoCard

/-- THE SECOND FORM's CARD OF 'carillonlaw10.AcceptorKeeps'. -/
def acceptorKeepsUptoCard : Claim7 := { stood := { row := acceptorKeepsUptoRow, standIns := [], harness := (true, "4cd897412571d5a61a33ae9028acccbe179240e7f3bedf44a0110b4aee3d63ba"), looks := false }, kinds := [], alts := [], laidByText := true, laidKinds := [.data], laidTests := true, laidLooks := .later }
def AcceptorKeepsUptoCardSaid : Prop := Claim7.holds Tryd.pinned (.plain (OpenSpec.upto acceptorKeepsSpec)) acceptorKeepsUptoCard

/-- THE SECOND FORM's CARD OF 'carillonlaw10.AcceptorBack'. -/
def acceptorBackUptoCard : Claim7 := { stood := { row := acceptorBackUptoRow, standIns := [], harness := (true, "4cd897412571d5a61a33ae9028acccbe179240e7f3bedf44a0110b4aee3d63ba"), looks := false }, kinds := [], alts := [], laidByText := true, laidKinds := [.data], laidTests := true, laidLooks := .later }
def AcceptorBackUptoCardSaid : Prop := Claim7.holds Tryd.pinned (.plain (OpenSpec.upto acceptorBackSpec)) acceptorBackUptoCard
end Rows
end Go.Proofs.YtocgbfcjmgpleaaDoor
