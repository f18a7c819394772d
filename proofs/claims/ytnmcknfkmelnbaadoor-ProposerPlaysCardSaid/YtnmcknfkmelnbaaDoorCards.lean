/-
  DERIVED. GIVEN WITH THE SEED: THE CARDS: each row of YtnmcknfkmelnbaaDoorRows.lean that lists a variable, with what it lists TIED to the program's text (the seventh form; the later family's looks); each row that meets fmt, with fmt's text TOLD by the authors' own Lean function (tested against real Go, not proved from fmt's source: count such statements apart). THE CARD IS WHAT COUNTS. Prove the row's statement (the work); the ties are given (YtnmcknfkmelnbaaDoorTie.lean); close each card by the builder's one call (the guide's Derived/Test/ToyasCard.lean, 'card_holds'). Laid BY PROGRAM, IN A SANDBOX (cutbox-door.mjs). By AI agents, Wed Nov 11 2026. No macro, syntax, notation, axiom, sorry.
-/
import Derived.Test.YtnmcknfkmelnbaaDoorRows
import GoSem.ClaimSeven
namespace Go.Proofs.YtnmcknfkmelnbaaDoor
namespace Rows

/-- THE TIED CARD OF 'carillonlaw11.ProposerPlays'. -/
def proposerPlaysCard : Claim7 := { stood := { row := proposerPlaysRow, standIns := [], harness := (true, "f347fb1cac76dd3ff4bb7c65c0db8a43cf0607b35520736a29f64184015cacb2"), looks := false }, kinds := [], alts := [], laidByText := true, laidKinds := [.data], laidTests := true, laidLooks := .later }
def ProposerPlaysCardSaid : Prop := Claim7.holds Tryd.pinned (.plain (OpenSpec.ofChange proposerPlaysSpec)) proposerPlaysCard

/-- THE TIED CARD OF 'carillonlaw11.ProposerValue'. -/
def proposerValueCard : Claim7 := { stood := { row := proposerValueRow, standIns := [], harness := (true, "f347fb1cac76dd3ff4bb7c65c0db8a43cf0607b35520736a29f64184015cacb2"), looks := false }, kinds := [], alts := [], laidByText := true, laidKinds := [.data], laidTests := true, laidLooks := .later }
def ProposerValueCardSaid : Prop := Claim7.holds Tryd.pinned (.plain (OpenSpec.ofChange proposerValueSpec)) proposerValueCard

/-- THE TIED CARD OF 'carillonlaw11.ProposerAgrees'. -/
def proposerAgreesCard : Claim7 := { stood := { row := proposerAgreesRow, standIns := [], harness := (true, "f347fb1cac76dd3ff4bb7c65c0db8a43cf0607b35520736a29f64184015cacb2"), looks := false }, kinds := [], alts := [], laidByText := true, laidKinds := [.data], laidTests := true, laidLooks := .later }
def ProposerAgreesCardSaid : Prop := Claim7.holds Tryd.pinned (.plain (OpenSpec.ofChange proposerAgreesSpec)) proposerAgreesCard

/-- THE TIED CARD OF 'carillonlaw11.ProposerEnds'. -/
def proposerEndsCard : Claim7 := { stood := { row := proposerEndsRow, standIns := [], harness := (true, "f347fb1cac76dd3ff4bb7c65c0db8a43cf0607b35520736a29f64184015cacb2"), looks := false }, kinds := [], alts := [], laidByText := true, laidKinds := [.data], laidTests := true, laidLooks := .later }
def ProposerEndsCardSaid : Prop := Claim7.holds Tryd.pinned (.plain (OpenSpec.ofChange proposerEndsSpec)) proposerEndsCard

/-- THE SECOND FORM's CARD OF 'carillonlaw11.ProposerPlays'. -/
def proposerPlaysUptoCard : Claim7 := { stood := { row := proposerPlaysUptoRow, standIns := [], harness := (true, "f347fb1cac76dd3ff4bb7c65c0db8a43cf0607b35520736a29f64184015cacb2"), looks := false }, kinds := [], alts := [], laidByText := true, laidKinds := [.data], laidTests := true, laidLooks := .later }
def ProposerPlaysUptoCardSaid : Prop := Claim7.holds Tryd.pinned (.plain (OpenSpec.upto proposerPlaysSpec)) proposerPlaysUptoCard

/-- THE SECOND FORM's CARD OF 'carillonlaw11.ProposerValue'. -/
def proposerValueUptoCard : Claim7 := { stood := { row := proposerValueUptoRow, standIns := [], harness := (true, "f347fb1cac76dd3ff4bb7c65c0db8a43cf0607b35520736a29f64184015cacb2"), looks := false }, kinds := [], alts := [], laidByText := true, laidKinds := [.data], laidTests := true, laidLooks := .later }
def ProposerValueUptoCardSaid : Prop := Claim7.holds Tryd.pinned (.plain (OpenSpec.upto proposerValueSpec)) proposerValueUptoCard

/-- THE SECOND FORM's CARD OF 'carillonlaw11.ProposerAgrees'. -/
def proposerAgreesUptoCard : Claim7 := { stood := { row := proposerAgreesUptoRow, standIns := [], harness := (true, "f347fb1cac76dd3ff4bb7c65c0db8a43cf0607b35520736a29f64184015cacb2"), looks := false }, kinds := [], alts := [], laidByText := true, laidKinds := [.data], laidTests := true, laidLooks := .later }
def ProposerAgreesUptoCardSaid : Prop := Claim7.holds Tryd.pinned (.plain (OpenSpec.upto proposerAgreesSpec)) proposerAgreesUptoCard

/-- THE SECOND FORM's CARD OF 'carillonlaw11.ProposerEnds'. -/
def proposerEndsUptoCard : Claim7 := { stood := { row := proposerEndsUptoRow, standIns := [], harness := (true, "f347fb1cac76dd3ff4bb7c65c0db8a43cf0607b35520736a29f64184015cacb2"), looks := false }, kinds := [], alts := [], laidByText := true, laidKinds := [.data], laidTests := true, laidLooks := .later }
def ProposerEndsUptoCardSaid : Prop := Claim7.holds Tryd.pinned (.plain (OpenSpec.upto proposerEndsSpec)) proposerEndsUptoCard
end Rows
end Go.Proofs.YtnmcknfkmelnbaaDoor
