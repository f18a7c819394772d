/-
  DERIVED. GIVEN WITH THE SEED: THE CARDS: each row of YtpgiagdpepkooaaDoorRows.lean that lists a variable, with what it lists TIED to the program's text (the seventh form; the later family's looks); each row that meets fmt, with fmt's text TOLD by the authors' own Lean function (tested against real Go, not proved from fmt's source: count such statements apart). THE CARD IS WHAT COUNTS. Prove the row's statement (the work); the ties are given (YtpgiagdpepkooaaDoorTie.lean); close each card by the builder's one call (the guide's Derived/Test/ToyasCard.lean, 'card_holds'). Laid BY PROGRAM, IN A SANDBOX (cutbox-door.mjs). By AI agents, Wed Nov 11 2026. No macro, syntax, notation, axiom, sorry.
-/
import Derived.Test.YtpgiagdpepkooaaDoorRows
import GoSem.ClaimSeven
namespace Go.Proofs.YtpgiagdpepkooaaDoor
namespace Rows

/-- THE TIED CARD OF 'carillonlaw14.CommandBytes'. -/
def commandBytesCard : Claim7 := { stood := { row := commandBytesRow, standIns := [], harness := (true, "ce9f0d52287d1db6775c430bfe8a542046eba1141793c46ecefb2ddd3ce1b50f"), looks := false }, kinds := [], alts := [], laidByText := true, laidKinds := [.data, .data], laidTests := true, laidLooks := .later }
def CommandBytesCardSaid : Prop := Claim7.holds Tryd.pinned (.plain (OpenSpec.ofChange commandBytesSpec)) commandBytesCard

/-- THE TIED CARD OF 'carillonlaw14.CommandAsks'. -/
def commandAsksCard : Claim7 := { stood := { row := commandAsksRow, standIns := [], harness := (true, "ce9f0d52287d1db6775c430bfe8a542046eba1141793c46ecefb2ddd3ce1b50f"), looks := false }, kinds := [], alts := [], laidByText := true, laidKinds := [.data, .data], laidTests := true, laidLooks := .later }
def CommandAsksCardSaid : Prop := Claim7.holds Tryd.pinned (.plain (OpenSpec.ofChange commandAsksSpec)) commandAsksCard

/-- THE TIED CARD OF 'carillonlaw14.CommandAnswers'. -/
def commandAnswersCard : Claim7 := { stood := { row := commandAnswersRow, standIns := [], harness := (true, "ce9f0d52287d1db6775c430bfe8a542046eba1141793c46ecefb2ddd3ce1b50f"), looks := false }, kinds := [], alts := [], laidByText := true, laidKinds := [.data, .data], laidTests := true, laidLooks := .later }
def CommandAnswersCardSaid : Prop := Claim7.holds Tryd.pinned (.plain (OpenSpec.ofChange commandAnswersSpec)) commandAnswersCard

/-- THE TIED CARD OF 'carillonlaw14.CommandBack'. -/
def commandBackCard : Claim7 := { stood := { row := commandBackRow, standIns := [], harness := (true, "ce9f0d52287d1db6775c430bfe8a542046eba1141793c46ecefb2ddd3ce1b50f"), looks := false }, kinds := [], alts := [], laidByText := true, laidKinds := [.data, .data], laidTests := true, laidLooks := .later }
def CommandBackCardSaid : Prop := Claim7.holds Tryd.pinned (.plain (OpenSpec.ofChange commandBackSpec)) commandBackCard

/-- THE TIED CARD OF 'carillonlaw14.CommandReply'. -/
def commandReplyCard : Claim7 := { stood := { row := commandReplyRow, standIns := [], harness := (true, "ce9f0d52287d1db6775c430bfe8a542046eba1141793c46ecefb2ddd3ce1b50f"), looks := false }, kinds := [], alts := [], laidByText := true, laidKinds := [.data, .data], laidTests := true, laidLooks := .later }
def CommandReplyCardSaid : Prop := Claim7.holds Tryd.pinned (.plain (OpenSpec.ofChange commandReplySpec)) commandReplyCard

/-- THE TIED CARD OF 'carillonlaw14.CommandTorn'. -/
def commandTornCard : Claim7 := { stood := { row := commandTornRow, standIns := [], harness := (true, "ce9f0d52287d1db6775c430bfe8a542046eba1141793c46ecefb2ddd3ce1b50f"), looks := false }, kinds := [], alts := [], laidByText := true, laidKinds := [.data, .data], laidTests := true, laidLooks := .later }
def CommandTornCardSaid : Prop := Claim7.holds Tryd.pinned (.plain (OpenSpec.ofChange commandTornSpec)) commandTornCard

/-- THE TIED CARD OF 'carillonlaw14.CommandWords'. -/
def commandWordsCard : Claim7 := { stood := { row := commandWordsRow, standIns := [], harness := (true, "ce9f0d52287d1db6775c430bfe8a542046eba1141793c46ecefb2ddd3ce1b50f"), looks := false }, kinds := [], alts := [], laidByText := true, laidKinds := [.data, .data], laidTests := true, laidLooks := .later }
def CommandWordsCardSaid : Prop := Claim7.holds Tryd.pinned (.plain (OpenSpec.ofChange commandWordsSpec)) commandWordsCard

/-- THE TIED CARD OF 'carillonlaw14.CommandKinds'. -/
def commandKindsCard : Claim7 := { stood := { row := commandKindsRow, standIns := [], harness := (true, "ce9f0d52287d1db6775c430bfe8a542046eba1141793c46ecefb2ddd3ce1b50f"), looks := false }, kinds := [], alts := [], laidByText := true, laidKinds := [.data, .data], laidTests := true, laidLooks := .later }
def CommandKindsCardSaid : Prop := Claim7.holds Tryd.pinned (.plain (OpenSpec.ofChange commandKindsSpec)) commandKindsCard

/-- THE SECOND FORM's CARD OF 'carillonlaw14.CommandBytes'. -/
def commandBytesUptoCard : Claim7 := { stood := { row := commandBytesUptoRow, standIns := [], harness := (true, "ce9f0d52287d1db6775c430bfe8a542046eba1141793c46ecefb2ddd3ce1b50f"), looks := false }, kinds := [], alts := [], laidByText := true, laidKinds := [.data, .data], laidTests := true, laidLooks := .later }
def CommandBytesUptoCardSaid : Prop := Claim7.holds Tryd.pinned (.plain (OpenSpec.upto commandBytesSpec)) commandBytesUptoCard

/-- THE SECOND FORM's CARD OF 'carillonlaw14.CommandAsks'. -/
def commandAsksUptoCard : Claim7 := { stood := { row := commandAsksUptoRow, standIns := [], harness := (true, "ce9f0d52287d1db6775c430bfe8a542046eba1141793c46ecefb2ddd3ce1b50f"), looks := false }, kinds := [], alts := [], laidByText := true, laidKinds := [.data, .data], laidTests := true, laidLooks := .later }
def CommandAsksUptoCardSaid : Prop := Claim7.holds Tryd.pinned (.plain (OpenSpec.upto commandAsksSpec)) commandAsksUptoCard

/-- THE SECOND FORM's CARD OF 'carillonlaw14.CommandAnswers'. -/
def commandAnswersUptoCard : Claim7 := { stood := { row := commandAnswersUptoRow, standIns := [], harness := (true, "ce9f0d52287d1db6775c430bfe8a542046eba1141793c46ecefb2ddd3ce1b50f"), looks := false }, kinds := [], alts := [], laidByText := true, laidKinds := [.data, .data], laidTests := true, laidLooks := .later }
def CommandAnswersUptoCardSaid : Prop := Claim7.holds Tryd.pinned (.plain (OpenSpec.upto commandAnswersSpec)) commandAnswersUptoCard

/-- THE SECOND FORM's CARD OF 'carillonlaw14.CommandBack'. -/
def commandBackUptoCard : Claim7 := { stood := { row := commandBackUptoRow, standIns := [], harness := (true, "ce9f0d52287d1db6775c430bfe8a542046eba1141793c46ecefb2ddd3ce1b50f"), looks := false }, kinds := [], alts := [], laidByText := true, laidKinds := [.data, .data], laidTests := true, laidLooks := .later }
def CommandBackUptoCardSaid : Prop := Claim7.holds Tryd.pinned (.plain (OpenSpec.upto commandBackSpec)) commandBackUptoCard

/-- THE SECOND FORM's CARD OF 'carillonlaw14.CommandReply'. -/
def commandReplyUptoCard : Claim7 := { stood := { row := commandReplyUptoRow, standIns := [], harness := (true, "ce9f0d52287d1db6775c430bfe8a542046eba1141793c46ecefb2ddd3ce1b50f"), looks := false }, kinds := [], alts := [], laidByText := true, laidKinds := [.data, .data], laidTests := true, laidLooks := .later }
def CommandReplyUptoCardSaid : Prop := Claim7.holds Tryd.pinned (.plain (OpenSpec.upto commandReplySpec)) commandReplyUptoCard

/-- THE SECOND FORM's CARD OF 'carillonlaw14.CommandTorn'. -/
def commandTornUptoCard : Claim7 := { stood := { row := commandTornUptoRow, standIns := [], harness := (true, "ce9f0d52287d1db6775c430bfe8a542046eba1141793c46ecefb2ddd3ce1b50f"), looks := false }, kinds := [], alts := [], laidByText := true, laidKinds := [.data, .data], laidTests := true, laidLooks := .later }
def CommandTornUptoCardSaid : Prop := Claim7.holds Tryd.pinned (.plain (OpenSpec.upto commandTornSpec)) commandTornUptoCard

/-- THE SECOND FORM's CARD OF 'carillonlaw14.CommandWords'. -/
def commandWordsUptoCard : Claim7 := { stood := { row := commandWordsUptoRow, standIns := [], harness := (true, "ce9f0d52287d1db6775c430bfe8a542046eba1141793c46ecefb2ddd3ce1b50f"), looks := false }, kinds := [], alts := [], laidByText := true, laidKinds := [.data, .data], laidTests := true, laidLooks := .later }
def CommandWordsUptoCardSaid : Prop := Claim7.holds Tryd.pinned (.plain (OpenSpec.upto commandWordsSpec)) commandWordsUptoCard

/-- THE SECOND FORM's CARD OF 'carillonlaw14.CommandKinds'. -/
def commandKindsUptoCard : Claim7 := { stood := { row := commandKindsUptoRow, standIns := [], harness := (true, "ce9f0d52287d1db6775c430bfe8a542046eba1141793c46ecefb2ddd3ce1b50f"), looks := false }, kinds := [], alts := [], laidByText := true, laidKinds := [.data, .data], laidTests := true, laidLooks := .later }
def CommandKindsUptoCardSaid : Prop := Claim7.holds Tryd.pinned (.plain (OpenSpec.upto commandKindsSpec)) commandKindsUptoCard
end Rows
end Go.Proofs.YtpgiagdpepkooaaDoor
