/-
  DERIVED. GIVEN WITH THE SEED: THE CARDS: each row of YtokebimfflobbaaDoorRows.lean that lists a variable, with what it lists TIED to the program's text (the seventh form; the later family's looks); each row that meets fmt, with fmt's text TOLD by the authors' own Lean function (tested against real Go, not proved from fmt's source: count such statements apart). THE CARD IS WHAT COUNTS. Prove the row's statement (the work); the ties are given (YtokebimfflobbaaDoorTie.lean); close each card by the builder's one call (the guide's Derived/Test/ToyasCard.lean, 'card_holds'). Laid BY PROGRAM, IN A SANDBOX (cutbox-door.mjs). By AI agents, Wed Nov 11 2026. No macro, syntax, notation, axiom, sorry.
-/
import Derived.Test.YtokebimfflobbaaDoorRows
import GoSem.ClaimSeven
namespace Go.Proofs.YtokebimfflobbaaDoor
namespace Rows

/-- THE TIED CARD OF 'carillonlaw19.FlushLogs'. -/
def flushLogsCard : Claim7 := { stood := { row := flushLogsRow, standIns := [], harness := (true, "592ab178207d83cb163ad32fa8ff8359bae7ad29388d3caefbc1a86feffcd7db"), looks := false }, kinds := [], alts := [], laidByText := true, laidKinds := [.data], laidTests := true, laidLooks := .later }
def FlushLogsCardSaid : Prop := Claim7.holds Tryd.pinned (.plain (OpenSpec.ofChange flushLogsSpec)) flushLogsCard

/-- THE TIED CARD OF 'carillonlaw19.FlushBack'. -/
def flushBackCard : Claim7 := { stood := { row := flushBackRow, standIns := [], harness := (true, "592ab178207d83cb163ad32fa8ff8359bae7ad29388d3caefbc1a86feffcd7db"), looks := false }, kinds := [], alts := [], laidByText := true, laidKinds := [.data], laidTests := true, laidLooks := .later }
def FlushBackCardSaid : Prop := Claim7.holds Tryd.pinned (.plain (OpenSpec.ofChange flushBackSpec)) flushBackCard

/-- THE TIED CARD OF 'carillonlaw19.FlushHolds'. -/
def flushHoldsCard : Claim7 := { stood := { row := flushHoldsRow, standIns := [], harness := (true, "592ab178207d83cb163ad32fa8ff8359bae7ad29388d3caefbc1a86feffcd7db"), looks := false }, kinds := [], alts := [], laidByText := true, laidKinds := [.data], laidTests := true, laidLooks := .later }
def FlushHoldsCardSaid : Prop := Claim7.holds Tryd.pinned (.plain (OpenSpec.ofChange flushHoldsSpec)) flushHoldsCard

/-- THE TIED CARD OF 'carillonlaw19.FlushTies'. -/
def flushTiesCard : Claim7 := { stood := { row := flushTiesRow, standIns := [], harness := (true, "592ab178207d83cb163ad32fa8ff8359bae7ad29388d3caefbc1a86feffcd7db"), looks := false }, kinds := [], alts := [], laidByText := true, laidKinds := [.data], laidTests := true, laidLooks := .later }
def FlushTiesCardSaid : Prop := Claim7.holds Tryd.pinned (.plain (OpenSpec.ofChange flushTiesSpec)) flushTiesCard

/-- THE TIED CARD OF 'carillonlaw19.FlushOwns'. -/
def flushOwnsCard : Claim7 := { stood := { row := flushOwnsRow, standIns := [], harness := (true, "592ab178207d83cb163ad32fa8ff8359bae7ad29388d3caefbc1a86feffcd7db"), looks := false }, kinds := [], alts := [], laidByText := true, laidKinds := [.data], laidTests := true, laidLooks := .later }
def FlushOwnsCardSaid : Prop := Claim7.holds Tryd.pinned (.plain (OpenSpec.ofChange flushOwnsSpec)) flushOwnsCard

/-- THE SECOND FORM's CARD OF 'carillonlaw19.FlushLogs'. -/
def flushLogsUptoCard : Claim7 := { stood := { row := flushLogsUptoRow, standIns := [], harness := (true, "592ab178207d83cb163ad32fa8ff8359bae7ad29388d3caefbc1a86feffcd7db"), looks := false }, kinds := [], alts := [], laidByText := true, laidKinds := [.data], laidTests := true, laidLooks := .later }
def FlushLogsUptoCardSaid : Prop := Claim7.holds Tryd.pinned (.plain (OpenSpec.upto flushLogsSpec)) flushLogsUptoCard

/-- THE SECOND FORM's CARD OF 'carillonlaw19.FlushBack'. -/
def flushBackUptoCard : Claim7 := { stood := { row := flushBackUptoRow, standIns := [], harness := (true, "592ab178207d83cb163ad32fa8ff8359bae7ad29388d3caefbc1a86feffcd7db"), looks := false }, kinds := [], alts := [], laidByText := true, laidKinds := [.data], laidTests := true, laidLooks := .later }
def FlushBackUptoCardSaid : Prop := Claim7.holds Tryd.pinned (.plain (OpenSpec.upto flushBackSpec)) flushBackUptoCard

/-- THE SECOND FORM's CARD OF 'carillonlaw19.FlushHolds'. -/
def flushHoldsUptoCard : Claim7 := { stood := { row := flushHoldsUptoRow, standIns := [], harness := (true, "592ab178207d83cb163ad32fa8ff8359bae7ad29388d3caefbc1a86feffcd7db"), looks := false }, kinds := [], alts := [], laidByText := true, laidKinds := [.data], laidTests := true, laidLooks := .later }
def FlushHoldsUptoCardSaid : Prop := Claim7.holds Tryd.pinned (.plain (OpenSpec.upto flushHoldsSpec)) flushHoldsUptoCard

/-- THE SECOND FORM's CARD OF 'carillonlaw19.FlushTies'. -/
def flushTiesUptoCard : Claim7 := { stood := { row := flushTiesUptoRow, standIns := [], harness := (true, "592ab178207d83cb163ad32fa8ff8359bae7ad29388d3caefbc1a86feffcd7db"), looks := false }, kinds := [], alts := [], laidByText := true, laidKinds := [.data], laidTests := true, laidLooks := .later }
def FlushTiesUptoCardSaid : Prop := Claim7.holds Tryd.pinned (.plain (OpenSpec.upto flushTiesSpec)) flushTiesUptoCard

/-- THE SECOND FORM's CARD OF 'carillonlaw19.FlushOwns'. -/
def flushOwnsUptoCard : Claim7 := { stood := { row := flushOwnsUptoRow, standIns := [], harness := (true, "592ab178207d83cb163ad32fa8ff8359bae7ad29388d3caefbc1a86feffcd7db"), looks := false }, kinds := [], alts := [], laidByText := true, laidKinds := [.data], laidTests := true, laidLooks := .later }
def FlushOwnsUptoCardSaid : Prop := Claim7.holds Tryd.pinned (.plain (OpenSpec.upto flushOwnsSpec)) flushOwnsUptoCard
end Rows
end Go.Proofs.YtokebimfflobbaaDoor
