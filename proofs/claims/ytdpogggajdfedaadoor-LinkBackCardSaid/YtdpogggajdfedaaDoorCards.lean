/-
  DERIVED. GIVEN WITH THE SEED: THE CARDS: each row of YtdpogggajdfedaaDoorRows.lean that lists a variable, with what it lists TIED to the program's text (the seventh form; the later family's looks); each row that meets fmt, with fmt's text TOLD by the authors' own Lean function (tested against real Go, not proved from fmt's source: count such statements apart). THE CARD IS WHAT COUNTS. Prove the row's statement (the work); the ties are given (YtdpogggajdfedaaDoorTie.lean); close each card by the builder's one call (the guide's Derived/Test/ToyasCard.lean, 'card_holds'). Laid BY PROGRAM, IN A SANDBOX (cutbox-door.mjs). By AI agents, Wed Nov 11 2026. No macro, syntax, notation, axiom, sorry.
-/
import Derived.Test.YtdpogggajdfedaaDoorRows
import GoSem.ClaimSeven
namespace Go.Proofs.YtdpogggajdfedaaDoor
namespace Rows

/-- THE TIED CARD OF 'carillonlaw09.LinkBytes'. -/
def linkBytesCard : Claim7 := { stood := { row := linkBytesRow, standIns := [], harness := (true, "633b406aa2f4b8c675f3cde7cce7a61007300d4cf2bfbac08f45fad402d1b853"), looks := false }, kinds := [], alts := [], laidByText := true, laidKinds := [.data, .data], laidTests := true, laidLooks := .later }
def LinkBytesCardSaid : Prop := Claim7.holds Tryd.pinned (.plain (OpenSpec.ofChange linkBytesSpec)) linkBytesCard

/-- THE TIED CARD OF 'carillonlaw09.LinkBack'. -/
def linkBackCard : Claim7 := { stood := { row := linkBackRow, standIns := [], harness := (true, "633b406aa2f4b8c675f3cde7cce7a61007300d4cf2bfbac08f45fad402d1b853"), looks := false }, kinds := [], alts := [], laidByText := true, laidKinds := [.data, .data], laidTests := true, laidLooks := .later }
def LinkBackCardSaid : Prop := Claim7.holds Tryd.pinned (.plain (OpenSpec.ofChange linkBackSpec)) linkBackCard

/-- THE SECOND FORM's CARD OF 'carillonlaw09.LinkBytes'. -/
def linkBytesUptoCard : Claim7 := { stood := { row := linkBytesUptoRow, standIns := [], harness := (true, "633b406aa2f4b8c675f3cde7cce7a61007300d4cf2bfbac08f45fad402d1b853"), looks := false }, kinds := [], alts := [], laidByText := true, laidKinds := [.data, .data], laidTests := true, laidLooks := .later }
def LinkBytesUptoCardSaid : Prop := Claim7.holds Tryd.pinned (.plain (OpenSpec.upto linkBytesSpec)) linkBytesUptoCard

/-- THE SECOND FORM's CARD OF 'carillonlaw09.LinkBack'. -/
def linkBackUptoCard : Claim7 := { stood := { row := linkBackUptoRow, standIns := [], harness := (true, "633b406aa2f4b8c675f3cde7cce7a61007300d4cf2bfbac08f45fad402d1b853"), looks := false }, kinds := [], alts := [], laidByText := true, laidKinds := [.data, .data], laidTests := true, laidLooks := .later }
def LinkBackUptoCardSaid : Prop := Claim7.holds Tryd.pinned (.plain (OpenSpec.upto linkBackSpec)) linkBackUptoCard
end Rows
end Go.Proofs.YtdpogggajdfedaaDoor
