/-
  DERIVED. GIVEN WITH THE SEED: THE CARDS: each row of YthkncdnpfoccjaaDoorRows.lean that lists a variable, with what it lists TIED to the program's text (the seventh form; the later family's looks); each row that meets fmt, with fmt's text TOLD by the authors' own Lean function (tested against real Go, not proved from fmt's source: count such statements apart). THE CARD IS WHAT COUNTS. Prove the row's statement (the work); the ties are given (YthkncdnpfoccjaaDoorTie.lean); close each card by the builder's one call (the guide's Derived/Test/ToyasCard.lean, 'card_holds'). Laid BY PROGRAM, IN A SANDBOX (cutbox-door.mjs). By AI agents, Wed Nov 11 2026. No macro, syntax, notation, axiom, sorry.
-/
import Derived.Test.YthkncdnpfoccjaaDoorRows
import GoSem.ClaimSeven
namespace Go.Proofs.YthkncdnpfoccjaaDoor
namespace Rows

/-- THE TIED CARD OF 'carillonlaw01.CodecReads'. -/
def codecReadsCard : Claim7 := { stood := { row := codecReadsRow, standIns := [], harness := (true, "7dbfb459fe8d7b1dc22b7692e3aee996850fd34b03883ac80b8c7ec815400ac6"), looks := false }, kinds := [], alts := [], laidByText := true, laidKinds := [.data], laidTests := true, laidLooks := .later }
def CodecReadsCardSaid : Prop := Claim7.holds Tryd.pinned (.plain (OpenSpec.ofChange codecReadsSpec)) codecReadsCard

/-- THE TIED CARD OF 'carillonlaw01.CodecWrites'. -/
def codecWritesCard : Claim7 := { stood := { row := codecWritesRow, standIns := [], harness := (true, "7dbfb459fe8d7b1dc22b7692e3aee996850fd34b03883ac80b8c7ec815400ac6"), looks := false }, kinds := [], alts := [], laidByText := true, laidKinds := [.data], laidTests := true, laidLooks := .later }
def CodecWritesCardSaid : Prop := Claim7.holds Tryd.pinned (.plain (OpenSpec.ofChange codecWritesSpec)) codecWritesCard

/-- THE TIED CARD OF 'carillonlaw01.CodecBack'. -/
def codecBackCard : Claim7 := { stood := { row := codecBackRow, standIns := [], harness := (true, "7dbfb459fe8d7b1dc22b7692e3aee996850fd34b03883ac80b8c7ec815400ac6"), looks := false }, kinds := [], alts := [], laidByText := true, laidKinds := [.data], laidTests := true, laidLooks := .later }
def CodecBackCardSaid : Prop := Claim7.holds Tryd.pinned (.plain (OpenSpec.ofChange codecBackSpec)) codecBackCard

/-- THE TIED CARD OF 'carillonlaw01.CodecAgain'. -/
def codecAgainCard : Claim7 := { stood := { row := codecAgainRow, standIns := [], harness := (true, "7dbfb459fe8d7b1dc22b7692e3aee996850fd34b03883ac80b8c7ec815400ac6"), looks := false }, kinds := [], alts := [], laidByText := true, laidKinds := [.data], laidTests := true, laidLooks := .later }
def CodecAgainCardSaid : Prop := Claim7.holds Tryd.pinned (.plain (OpenSpec.ofChange codecAgainSpec)) codecAgainCard

/-- THE TIED CARD OF 'carillonlaw01.CodecCut'. -/
def codecCutCard : Claim7 := { stood := { row := codecCutRow, standIns := [], harness := (true, "7dbfb459fe8d7b1dc22b7692e3aee996850fd34b03883ac80b8c7ec815400ac6"), looks := false }, kinds := [], alts := [], laidByText := true, laidKinds := [.data], laidTests := true, laidLooks := .later }
def CodecCutCardSaid : Prop := Claim7.holds Tryd.pinned (.plain (OpenSpec.ofChange codecCutSpec)) codecCutCard

/-- THE TIED CARD OF 'carillonlaw01.CodecJoins'. -/
def codecJoinsCard : Claim7 := { stood := { row := codecJoinsRow, standIns := [], harness := (true, "7dbfb459fe8d7b1dc22b7692e3aee996850fd34b03883ac80b8c7ec815400ac6"), looks := false }, kinds := [], alts := [], laidByText := true, laidKinds := [.data], laidTests := true, laidLooks := .later }
def CodecJoinsCardSaid : Prop := Claim7.holds Tryd.pinned (.plain (OpenSpec.ofChange codecJoinsSpec)) codecJoinsCard

/-- THE TIED CARD OF 'carillonlaw01.CodecStar'. -/
def codecStarCard : Claim7 := { stood := { row := codecStarRow, standIns := [], harness := (true, "7dbfb459fe8d7b1dc22b7692e3aee996850fd34b03883ac80b8c7ec815400ac6"), looks := false }, kinds := [], alts := [], laidByText := true, laidKinds := [.data], laidTests := true, laidLooks := .later }
def CodecStarCardSaid : Prop := Claim7.holds Tryd.pinned (.plain (OpenSpec.ofChange codecStarSpec)) codecStarCard

/-- THE SECOND FORM's CARD OF 'carillonlaw01.CodecReads'. -/
def codecReadsUptoCard : Claim7 := { stood := { row := codecReadsUptoRow, standIns := [], harness := (true, "7dbfb459fe8d7b1dc22b7692e3aee996850fd34b03883ac80b8c7ec815400ac6"), looks := false }, kinds := [], alts := [], laidByText := true, laidKinds := [.data], laidTests := true, laidLooks := .later }
def CodecReadsUptoCardSaid : Prop := Claim7.holds Tryd.pinned (.plain (OpenSpec.upto codecReadsSpec)) codecReadsUptoCard

/-- THE SECOND FORM's CARD OF 'carillonlaw01.CodecWrites'. -/
def codecWritesUptoCard : Claim7 := { stood := { row := codecWritesUptoRow, standIns := [], harness := (true, "7dbfb459fe8d7b1dc22b7692e3aee996850fd34b03883ac80b8c7ec815400ac6"), looks := false }, kinds := [], alts := [], laidByText := true, laidKinds := [.data], laidTests := true, laidLooks := .later }
def CodecWritesUptoCardSaid : Prop := Claim7.holds Tryd.pinned (.plain (OpenSpec.upto codecWritesSpec)) codecWritesUptoCard

/-- THE SECOND FORM's CARD OF 'carillonlaw01.CodecBack'. -/
def codecBackUptoCard : Claim7 := { stood := { row := codecBackUptoRow, standIns := [], harness := (true, "7dbfb459fe8d7b1dc22b7692e3aee996850fd34b03883ac80b8c7ec815400ac6"), looks := false }, kinds := [], alts := [], laidByText := true, laidKinds := [.data], laidTests := true, laidLooks := .later }
def CodecBackUptoCardSaid : Prop := Claim7.holds Tryd.pinned (.plain (OpenSpec.upto codecBackSpec)) codecBackUptoCard

/-- THE SECOND FORM's CARD OF 'carillonlaw01.CodecAgain'. -/
def codecAgainUptoCard : Claim7 := { stood := { row := codecAgainUptoRow, standIns := [], harness := (true, "7dbfb459fe8d7b1dc22b7692e3aee996850fd34b03883ac80b8c7ec815400ac6"), looks := false }, kinds := [], alts := [], laidByText := true, laidKinds := [.data], laidTests := true, laidLooks := .later }
def CodecAgainUptoCardSaid : Prop := Claim7.holds Tryd.pinned (.plain (OpenSpec.upto codecAgainSpec)) codecAgainUptoCard

/-- THE SECOND FORM's CARD OF 'carillonlaw01.CodecCut'. -/
def codecCutUptoCard : Claim7 := { stood := { row := codecCutUptoRow, standIns := [], harness := (true, "7dbfb459fe8d7b1dc22b7692e3aee996850fd34b03883ac80b8c7ec815400ac6"), looks := false }, kinds := [], alts := [], laidByText := true, laidKinds := [.data], laidTests := true, laidLooks := .later }
def CodecCutUptoCardSaid : Prop := Claim7.holds Tryd.pinned (.plain (OpenSpec.upto codecCutSpec)) codecCutUptoCard

/-- THE SECOND FORM's CARD OF 'carillonlaw01.CodecJoins'. -/
def codecJoinsUptoCard : Claim7 := { stood := { row := codecJoinsUptoRow, standIns := [], harness := (true, "7dbfb459fe8d7b1dc22b7692e3aee996850fd34b03883ac80b8c7ec815400ac6"), looks := false }, kinds := [], alts := [], laidByText := true, laidKinds := [.data], laidTests := true, laidLooks := .later }
def CodecJoinsUptoCardSaid : Prop := Claim7.holds Tryd.pinned (.plain (OpenSpec.upto codecJoinsSpec)) codecJoinsUptoCard

/-- THE SECOND FORM's CARD OF 'carillonlaw01.CodecStar'. -/
def codecStarUptoCard : Claim7 := { stood := { row := codecStarUptoRow, standIns := [], harness := (true, "7dbfb459fe8d7b1dc22b7692e3aee996850fd34b03883ac80b8c7ec815400ac6"), looks := false }, kinds := [], alts := [], laidByText := true, laidKinds := [.data], laidTests := true, laidLooks := .later }
def CodecStarUptoCardSaid : Prop := Claim7.holds Tryd.pinned (.plain (OpenSpec.upto codecStarSpec)) codecStarUptoCard
end Rows
end Go.Proofs.YthkncdnpfoccjaaDoor
