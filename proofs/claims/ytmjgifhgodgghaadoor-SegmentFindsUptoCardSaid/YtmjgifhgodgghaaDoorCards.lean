/-
  DERIVED. GIVEN WITH THE SEED: THE CARDS: each row of YtmjgifhgodgghaaDoorRows.lean that lists a variable, with what it lists TIED to the program's text (the seventh form; the later family's looks); each row that meets fmt, with fmt's text TOLD by the authors' own Lean function (tested against real Go, not proved from fmt's source: count such statements apart). THE CARD IS WHAT COUNTS. Prove the row's statement (the work); the ties are given (YtmjgifhgodgghaaDoorTie.lean); close each card by the builder's one call (the guide's Derived/Test/ToyasCard.lean, 'card_holds'). Laid BY PROGRAM, IN A SANDBOX (cutbox-door.mjs). By AI agents, Wed Nov 11 2026. No macro, syntax, notation, axiom, sorry.
-/
import Derived.Test.YtmjgifhgodgghaaDoorRows
import GoSem.ClaimSeven
namespace Go.Proofs.YtmjgifhgodgghaaDoor
namespace Rows

/-- THE TIED CARD OF 'carillonlaw06.SegmentWrites'. -/
def segmentWritesCard : Claim7 := { stood := { row := segmentWritesRow, standIns := [], harness := (true, "a70437b5b26ba17ebf2af552ed6f7ec1a8c3c7f263438f87e880fc35cbd9d10a"), looks := false }, kinds := [], alts := [], laidByText := true, laidKinds := [.data, .data], laidTests := true, laidLooks := .later }
def SegmentWritesCardSaid : Prop := Claim7.holds Tryd.pinned (.plain (OpenSpec.ofChange segmentWritesSpec)) segmentWritesCard

/-- THE TIED CARD OF 'carillonlaw06.SegmentScans'. -/
def segmentScansCard : Claim7 := { stood := { row := segmentScansRow, standIns := [], harness := (true, "a70437b5b26ba17ebf2af552ed6f7ec1a8c3c7f263438f87e880fc35cbd9d10a"), looks := false }, kinds := [], alts := [], laidByText := true, laidKinds := [.data, .data], laidTests := true, laidLooks := .later }
def SegmentScansCardSaid : Prop := Claim7.holds Tryd.pinned (.plain (OpenSpec.ofChange segmentScansSpec)) segmentScansCard

/-- THE TIED CARD OF 'carillonlaw06.SegmentFinds'. -/
def segmentFindsCard : Claim7 := { stood := { row := segmentFindsRow, standIns := [], harness := (true, "a70437b5b26ba17ebf2af552ed6f7ec1a8c3c7f263438f87e880fc35cbd9d10a"), looks := false }, kinds := [], alts := [], laidByText := true, laidKinds := [.data, .data], laidTests := true, laidLooks := .later }
def SegmentFindsCardSaid : Prop := Claim7.holds Tryd.pinned (.plain (OpenSpec.ofChange segmentFindsSpec)) segmentFindsCard

/-- THE TIED CARD OF 'carillonlaw06.SegmentBack'. -/
def segmentBackCard : Claim7 := { stood := { row := segmentBackRow, standIns := [], harness := (true, "a70437b5b26ba17ebf2af552ed6f7ec1a8c3c7f263438f87e880fc35cbd9d10a"), looks := false }, kinds := [], alts := [], laidByText := true, laidKinds := [.data, .data], laidTests := true, laidLooks := .later }
def SegmentBackCardSaid : Prop := Claim7.holds Tryd.pinned (.plain (OpenSpec.ofChange segmentBackSpec)) segmentBackCard

/-- THE TIED CARD OF 'carillonlaw06.SegmentIndex'. -/
def segmentIndexCard : Claim7 := { stood := { row := segmentIndexRow, standIns := [], harness := (true, "a70437b5b26ba17ebf2af552ed6f7ec1a8c3c7f263438f87e880fc35cbd9d10a"), looks := false }, kinds := [], alts := [], laidByText := true, laidKinds := [.data, .data], laidTests := true, laidLooks := .later }
def SegmentIndexCardSaid : Prop := Claim7.holds Tryd.pinned (.plain (OpenSpec.ofChange segmentIndexSpec)) segmentIndexCard

/-- THE TIED CARD OF 'carillonlaw06.SegmentBit'. -/
def segmentBitCard : Claim7 := { stood := { row := segmentBitRow, standIns := [], harness := (true, "a70437b5b26ba17ebf2af552ed6f7ec1a8c3c7f263438f87e880fc35cbd9d10a"), looks := false }, kinds := [], alts := [], laidByText := true, laidKinds := [.data, .data], laidTests := true, laidLooks := .later }
def SegmentBitCardSaid : Prop := Claim7.holds Tryd.pinned (.plain (OpenSpec.ofChange segmentBitSpec)) segmentBitCard

/-- THE SECOND FORM's CARD OF 'carillonlaw06.SegmentWrites'. -/
def segmentWritesUptoCard : Claim7 := { stood := { row := segmentWritesUptoRow, standIns := [], harness := (true, "a70437b5b26ba17ebf2af552ed6f7ec1a8c3c7f263438f87e880fc35cbd9d10a"), looks := false }, kinds := [], alts := [], laidByText := true, laidKinds := [.data, .data], laidTests := true, laidLooks := .later }
def SegmentWritesUptoCardSaid : Prop := Claim7.holds Tryd.pinned (.plain (OpenSpec.upto segmentWritesSpec)) segmentWritesUptoCard

/-- THE SECOND FORM's CARD OF 'carillonlaw06.SegmentScans'. -/
def segmentScansUptoCard : Claim7 := { stood := { row := segmentScansUptoRow, standIns := [], harness := (true, "a70437b5b26ba17ebf2af552ed6f7ec1a8c3c7f263438f87e880fc35cbd9d10a"), looks := false }, kinds := [], alts := [], laidByText := true, laidKinds := [.data, .data], laidTests := true, laidLooks := .later }
def SegmentScansUptoCardSaid : Prop := Claim7.holds Tryd.pinned (.plain (OpenSpec.upto segmentScansSpec)) segmentScansUptoCard

/-- THE SECOND FORM's CARD OF 'carillonlaw06.SegmentFinds'. -/
def segmentFindsUptoCard : Claim7 := { stood := { row := segmentFindsUptoRow, standIns := [], harness := (true, "a70437b5b26ba17ebf2af552ed6f7ec1a8c3c7f263438f87e880fc35cbd9d10a"), looks := false }, kinds := [], alts := [], laidByText := true, laidKinds := [.data, .data], laidTests := true, laidLooks := .later }
def SegmentFindsUptoCardSaid : Prop := Claim7.holds Tryd.pinned (.plain (OpenSpec.upto segmentFindsSpec)) segmentFindsUptoCard

/-- THE SECOND FORM's CARD OF 'carillonlaw06.SegmentBack'. -/
def segmentBackUptoCard : Claim7 := { stood := { row := segmentBackUptoRow, standIns := [], harness := (true, "a70437b5b26ba17ebf2af552ed6f7ec1a8c3c7f263438f87e880fc35cbd9d10a"), looks := false }, kinds := [], alts := [], laidByText := true, laidKinds := [.data, .data], laidTests := true, laidLooks := .later }
def SegmentBackUptoCardSaid : Prop := Claim7.holds Tryd.pinned (.plain (OpenSpec.upto segmentBackSpec)) segmentBackUptoCard

/-- THE SECOND FORM's CARD OF 'carillonlaw06.SegmentIndex'. -/
def segmentIndexUptoCard : Claim7 := { stood := { row := segmentIndexUptoRow, standIns := [], harness := (true, "a70437b5b26ba17ebf2af552ed6f7ec1a8c3c7f263438f87e880fc35cbd9d10a"), looks := false }, kinds := [], alts := [], laidByText := true, laidKinds := [.data, .data], laidTests := true, laidLooks := .later }
def SegmentIndexUptoCardSaid : Prop := Claim7.holds Tryd.pinned (.plain (OpenSpec.upto segmentIndexSpec)) segmentIndexUptoCard

/-- THE SECOND FORM's CARD OF 'carillonlaw06.SegmentBit'. -/
def segmentBitUptoCard : Claim7 := { stood := { row := segmentBitUptoRow, standIns := [], harness := (true, "a70437b5b26ba17ebf2af552ed6f7ec1a8c3c7f263438f87e880fc35cbd9d10a"), looks := false }, kinds := [], alts := [], laidByText := true, laidKinds := [.data, .data], laidTests := true, laidLooks := .later }
def SegmentBitUptoCardSaid : Prop := Claim7.holds Tryd.pinned (.plain (OpenSpec.upto segmentBitSpec)) segmentBitUptoCard
end Rows
end Go.Proofs.YtmjgifhgodgghaaDoor
