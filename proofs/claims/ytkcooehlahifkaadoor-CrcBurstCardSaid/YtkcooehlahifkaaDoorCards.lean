/-
  DERIVED. GIVEN WITH THE SEED: THE CARDS: each row of YtkcooehlahifkaaDoorRows.lean that lists a variable, with what it lists TIED to the program's text (the seventh form; the later family's looks); each row that meets fmt, with fmt's text TOLD by the authors' own Lean function (tested against real Go, not proved from fmt's source: count such statements apart). THE CARD IS WHAT COUNTS. Prove the row's statement (the work); the ties are given (YtkcooehlahifkaaDoorTie.lean); close each card by the builder's one call (the guide's Derived/Test/ToyasCard.lean, 'card_holds'). Laid BY PROGRAM, IN A SANDBOX (cutbox-door.mjs). By AI agents, Wed Nov 11 2026. No macro, syntax, notation, axiom, sorry.
-/
import Derived.Test.YtkcooehlahifkaaDoorRows
import GoSem.ClaimSeven
namespace Go.Proofs.YtkcooehlahifkaaDoor
namespace Rows

/-- THE TIED CARD OF 'carillonlaw02.CrcSums'. -/
def crcSumsCard : Claim7 := { stood := { row := crcSumsRow, standIns := [], harness := (true, "42cc67cd2b36a80518e87bf9e6d80ce3d60942c2fc2c4707b15105c2b18e4161"), looks := false }, kinds := [], alts := [], laidByText := true, laidKinds := [.data], laidTests := true, laidLooks := .later }
def CrcSumsCardSaid : Prop := Claim7.holds Tryd.pinned (.plain (OpenSpec.ofChange crcSumsSpec)) crcSumsCard

/-- THE TIED CARD OF 'carillonlaw02.CrcFrames'. -/
def crcFramesCard : Claim7 := { stood := { row := crcFramesRow, standIns := [], harness := (true, "42cc67cd2b36a80518e87bf9e6d80ce3d60942c2fc2c4707b15105c2b18e4161"), looks := false }, kinds := [], alts := [], laidByText := true, laidKinds := [.data], laidTests := true, laidLooks := .later }
def CrcFramesCardSaid : Prop := Claim7.holds Tryd.pinned (.plain (OpenSpec.ofChange crcFramesSpec)) crcFramesCard

/-- THE TIED CARD OF 'carillonlaw02.CrcTakes'. -/
def crcTakesCard : Claim7 := { stood := { row := crcTakesRow, standIns := [], harness := (true, "42cc67cd2b36a80518e87bf9e6d80ce3d60942c2fc2c4707b15105c2b18e4161"), looks := false }, kinds := [], alts := [], laidByText := true, laidKinds := [.data], laidTests := true, laidLooks := .later }
def CrcTakesCardSaid : Prop := Claim7.holds Tryd.pinned (.plain (OpenSpec.ofChange crcTakesSpec)) crcTakesCard

/-- THE TIED CARD OF 'carillonlaw02.CrcJoins'. -/
def crcJoinsCard : Claim7 := { stood := { row := crcJoinsRow, standIns := [], harness := (true, "42cc67cd2b36a80518e87bf9e6d80ce3d60942c2fc2c4707b15105c2b18e4161"), looks := false }, kinds := [], alts := [], laidByText := true, laidKinds := [.data], laidTests := true, laidLooks := .later }
def CrcJoinsCardSaid : Prop := Claim7.holds Tryd.pinned (.plain (OpenSpec.ofChange crcJoinsSpec)) crcJoinsCard

/-- THE TIED CARD OF 'carillonlaw02.CrcBack'. -/
def crcBackCard : Claim7 := { stood := { row := crcBackRow, standIns := [], harness := (true, "42cc67cd2b36a80518e87bf9e6d80ce3d60942c2fc2c4707b15105c2b18e4161"), looks := false }, kinds := [], alts := [], laidByText := true, laidKinds := [.data], laidTests := true, laidLooks := .later }
def CrcBackCardSaid : Prop := Claim7.holds Tryd.pinned (.plain (OpenSpec.ofChange crcBackSpec)) crcBackCard

/-- THE TIED CARD OF 'carillonlaw02.CrcTorn'. -/
def crcTornCard : Claim7 := { stood := { row := crcTornRow, standIns := [], harness := (true, "42cc67cd2b36a80518e87bf9e6d80ce3d60942c2fc2c4707b15105c2b18e4161"), looks := false }, kinds := [], alts := [], laidByText := true, laidKinds := [.data], laidTests := true, laidLooks := .later }
def CrcTornCardSaid : Prop := Claim7.holds Tryd.pinned (.plain (OpenSpec.ofChange crcTornSpec)) crcTornCard

/-- THE TIED CARD OF 'carillonlaw02.CrcBit'. -/
def crcBitCard : Claim7 := { stood := { row := crcBitRow, standIns := [], harness := (true, "42cc67cd2b36a80518e87bf9e6d80ce3d60942c2fc2c4707b15105c2b18e4161"), looks := false }, kinds := [], alts := [], laidByText := true, laidKinds := [.data], laidTests := true, laidLooks := .later }
def CrcBitCardSaid : Prop := Claim7.holds Tryd.pinned (.plain (OpenSpec.ofChange crcBitSpec)) crcBitCard

/-- THE TIED CARD OF 'carillonlaw02.CrcBurst'. -/
def crcBurstCard : Claim7 := { stood := { row := crcBurstRow, standIns := [], harness := (true, "42cc67cd2b36a80518e87bf9e6d80ce3d60942c2fc2c4707b15105c2b18e4161"), looks := false }, kinds := [], alts := [], laidByText := true, laidKinds := [.data], laidTests := true, laidLooks := .later }
def CrcBurstCardSaid : Prop := Claim7.holds Tryd.pinned (.plain (OpenSpec.ofChange crcBurstSpec)) crcBurstCard

/-- THE TIED CARD OF 'carillonlaw02.CrcOnly'. -/
def crcOnlyCard : Claim7 := { stood := { row := crcOnlyRow, standIns := [], harness := (true, "42cc67cd2b36a80518e87bf9e6d80ce3d60942c2fc2c4707b15105c2b18e4161"), looks := false }, kinds := [], alts := [], laidByText := true, laidKinds := [.data], laidTests := true, laidLooks := .later }
def CrcOnlyCardSaid : Prop := Claim7.holds Tryd.pinned (.plain (OpenSpec.ofChange crcOnlySpec)) crcOnlyCard

/-- THE SECOND FORM's CARD OF 'carillonlaw02.CrcSums'. -/
def crcSumsUptoCard : Claim7 := { stood := { row := crcSumsUptoRow, standIns := [], harness := (true, "42cc67cd2b36a80518e87bf9e6d80ce3d60942c2fc2c4707b15105c2b18e4161"), looks := false }, kinds := [], alts := [], laidByText := true, laidKinds := [.data], laidTests := true, laidLooks := .later }
def CrcSumsUptoCardSaid : Prop := Claim7.holds Tryd.pinned (.plain (OpenSpec.upto crcSumsSpec)) crcSumsUptoCard

/-- THE SECOND FORM's CARD OF 'carillonlaw02.CrcFrames'. -/
def crcFramesUptoCard : Claim7 := { stood := { row := crcFramesUptoRow, standIns := [], harness := (true, "42cc67cd2b36a80518e87bf9e6d80ce3d60942c2fc2c4707b15105c2b18e4161"), looks := false }, kinds := [], alts := [], laidByText := true, laidKinds := [.data], laidTests := true, laidLooks := .later }
def CrcFramesUptoCardSaid : Prop := Claim7.holds Tryd.pinned (.plain (OpenSpec.upto crcFramesSpec)) crcFramesUptoCard

/-- THE SECOND FORM's CARD OF 'carillonlaw02.CrcTakes'. -/
def crcTakesUptoCard : Claim7 := { stood := { row := crcTakesUptoRow, standIns := [], harness := (true, "42cc67cd2b36a80518e87bf9e6d80ce3d60942c2fc2c4707b15105c2b18e4161"), looks := false }, kinds := [], alts := [], laidByText := true, laidKinds := [.data], laidTests := true, laidLooks := .later }
def CrcTakesUptoCardSaid : Prop := Claim7.holds Tryd.pinned (.plain (OpenSpec.upto crcTakesSpec)) crcTakesUptoCard

/-- THE SECOND FORM's CARD OF 'carillonlaw02.CrcJoins'. -/
def crcJoinsUptoCard : Claim7 := { stood := { row := crcJoinsUptoRow, standIns := [], harness := (true, "42cc67cd2b36a80518e87bf9e6d80ce3d60942c2fc2c4707b15105c2b18e4161"), looks := false }, kinds := [], alts := [], laidByText := true, laidKinds := [.data], laidTests := true, laidLooks := .later }
def CrcJoinsUptoCardSaid : Prop := Claim7.holds Tryd.pinned (.plain (OpenSpec.upto crcJoinsSpec)) crcJoinsUptoCard

/-- THE SECOND FORM's CARD OF 'carillonlaw02.CrcBack'. -/
def crcBackUptoCard : Claim7 := { stood := { row := crcBackUptoRow, standIns := [], harness := (true, "42cc67cd2b36a80518e87bf9e6d80ce3d60942c2fc2c4707b15105c2b18e4161"), looks := false }, kinds := [], alts := [], laidByText := true, laidKinds := [.data], laidTests := true, laidLooks := .later }
def CrcBackUptoCardSaid : Prop := Claim7.holds Tryd.pinned (.plain (OpenSpec.upto crcBackSpec)) crcBackUptoCard

/-- THE SECOND FORM's CARD OF 'carillonlaw02.CrcTorn'. -/
def crcTornUptoCard : Claim7 := { stood := { row := crcTornUptoRow, standIns := [], harness := (true, "42cc67cd2b36a80518e87bf9e6d80ce3d60942c2fc2c4707b15105c2b18e4161"), looks := false }, kinds := [], alts := [], laidByText := true, laidKinds := [.data], laidTests := true, laidLooks := .later }
def CrcTornUptoCardSaid : Prop := Claim7.holds Tryd.pinned (.plain (OpenSpec.upto crcTornSpec)) crcTornUptoCard

/-- THE SECOND FORM's CARD OF 'carillonlaw02.CrcBit'. -/
def crcBitUptoCard : Claim7 := { stood := { row := crcBitUptoRow, standIns := [], harness := (true, "42cc67cd2b36a80518e87bf9e6d80ce3d60942c2fc2c4707b15105c2b18e4161"), looks := false }, kinds := [], alts := [], laidByText := true, laidKinds := [.data], laidTests := true, laidLooks := .later }
def CrcBitUptoCardSaid : Prop := Claim7.holds Tryd.pinned (.plain (OpenSpec.upto crcBitSpec)) crcBitUptoCard

/-- THE SECOND FORM's CARD OF 'carillonlaw02.CrcBurst'. -/
def crcBurstUptoCard : Claim7 := { stood := { row := crcBurstUptoRow, standIns := [], harness := (true, "42cc67cd2b36a80518e87bf9e6d80ce3d60942c2fc2c4707b15105c2b18e4161"), looks := false }, kinds := [], alts := [], laidByText := true, laidKinds := [.data], laidTests := true, laidLooks := .later }
def CrcBurstUptoCardSaid : Prop := Claim7.holds Tryd.pinned (.plain (OpenSpec.upto crcBurstSpec)) crcBurstUptoCard

/-- THE SECOND FORM's CARD OF 'carillonlaw02.CrcOnly'. -/
def crcOnlyUptoCard : Claim7 := { stood := { row := crcOnlyUptoRow, standIns := [], harness := (true, "42cc67cd2b36a80518e87bf9e6d80ce3d60942c2fc2c4707b15105c2b18e4161"), looks := false }, kinds := [], alts := [], laidByText := true, laidKinds := [.data], laidTests := true, laidLooks := .later }
def CrcOnlyUptoCardSaid : Prop := Claim7.holds Tryd.pinned (.plain (OpenSpec.upto crcOnlySpec)) crcOnlyUptoCard
end Rows
end Go.Proofs.YtkcooehlahifkaaDoor
