/-
  NARROWER THAN 'FOR EVERY INPUT', by the rows' own cells (each row's printed sentence says how): CrcSums: laid · CrcFrames: laid · CrcTakes: laid · CrcJoins: laid · CrcBack: laid · CrcTorn: laid · CrcBit: laid · CrcBurst: laid · CrcOnly: laid.
  DERIVED. THE GIVEN ROWS OF THIS SEAT. 9 by the template 'for every input the law returns true; each argument reads behind the call as it read before'; 0 by the template 'total and deterministic' (their statements: YtkcooehlahifkaaDoorTotals.lean).
  GIVEN WITH THE SEED: the statements are not yours to turn. If you find one false, say at which input.
  Laid BY PROGRAM, IN A SANDBOX (cutbox-rows.mjs): the forced cells as the released guide's own fill.sh prints them over the translation 59f735bc96b174bc… (all of the seat's roots in one cut). By AI agents, Wed Nov 11 2026. No macro, syntax, notation, axiom, sorry.
-/
import Derived.Test.YtkcooehlahifkaaDoorChecked
import GoSem.Claim
import GoSem.ClaimJoined
import GoSem.ClaimMapViews
import Derived.JoinedTies
import Derived.KernelRfl
namespace Go.Proofs.YtkcooehlahifkaaDoor
/- THE CELL 'sum', in the pinned program and in every row, IS THE sha256 OF THE DUMP (.gsa) THAT YtkcooehlahifkaaDoorProg.lean LOADS. Nothing in Lean hashes anything: it is a label: what it is worth is what the hold of that sum in a sandbox is worth. -/
noncomputable def Tryd.pinned : Pinned := { name := "ytkcooehlahifkaadoor", sum := "59f735bc96b174bcf1089f2c7efb1e60ae8a7fea06e2ea6011c5fca483ddc519", checked := Tryd.checked }
namespace Rows
def none {H : Type} : Left H := { results := [], args := [] }

/- WHAT THE LISTED PACKAGE-LEVEL VARIABLES READ AS WHEN THE CALL BEGINS. Each datum BY PROGRAM (the guide's laid-datum.mjs) off the statement by which the dump's own 'gosem.cut.vars' lays the variable. In a bare row this is a premise. The card (YtkcooehlahifkaaDoorCards.lean) ties it to the program's text. -/
def laid_carillon_crc_table {H : Type} : DataW H := .agg [.lit (.int .u32 0), .lit (.int .u32 274646895), .lit (.int .u32 549293790), .lit (.int .u32 820201905), .lit (.int .u32 1098587580), .lit (.int .u32 1361435347), .lit (.int .u32 1640403810), .lit (.int .u32 1905808397), .lit (.int .u32 2197175160), .lit (.int .u32 2460548119), .lit (.int .u32 2722870694), .lit (.int .u32 2987750089), .lit (.int .u32 3280807620), .lit (.int .u32 3553878443), .lit (.int .u32 3811616794), .lit (.int .u32 4084100981)]

/-- 'carillonlaw02.CrcSums': WHATEVER THE INPUT: true; the input reads as it did. -/
def crcSumsSpec : ChangeSpec := { name := "crcSums", fn := fun _ => fun
  | [d1, d2] => { results := [.lit (.bool true)], args := [d1, d2] }
  | _ => none }
def crcSumsRow : OpenClaim := { program := "ytkcooehlahifkaadoor", sum := "59f735bc96b174bcf1089f2c7efb1e60ae8a7fea06e2ea6011c5fca483ddc519", func := "carillon/carillonlaw02.CrcSums", spec := "crcSums", named := ["carillon/crc.table"], apart := false, laid := [("carillon/crc.table", laid_carillon_crc_table)] }
def CrcSumsSaid : Prop := crcSumsRow.holds Tryd.pinned (OpenSpec.ofChange crcSumsSpec)

/-- ITS FALSE NEIGHBOUR: 'it returns false'. Refute it at one input. -/
def crcSumsWrong : ChangeSpec := { name := "crcSums", fn := fun _ => fun
  | [d1, d2] => { results := [.lit (.bool false)], args := [d1, d2] }
  | _ => none }
def CrcSumsWrongFalsely : Prop := crcSumsRow.holds Tryd.pinned (OpenSpec.ofChange crcSumsWrong)

/-- 'carillonlaw02.CrcFrames': WHATEVER THE INPUT: true; the input reads as it did. -/
def crcFramesSpec : ChangeSpec := { name := "crcFrames", fn := fun _ => fun
  | [d1, d2] => { results := [.lit (.bool true)], args := [d1, d2] }
  | _ => none }
def crcFramesRow : OpenClaim := { program := "ytkcooehlahifkaadoor", sum := "59f735bc96b174bcf1089f2c7efb1e60ae8a7fea06e2ea6011c5fca483ddc519", func := "carillon/carillonlaw02.CrcFrames", spec := "crcFrames", named := ["carillon/crc.table"], apart := false, laid := [("carillon/crc.table", laid_carillon_crc_table)] }
def CrcFramesSaid : Prop := crcFramesRow.holds Tryd.pinned (OpenSpec.ofChange crcFramesSpec)

/-- ITS FALSE NEIGHBOUR: 'it returns false'. Refute it at one input. -/
def crcFramesWrong : ChangeSpec := { name := "crcFrames", fn := fun _ => fun
  | [d1, d2] => { results := [.lit (.bool false)], args := [d1, d2] }
  | _ => none }
def CrcFramesWrongFalsely : Prop := crcFramesRow.holds Tryd.pinned (OpenSpec.ofChange crcFramesWrong)

/-- 'carillonlaw02.CrcTakes': WHATEVER THE INPUT: true; the input reads as it did. -/
def crcTakesSpec : ChangeSpec := { name := "crcTakes", fn := fun _ => fun
  | [d] => { results := [.lit (.bool true)], args := [d] }
  | _ => none }
def crcTakesRow : OpenClaim := { program := "ytkcooehlahifkaadoor", sum := "59f735bc96b174bcf1089f2c7efb1e60ae8a7fea06e2ea6011c5fca483ddc519", func := "carillon/carillonlaw02.CrcTakes", spec := "crcTakes", named := ["carillon/crc.table"], apart := false, laid := [("carillon/crc.table", laid_carillon_crc_table)] }
def CrcTakesSaid : Prop := crcTakesRow.holds Tryd.pinned (OpenSpec.ofChange crcTakesSpec)

/-- ITS FALSE NEIGHBOUR: 'it returns false'. Refute it at one input. -/
def crcTakesWrong : ChangeSpec := { name := "crcTakes", fn := fun _ => fun
  | [d] => { results := [.lit (.bool false)], args := [d] }
  | _ => none }
def CrcTakesWrongFalsely : Prop := crcTakesRow.holds Tryd.pinned (OpenSpec.ofChange crcTakesWrong)

/-- 'carillonlaw02.CrcJoins': WHATEVER THE INPUT: true; the input reads as it did. -/
def crcJoinsSpec : ChangeSpec := { name := "crcJoins", fn := fun _ => fun
  | [d1, d2] => { results := [.lit (.bool true)], args := [d1, d2] }
  | _ => none }
def crcJoinsRow : OpenClaim := { program := "ytkcooehlahifkaadoor", sum := "59f735bc96b174bcf1089f2c7efb1e60ae8a7fea06e2ea6011c5fca483ddc519", func := "carillon/carillonlaw02.CrcJoins", spec := "crcJoins", named := ["carillon/crc.table"], apart := false, laid := [("carillon/crc.table", laid_carillon_crc_table)] }
def CrcJoinsSaid : Prop := crcJoinsRow.holds Tryd.pinned (OpenSpec.ofChange crcJoinsSpec)

/-- ITS FALSE NEIGHBOUR: 'it returns false'. Refute it at one input. -/
def crcJoinsWrong : ChangeSpec := { name := "crcJoins", fn := fun _ => fun
  | [d1, d2] => { results := [.lit (.bool false)], args := [d1, d2] }
  | _ => none }
def CrcJoinsWrongFalsely : Prop := crcJoinsRow.holds Tryd.pinned (OpenSpec.ofChange crcJoinsWrong)

/-- 'carillonlaw02.CrcBack': WHATEVER THE INPUT: true; the input reads as it did. -/
def crcBackSpec : ChangeSpec := { name := "crcBack", fn := fun _ => fun
  | [d] => { results := [.lit (.bool true)], args := [d] }
  | _ => none }
def crcBackRow : OpenClaim := { program := "ytkcooehlahifkaadoor", sum := "59f735bc96b174bcf1089f2c7efb1e60ae8a7fea06e2ea6011c5fca483ddc519", func := "carillon/carillonlaw02.CrcBack", spec := "crcBack", named := ["carillon/crc.table"], apart := false, laid := [("carillon/crc.table", laid_carillon_crc_table)] }
def CrcBackSaid : Prop := crcBackRow.holds Tryd.pinned (OpenSpec.ofChange crcBackSpec)

/-- ITS FALSE NEIGHBOUR: 'it returns false'. Refute it at one input. -/
def crcBackWrong : ChangeSpec := { name := "crcBack", fn := fun _ => fun
  | [d] => { results := [.lit (.bool false)], args := [d] }
  | _ => none }
def CrcBackWrongFalsely : Prop := crcBackRow.holds Tryd.pinned (OpenSpec.ofChange crcBackWrong)

/-- 'carillonlaw02.CrcTorn': WHATEVER THE INPUT: true; the input reads as it did. -/
def crcTornSpec : ChangeSpec := { name := "crcTorn", fn := fun _ => fun
  | [d1, d2] => { results := [.lit (.bool true)], args := [d1, d2] }
  | _ => none }
def crcTornRow : OpenClaim := { program := "ytkcooehlahifkaadoor", sum := "59f735bc96b174bcf1089f2c7efb1e60ae8a7fea06e2ea6011c5fca483ddc519", func := "carillon/carillonlaw02.CrcTorn", spec := "crcTorn", named := ["carillon/crc.table"], apart := false, laid := [("carillon/crc.table", laid_carillon_crc_table)] }
def CrcTornSaid : Prop := crcTornRow.holds Tryd.pinned (OpenSpec.ofChange crcTornSpec)

/-- ITS FALSE NEIGHBOUR: 'it returns false'. Refute it at one input. -/
def crcTornWrong : ChangeSpec := { name := "crcTorn", fn := fun _ => fun
  | [d1, d2] => { results := [.lit (.bool false)], args := [d1, d2] }
  | _ => none }
def CrcTornWrongFalsely : Prop := crcTornRow.holds Tryd.pinned (OpenSpec.ofChange crcTornWrong)

/-- 'carillonlaw02.CrcBit': WHATEVER THE INPUT: true; the input reads as it did. -/
def crcBitSpec : ChangeSpec := { name := "crcBit", fn := fun _ => fun
  | [d1, d2] => { results := [.lit (.bool true)], args := [d1, d2] }
  | _ => none }
def crcBitRow : OpenClaim := { program := "ytkcooehlahifkaadoor", sum := "59f735bc96b174bcf1089f2c7efb1e60ae8a7fea06e2ea6011c5fca483ddc519", func := "carillon/carillonlaw02.CrcBit", spec := "crcBit", named := ["carillon/crc.table"], apart := false, laid := [("carillon/crc.table", laid_carillon_crc_table)] }
def CrcBitSaid : Prop := crcBitRow.holds Tryd.pinned (OpenSpec.ofChange crcBitSpec)

/-- ITS FALSE NEIGHBOUR: 'it returns false'. Refute it at one input. -/
def crcBitWrong : ChangeSpec := { name := "crcBit", fn := fun _ => fun
  | [d1, d2] => { results := [.lit (.bool false)], args := [d1, d2] }
  | _ => none }
def CrcBitWrongFalsely : Prop := crcBitRow.holds Tryd.pinned (OpenSpec.ofChange crcBitWrong)

/-- 'carillonlaw02.CrcBurst': WHATEVER THE INPUT: true; the input reads as it did. -/
def crcBurstSpec : ChangeSpec := { name := "crcBurst", fn := fun _ => fun
  | [d1, d2, d3] => { results := [.lit (.bool true)], args := [d1, d2, d3] }
  | _ => none }
def crcBurstRow : OpenClaim := { program := "ytkcooehlahifkaadoor", sum := "59f735bc96b174bcf1089f2c7efb1e60ae8a7fea06e2ea6011c5fca483ddc519", func := "carillon/carillonlaw02.CrcBurst", spec := "crcBurst", named := ["carillon/crc.table"], apart := false, laid := [("carillon/crc.table", laid_carillon_crc_table)] }
def CrcBurstSaid : Prop := crcBurstRow.holds Tryd.pinned (OpenSpec.ofChange crcBurstSpec)

/-- ITS FALSE NEIGHBOUR: 'it returns false'. Refute it at one input. -/
def crcBurstWrong : ChangeSpec := { name := "crcBurst", fn := fun _ => fun
  | [d1, d2, d3] => { results := [.lit (.bool false)], args := [d1, d2, d3] }
  | _ => none }
def CrcBurstWrongFalsely : Prop := crcBurstRow.holds Tryd.pinned (OpenSpec.ofChange crcBurstWrong)

/-- 'carillonlaw02.CrcOnly': WHATEVER THE INPUT: true; the input reads as it did. -/
def crcOnlySpec : ChangeSpec := { name := "crcOnly", fn := fun _ => fun
  | [d1, d2] => { results := [.lit (.bool true)], args := [d1, d2] }
  | _ => none }
def crcOnlyRow : OpenClaim := { program := "ytkcooehlahifkaadoor", sum := "59f735bc96b174bcf1089f2c7efb1e60ae8a7fea06e2ea6011c5fca483ddc519", func := "carillon/carillonlaw02.CrcOnly", spec := "crcOnly", named := ["carillon/crc.table"], apart := false, laid := [("carillon/crc.table", laid_carillon_crc_table)] }
def CrcOnlySaid : Prop := crcOnlyRow.holds Tryd.pinned (OpenSpec.ofChange crcOnlySpec)

/-- ITS FALSE NEIGHBOUR: 'it returns false'. Refute it at one input. -/
def crcOnlyWrong : ChangeSpec := { name := "crcOnly", fn := fun _ => fun
  | [d1, d2] => { results := [.lit (.bool false)], args := [d1, d2] }
  | _ => none }
def CrcOnlyWrongFalsely : Prop := crcOnlyRow.holds Tryd.pinned (OpenSpec.ofChange crcOnlyWrong)

/- THE SECOND FORM. 'bulk': how many values and letters a reading holds, each counted each time it is reached (what is shared counts as often as it is met; a slice's spare places count too). A statement '..UptoSaid' is the law's where the arguments, and the package variables that the reading takes, are together of bulk at most 1048576: NARROWER than '..Said'. Prove '..Said' where nothing that the law and all that it calls make is longer than what came in: it says more and counts as full. Else prove '..UptoSaid'. A law counts once. -/
mutual
def uptoBulk {H : Type} : DataW H → Nat
  | .lit (.string bytes) => bytes.length + 1
  | .lit _ => 1
  | .nil => 1
  | .ptr d => uptoBulk d + 1
  | .slice elems spare => uptoBulkAll elems + uptoBulkAll spare + 1
  | .agg parts => uptoBulkAll parts + 1
  | .iface _ d => uptoBulk d + 1
  | .map entries => uptoBulkEntries entries + 1
  | .held _ => 1
def uptoBulkAll {H : Type} : List (DataW H) → Nat
  | [] => 0
  | d :: r => uptoBulk d + uptoBulkAll r
def uptoBulkEntries {H : Type} : List (Lit × DataW H) → Nat
  | [] => 0
  | x :: r => uptoBulkEntry x + uptoBulkEntries r
def uptoBulkEntry {H : Type} : Lit × DataW H → Nat
  | (.string bytes, d) => bytes.length + uptoBulk d + 1
  | (_, d) => uptoBulk d + 1
 end
def uptoSmall : (H : Type) → List (DataW H) → Bool := fun _ ds => decide (uptoBulkAll ds ≤ 1048576)
def OpenSpec.upto (s : _root_.Go.ChangeSpec) : _root_.Go.OpenSpec := { _root_.Go.OpenSpec.ofChange s with cond := some uptoSmall }

/-- 'carillonlaw02.CrcSums', WHERE WHAT IT READS IS OF BULK AT MOST 1048576: true; the input reads as it did. -/
def crcSumsUptoRow : OpenClaim := { program := "ytkcooehlahifkaadoor", sum := "59f735bc96b174bcf1089f2c7efb1e60ae8a7fea06e2ea6011c5fca483ddc519", func := "carillon/carillonlaw02.CrcSums", spec := "crcSums", named := ["carillon/crc.table"], apart := false, laid := [("carillon/crc.table", laid_carillon_crc_table)], narrowed := true }
def CrcSumsUptoSaid : Prop := crcSumsUptoRow.holds Tryd.pinned (OpenSpec.upto crcSumsSpec)

/-- 'carillonlaw02.CrcFrames', WHERE WHAT IT READS IS OF BULK AT MOST 1048576: true; the input reads as it did. -/
def crcFramesUptoRow : OpenClaim := { program := "ytkcooehlahifkaadoor", sum := "59f735bc96b174bcf1089f2c7efb1e60ae8a7fea06e2ea6011c5fca483ddc519", func := "carillon/carillonlaw02.CrcFrames", spec := "crcFrames", named := ["carillon/crc.table"], apart := false, laid := [("carillon/crc.table", laid_carillon_crc_table)], narrowed := true }
def CrcFramesUptoSaid : Prop := crcFramesUptoRow.holds Tryd.pinned (OpenSpec.upto crcFramesSpec)

/-- 'carillonlaw02.CrcTakes', WHERE WHAT IT READS IS OF BULK AT MOST 1048576: true; the input reads as it did. -/
def crcTakesUptoRow : OpenClaim := { program := "ytkcooehlahifkaadoor", sum := "59f735bc96b174bcf1089f2c7efb1e60ae8a7fea06e2ea6011c5fca483ddc519", func := "carillon/carillonlaw02.CrcTakes", spec := "crcTakes", named := ["carillon/crc.table"], apart := false, laid := [("carillon/crc.table", laid_carillon_crc_table)], narrowed := true }
def CrcTakesUptoSaid : Prop := crcTakesUptoRow.holds Tryd.pinned (OpenSpec.upto crcTakesSpec)

/-- 'carillonlaw02.CrcJoins', WHERE WHAT IT READS IS OF BULK AT MOST 1048576: true; the input reads as it did. -/
def crcJoinsUptoRow : OpenClaim := { program := "ytkcooehlahifkaadoor", sum := "59f735bc96b174bcf1089f2c7efb1e60ae8a7fea06e2ea6011c5fca483ddc519", func := "carillon/carillonlaw02.CrcJoins", spec := "crcJoins", named := ["carillon/crc.table"], apart := false, laid := [("carillon/crc.table", laid_carillon_crc_table)], narrowed := true }
def CrcJoinsUptoSaid : Prop := crcJoinsUptoRow.holds Tryd.pinned (OpenSpec.upto crcJoinsSpec)

/-- 'carillonlaw02.CrcBack', WHERE WHAT IT READS IS OF BULK AT MOST 1048576: true; the input reads as it did. -/
def crcBackUptoRow : OpenClaim := { program := "ytkcooehlahifkaadoor", sum := "59f735bc96b174bcf1089f2c7efb1e60ae8a7fea06e2ea6011c5fca483ddc519", func := "carillon/carillonlaw02.CrcBack", spec := "crcBack", named := ["carillon/crc.table"], apart := false, laid := [("carillon/crc.table", laid_carillon_crc_table)], narrowed := true }
def CrcBackUptoSaid : Prop := crcBackUptoRow.holds Tryd.pinned (OpenSpec.upto crcBackSpec)

/-- 'carillonlaw02.CrcTorn', WHERE WHAT IT READS IS OF BULK AT MOST 1048576: true; the input reads as it did. -/
def crcTornUptoRow : OpenClaim := { program := "ytkcooehlahifkaadoor", sum := "59f735bc96b174bcf1089f2c7efb1e60ae8a7fea06e2ea6011c5fca483ddc519", func := "carillon/carillonlaw02.CrcTorn", spec := "crcTorn", named := ["carillon/crc.table"], apart := false, laid := [("carillon/crc.table", laid_carillon_crc_table)], narrowed := true }
def CrcTornUptoSaid : Prop := crcTornUptoRow.holds Tryd.pinned (OpenSpec.upto crcTornSpec)

/-- 'carillonlaw02.CrcBit', WHERE WHAT IT READS IS OF BULK AT MOST 1048576: true; the input reads as it did. -/
def crcBitUptoRow : OpenClaim := { program := "ytkcooehlahifkaadoor", sum := "59f735bc96b174bcf1089f2c7efb1e60ae8a7fea06e2ea6011c5fca483ddc519", func := "carillon/carillonlaw02.CrcBit", spec := "crcBit", named := ["carillon/crc.table"], apart := false, laid := [("carillon/crc.table", laid_carillon_crc_table)], narrowed := true }
def CrcBitUptoSaid : Prop := crcBitUptoRow.holds Tryd.pinned (OpenSpec.upto crcBitSpec)

/-- 'carillonlaw02.CrcBurst', WHERE WHAT IT READS IS OF BULK AT MOST 1048576: true; the input reads as it did. -/
def crcBurstUptoRow : OpenClaim := { program := "ytkcooehlahifkaadoor", sum := "59f735bc96b174bcf1089f2c7efb1e60ae8a7fea06e2ea6011c5fca483ddc519", func := "carillon/carillonlaw02.CrcBurst", spec := "crcBurst", named := ["carillon/crc.table"], apart := false, laid := [("carillon/crc.table", laid_carillon_crc_table)], narrowed := true }
def CrcBurstUptoSaid : Prop := crcBurstUptoRow.holds Tryd.pinned (OpenSpec.upto crcBurstSpec)

/-- 'carillonlaw02.CrcOnly', WHERE WHAT IT READS IS OF BULK AT MOST 1048576: true; the input reads as it did. -/
def crcOnlyUptoRow : OpenClaim := { program := "ytkcooehlahifkaadoor", sum := "59f735bc96b174bcf1089f2c7efb1e60ae8a7fea06e2ea6011c5fca483ddc519", func := "carillon/carillonlaw02.CrcOnly", spec := "crcOnly", named := ["carillon/crc.table"], apart := false, laid := [("carillon/crc.table", laid_carillon_crc_table)], narrowed := true }
def CrcOnlyUptoSaid : Prop := crcOnlyUptoRow.holds Tryd.pinned (OpenSpec.upto crcOnlySpec)

end Rows
end Go.Proofs.YtkcooehlahifkaaDoor
