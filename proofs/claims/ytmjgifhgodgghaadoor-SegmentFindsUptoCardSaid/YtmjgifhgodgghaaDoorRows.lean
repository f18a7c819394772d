/-
  NARROWER THAN 'FOR EVERY INPUT', by the rows' own cells (each row's printed sentence says how): SegmentWrites: laid · SegmentScans: laid · SegmentFinds: laid · SegmentBack: laid · SegmentIndex: laid · SegmentBit: laid.
  DERIVED. THE GIVEN ROWS OF THIS SEAT. 6 by the template 'for every input the law returns true; each argument reads behind the call as it read before'; 0 by the template 'total and deterministic' (their statements: YtmjgifhgodgghaaDoorTotals.lean).
  GIVEN WITH THE SEED: the statements are not yours to turn. If you find one false, say at which input.
  Laid BY PROGRAM, IN A SANDBOX (cutbox-rows.mjs): the forced cells as the released guide's own fill.sh prints them over the translation 27215c147cea3e31… (all of the seat's roots in one cut). By AI agents, Wed Nov 11 2026. No macro, syntax, notation, axiom, sorry.
-/
import Derived.Test.YtmjgifhgodgghaaDoorChecked
import GoSem.Claim
import GoSem.ClaimJoined
import GoSem.ClaimMapViews
import Derived.JoinedTies
import Derived.KernelRfl
namespace Go.Proofs.YtmjgifhgodgghaaDoor
/- THE CELL 'sum', in the pinned program and in every row, IS THE sha256 OF THE DUMP (.gsa) THAT YtmjgifhgodgghaaDoorProg.lean LOADS. Nothing in Lean hashes anything: it is a label: what it is worth is what the hold of that sum in a sandbox is worth. -/
noncomputable def Tryd.pinned : Pinned := { name := "ytmjgifhgodgghaadoor", sum := "27215c147cea3e31a154f852fc11f27fb0893039eed44a779b70d27cc09035d5", checked := Tryd.checked }
namespace Rows
def none {H : Type} : Left H := { results := [], args := [] }

/- WHAT THE LISTED PACKAGE-LEVEL VARIABLES READ AS WHEN THE CALL BEGINS. Each datum BY PROGRAM (the guide's laid-datum.mjs) off the statement by which the dump's own 'gosem.cut.vars' lays the variable. In a bare row this is a premise. The card (YtmjgifhgodgghaaDoorCards.lean) ties it to the program's text. -/
def laid_carillon_crc_table {H : Type} : DataW H := .agg [.lit (.int .u32 0), .lit (.int .u32 274646895), .lit (.int .u32 549293790), .lit (.int .u32 820201905), .lit (.int .u32 1098587580), .lit (.int .u32 1361435347), .lit (.int .u32 1640403810), .lit (.int .u32 1905808397), .lit (.int .u32 2197175160), .lit (.int .u32 2460548119), .lit (.int .u32 2722870694), .lit (.int .u32 2987750089), .lit (.int .u32 3280807620), .lit (.int .u32 3553878443), .lit (.int .u32 3811616794), .lit (.int .u32 4084100981)]
def laid_carillon_codec_sizes {H : Type} : DataW H := .agg [.lit (.int .i64 0), .lit (.int .i64 1), .lit (.int .i64 4), .lit (.int .i64 8), .lit (.int .i64 0)]

/-- 'carillonlaw06.SegmentWrites': WHATEVER THE INPUT: true; the input reads as it did. -/
def segmentWritesSpec : ChangeSpec := { name := "segmentWrites", fn := fun _ => fun
  | [d] => { results := [.lit (.bool true)], args := [d] }
  | _ => none }
def segmentWritesRow : OpenClaim := { program := "ytmjgifhgodgghaadoor", sum := "27215c147cea3e31a154f852fc11f27fb0893039eed44a779b70d27cc09035d5", func := "carillon/carillonlaw06.SegmentWrites", spec := "segmentWrites", inPlace := ["internal/bytealg.IndexByteString", "internal/bytealg.IndexString"], unfollowed := true, recurses := true, named := ["carillon/codec.sizes", "carillon/crc.table", "internal/bytealg.MaxLen"], apart := false, laid := [("carillon/crc.table", laid_carillon_crc_table), ("carillon/codec.sizes", laid_carillon_codec_sizes)] }
def SegmentWritesSaid : Prop := segmentWritesRow.holds Tryd.pinned (OpenSpec.ofChange segmentWritesSpec)

/-- ITS FALSE NEIGHBOUR: 'it returns false'. Refute it at one input. -/
def segmentWritesWrong : ChangeSpec := { name := "segmentWrites", fn := fun _ => fun
  | [d] => { results := [.lit (.bool false)], args := [d] }
  | _ => none }
def SegmentWritesWrongFalsely : Prop := segmentWritesRow.holds Tryd.pinned (OpenSpec.ofChange segmentWritesWrong)

/-- 'carillonlaw06.SegmentScans': WHATEVER THE INPUT: true; the input reads as it did. -/
def segmentScansSpec : ChangeSpec := { name := "segmentScans", fn := fun _ => fun
  | [d1, d2] => { results := [.lit (.bool true)], args := [d1, d2] }
  | _ => none }
def segmentScansRow : OpenClaim := { program := "ytmjgifhgodgghaadoor", sum := "27215c147cea3e31a154f852fc11f27fb0893039eed44a779b70d27cc09035d5", func := "carillon/carillonlaw06.SegmentScans", spec := "segmentScans", inPlace := ["internal/bytealg.IndexByteString", "internal/bytealg.IndexString"], unfollowed := true, recurses := true, named := ["carillon/codec.sizes", "carillon/crc.table", "internal/bytealg.MaxLen"], apart := false, laid := [("carillon/crc.table", laid_carillon_crc_table), ("carillon/codec.sizes", laid_carillon_codec_sizes)] }
def SegmentScansSaid : Prop := segmentScansRow.holds Tryd.pinned (OpenSpec.ofChange segmentScansSpec)

/-- ITS FALSE NEIGHBOUR: 'it returns false'. Refute it at one input. -/
def segmentScansWrong : ChangeSpec := { name := "segmentScans", fn := fun _ => fun
  | [d1, d2] => { results := [.lit (.bool false)], args := [d1, d2] }
  | _ => none }
def SegmentScansWrongFalsely : Prop := segmentScansRow.holds Tryd.pinned (OpenSpec.ofChange segmentScansWrong)

/-- 'carillonlaw06.SegmentFinds': WHATEVER THE INPUT: true; the input reads as it did. -/
def segmentFindsSpec : ChangeSpec := { name := "segmentFinds", fn := fun _ => fun
  | [d1, d2, d3, d4, d5] => { results := [.lit (.bool true)], args := [d1, d2, d3, d4, d5] }
  | _ => none }
def segmentFindsRow : OpenClaim := { program := "ytmjgifhgodgghaadoor", sum := "27215c147cea3e31a154f852fc11f27fb0893039eed44a779b70d27cc09035d5", func := "carillon/carillonlaw06.SegmentFinds", spec := "segmentFinds", inPlace := ["internal/bytealg.IndexByteString", "internal/bytealg.IndexString"], unfollowed := true, recurses := true, named := ["carillon/codec.sizes", "carillon/crc.table", "internal/bytealg.MaxLen"], apart := false, laid := [("carillon/crc.table", laid_carillon_crc_table), ("carillon/codec.sizes", laid_carillon_codec_sizes)] }
def SegmentFindsSaid : Prop := segmentFindsRow.holds Tryd.pinned (OpenSpec.ofChange segmentFindsSpec)

/-- ITS FALSE NEIGHBOUR: 'it returns false'. Refute it at one input. -/
def segmentFindsWrong : ChangeSpec := { name := "segmentFinds", fn := fun _ => fun
  | [d1, d2, d3, d4, d5] => { results := [.lit (.bool false)], args := [d1, d2, d3, d4, d5] }
  | _ => none }
def SegmentFindsWrongFalsely : Prop := segmentFindsRow.holds Tryd.pinned (OpenSpec.ofChange segmentFindsWrong)

/-- 'carillonlaw06.SegmentBack': WHATEVER THE INPUT: true; the input reads as it did. -/
def segmentBackSpec : ChangeSpec := { name := "segmentBack", fn := fun _ => fun
  | [d1, d2] => { results := [.lit (.bool true)], args := [d1, d2] }
  | _ => none }
def segmentBackRow : OpenClaim := { program := "ytmjgifhgodgghaadoor", sum := "27215c147cea3e31a154f852fc11f27fb0893039eed44a779b70d27cc09035d5", func := "carillon/carillonlaw06.SegmentBack", spec := "segmentBack", inPlace := ["internal/bytealg.IndexByteString", "internal/bytealg.IndexString"], unfollowed := true, recurses := true, named := ["carillon/codec.sizes", "carillon/crc.table", "internal/bytealg.MaxLen"], apart := false, laid := [("carillon/crc.table", laid_carillon_crc_table), ("carillon/codec.sizes", laid_carillon_codec_sizes)] }
def SegmentBackSaid : Prop := segmentBackRow.holds Tryd.pinned (OpenSpec.ofChange segmentBackSpec)

/-- ITS FALSE NEIGHBOUR: 'it returns false'. Refute it at one input. -/
def segmentBackWrong : ChangeSpec := { name := "segmentBack", fn := fun _ => fun
  | [d1, d2] => { results := [.lit (.bool false)], args := [d1, d2] }
  | _ => none }
def SegmentBackWrongFalsely : Prop := segmentBackRow.holds Tryd.pinned (OpenSpec.ofChange segmentBackWrong)

/-- 'carillonlaw06.SegmentIndex': WHATEVER THE INPUT: true; the input reads as it did. -/
def segmentIndexSpec : ChangeSpec := { name := "segmentIndex", fn := fun _ => fun
  | [d1, d2, d3, d4] => { results := [.lit (.bool true)], args := [d1, d2, d3, d4] }
  | _ => none }
def segmentIndexRow : OpenClaim := { program := "ytmjgifhgodgghaadoor", sum := "27215c147cea3e31a154f852fc11f27fb0893039eed44a779b70d27cc09035d5", func := "carillon/carillonlaw06.SegmentIndex", spec := "segmentIndex", inPlace := ["internal/bytealg.IndexByteString", "internal/bytealg.IndexString"], unfollowed := true, recurses := true, named := ["carillon/codec.sizes", "carillon/crc.table", "internal/bytealg.MaxLen"], apart := false, laid := [("carillon/crc.table", laid_carillon_crc_table), ("carillon/codec.sizes", laid_carillon_codec_sizes)] }
def SegmentIndexSaid : Prop := segmentIndexRow.holds Tryd.pinned (OpenSpec.ofChange segmentIndexSpec)

/-- ITS FALSE NEIGHBOUR: 'it returns false'. Refute it at one input. -/
def segmentIndexWrong : ChangeSpec := { name := "segmentIndex", fn := fun _ => fun
  | [d1, d2, d3, d4] => { results := [.lit (.bool false)], args := [d1, d2, d3, d4] }
  | _ => none }
def SegmentIndexWrongFalsely : Prop := segmentIndexRow.holds Tryd.pinned (OpenSpec.ofChange segmentIndexWrong)

/-- 'carillonlaw06.SegmentBit': WHATEVER THE INPUT: true; the input reads as it did. -/
def segmentBitSpec : ChangeSpec := { name := "segmentBit", fn := fun _ => fun
  | [d1, d2, d3] => { results := [.lit (.bool true)], args := [d1, d2, d3] }
  | _ => none }
def segmentBitRow : OpenClaim := { program := "ytmjgifhgodgghaadoor", sum := "27215c147cea3e31a154f852fc11f27fb0893039eed44a779b70d27cc09035d5", func := "carillon/carillonlaw06.SegmentBit", spec := "segmentBit", inPlace := ["internal/bytealg.IndexByteString", "internal/bytealg.IndexString"], unfollowed := true, recurses := true, named := ["carillon/codec.sizes", "carillon/crc.table", "internal/bytealg.MaxLen"], apart := false, laid := [("carillon/crc.table", laid_carillon_crc_table), ("carillon/codec.sizes", laid_carillon_codec_sizes)] }
def SegmentBitSaid : Prop := segmentBitRow.holds Tryd.pinned (OpenSpec.ofChange segmentBitSpec)

/-- ITS FALSE NEIGHBOUR: 'it returns false'. Refute it at one input. -/
def segmentBitWrong : ChangeSpec := { name := "segmentBit", fn := fun _ => fun
  | [d1, d2, d3] => { results := [.lit (.bool false)], args := [d1, d2, d3] }
  | _ => none }
def SegmentBitWrongFalsely : Prop := segmentBitRow.holds Tryd.pinned (OpenSpec.ofChange segmentBitWrong)

/- THE SECOND FORM. 'bulk': how many values and letters a reading holds, each counted each time it is reached (what is shared counts as often as it is met; a slice's spare places count too). A statement '..UptoSaid' is the law's where the arguments, and the package variables that the reading takes, are together of bulk at most 1048576: NARROWER than '..Said'. Prove '..Said' where nothing that the law and all that it calls make is longer than what came in: it says more and counts as full. Else prove '..UptoSaid'. A law counts once. -/
mutual
def uptoBulk {H : Type} : DataW H → Nat
  | .lit (.string bytes) => bytes.length + 1
  | .lit _ => 1
  | .nil => 1
  | .ptr d => uptoBulk d + 1
  | .slice elems spare => uptoBulkAll elems + uptoBulkAll spare + 1
  | .agg parts => uptoBulkAll parts + 1
  | .iface _ d => uptoBulk d + 1
  | .map entries => uptoBulkEntries entries + 1
  | .held _ => 1
def uptoBulkAll {H : Type} : List (DataW H) → Nat
  | [] => 0
  | d :: r => uptoBulk d + uptoBulkAll r
def uptoBulkEntries {H : Type} : List (Lit × DataW H) → Nat
  | [] => 0
  | x :: r => uptoBulkEntry x + uptoBulkEntries r
def uptoBulkEntry {H : Type} : Lit × DataW H → Nat
  | (.string bytes, d) => bytes.length + uptoBulk d + 1
  | (_, d) => uptoBulk d + 1
 end
def uptoSmall : (H : Type) → List (DataW H) → Bool := fun _ ds => decide (uptoBulkAll ds ≤ 1048576)
def OpenSpec.upto (s : _root_.Go.ChangeSpec) : _root_.Go.OpenSpec := { _root_.Go.OpenSpec.ofChange s with cond := some uptoSmall }

/-- 'carillonlaw06.SegmentWrites', WHERE WHAT IT READS IS OF BULK AT MOST 1048576: true; the input reads as it did. -/
def segmentWritesUptoRow : OpenClaim := { program := "ytmjgifhgodgghaadoor", sum := "27215c147cea3e31a154f852fc11f27fb0893039eed44a779b70d27cc09035d5", func := "carillon/carillonlaw06.SegmentWrites", spec := "segmentWrites", inPlace := ["internal/bytealg.IndexByteString", "internal/bytealg.IndexString"], unfollowed := true, recurses := true, named := ["carillon/codec.sizes", "carillon/crc.table", "internal/bytealg.MaxLen"], apart := false, laid := [("carillon/crc.table", laid_carillon_crc_table), ("carillon/codec.sizes", laid_carillon_codec_sizes)], narrowed := true }
def SegmentWritesUptoSaid : Prop := segmentWritesUptoRow.holds Tryd.pinned (OpenSpec.upto segmentWritesSpec)

/-- 'carillonlaw06.SegmentScans', WHERE WHAT IT READS IS OF BULK AT MOST 1048576: true; the input reads as it did. -/
def segmentScansUptoRow : OpenClaim := { program := "ytmjgifhgodgghaadoor", sum := "27215c147cea3e31a154f852fc11f27fb0893039eed44a779b70d27cc09035d5", func := "carillon/carillonlaw06.SegmentScans", spec := "segmentScans", inPlace := ["internal/bytealg.IndexByteString", "internal/bytealg.IndexString"], unfollowed := true, recurses := true, named := ["carillon/codec.sizes", "carillon/crc.table", "internal/bytealg.MaxLen"], apart := false, laid := [("carillon/crc.table", laid_carillon_crc_table), ("carillon/codec.sizes", laid_carillon_codec_sizes)], narrowed := true }
def SegmentScansUptoSaid : Prop := segmentScansUptoRow.holds Tryd.pinned (OpenSpec.upto segmentScansSpec)

/-- 'carillonlaw06.SegmentFinds', WHERE WHAT IT READS IS OF BULK AT MOST 1048576: true; the input reads as it did. -/
def segmentFindsUptoRow : OpenClaim := { program := "ytmjgifhgodgghaadoor", sum := "27215c147cea3e31a154f852fc11f27fb0893039eed44a779b70d27cc09035d5", func := "carillon/carillonlaw06.SegmentFinds", spec := "segmentFinds", inPlace := ["internal/bytealg.IndexByteString", "internal/bytealg.IndexString"], unfollowed := true, recurses := true, named := ["carillon/codec.sizes", "carillon/crc.table", "internal/bytealg.MaxLen"], apart := false, laid := [("carillon/crc.table", laid_carillon_crc_table), ("carillon/codec.sizes", laid_carillon_codec_sizes)], narrowed := true }
def SegmentFindsUptoSaid : Prop := segmentFindsUptoRow.holds Tryd.pinned (OpenSpec.upto segmentFindsSpec)

/-- 'carillonlaw06.SegmentBack', WHERE WHAT IT READS IS OF BULK AT MOST 1048576: true; the input reads as it did. -/
def segmentBackUptoRow : OpenClaim := { program := "ytmjgifhgodgghaadoor", sum := "27215c147cea3e31a154f852fc11f27fb0893039eed44a779b70d27cc09035d5", func := "carillon/carillonlaw06.SegmentBack", spec := "segmentBack", inPlace := ["internal/bytealg.IndexByteString", "internal/bytealg.IndexString"], unfollowed := true, recurses := true, named := ["carillon/codec.sizes", "carillon/crc.table", "internal/bytealg.MaxLen"], apart := false, laid := [("carillon/crc.table", laid_carillon_crc_table), ("carillon/codec.sizes", laid_carillon_codec_sizes)], narrowed := true }
def SegmentBackUptoSaid : Prop := segmentBackUptoRow.holds Tryd.pinned (OpenSpec.upto segmentBackSpec)

/-- 'carillonlaw06.SegmentIndex', WHERE WHAT IT READS IS OF BULK AT MOST 1048576: true; the input reads as it did. -/
def segmentIndexUptoRow : OpenClaim := { program := "ytmjgifhgodgghaadoor", sum := "27215c147cea3e31a154f852fc11f27fb0893039eed44a779b70d27cc09035d5", func := "carillon/carillonlaw06.SegmentIndex", spec := "segmentIndex", inPlace := ["internal/bytealg.IndexByteString", "internal/bytealg.IndexString"], unfollowed := true, recurses := true, named := ["carillon/codec.sizes", "carillon/crc.table", "internal/bytealg.MaxLen"], apart := false, laid := [("carillon/crc.table", laid_carillon_crc_table), ("carillon/codec.sizes", laid_carillon_codec_sizes)], narrowed := true }
def SegmentIndexUptoSaid : Prop := segmentIndexUptoRow.holds Tryd.pinned (OpenSpec.upto segmentIndexSpec)

/-- 'carillonlaw06.SegmentBit', WHERE WHAT IT READS IS OF BULK AT MOST 1048576: true; the input reads as it did. -/
def segmentBitUptoRow : OpenClaim := { program := "ytmjgifhgodgghaadoor", sum := "27215c147cea3e31a154f852fc11f27fb0893039eed44a779b70d27cc09035d5", func := "carillon/carillonlaw06.SegmentBit", spec := "segmentBit", inPlace := ["internal/bytealg.IndexByteString", "internal/bytealg.IndexString"], unfollowed := true, recurses := true, named := ["carillon/codec.sizes", "carillon/crc.table", "internal/bytealg.MaxLen"], apart := false, laid := [("carillon/crc.table", laid_carillon_crc_table), ("carillon/codec.sizes", laid_carillon_codec_sizes)], narrowed := true }
def SegmentBitUptoSaid : Prop := segmentBitUptoRow.holds Tryd.pinned (OpenSpec.upto segmentBitSpec)

end Rows
end Go.Proofs.YtmjgifhgodgghaaDoor
