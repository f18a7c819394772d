/-
  NARROWER THAN 'FOR EVERY INPUT', by the rows' own cells (each row's printed sentence says how): CodecReads: laid · CodecWrites: laid · CodecBack: laid · CodecAgain: laid · CodecCut: laid · CodecJoins: laid · CodecStar: laid.
  DERIVED. THE GIVEN ROWS OF THIS SEAT. 7 by the template 'for every input the law returns true; each argument reads behind the call as it read before'; 0 by the template 'total and deterministic' (their statements: YthkncdnpfoccjaaDoorTotals.lean).
  GIVEN WITH THE SEED: the statements are not yours to turn. If you find one false, say at which input.
  Laid BY PROGRAM, IN A SANDBOX (cutbox-rows.mjs): the forced cells as the released guide's own fill.sh prints them over the translation 2c4bbabda6c37e93… (all of the seat's roots in one cut). By AI agents, Wed Nov 11 2026. No macro, syntax, notation, axiom, sorry.
-/
import Derived.Test.YthkncdnpfoccjaaDoorChecked
import GoSem.Claim
import GoSem.ClaimJoined
import GoSem.ClaimMapViews
import Derived.JoinedTies
import Derived.KernelRfl
namespace Go.Proofs.YthkncdnpfoccjaaDoor
/- THE CELL 'sum', in the pinned program and in every row, IS THE sha256 OF THE DUMP (.gsa) THAT YthkncdnpfoccjaaDoorProg.lean LOADS. Nothing in Lean hashes anything: it is a label: what it is worth is what the hold of that sum in a sandbox is worth. -/
noncomputable def Tryd.pinned : Pinned := { name := "ythkncdnpfoccjaadoor", sum := "2c4bbabda6c37e9385cca0b08bf78b4cf347d5fa132b260ae02014618ef237e8", checked := Tryd.checked }
namespace Rows
def none {H : Type} : Left H := { results := [], args := [] }

/- WHAT THE LISTED PACKAGE-LEVEL VARIABLES READ AS WHEN THE CALL BEGINS. Each datum BY PROGRAM (the guide's laid-datum.mjs) off the statement by which the dump's own 'gosem.cut.vars' lays the variable. In a bare row this is a premise. The card (YthkncdnpfoccjaaDoorCards.lean) ties it to the program's text. -/
def laid_carillon_codec_sizes {H : Type} : DataW H := .agg [.lit (.int .i64 0), .lit (.int .i64 1), .lit (.int .i64 4), .lit (.int .i64 8), .lit (.int .i64 0)]

/-- 'carillonlaw01.CodecReads': WHATEVER THE INPUT: true; the input reads as it did. -/
def codecReadsSpec : ChangeSpec := { name := "codecReads", fn := fun _ => fun
  | [d1, d2] => { results := [.lit (.bool true)], args := [d1, d2] }
  | _ => none }
def codecReadsRow : OpenClaim := { program := "ythkncdnpfoccjaadoor", sum := "2c4bbabda6c37e9385cca0b08bf78b4cf347d5fa132b260ae02014618ef237e8", func := "carillon/carillonlaw01.CodecReads", spec := "codecReads", inPlace := ["internal/bytealg.IndexByteString", "internal/bytealg.IndexString"], named := ["carillon/codec.sizes", "internal/bytealg.MaxLen"], apart := false, laid := [("carillon/codec.sizes", laid_carillon_codec_sizes)] }
def CodecReadsSaid : Prop := codecReadsRow.holds Tryd.pinned (OpenSpec.ofChange codecReadsSpec)

/-- ITS FALSE NEIGHBOUR: 'it returns false'. Refute it at one input. -/
def codecReadsWrong : ChangeSpec := { name := "codecReads", fn := fun _ => fun
  | [d1, d2] => { results := [.lit (.bool false)], args := [d1, d2] }
  | _ => none }
def CodecReadsWrongFalsely : Prop := codecReadsRow.holds Tryd.pinned (OpenSpec.ofChange codecReadsWrong)

/-- 'carillonlaw01.CodecWrites': WHATEVER THE INPUT: true; the input reads as it did. -/
def codecWritesSpec : ChangeSpec := { name := "codecWrites", fn := fun _ => fun
  | [d] => { results := [.lit (.bool true)], args := [d] }
  | _ => none }
def codecWritesRow : OpenClaim := { program := "ythkncdnpfoccjaadoor", sum := "2c4bbabda6c37e9385cca0b08bf78b4cf347d5fa132b260ae02014618ef237e8", func := "carillon/carillonlaw01.CodecWrites", spec := "codecWrites", inPlace := ["internal/bytealg.IndexByteString", "internal/bytealg.IndexString", "internal/abi.NoEscape"], named := ["carillon/codec.sizes", "internal/bytealg.MaxLen"], apart := false, laid := [("carillon/codec.sizes", laid_carillon_codec_sizes)] }
def CodecWritesSaid : Prop := codecWritesRow.holds Tryd.pinned (OpenSpec.ofChange codecWritesSpec)

/-- ITS FALSE NEIGHBOUR: 'it returns false'. Refute it at one input. -/
def codecWritesWrong : ChangeSpec := { name := "codecWrites", fn := fun _ => fun
  | [d] => { results := [.lit (.bool false)], args := [d] }
  | _ => none }
def CodecWritesWrongFalsely : Prop := codecWritesRow.holds Tryd.pinned (OpenSpec.ofChange codecWritesWrong)

/-- 'carillonlaw01.CodecBack': WHATEVER THE INPUT: true; the input reads as it did. -/
def codecBackSpec : ChangeSpec := { name := "codecBack", fn := fun _ => fun
  | [d] => { results := [.lit (.bool true)], args := [d] }
  | _ => none }
def codecBackRow : OpenClaim := { program := "ythkncdnpfoccjaadoor", sum := "2c4bbabda6c37e9385cca0b08bf78b4cf347d5fa132b260ae02014618ef237e8", func := "carillon/carillonlaw01.CodecBack", spec := "codecBack", inPlace := ["internal/bytealg.IndexByteString", "internal/bytealg.IndexString", "internal/abi.NoEscape"], named := ["carillon/codec.sizes", "internal/bytealg.MaxLen"], apart := false, laid := [("carillon/codec.sizes", laid_carillon_codec_sizes)] }
def CodecBackSaid : Prop := codecBackRow.holds Tryd.pinned (OpenSpec.ofChange codecBackSpec)

/-- ITS FALSE NEIGHBOUR: 'it returns false'. Refute it at one input. -/
def codecBackWrong : ChangeSpec := { name := "codecBack", fn := fun _ => fun
  | [d] => { results := [.lit (.bool false)], args := [d] }
  | _ => none }
def CodecBackWrongFalsely : Prop := codecBackRow.holds Tryd.pinned (OpenSpec.ofChange codecBackWrong)

/-- 'carillonlaw01.CodecAgain': WHATEVER THE INPUT: true; the input reads as it did. -/
def codecAgainSpec : ChangeSpec := { name := "codecAgain", fn := fun _ => fun
  | [d1, d2] => { results := [.lit (.bool true)], args := [d1, d2] }
  | _ => none }
def codecAgainRow : OpenClaim := { program := "ythkncdnpfoccjaadoor", sum := "2c4bbabda6c37e9385cca0b08bf78b4cf347d5fa132b260ae02014618ef237e8", func := "carillon/carillonlaw01.CodecAgain", spec := "codecAgain", inPlace := ["internal/bytealg.IndexByteString", "internal/bytealg.IndexString", "internal/abi.NoEscape"], named := ["carillon/codec.sizes", "internal/bytealg.MaxLen"], apart := false, laid := [("carillon/codec.sizes", laid_carillon_codec_sizes)] }
def CodecAgainSaid : Prop := codecAgainRow.holds Tryd.pinned (OpenSpec.ofChange codecAgainSpec)

/-- ITS FALSE NEIGHBOUR: 'it returns false'. Refute it at one input. -/
def codecAgainWrong : ChangeSpec := { name := "codecAgain", fn := fun _ => fun
  | [d1, d2] => { results := [.lit (.bool false)], args := [d1, d2] }
  | _ => none }
def CodecAgainWrongFalsely : Prop := codecAgainRow.holds Tryd.pinned (OpenSpec.ofChange codecAgainWrong)

/-- 'carillonlaw01.CodecCut': WHATEVER THE INPUT: true; the input reads as it did. -/
def codecCutSpec : ChangeSpec := { name := "codecCut", fn := fun _ => fun
  | [d1, d2, d3] => { results := [.lit (.bool true)], args := [d1, d2, d3] }
  | _ => none }
def codecCutRow : OpenClaim := { program := "ythkncdnpfoccjaadoor", sum := "2c4bbabda6c37e9385cca0b08bf78b4cf347d5fa132b260ae02014618ef237e8", func := "carillon/carillonlaw01.CodecCut", spec := "codecCut", inPlace := ["internal/bytealg.IndexByteString", "internal/bytealg.IndexString", "internal/abi.NoEscape"], named := ["carillon/codec.sizes", "internal/bytealg.MaxLen"], apart := false, laid := [("carillon/codec.sizes", laid_carillon_codec_sizes)] }
def CodecCutSaid : Prop := codecCutRow.holds Tryd.pinned (OpenSpec.ofChange codecCutSpec)

/-- ITS FALSE NEIGHBOUR: 'it returns false'. Refute it at one input. -/
def codecCutWrong : ChangeSpec := { name := "codecCut", fn := fun _ => fun
  | [d1, d2, d3] => { results := [.lit (.bool false)], args := [d1, d2, d3] }
  | _ => none }
def CodecCutWrongFalsely : Prop := codecCutRow.holds Tryd.pinned (OpenSpec.ofChange codecCutWrong)

/-- 'carillonlaw01.CodecJoins': WHATEVER THE INPUT: true; the input reads as it did. -/
def codecJoinsSpec : ChangeSpec := { name := "codecJoins", fn := fun _ => fun
  | [d1, d2] => { results := [.lit (.bool true)], args := [d1, d2] }
  | _ => none }
def codecJoinsRow : OpenClaim := { program := "ythkncdnpfoccjaadoor", sum := "2c4bbabda6c37e9385cca0b08bf78b4cf347d5fa132b260ae02014618ef237e8", func := "carillon/carillonlaw01.CodecJoins", spec := "codecJoins", inPlace := ["internal/bytealg.IndexByteString", "internal/bytealg.IndexString", "internal/abi.NoEscape"], named := ["carillon/codec.sizes", "internal/bytealg.MaxLen"], apart := false, laid := [("carillon/codec.sizes", laid_carillon_codec_sizes)] }
def CodecJoinsSaid : Prop := codecJoinsRow.holds Tryd.pinned (OpenSpec.ofChange codecJoinsSpec)

/-- ITS FALSE NEIGHBOUR: 'it returns false'. Refute it at one input. -/
def codecJoinsWrong : ChangeSpec := { name := "codecJoins", fn := fun _ => fun
  | [d1, d2] => { results := [.lit (.bool false)], args := [d1, d2] }
  | _ => none }
def CodecJoinsWrongFalsely : Prop := codecJoinsRow.holds Tryd.pinned (OpenSpec.ofChange codecJoinsWrong)

/-- 'carillonlaw01.CodecStar': WHATEVER THE INPUT: true; the input reads as it did. -/
def codecStarSpec : ChangeSpec := { name := "codecStar", fn := fun _ => fun
  | [d1, d2, d3, d4] => { results := [.lit (.bool true)], args := [d1, d2, d3, d4] }
  | _ => none }
def codecStarRow : OpenClaim := { program := "ythkncdnpfoccjaadoor", sum := "2c4bbabda6c37e9385cca0b08bf78b4cf347d5fa132b260ae02014618ef237e8", func := "carillon/carillonlaw01.CodecStar", spec := "codecStar", inPlace := ["internal/bytealg.IndexByteString", "internal/bytealg.IndexString", "internal/abi.NoEscape", "internal/bytealg.MakeNoZero"], named := ["carillon/codec.sizes", "internal/bytealg.MaxLen"], apart := false, laid := [("carillon/codec.sizes", laid_carillon_codec_sizes)] }
def CodecStarSaid : Prop := codecStarRow.holds Tryd.pinned (OpenSpec.ofChange codecStarSpec)

/-- ITS FALSE NEIGHBOUR: 'it returns false'. Refute it at one input. -/
def codecStarWrong : ChangeSpec := { name := "codecStar", fn := fun _ => fun
  | [d1, d2, d3, d4] => { results := [.lit (.bool false)], args := [d1, d2, d3, d4] }
  | _ => none }
def CodecStarWrongFalsely : Prop := codecStarRow.holds Tryd.pinned (OpenSpec.ofChange codecStarWrong)

/- THE SECOND FORM. 'bulk': how many values and letters a reading holds, each counted each time it is reached (what is shared counts as often as it is met; a slice's spare places count too). A statement '..UptoSaid' is the law's where the arguments, and the package variables that the reading takes, are together of bulk at most 1048576: NARROWER than '..Said'. Prove '..Said' where nothing that the law and all that it calls make is longer than what came in: it says more and counts as full. Else prove '..UptoSaid'. A law counts once. -/
mutual
def uptoBulk {H : Type} : DataW H → Nat
  | .lit (.string bytes) => bytes.length + 1
  | .lit _ => 1
  | .nil => 1
  | .ptr d => uptoBulk d + 1
  | .slice elems spare => uptoBulkAll elems + uptoBulkAll spare + 1
  | .agg parts => uptoBulkAll parts + 1
  | .iface _ d => uptoBulk d + 1
  | .map entries => uptoBulkEntries entries + 1
  | .held _ => 1
def uptoBulkAll {H : Type} : List (DataW H) → Nat
  | [] => 0
  | d :: r => uptoBulk d + uptoBulkAll r
def uptoBulkEntries {H : Type} : List (Lit × DataW H) → Nat
  | [] => 0
  | x :: r => uptoBulkEntry x + uptoBulkEntries r
def uptoBulkEntry {H : Type} : Lit × DataW H → Nat
  | (.string bytes, d) => bytes.length + uptoBulk d + 1
  | (_, d) => uptoBulk d + 1
 end
def uptoSmall : (H : Type) → List (DataW H) → Bool := fun _ ds => decide (uptoBulkAll ds ≤ 1048576)
def OpenSpec.upto (s : _root_.Go.ChangeSpec) : _root_.Go.OpenSpec := { _root_.Go.OpenSpec.ofChange s with cond := some uptoSmall }

/-- 'carillonlaw01.CodecReads', WHERE WHAT IT READS IS OF BULK AT MOST 1048576: true; the input reads as it did. -/
def codecReadsUptoRow : OpenClaim := { program := "ythkncdnpfoccjaadoor", sum := "2c4bbabda6c37e9385cca0b08bf78b4cf347d5fa132b260ae02014618ef237e8", func := "carillon/carillonlaw01.CodecReads", spec := "codecReads", inPlace := ["internal/bytealg.IndexByteString", "internal/bytealg.IndexString"], named := ["carillon/codec.sizes", "internal/bytealg.MaxLen"], apart := false, laid := [("carillon/codec.sizes", laid_carillon_codec_sizes)], narrowed := true }
def CodecReadsUptoSaid : Prop := codecReadsUptoRow.holds Tryd.pinned (OpenSpec.upto codecReadsSpec)

/-- 'carillonlaw01.CodecWrites', WHERE WHAT IT READS IS OF BULK AT MOST 1048576: true; the input reads as it did. -/
def codecWritesUptoRow : OpenClaim := { program := "ythkncdnpfoccjaadoor", sum := "2c4bbabda6c37e9385cca0b08bf78b4cf347d5fa132b260ae02014618ef237e8", func := "carillon/carillonlaw01.CodecWrites", spec := "codecWrites", inPlace := ["internal/bytealg.IndexByteString", "internal/bytealg.IndexString", "internal/abi.NoEscape"], named := ["carillon/codec.sizes", "internal/bytealg.MaxLen"], apart := false, laid := [("carillon/codec.sizes", laid_carillon_codec_sizes)], narrowed := true }
def CodecWritesUptoSaid : Prop := codecWritesUptoRow.holds Tryd.pinned (OpenSpec.upto codecWritesSpec)

/-- 'carillonlaw01.CodecBack', WHERE WHAT IT READS IS OF BULK AT MOST 1048576: true; the input reads as it did. -/
def codecBackUptoRow : OpenClaim := { program := "ythkncdnpfoccjaadoor", sum := "2c4bbabda6c37e9385cca0b08bf78b4cf347d5fa132b260ae02014618ef237e8", func := "carillon/carillonlaw01.CodecBack", spec := "codecBack", inPlace := ["internal/bytealg.IndexByteString", "internal/bytealg.IndexString", "internal/abi.NoEscape"], named := ["carillon/codec.sizes", "internal/bytealg.MaxLen"], apart := false, laid := [("carillon/codec.sizes", laid_carillon_codec_sizes)], narrowed := true }
def CodecBackUptoSaid : Prop := codecBackUptoRow.holds Tryd.pinned (OpenSpec.upto codecBackSpec)

/-- 'carillonlaw01.CodecAgain', WHERE WHAT IT READS IS OF BULK AT MOST 1048576: true; the input reads as it did. -/
def codecAgainUptoRow : OpenClaim := { program := "ythkncdnpfoccjaadoor", sum := "2c4bbabda6c37e9385cca0b08bf78b4cf347d5fa132b260ae02014618ef237e8", func := "carillon/carillonlaw01.CodecAgain", spec := "codecAgain", inPlace := ["internal/bytealg.IndexByteString", "internal/bytealg.IndexString", "internal/abi.NoEscape"], named := ["carillon/codec.sizes", "internal/bytealg.MaxLen"], apart := false, laid := [("carillon/codec.sizes", laid_carillon_codec_sizes)], narrowed := true }
def CodecAgainUptoSaid : Prop := codecAgainUptoRow.holds Tryd.pinned (OpenSpec.upto codecAgainSpec)

/-- 'carillonlaw01.CodecCut', WHERE WHAT IT READS IS OF BULK AT MOST 1048576: true; the input reads as it did. -/
def codecCutUptoRow : OpenClaim := { program := "ythkncdnpfoccjaadoor", sum := "2c4bbabda6c37e9385cca0b08bf78b4cf347d5fa132b260ae02014618ef237e8", func := "carillon/carillonlaw01.CodecCut", spec := "codecCut", inPlace := ["internal/bytealg.IndexByteString", "internal/bytealg.IndexString", "internal/abi.NoEscape"], named := ["carillon/codec.sizes", "internal/bytealg.MaxLen"], apart := false, laid := [("carillon/codec.sizes", laid_carillon_codec_sizes)], narrowed := true }
def CodecCutUptoSaid : Prop := codecCutUptoRow.holds Tryd.pinned (OpenSpec.upto codecCutSpec)

/-- 'carillonlaw01.CodecJoins', WHERE WHAT IT READS IS OF BULK AT MOST 1048576: true; the input reads as it did. -/
def codecJoinsUptoRow : OpenClaim := { program := "ythkncdnpfoccjaadoor", sum := "2c4bbabda6c37e9385cca0b08bf78b4cf347d5fa132b260ae02014618ef237e8", func := "carillon/carillonlaw01.CodecJoins", spec := "codecJoins", inPlace := ["internal/bytealg.IndexByteString", "internal/bytealg.IndexString", "internal/abi.NoEscape"], named := ["carillon/codec.sizes", "internal/bytealg.MaxLen"], apart := false, laid := [("carillon/codec.sizes", laid_carillon_codec_sizes)], narrowed := true }
def CodecJoinsUptoSaid : Prop := codecJoinsUptoRow.holds Tryd.pinned (OpenSpec.upto codecJoinsSpec)

/-- 'carillonlaw01.CodecStar', WHERE WHAT IT READS IS OF BULK AT MOST 1048576: true; the input reads as it did. -/
def codecStarUptoRow : OpenClaim := { program := "ythkncdnpfoccjaadoor", sum := "2c4bbabda6c37e9385cca0b08bf78b4cf347d5fa132b260ae02014618ef237e8", func := "carillon/carillonlaw01.CodecStar", spec := "codecStar", inPlace := ["internal/bytealg.IndexByteString", "internal/bytealg.IndexString", "internal/abi.NoEscape", "internal/bytealg.MakeNoZero"], named := ["carillon/codec.sizes", "internal/bytealg.MaxLen"], apart := false, laid := [("carillon/codec.sizes", laid_carillon_codec_sizes)], narrowed := true }
def CodecStarUptoSaid : Prop := codecStarUptoRow.holds Tryd.pinned (OpenSpec.upto codecStarSpec)

end Rows
end Go.Proofs.YthkncdnpfoccjaaDoor
