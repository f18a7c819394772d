/-
  NARROWER THAN 'FOR EVERY INPUT', by the rows' own cells (each row's printed sentence says how): ProposerPlays: laid · ProposerValue: laid · ProposerAgrees: laid · ProposerEnds: laid.
  DERIVED. THE GIVEN ROWS OF THIS SEAT. 4 by the template 'for every input the law returns true; each argument reads behind the call as it read before'; 0 by the template 'total and deterministic' (their statements: YtnmcknfkmelnbaaDoorTotals.lean).
  GIVEN WITH THE SEED: the statements are not yours to turn. If you find one false, say at which input.
  Laid BY PROGRAM, IN A SANDBOX (cutbox-rows.mjs): the forced cells as the released guide's own fill.sh prints them over the translation eada58e898f8220b… (all of the seat's roots in one cut). By AI agents, Wed Nov 11 2026. No macro, syntax, notation, axiom, sorry.
-/
import Derived.Test.YtnmcknfkmelnbaaDoorChecked
import GoSem.Claim
import GoSem.ClaimJoined
import GoSem.ClaimMapViews
import Derived.JoinedTies
import Derived.KernelRfl
namespace Go.Proofs.YtnmcknfkmelnbaaDoor
/- THE CELL 'sum', in the pinned program and in every row, IS THE sha256 OF THE DUMP (.gsa) THAT YtnmcknfkmelnbaaDoorProg.lean LOADS. Nothing in Lean hashes anything: it is a label: what it is worth is what the hold of that sum in a sandbox is worth. -/
noncomputable def Tryd.pinned : Pinned := { name := "ytnmcknfkmelnbaadoor", sum := "eada58e898f8220b2a4e985a98a2989a9b15d61512eea5d4c565ebfc5c9a1c98", checked := Tryd.checked }
namespace Rows
def none {H : Type} : Left H := { results := [], args := [] }

/- WHAT THE LISTED PACKAGE-LEVEL VARIABLES READ AS WHEN THE CALL BEGINS. Each datum BY PROGRAM (the guide's laid-datum.mjs) off the statement by which the dump's own 'gosem.cut.vars' lays the variable. In a bare row this is a premise. The card (YtnmcknfkmelnbaaDoorCards.lean) ties it to the program's text. -/
def laid_carillon_codec_sizes {H : Type} : DataW H := .agg [.lit (.int .i64 0), .lit (.int .i64 1), .lit (.int .i64 4), .lit (.int .i64 8), .lit (.int .i64 0)]

/-- 'carillonlaw11.ProposerPlays': WHATEVER THE INPUT: true; the input reads as it did. -/
def proposerPlaysSpec : ChangeSpec := { name := "proposerPlays", fn := fun _ => fun
  | [d1, d2, d3] => { results := [.lit (.bool true)], args := [d1, d2, d3] }
  | _ => none }
def proposerPlaysRow : OpenClaim := { program := "ytnmcknfkmelnbaadoor", sum := "eada58e898f8220b2a4e985a98a2989a9b15d61512eea5d4c565ebfc5c9a1c98", func := "carillon/carillonlaw11.ProposerPlays", spec := "proposerPlays", named := ["carillon/codec.sizes"], apart := false, laid := [("carillon/codec.sizes", laid_carillon_codec_sizes)] }
def ProposerPlaysSaid : Prop := proposerPlaysRow.holds Tryd.pinned (OpenSpec.ofChange proposerPlaysSpec)

/-- ITS FALSE NEIGHBOUR: 'it returns false'. Refute it at one input. -/
def proposerPlaysWrong : ChangeSpec := { name := "proposerPlays", fn := fun _ => fun
  | [d1, d2, d3] => { results := [.lit (.bool false)], args := [d1, d2, d3] }
  | _ => none }
def ProposerPlaysWrongFalsely : Prop := proposerPlaysRow.holds Tryd.pinned (OpenSpec.ofChange proposerPlaysWrong)

/-- 'carillonlaw11.ProposerValue': WHATEVER THE INPUT: true; the input reads as it did. -/
def proposerValueSpec : ChangeSpec := { name := "proposerValue", fn := fun _ => fun
  | [d1, d2, d3, d4] => { results := [.lit (.bool true)], args := [d1, d2, d3, d4] }
  | _ => none }
def proposerValueRow : OpenClaim := { program := "ytnmcknfkmelnbaadoor", sum := "eada58e898f8220b2a4e985a98a2989a9b15d61512eea5d4c565ebfc5c9a1c98", func := "carillon/carillonlaw11.ProposerValue", spec := "proposerValue", named := ["carillon/codec.sizes"], apart := false, laid := [("carillon/codec.sizes", laid_carillon_codec_sizes)] }
def ProposerValueSaid : Prop := proposerValueRow.holds Tryd.pinned (OpenSpec.ofChange proposerValueSpec)

/-- ITS FALSE NEIGHBOUR: 'it returns false'. Refute it at one input. -/
def proposerValueWrong : ChangeSpec := { name := "proposerValue", fn := fun _ => fun
  | [d1, d2, d3, d4] => { results := [.lit (.bool false)], args := [d1, d2, d3, d4] }
  | _ => none }
def ProposerValueWrongFalsely : Prop := proposerValueRow.holds Tryd.pinned (OpenSpec.ofChange proposerValueWrong)

/-- 'carillonlaw11.ProposerAgrees': WHATEVER THE INPUT: true; the input reads as it did. -/
def proposerAgreesSpec : ChangeSpec := { name := "proposerAgrees", fn := fun _ => fun
  | [d1, d2] => { results := [.lit (.bool true)], args := [d1, d2] }
  | _ => none }
def proposerAgreesRow : OpenClaim := { program := "ytnmcknfkmelnbaadoor", sum := "eada58e898f8220b2a4e985a98a2989a9b15d61512eea5d4c565ebfc5c9a1c98", func := "carillon/carillonlaw11.ProposerAgrees", spec := "proposerAgrees", named := ["carillon/codec.sizes"], apart := false, laid := [("carillon/codec.sizes", laid_carillon_codec_sizes)] }
def ProposerAgreesSaid : Prop := proposerAgreesRow.holds Tryd.pinned (OpenSpec.ofChange proposerAgreesSpec)

/-- ITS FALSE NEIGHBOUR: 'it returns false'. Refute it at one input. -/
def proposerAgreesWrong : ChangeSpec := { name := "proposerAgrees", fn := fun _ => fun
  | [d1, d2] => { results := [.lit (.bool false)], args := [d1, d2] }
  | _ => none }
def ProposerAgreesWrongFalsely : Prop := proposerAgreesRow.holds Tryd.pinned (OpenSpec.ofChange proposerAgreesWrong)

/-- 'carillonlaw11.ProposerEnds': WHATEVER THE INPUT: true; the input reads as it did. -/
def proposerEndsSpec : ChangeSpec := { name := "proposerEnds", fn := fun _ => fun
  | [d1, d2] => { results := [.lit (.bool true)], args := [d1, d2] }
  | _ => none }
def proposerEndsRow : OpenClaim := { program := "ytnmcknfkmelnbaadoor", sum := "eada58e898f8220b2a4e985a98a2989a9b15d61512eea5d4c565ebfc5c9a1c98", func := "carillon/carillonlaw11.ProposerEnds", spec := "proposerEnds", named := ["carillon/codec.sizes"], apart := false, laid := [("carillon/codec.sizes", laid_carillon_codec_sizes)] }
def ProposerEndsSaid : Prop := proposerEndsRow.holds Tryd.pinned (OpenSpec.ofChange proposerEndsSpec)

/-- ITS FALSE NEIGHBOUR: 'it returns false'. Refute it at one input. -/
def proposerEndsWrong : ChangeSpec := { name := "proposerEnds", fn := fun _ => fun
  | [d1, d2] => { results := [.lit (.bool false)], args := [d1, d2] }
  | _ => none }
def ProposerEndsWrongFalsely : Prop := proposerEndsRow.holds Tryd.pinned (OpenSpec.ofChange proposerEndsWrong)

/- THE SECOND FORM. 'bulk': how many values and letters a reading holds, each counted each time it is reached (what is shared counts as often as it is met; a slice's spare places count too). A statement '..UptoSaid' is the law's where the arguments, and the package variables that the reading takes, are together of bulk at most 1048576: NARROWER than '..Said'. Prove '..Said' where nothing that the law and all that it calls make is longer than what came in: it says more and counts as full. Else prove '..UptoSaid'. A law counts once. -/
mutual
def uptoBulk {H : Type} : DataW H → Nat
  | .lit (.string bytes) => bytes.length + 1
  | .lit _ => 1
  | .nil => 1
  | .ptr d => uptoBulk d + 1
  | .slice elems spare => uptoBulkAll elems + uptoBulkAll spare + 1
  | .agg parts => uptoBulkAll parts + 1
  | .iface _ d => uptoBulk d + 1
  | .map entries => uptoBulkEntries entries + 1
  | .held _ => 1
def uptoBulkAll {H : Type} : List (DataW H) → Nat
  | [] => 0
  | d :: r => uptoBulk d + uptoBulkAll r
def uptoBulkEntries {H : Type} : List (Lit × DataW H) → Nat
  | [] => 0
  | x :: r => uptoBulkEntry x + uptoBulkEntries r
def uptoBulkEntry {H : Type} : Lit × DataW H → Nat
  | (.string bytes, d) => bytes.length + uptoBulk d + 1
  | (_, d) => uptoBulk d + 1
 end
def uptoSmall : (H : Type) → List (DataW H) → Bool := fun _ ds => decide (uptoBulkAll ds ≤ 1048576)
def OpenSpec.upto (s : _root_.Go.ChangeSpec) : _root_.Go.OpenSpec := { _root_.Go.OpenSpec.ofChange s with cond := some uptoSmall }

/-- 'carillonlaw11.ProposerPlays', WHERE WHAT IT READS IS OF BULK AT MOST 1048576: true; the input reads as it did. -/
def proposerPlaysUptoRow : OpenClaim := { program := "ytnmcknfkmelnbaadoor", sum := "eada58e898f8220b2a4e985a98a2989a9b15d61512eea5d4c565ebfc5c9a1c98", func := "carillon/carillonlaw11.ProposerPlays", spec := "proposerPlays", named := ["carillon/codec.sizes"], apart := false, laid := [("carillon/codec.sizes", laid_carillon_codec_sizes)], narrowed := true }
def ProposerPlaysUptoSaid : Prop := proposerPlaysUptoRow.holds Tryd.pinned (OpenSpec.upto proposerPlaysSpec)

/-- 'carillonlaw11.ProposerValue', WHERE WHAT IT READS IS OF BULK AT MOST 1048576: true; the input reads as it did. -/
def proposerValueUptoRow : OpenClaim := { program := "ytnmcknfkmelnbaadoor", sum := "eada58e898f8220b2a4e985a98a2989a9b15d61512eea5d4c565ebfc5c9a1c98", func := "carillon/carillonlaw11.ProposerValue", spec := "proposerValue", named := ["carillon/codec.sizes"], apart := false, laid := [("carillon/codec.sizes", laid_carillon_codec_sizes)], narrowed := true }
def ProposerValueUptoSaid : Prop := proposerValueUptoRow.holds Tryd.pinned (OpenSpec.upto proposerValueSpec)

/-- 'carillonlaw11.ProposerAgrees', WHERE WHAT IT READS IS OF BULK AT MOST 1048576: true; the input reads as it did. -/
def proposerAgreesUptoRow : OpenClaim := { program := "ytnmcknfkmelnbaadoor", sum := "eada58e898f8220b2a4e985a98a2989a9b15d61512eea5d4c565ebfc5c9a1c98", func := "carillon/carillonlaw11.ProposerAgrees", spec := "proposerAgrees", named := ["carillon/codec.sizes"], apart := false, laid := [("carillon/codec.sizes", laid_carillon_codec_sizes)], narrowed := true }
def ProposerAgreesUptoSaid : Prop := proposerAgreesUptoRow.holds Tryd.pinned (OpenSpec.upto proposerAgreesSpec)

/-- 'carillonlaw11.ProposerEnds', WHERE WHAT IT READS IS OF BULK AT MOST 1048576: true; the input reads as it did. -/
def proposerEndsUptoRow : OpenClaim := { program := "ytnmcknfkmelnbaadoor", sum := "eada58e898f8220b2a4e985a98a2989a9b15d61512eea5d4c565ebfc5c9a1c98", func := "carillon/carillonlaw11.ProposerEnds", spec := "proposerEnds", named := ["carillon/codec.sizes"], apart := false, laid := [("carillon/codec.sizes", laid_carillon_codec_sizes)], narrowed := true }
def ProposerEndsUptoSaid : Prop := proposerEndsUptoRow.holds Tryd.pinned (OpenSpec.upto proposerEndsSpec)

end Rows
end Go.Proofs.YtnmcknfkmelnbaaDoor
