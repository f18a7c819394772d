/-
  NARROWER THAN 'FOR EVERY INPUT', by the rows' own cells (each row's printed sentence says how): FlushLogs: laid · FlushBack: laid · FlushHolds: laid · FlushTies: laid · FlushOwns: laid.
  DERIVED. THE GIVEN ROWS OF THIS SEAT. 5 by the template 'for every input the law returns true; each argument reads behind the call as it read before'; 0 by the template 'total and deterministic' (their statements: YtokebimfflobbaaDoorTotals.lean).
  GIVEN WITH THE SEED: the statements are not yours to turn. If you find one false, say at which input.
  Laid BY PROGRAM, IN A SANDBOX (cutbox-rows.mjs): the forced cells as the released guide's own fill.sh prints them over the translation 7f7d01bec857f6b1… (all of the seat's roots in one cut). By AI agents, Wed Nov 11 2026. No macro, syntax, notation, axiom, sorry.
-/
import Derived.Test.YtokebimfflobbaaDoorChecked
import GoSem.Claim
import GoSem.ClaimJoined
import GoSem.ClaimMapViews
import Derived.JoinedTies
import Derived.KernelRfl
namespace Go.Proofs.YtokebimfflobbaaDoor
/- THE CELL 'sum', in the pinned program and in every row, IS THE sha256 OF THE DUMP (.gsa) THAT YtokebimfflobbaaDoorProg.lean LOADS. Nothing in Lean hashes anything: it is a label: what it is worth is what the hold of that sum in a sandbox is worth. -/
noncomputable def Tryd.pinned : Pinned := { name := "ytokebimfflobbaadoor", sum := "7f7d01bec857f6b15a840b2789eb2e4891f830ac566349e90a641141e77b5325", checked := Tryd.checked }
namespace Rows
def none {H : Type} : Left H := { results := [], args := [] }

/- WHAT THE LISTED PACKAGE-LEVEL VARIABLES READ AS WHEN THE CALL BEGINS. Each datum BY PROGRAM (the guide's laid-datum.mjs) off the statement by which the dump's own 'gosem.cut.vars' lays the variable. In a bare row this is a premise. The card (YtokebimfflobbaaDoorCards.lean) ties it to the program's text. -/
def laid_carillon_codec_sizes {H : Type} : DataW H := .agg [.lit (.int .i64 0), .lit (.int .i64 1), .lit (.int .i64 4), .lit (.int .i64 8), .lit (.int .i64 0)]

/-- 'carillonlaw19.FlushLogs': WHATEVER THE INPUT: true; the input reads as it did. -/
def flushLogsSpec : ChangeSpec := { name := "flushLogs", fn := fun _ => fun
  | [d1, d2, d3] => { results := [.lit (.bool true)], args := [d1, d2, d3] }
  | _ => none }
def flushLogsRow : OpenClaim := { program := "ytokebimfflobbaadoor", sum := "7f7d01bec857f6b15a840b2789eb2e4891f830ac566349e90a641141e77b5325", func := "carillon/carillonlaw19.FlushLogs", spec := "flushLogs", inPlace := ["internal/bytealg.IndexByteString", "internal/bytealg.IndexString"], unfollowed := true, recurses := true, named := ["carillon/codec.sizes", "internal/bytealg.MaxLen"], apart := false, laid := [("carillon/codec.sizes", laid_carillon_codec_sizes)] }
def FlushLogsSaid : Prop := flushLogsRow.holds Tryd.pinned (OpenSpec.ofChange flushLogsSpec)

/-- ITS FALSE NEIGHBOUR: 'it returns false'. Refute it at one input. -/
def flushLogsWrong : ChangeSpec := { name := "flushLogs", fn := fun _ => fun
  | [d1, d2, d3] => { results := [.lit (.bool false)], args := [d1, d2, d3] }
  | _ => none }
def FlushLogsWrongFalsely : Prop := flushLogsRow.holds Tryd.pinned (OpenSpec.ofChange flushLogsWrong)

/-- 'carillonlaw19.FlushBack': WHATEVER THE INPUT: true; the input reads as it did. -/
def flushBackSpec : ChangeSpec := { name := "flushBack", fn := fun _ => fun
  | [d1, d2, d3] => { results := [.lit (.bool true)], args := [d1, d2, d3] }
  | _ => none }
def flushBackRow : OpenClaim := { program := "ytokebimfflobbaadoor", sum := "7f7d01bec857f6b15a840b2789eb2e4891f830ac566349e90a641141e77b5325", func := "carillon/carillonlaw19.FlushBack", spec := "flushBack", inPlace := ["internal/bytealg.IndexByteString", "internal/bytealg.IndexString"], unfollowed := true, recurses := true, named := ["carillon/codec.sizes", "internal/bytealg.MaxLen"], apart := false, laid := [("carillon/codec.sizes", laid_carillon_codec_sizes)] }
def FlushBackSaid : Prop := flushBackRow.holds Tryd.pinned (OpenSpec.ofChange flushBackSpec)

/-- ITS FALSE NEIGHBOUR: 'it returns false'. Refute it at one input. -/
def flushBackWrong : ChangeSpec := { name := "flushBack", fn := fun _ => fun
  | [d1, d2, d3] => { results := [.lit (.bool false)], args := [d1, d2, d3] }
  | _ => none }
def FlushBackWrongFalsely : Prop := flushBackRow.holds Tryd.pinned (OpenSpec.ofChange flushBackWrong)

/-- 'carillonlaw19.FlushHolds': WHATEVER THE INPUT: true; the input reads as it did. -/
def flushHoldsSpec : ChangeSpec := { name := "flushHolds", fn := fun _ => fun
  | [d1, d2] => { results := [.lit (.bool true)], args := [d1, d2] }
  | _ => none }
def flushHoldsRow : OpenClaim := { program := "ytokebimfflobbaadoor", sum := "7f7d01bec857f6b15a840b2789eb2e4891f830ac566349e90a641141e77b5325", func := "carillon/carillonlaw19.FlushHolds", spec := "flushHolds", inPlace := ["internal/bytealg.IndexByteString", "internal/bytealg.IndexString"], unfollowed := true, recurses := true, named := ["carillon/codec.sizes", "internal/bytealg.MaxLen"], apart := false, laid := [("carillon/codec.sizes", laid_carillon_codec_sizes)] }
def FlushHoldsSaid : Prop := flushHoldsRow.holds Tryd.pinned (OpenSpec.ofChange flushHoldsSpec)

/-- ITS FALSE NEIGHBOUR: 'it returns false'. Refute it at one input. -/
def flushHoldsWrong : ChangeSpec := { name := "flushHolds", fn := fun _ => fun
  | [d1, d2] => { results := [.lit (.bool false)], args := [d1, d2] }
  | _ => none }
def FlushHoldsWrongFalsely : Prop := flushHoldsRow.holds Tryd.pinned (OpenSpec.ofChange flushHoldsWrong)

/-- 'carillonlaw19.FlushTies': WHATEVER THE INPUT: true; the input reads as it did. -/
def flushTiesSpec : ChangeSpec := { name := "flushTies", fn := fun _ => fun
  | [d1, d2] => { results := [.lit (.bool true)], args := [d1, d2] }
  | _ => none }
def flushTiesRow : OpenClaim := { program := "ytokebimfflobbaadoor", sum := "7f7d01bec857f6b15a840b2789eb2e4891f830ac566349e90a641141e77b5325", func := "carillon/carillonlaw19.FlushTies", spec := "flushTies", inPlace := ["internal/bytealg.IndexByteString", "internal/bytealg.IndexString"], unfollowed := true, recurses := true, named := ["carillon/codec.sizes", "internal/bytealg.MaxLen"], apart := false, laid := [("carillon/codec.sizes", laid_carillon_codec_sizes)] }
def FlushTiesSaid : Prop := flushTiesRow.holds Tryd.pinned (OpenSpec.ofChange flushTiesSpec)

/-- ITS FALSE NEIGHBOUR: 'it returns false'. Refute it at one input. -/
def flushTiesWrong : ChangeSpec := { name := "flushTies", fn := fun _ => fun
  | [d1, d2] => { results := [.lit (.bool false)], args := [d1, d2] }
  | _ => none }
def FlushTiesWrongFalsely : Prop := flushTiesRow.holds Tryd.pinned (OpenSpec.ofChange flushTiesWrong)

/-- 'carillonlaw19.FlushOwns': WHATEVER THE INPUT: true; the input reads as it did. -/
def flushOwnsSpec : ChangeSpec := { name := "flushOwns", fn := fun _ => fun
  | [d1, d2] => { results := [.lit (.bool true)], args := [d1, d2] }
  | _ => none }
def flushOwnsRow : OpenClaim := { program := "ytokebimfflobbaadoor", sum := "7f7d01bec857f6b15a840b2789eb2e4891f830ac566349e90a641141e77b5325", func := "carillon/carillonlaw19.FlushOwns", spec := "flushOwns", inPlace := ["internal/bytealg.IndexByteString", "internal/bytealg.IndexString"], unfollowed := true, recurses := true, named := ["carillon/codec.sizes", "internal/bytealg.MaxLen"], apart := false, laid := [("carillon/codec.sizes", laid_carillon_codec_sizes)] }
def FlushOwnsSaid : Prop := flushOwnsRow.holds Tryd.pinned (OpenSpec.ofChange flushOwnsSpec)

/-- ITS FALSE NEIGHBOUR: 'it returns false'. Refute it at one input. -/
def flushOwnsWrong : ChangeSpec := { name := "flushOwns", fn := fun _ => fun
  | [d1, d2] => { results := [.lit (.bool false)], args := [d1, d2] }
  | _ => none }
def FlushOwnsWrongFalsely : Prop := flushOwnsRow.holds Tryd.pinned (OpenSpec.ofChange flushOwnsWrong)

/- THE SECOND FORM. 'bulk': how many values and letters a reading holds, each counted each time it is reached (what is shared counts as often as it is met; a slice's spare places count too). A statement '..UptoSaid' is the law's where the arguments, and the package variables that the reading takes, are together of bulk at most 1048576: NARROWER than '..Said'. Prove '..Said' where nothing that the law and all that it calls make is longer than what came in: it says more and counts as full. Else prove '..UptoSaid'. A law counts once. -/
mutual
def uptoBulk {H : Type} : DataW H → Nat
  | .lit (.string bytes) => bytes.length + 1
  | .lit _ => 1
  | .nil => 1
  | .ptr d => uptoBulk d + 1
  | .slice elems spare => uptoBulkAll elems + uptoBulkAll spare + 1
  | .agg parts => uptoBulkAll parts + 1
  | .iface _ d => uptoBulk d + 1
  | .map entries => uptoBulkEntries entries + 1
  | .held _ => 1
def uptoBulkAll {H : Type} : List (DataW H) → Nat
  | [] => 0
  | d :: r => uptoBulk d + uptoBulkAll r
def uptoBulkEntries {H : Type} : List (Lit × DataW H) → Nat
  | [] => 0
  | x :: r => uptoBulkEntry x + uptoBulkEntries r
def uptoBulkEntry {H : Type} : Lit × DataW H → Nat
  | (.string bytes, d) => bytes.length + uptoBulk d + 1
  | (_, d) => uptoBulk d + 1
 end
def uptoSmall : (H : Type) → List (DataW H) → Bool := fun _ ds => decide (uptoBulkAll ds ≤ 1048576)
def OpenSpec.upto (s : _root_.Go.ChangeSpec) : _root_.Go.OpenSpec := { _root_.Go.OpenSpec.ofChange s with cond := some uptoSmall }

/-- 'carillonlaw19.FlushLogs', WHERE WHAT IT READS IS OF BULK AT MOST 1048576: true; the input reads as it did. -/
def flushLogsUptoRow : OpenClaim := { program := "ytokebimfflobbaadoor", sum := "7f7d01bec857f6b15a840b2789eb2e4891f830ac566349e90a641141e77b5325", func := "carillon/carillonlaw19.FlushLogs", spec := "flushLogs", inPlace := ["internal/bytealg.IndexByteString", "internal/bytealg.IndexString"], unfollowed := true, recurses := true, named := ["carillon/codec.sizes", "internal/bytealg.MaxLen"], apart := false, laid := [("carillon/codec.sizes", laid_carillon_codec_sizes)], narrowed := true }
def FlushLogsUptoSaid : Prop := flushLogsUptoRow.holds Tryd.pinned (OpenSpec.upto flushLogsSpec)

/-- 'carillonlaw19.FlushBack', WHERE WHAT IT READS IS OF BULK AT MOST 1048576: true; the input reads as it did. -/
def flushBackUptoRow : OpenClaim := { program := "ytokebimfflobbaadoor", sum := "7f7d01bec857f6b15a840b2789eb2e4891f830ac566349e90a641141e77b5325", func := "carillon/carillonlaw19.FlushBack", spec := "flushBack", inPlace := ["internal/bytealg.IndexByteString", "internal/bytealg.IndexString"], unfollowed := true, recurses := true, named := ["carillon/codec.sizes", "internal/bytealg.MaxLen"], apart := false, laid := [("carillon/codec.sizes", laid_carillon_codec_sizes)], narrowed := true }
def FlushBackUptoSaid : Prop := flushBackUptoRow.holds Tryd.pinned (OpenSpec.upto flushBackSpec)

/-- 'carillonlaw19.FlushHolds', WHERE WHAT IT READS IS OF BULK AT MOST 1048576: true; the input reads as it did. -/
def flushHoldsUptoRow : OpenClaim := { program := "ytokebimfflobbaadoor", sum := "7f7d01bec857f6b15a840b2789eb2e4891f830ac566349e90a641141e77b5325", func := "carillon/carillonlaw19.FlushHolds", spec := "flushHolds", inPlace := ["internal/bytealg.IndexByteString", "internal/bytealg.IndexString"], unfollowed := true, recurses := true, named := ["carillon/codec.sizes", "internal/bytealg.MaxLen"], apart := false, laid := [("carillon/codec.sizes", laid_carillon_codec_sizes)], narrowed := true }
def FlushHoldsUptoSaid : Prop := flushHoldsUptoRow.holds Tryd.pinned (OpenSpec.upto flushHoldsSpec)

/-- 'carillonlaw19.FlushTies', WHERE WHAT IT READS IS OF BULK AT MOST 1048576: true; the input reads as it did. -/
def flushTiesUptoRow : OpenClaim := { program := "ytokebimfflobbaadoor", sum := "7f7d01bec857f6b15a840b2789eb2e4891f830ac566349e90a641141e77b5325", func := "carillon/carillonlaw19.FlushTies", spec := "flushTies", inPlace := ["internal/bytealg.IndexByteString", "internal/bytealg.IndexString"], unfollowed := true, recurses := true, named := ["carillon/codec.sizes", "internal/bytealg.MaxLen"], apart := false, laid := [("carillon/codec.sizes", laid_carillon_codec_sizes)], narrowed := true }
def FlushTiesUptoSaid : Prop := flushTiesUptoRow.holds Tryd.pinned (OpenSpec.upto flushTiesSpec)

/-- 'carillonlaw19.FlushOwns', WHERE WHAT IT READS IS OF BULK AT MOST 1048576: true; the input reads as it did. -/
def flushOwnsUptoRow : OpenClaim := { program := "ytokebimfflobbaadoor", sum := "7f7d01bec857f6b15a840b2789eb2e4891f830ac566349e90a641141e77b5325", func := "carillon/carillonlaw19.FlushOwns", spec := "flushOwns", inPlace := ["internal/bytealg.IndexByteString", "internal/bytealg.IndexString"], unfollowed := true, recurses := true, named := ["carillon/codec.sizes", "internal/bytealg.MaxLen"], apart := false, laid := [("carillon/codec.sizes", laid_carillon_codec_sizes)], narrowed := true }
def FlushOwnsUptoSaid : Prop := flushOwnsUptoRow.holds Tryd.pinned (OpenSpec.upto flushOwnsSpec)

end Rows
end Go.Proofs.YtokebimfflobbaaDoor
