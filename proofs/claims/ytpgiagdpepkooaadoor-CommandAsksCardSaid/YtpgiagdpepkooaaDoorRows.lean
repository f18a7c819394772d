/-
  NARROWER THAN 'FOR EVERY INPUT', by the rows' own cells (each row's printed sentence says how): CommandBytes: laid · CommandAsks: laid · CommandAnswers: laid · CommandBack: laid · CommandReply: laid · CommandTorn: laid · CommandWords: laid · CommandKinds: laid.
  DERIVED. THE GIVEN ROWS OF THIS SEAT. 8 by the template 'for every input the law returns true; each argument reads behind the call as it read before'; 0 by the template 'total and deterministic' (their statements: YtpgiagdpepkooaaDoorTotals.lean).
  GIVEN WITH THE SEED: the statements are not yours to turn. If you find one false, say at which input.
  Laid BY PROGRAM, IN A SANDBOX (cutbox-rows.mjs): the forced cells as the released guide's own fill.sh prints them over the translation f57f963623d74c6c… (all of the seat's roots in one cut). By AI agents, Wed Nov 11 2026. No macro, syntax, notation, axiom, sorry.
-/
import Derived.Test.YtpgiagdpepkooaaDoorChecked
import GoSem.Claim
import GoSem.ClaimJoined
import GoSem.ClaimMapViews
import Derived.JoinedTies
import Derived.KernelRfl
namespace Go.Proofs.YtpgiagdpepkooaaDoor
/- THE CELL 'sum', in the pinned program and in every row, IS THE sha256 OF THE DUMP (.gsa) THAT YtpgiagdpepkooaaDoorProg.lean LOADS. Nothing in Lean hashes anything: it is a label: what it is worth is what the hold of that sum in a sandbox is worth. -/
noncomputable def Tryd.pinned : Pinned := { name := "ytpgiagdpepkooaadoor", sum := "f57f963623d74c6c07d2da0759f0c666223cba5f64a5cfb73223c70299767c3d", checked := Tryd.checked }
namespace Rows
def none {H : Type} : Left H := { results := [], args := [] }

/- WHAT THE LISTED PACKAGE-LEVEL VARIABLES READ AS WHEN THE CALL BEGINS. Each datum BY PROGRAM (the guide's laid-datum.mjs) off the statement by which the dump's own 'gosem.cut.vars' lays the variable. In a bare row this is a premise. The card (YtpgiagdpepkooaaDoorCards.lean) ties it to the program's text. -/
def laid_carillon_crc_table {H : Type} : DataW H := .agg [.lit (.int .u32 0), .lit (.int .u32 274646895), .lit (.int .u32 549293790), .lit (.int .u32 820201905), .lit (.int .u32 1098587580), .lit (.int .u32 1361435347), .lit (.int .u32 1640403810), .lit (.int .u32 1905808397), .lit (.int .u32 2197175160), .lit (.int .u32 2460548119), .lit (.int .u32 2722870694), .lit (.int .u32 2987750089), .lit (.int .u32 3280807620), .lit (.int .u32 3553878443), .lit (.int .u32 3811616794), .lit (.int .u32 4084100981)]
def laid_carillon_codec_sizes {H : Type} : DataW H := .agg [.lit (.int .i64 0), .lit (.int .i64 1), .lit (.int .i64 4), .lit (.int .i64 8), .lit (.int .i64 0)]

/-- 'carillonlaw14.CommandBytes': WHATEVER THE INPUT: true; the input reads as it did. -/
def commandBytesSpec : ChangeSpec := { name := "commandBytes", fn := fun _ => fun
  | [d1, d2] => { results := [.lit (.bool true)], args := [d1, d2] }
  | _ => none }
def commandBytesRow : OpenClaim := { program := "ytpgiagdpepkooaadoor", sum := "f57f963623d74c6c07d2da0759f0c666223cba5f64a5cfb73223c70299767c3d", func := "carillon/carillonlaw14.CommandBytes", spec := "commandBytes", inPlace := ["internal/bytealg.IndexByteString", "internal/bytealg.IndexString"], unfollowed := true, recurses := true, named := ["carillon/codec.sizes", "internal/bytealg.MaxLen", "carillon/crc.table"], apart := false, laid := [("carillon/crc.table", laid_carillon_crc_table), ("carillon/codec.sizes", laid_carillon_codec_sizes)] }
def CommandBytesSaid : Prop := commandBytesRow.holds Tryd.pinned (OpenSpec.ofChange commandBytesSpec)

/-- ITS FALSE NEIGHBOUR: 'it returns false'. Refute it at one input. -/
def commandBytesWrong : ChangeSpec := { name := "commandBytes", fn := fun _ => fun
  | [d1, d2] => { results := [.lit (.bool false)], args := [d1, d2] }
  | _ => none }
def CommandBytesWrongFalsely : Prop := commandBytesRow.holds Tryd.pinned (OpenSpec.ofChange commandBytesWrong)

/-- 'carillonlaw14.CommandAsks': WHATEVER THE INPUT: true; the input reads as it did. -/
def commandAsksSpec : ChangeSpec := { name := "commandAsks", fn := fun _ => fun
  | [d1, d2] => { results := [.lit (.bool true)], args := [d1, d2] }
  | _ => none }
def commandAsksRow : OpenClaim := { program := "ytpgiagdpepkooaadoor", sum := "f57f963623d74c6c07d2da0759f0c666223cba5f64a5cfb73223c70299767c3d", func := "carillon/carillonlaw14.CommandAsks", spec := "commandAsks", inPlace := ["internal/bytealg.IndexByteString", "internal/bytealg.IndexString"], unfollowed := true, recurses := true, named := ["carillon/codec.sizes", "internal/bytealg.MaxLen", "carillon/crc.table"], apart := false, laid := [("carillon/crc.table", laid_carillon_crc_table), ("carillon/codec.sizes", laid_carillon_codec_sizes)] }
def CommandAsksSaid : Prop := commandAsksRow.holds Tryd.pinned (OpenSpec.ofChange commandAsksSpec)

/-- ITS FALSE NEIGHBOUR: 'it returns false'. Refute it at one input. -/
def commandAsksWrong : ChangeSpec := { name := "commandAsks", fn := fun _ => fun
  | [d1, d2] => { results := [.lit (.bool false)], args := [d1, d2] }
  | _ => none }
def CommandAsksWrongFalsely : Prop := commandAsksRow.holds Tryd.pinned (OpenSpec.ofChange commandAsksWrong)

/-- 'carillonlaw14.CommandAnswers': WHATEVER THE INPUT: true; the input reads as it did. -/
def commandAnswersSpec : ChangeSpec := { name := "commandAnswers", fn := fun _ => fun
  | [d1, d2, d3] => { results := [.lit (.bool true)], args := [d1, d2, d3] }
  | _ => none }
def commandAnswersRow : OpenClaim := { program := "ytpgiagdpepkooaadoor", sum := "f57f963623d74c6c07d2da0759f0c666223cba5f64a5cfb73223c70299767c3d", func := "carillon/carillonlaw14.CommandAnswers", spec := "commandAnswers", inPlace := ["internal/bytealg.IndexByteString", "internal/bytealg.IndexString"], unfollowed := true, recurses := true, named := ["carillon/codec.sizes", "internal/bytealg.MaxLen", "carillon/crc.table"], apart := false, laid := [("carillon/crc.table", laid_carillon_crc_table), ("carillon/codec.sizes", laid_carillon_codec_sizes)] }
def CommandAnswersSaid : Prop := commandAnswersRow.holds Tryd.pinned (OpenSpec.ofChange commandAnswersSpec)

/-- ITS FALSE NEIGHBOUR: 'it returns false'. Refute it at one input. -/
def commandAnswersWrong : ChangeSpec := { name := "commandAnswers", fn := fun _ => fun
  | [d1, d2, d3] => { results := [.lit (.bool false)], args := [d1, d2, d3] }
  | _ => none }
def CommandAnswersWrongFalsely : Prop := commandAnswersRow.holds Tryd.pinned (OpenSpec.ofChange commandAnswersWrong)

/-- 'carillonlaw14.CommandBack': WHATEVER THE INPUT: true; the input reads as it did. -/
def commandBackSpec : ChangeSpec := { name := "commandBack", fn := fun _ => fun
  | [d1, d2] => { results := [.lit (.bool true)], args := [d1, d2] }
  | _ => none }
def commandBackRow : OpenClaim := { program := "ytpgiagdpepkooaadoor", sum := "f57f963623d74c6c07d2da0759f0c666223cba5f64a5cfb73223c70299767c3d", func := "carillon/carillonlaw14.CommandBack", spec := "commandBack", inPlace := ["internal/bytealg.IndexByteString", "internal/bytealg.IndexString"], unfollowed := true, recurses := true, named := ["carillon/codec.sizes", "internal/bytealg.MaxLen", "carillon/crc.table"], apart := false, laid := [("carillon/crc.table", laid_carillon_crc_table), ("carillon/codec.sizes", laid_carillon_codec_sizes)] }
def CommandBackSaid : Prop := commandBackRow.holds Tryd.pinned (OpenSpec.ofChange commandBackSpec)

/-- ITS FALSE NEIGHBOUR: 'it returns false'. Refute it at one input. -/
def commandBackWrong : ChangeSpec := { name := "commandBack", fn := fun _ => fun
  | [d1, d2] => { results := [.lit (.bool false)], args := [d1, d2] }
  | _ => none }
def CommandBackWrongFalsely : Prop := commandBackRow.holds Tryd.pinned (OpenSpec.ofChange commandBackWrong)

/-- 'carillonlaw14.CommandReply': WHATEVER THE INPUT: true; the input reads as it did. -/
def commandReplySpec : ChangeSpec := { name := "commandReply", fn := fun _ => fun
  | [d1, d2, d3] => { results := [.lit (.bool true)], args := [d1, d2, d3] }
  | _ => none }
def commandReplyRow : OpenClaim := { program := "ytpgiagdpepkooaadoor", sum := "f57f963623d74c6c07d2da0759f0c666223cba5f64a5cfb73223c70299767c3d", func := "carillon/carillonlaw14.CommandReply", spec := "commandReply", inPlace := ["internal/bytealg.IndexByteString", "internal/bytealg.IndexString"], unfollowed := true, recurses := true, named := ["carillon/codec.sizes", "internal/bytealg.MaxLen", "carillon/crc.table"], apart := false, laid := [("carillon/crc.table", laid_carillon_crc_table), ("carillon/codec.sizes", laid_carillon_codec_sizes)] }
def CommandReplySaid : Prop := commandReplyRow.holds Tryd.pinned (OpenSpec.ofChange commandReplySpec)

/-- ITS FALSE NEIGHBOUR: 'it returns false'. Refute it at one input. -/
def commandReplyWrong : ChangeSpec := { name := "commandReply", fn := fun _ => fun
  | [d1, d2, d3] => { results := [.lit (.bool false)], args := [d1, d2, d3] }
  | _ => none }
def CommandReplyWrongFalsely : Prop := commandReplyRow.holds Tryd.pinned (OpenSpec.ofChange commandReplyWrong)

/-- 'carillonlaw14.CommandTorn': WHATEVER THE INPUT: true; the input reads as it did. -/
def commandTornSpec : ChangeSpec := { name := "commandTorn", fn := fun _ => fun
  | [d1, d2, d3] => { results := [.lit (.bool true)], args := [d1, d2, d3] }
  | _ => none }
def commandTornRow : OpenClaim := { program := "ytpgiagdpepkooaadoor", sum := "f57f963623d74c6c07d2da0759f0c666223cba5f64a5cfb73223c70299767c3d", func := "carillon/carillonlaw14.CommandTorn", spec := "commandTorn", inPlace := ["internal/bytealg.IndexByteString", "internal/bytealg.IndexString"], unfollowed := true, recurses := true, named := ["carillon/codec.sizes", "internal/bytealg.MaxLen", "carillon/crc.table"], apart := false, laid := [("carillon/crc.table", laid_carillon_crc_table), ("carillon/codec.sizes", laid_carillon_codec_sizes)] }
def CommandTornSaid : Prop := commandTornRow.holds Tryd.pinned (OpenSpec.ofChange commandTornSpec)

/-- ITS FALSE NEIGHBOUR: 'it returns false'. Refute it at one input. -/
def commandTornWrong : ChangeSpec := { name := "commandTorn", fn := fun _ => fun
  | [d1, d2, d3] => { results := [.lit (.bool false)], args := [d1, d2, d3] }
  | _ => none }
def CommandTornWrongFalsely : Prop := commandTornRow.holds Tryd.pinned (OpenSpec.ofChange commandTornWrong)

/-- 'carillonlaw14.CommandWords': WHATEVER THE INPUT: true; the input reads as it did. -/
def commandWordsSpec : ChangeSpec := { name := "commandWords", fn := fun _ => fun
  | [d1, d2] => { results := [.lit (.bool true)], args := [d1, d2] }
  | _ => none }
def commandWordsRow : OpenClaim := { program := "ytpgiagdpepkooaadoor", sum := "f57f963623d74c6c07d2da0759f0c666223cba5f64a5cfb73223c70299767c3d", func := "carillon/carillonlaw14.CommandWords", spec := "commandWords", inPlace := ["internal/bytealg.IndexByteString", "internal/bytealg.IndexString"], unfollowed := true, recurses := true, named := ["carillon/codec.sizes", "internal/bytealg.MaxLen", "carillon/crc.table"], apart := false, laid := [("carillon/crc.table", laid_carillon_crc_table), ("carillon/codec.sizes", laid_carillon_codec_sizes)] }
def CommandWordsSaid : Prop := commandWordsRow.holds Tryd.pinned (OpenSpec.ofChange commandWordsSpec)

/-- ITS FALSE NEIGHBOUR: 'it returns false'. Refute it at one input. -/
def commandWordsWrong : ChangeSpec := { name := "commandWords", fn := fun _ => fun
  | [d1, d2] => { results := [.lit (.bool false)], args := [d1, d2] }
  | _ => none }
def CommandWordsWrongFalsely : Prop := commandWordsRow.holds Tryd.pinned (OpenSpec.ofChange commandWordsWrong)

/-- 'carillonlaw14.CommandKinds': WHATEVER THE INPUT: true; the input reads as it did. -/
def commandKindsSpec : ChangeSpec := { name := "commandKinds", fn := fun _ => fun
  | [d1, d2] => { results := [.lit (.bool true)], args := [d1, d2] }
  | _ => none }
def commandKindsRow : OpenClaim := { program := "ytpgiagdpepkooaadoor", sum := "f57f963623d74c6c07d2da0759f0c666223cba5f64a5cfb73223c70299767c3d", func := "carillon/carillonlaw14.CommandKinds", spec := "commandKinds", inPlace := ["internal/bytealg.IndexByteString", "internal/bytealg.IndexString"], unfollowed := true, recurses := true, named := ["carillon/codec.sizes", "internal/bytealg.MaxLen", "carillon/crc.table"], apart := false, laid := [("carillon/crc.table", laid_carillon_crc_table), ("carillon/codec.sizes", laid_carillon_codec_sizes)] }
def CommandKindsSaid : Prop := commandKindsRow.holds Tryd.pinned (OpenSpec.ofChange commandKindsSpec)

/-- ITS FALSE NEIGHBOUR: 'it returns false'. Refute it at one input. -/
def commandKindsWrong : ChangeSpec := { name := "commandKinds", fn := fun _ => fun
  | [d1, d2] => { results := [.lit (.bool false)], args := [d1, d2] }
  | _ => none }
def CommandKindsWrongFalsely : Prop := commandKindsRow.holds Tryd.pinned (OpenSpec.ofChange commandKindsWrong)

/- THE SECOND FORM. 'bulk': how many values and letters a reading holds, each counted each time it is reached (what is shared counts as often as it is met; a slice's spare places count too). A statement '..UptoSaid' is the law's where the arguments, and the package variables that the reading takes, are together of bulk at most 1048576: NARROWER than '..Said'. Prove '..Said' where nothing that the law and all that it calls make is longer than what came in: it says more and counts as full. Else prove '..UptoSaid'. A law counts once. -/
mutual
def uptoBulk {H : Type} : DataW H → Nat
  | .lit (.string bytes) => bytes.length + 1
  | .lit _ => 1
  | .nil => 1
  | .ptr d => uptoBulk d + 1
  | .slice elems spare => uptoBulkAll elems + uptoBulkAll spare + 1
  | .agg parts => uptoBulkAll parts + 1
  | .iface _ d => uptoBulk d + 1
  | .map entries => uptoBulkEntries entries + 1
  | .held _ => 1
def uptoBulkAll {H : Type} : List (DataW H) → Nat
  | [] => 0
  | d :: r => uptoBulk d + uptoBulkAll r
def uptoBulkEntries {H : Type} : List (Lit × DataW H) → Nat
  | [] => 0
  | x :: r => uptoBulkEntry x + uptoBulkEntries r
def uptoBulkEntry {H : Type} : Lit × DataW H → Nat
  | (.string bytes, d) => bytes.length + uptoBulk d + 1
  | (_, d) => uptoBulk d + 1
 end
def uptoSmall : (H : Type) → List (DataW H) → Bool := fun _ ds => decide (uptoBulkAll ds ≤ 1048576)
def OpenSpec.upto (s : _root_.Go.ChangeSpec) : _root_.Go.OpenSpec := { _root_.Go.OpenSpec.ofChange s with cond := some uptoSmall }

/-- 'carillonlaw14.CommandBytes', WHERE WHAT IT READS IS OF BULK AT MOST 1048576: true; the input reads as it did. -/
def commandBytesUptoRow : OpenClaim := { program := "ytpgiagdpepkooaadoor", sum := "f57f963623d74c6c07d2da0759f0c666223cba5f64a5cfb73223c70299767c3d", func := "carillon/carillonlaw14.CommandBytes", spec := "commandBytes", inPlace := ["internal/bytealg.IndexByteString", "internal/bytealg.IndexString"], unfollowed := true, recurses := true, named := ["carillon/codec.sizes", "internal/bytealg.MaxLen", "carillon/crc.table"], apart := false, laid := [("carillon/crc.table", laid_carillon_crc_table), ("carillon/codec.sizes", laid_carillon_codec_sizes)], narrowed := true }
def CommandBytesUptoSaid : Prop := commandBytesUptoRow.holds Tryd.pinned (OpenSpec.upto commandBytesSpec)

/-- 'carillonlaw14.CommandAsks', WHERE WHAT IT READS IS OF BULK AT MOST 1048576: true; the input reads as it did. -/
def commandAsksUptoRow : OpenClaim := { program := "ytpgiagdpepkooaadoor", sum := "f57f963623d74c6c07d2da0759f0c666223cba5f64a5cfb73223c70299767c3d", func := "carillon/carillonlaw14.CommandAsks", spec := "commandAsks", inPlace := ["internal/bytealg.IndexByteString", "internal/bytealg.IndexString"], unfollowed := true, recurses := true, named := ["carillon/codec.sizes", "internal/bytealg.MaxLen", "carillon/crc.table"], apart := false, laid := [("carillon/crc.table", laid_carillon_crc_table), ("carillon/codec.sizes", laid_carillon_codec_sizes)], narrowed := true }
def CommandAsksUptoSaid : Prop := commandAsksUptoRow.holds Tryd.pinned (OpenSpec.upto commandAsksSpec)

/-- 'carillonlaw14.CommandAnswers', WHERE WHAT IT READS IS OF BULK AT MOST 1048576: true; the input reads as it did. -/
def commandAnswersUptoRow : OpenClaim := { program := "ytpgiagdpepkooaadoor", sum := "f57f963623d74c6c07d2da0759f0c666223cba5f64a5cfb73223c70299767c3d", func := "carillon/carillonlaw14.CommandAnswers", spec := "commandAnswers", inPlace := ["internal/bytealg.IndexByteString", "internal/bytealg.IndexString"], unfollowed := true, recurses := true, named := ["carillon/codec.sizes", "internal/bytealg.MaxLen", "carillon/crc.table"], apart := false, laid := [("carillon/crc.table", laid_carillon_crc_table), ("carillon/codec.sizes", laid_carillon_codec_sizes)], narrowed := true }
def CommandAnswersUptoSaid : Prop := commandAnswersUptoRow.holds Tryd.pinned (OpenSpec.upto commandAnswersSpec)

/-- 'carillonlaw14.CommandBack', WHERE WHAT IT READS IS OF BULK AT MOST 1048576: true; the input reads as it did. -/
def commandBackUptoRow : OpenClaim := { program := "ytpgiagdpepkooaadoor", sum := "f57f963623d74c6c07d2da0759f0c666223cba5f64a5cfb73223c70299767c3d", func := "carillon/carillonlaw14.CommandBack", spec := "commandBack", inPlace := ["internal/bytealg.IndexByteString", "internal/bytealg.IndexString"], unfollowed := true, recurses := true, named := ["carillon/codec.sizes", "internal/bytealg.MaxLen", "carillon/crc.table"], apart := false, laid := [("carillon/crc.table", laid_carillon_crc_table), ("carillon/codec.sizes", laid_carillon_codec_sizes)], narrowed := true }
def CommandBackUptoSaid : Prop := commandBackUptoRow.holds Tryd.pinned (OpenSpec.upto commandBackSpec)

/-- 'carillonlaw14.CommandReply', WHERE WHAT IT READS IS OF BULK AT MOST 1048576: true; the input reads as it did. -/
def commandReplyUptoRow : OpenClaim := { program := "ytpgiagdpepkooaadoor", sum := "f57f963623d74c6c07d2da0759f0c666223cba5f64a5cfb73223c70299767c3d", func := "carillon/carillonlaw14.CommandReply", spec := "commandReply", inPlace := ["internal/bytealg.IndexByteString", "internal/bytealg.IndexString"], unfollowed := true, recurses := true, named := ["carillon/codec.sizes", "internal/bytealg.MaxLen", "carillon/crc.table"], apart := false, laid := [("carillon/crc.table", laid_carillon_crc_table), ("carillon/codec.sizes", laid_carillon_codec_sizes)], narrowed := true }
def CommandReplyUptoSaid : Prop := commandReplyUptoRow.holds Tryd.pinned (OpenSpec.upto commandReplySpec)

/-- 'carillonlaw14.CommandTorn', WHERE WHAT IT READS IS OF BULK AT MOST 1048576: true; the input reads as it did. -/
def commandTornUptoRow : OpenClaim := { program := "ytpgiagdpepkooaadoor", sum := "f57f963623d74c6c07d2da0759f0c666223cba5f64a5cfb73223c70299767c3d", func := "carillon/carillonlaw14.CommandTorn", spec := "commandTorn", inPlace := ["internal/bytealg.IndexByteString", "internal/bytealg.IndexString"], unfollowed := true, recurses := true, named := ["carillon/codec.sizes", "internal/bytealg.MaxLen", "carillon/crc.table"], apart := false, laid := [("carillon/crc.table", laid_carillon_crc_table), ("carillon/codec.sizes", laid_carillon_codec_sizes)], narrowed := true }
def CommandTornUptoSaid : Prop := commandTornUptoRow.holds Tryd.pinned (OpenSpec.upto commandTornSpec)

/-- 'carillonlaw14.CommandWords', WHERE WHAT IT READS IS OF BULK AT MOST 1048576: true; the input reads as it did. -/
def commandWordsUptoRow : OpenClaim := { program := "ytpgiagdpepkooaadoor", sum := "f57f963623d74c6c07d2da0759f0c666223cba5f64a5cfb73223c70299767c3d", func := "carillon/carillonlaw14.CommandWords", spec := "commandWords", inPlace := ["internal/bytealg.IndexByteString", "internal/bytealg.IndexString"], unfollowed := true, recurses := true, named := ["carillon/codec.sizes", "internal/bytealg.MaxLen", "carillon/crc.table"], apart := false, laid := [("carillon/crc.table", laid_carillon_crc_table), ("carillon/codec.sizes", laid_carillon_codec_sizes)], narrowed := true }
def CommandWordsUptoSaid : Prop := commandWordsUptoRow.holds Tryd.pinned (OpenSpec.upto commandWordsSpec)

/-- 'carillonlaw14.CommandKinds', WHERE WHAT IT READS IS OF BULK AT MOST 1048576: true; the input reads as it did. -/
def commandKindsUptoRow : OpenClaim := { program := "ytpgiagdpepkooaadoor", sum := "f57f963623d74c6c07d2da0759f0c666223cba5f64a5cfb73223c70299767c3d", func := "carillon/carillonlaw14.CommandKinds", spec := "commandKinds", inPlace := ["internal/bytealg.IndexByteString", "internal/bytealg.IndexString"], unfollowed := true, recurses := true, named := ["carillon/codec.sizes", "internal/bytealg.MaxLen", "carillon/crc.table"], apart := false, laid := [("carillon/crc.table", laid_carillon_crc_table), ("carillon/codec.sizes", laid_carillon_codec_sizes)], narrowed := true }
def CommandKindsUptoSaid : Prop := commandKindsUptoRow.holds Tryd.pinned (OpenSpec.upto commandKindsSpec)

end Rows
end Go.Proofs.YtpgiagdpepkooaaDoor
