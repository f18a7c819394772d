/-
  NARROWER THAN 'FOR EVERY INPUT', by the rows' own cells (each row's printed sentence says how): AcceptorBytes: laid · AcceptorKeeps: laid · AcceptorBack: laid.
  DERIVED. THE GIVEN ROWS OF THIS SEAT. 3 by the template 'for every input the law returns true; each argument reads behind the call as it read before'; 0 by the template 'total and deterministic' (their statements: YtocgbfcjmgpleaaDoorTotals.lean).
  GIVEN WITH THE SEED: the statements are not yours to turn. If you find one false, say at which input.
  Laid BY PROGRAM, IN A SANDBOX (cutbox-rows.mjs): the forced cells as the released guide's own fill.sh prints them over the translation 8c2f2dc620ba2b3b… (all of the seat's roots in one cut). By AI agents, Wed Nov 11 2026. No macro, syntax, notation, axiom, sorry.
-/
import Derived.Test.YtocgbfcjmgpleaaDoorChecked
import GoSem.Claim
import GoSem.ClaimJoined
import GoSem.ClaimMapViews
import Derived.JoinedTies
import Derived.KernelRfl
namespace Go.Proofs.YtocgbfcjmgpleaaDoor
/- THE CELL 'sum', in the pinned program and in every row, IS THE sha256 OF THE DUMP (.gsa) THAT YtocgbfcjmgpleaaDoorProg.lean LOADS. Nothing in Lean hashes anything: it is a label: what it is worth is what the hold of that sum in a sandbox is worth. -/
noncomputable def Tryd.pinned : Pinned := { name := "ytocgbfcjmgpleaadoor", sum := "8c2f2dc620ba2b3bba036d2fa3fa79d33349cda1f2a1cd5e2f8e7084bee5eb57", checked := Tryd.checked }
namespace Rows
def none {H : Type} : Left H := { results := [], args := [] }

/- WHAT THE LISTED PACKAGE-LEVEL VARIABLES READ AS WHEN THE CALL BEGINS. Each datum BY PROGRAM (the guide's laid-datum.mjs) off the statement by which the dump's own 'gosem.cut.vars' lays the variable. In a bare row this is a premise. The card (YtocgbfcjmgpleaaDoorCards.lean) ties it to the program's text. -/
def laid_carillon_codec_sizes {H : Type} : DataW H := .agg [.lit (.int .i64 0), .lit (.int .i64 1), .lit (.int .i64 4), .lit (.int .i64 8), .lit (.int .i64 0)]

/-- 'carillonlaw10.AcceptorBytes': WHATEVER THE INPUT: true; the input reads as it did. -/
def acceptorBytesSpec : ChangeSpec := { name := "acceptorBytes", fn := fun _ => fun
  | [d1, d2] => { results := [.lit (.bool true)], args := [d1, d2] }
  | _ => none }
def acceptorBytesRow : OpenClaim := { program := "ytocgbfcjmgpleaadoor", sum := "8c2f2dc620ba2b3bba036d2fa3fa79d33349cda1f2a1cd5e2f8e7084bee5eb57", func := "carillon/carillonlaw10.AcceptorBytes", spec := "acceptorBytes", inPlace := ["internal/bytealg.IndexByteString", "internal/bytealg.IndexString"], named := ["carillon/codec.sizes", "internal/bytealg.MaxLen"], apart := false, laid := [("carillon/codec.sizes", laid_carillon_codec_sizes)] }
def AcceptorBytesSaid : Prop := acceptorBytesRow.holds Tryd.pinned (OpenSpec.ofChange acceptorBytesSpec)

/-- ITS FALSE NEIGHBOUR: 'it returns false'. Refute it at one input. -/
def acceptorBytesWrong : ChangeSpec := { name := "acceptorBytes", fn := fun _ => fun
  | [d1, d2] => { results := [.lit (.bool false)], args := [d1, d2] }
  | _ => none }
def AcceptorBytesWrongFalsely : Prop := acceptorBytesRow.holds Tryd.pinned (OpenSpec.ofChange acceptorBytesWrong)

/-- 'carillonlaw10.AcceptorKeeps': WHATEVER THE INPUT: true; the input reads as it did. -/
def acceptorKeepsSpec : ChangeSpec := { name := "acceptorKeeps", fn := fun _ => fun
  | [d] => { results := [.lit (.bool true)], args := [d] }
  | _ => none }
def acceptorKeepsRow : OpenClaim := { program := "ytocgbfcjmgpleaadoor", sum := "8c2f2dc620ba2b3bba036d2fa3fa79d33349cda1f2a1cd5e2f8e7084bee5eb57", func := "carillon/carillonlaw10.AcceptorKeeps", spec := "acceptorKeeps", inPlace := ["internal/bytealg.IndexByteString", "internal/bytealg.IndexString"], named := ["carillon/codec.sizes", "internal/bytealg.MaxLen"], apart := false, laid := [("carillon/codec.sizes", laid_carillon_codec_sizes)] }
def AcceptorKeepsSaid : Prop := acceptorKeepsRow.holds Tryd.pinned (OpenSpec.ofChange acceptorKeepsSpec)

/-- ITS FALSE NEIGHBOUR: 'it returns false'. Refute it at one input. -/
def acceptorKeepsWrong : ChangeSpec := { name := "acceptorKeeps", fn := fun _ => fun
  | [d] => { results := [.lit (.bool false)], args := [d] }
  | _ => none }
def AcceptorKeepsWrongFalsely : Prop := acceptorKeepsRow.holds Tryd.pinned (OpenSpec.ofChange acceptorKeepsWrong)

/-- 'carillonlaw10.AcceptorBack': WHATEVER THE INPUT: true; the input reads as it did. -/
def acceptorBackSpec : ChangeSpec := { name := "acceptorBack", fn := fun _ => fun
  | [d1, d2] => { results := [.lit (.bool true)], args := [d1, d2] }
  | _ => none }
def acceptorBackRow : OpenClaim := { program := "ytocgbfcjmgpleaadoor", sum := "8c2f2dc620ba2b3bba036d2fa3fa79d33349cda1f2a1cd5e2f8e7084bee5eb57", func := "carillon/carillonlaw10.AcceptorBack", spec := "acceptorBack", inPlace := ["internal/bytealg.IndexByteString", "internal/bytealg.IndexString"], named := ["carillon/codec.sizes", "internal/bytealg.MaxLen"], apart := false, laid := [("carillon/codec.sizes", laid_carillon_codec_sizes)] }
def AcceptorBackSaid : Prop := acceptorBackRow.holds Tryd.pinned (OpenSpec.ofChange acceptorBackSpec)

/-- ITS FALSE NEIGHBOUR: 'it returns false'. Refute it at one input. -/
def acceptorBackWrong : ChangeSpec := { name := "acceptorBack", fn := fun _ => fun
  | [d1, d2] => { results := [.lit (.bool false)], args := [d1, d2] }
  | _ => none }
def AcceptorBackWrongFalsely : Prop := acceptorBackRow.holds Tryd.pinned (OpenSpec.ofChange acceptorBackWrong)

/- THE SECOND FORM. 'bulk': how many values and letters a reading holds, each counted each time it is reached (what is shared counts as often as it is met; a slice's spare places count too). A statement '..UptoSaid' is the law's where the arguments, and the package variables that the reading takes, are together of bulk at most 1048576: NARROWER than '..Said'. Prove '..Said' where nothing that the law and all that it calls make is longer than what came in: it says more and counts as full. Else prove '..UptoSaid'. A law counts once. -/
mutual
def uptoBulk {H : Type} : DataW H → Nat
  | .lit (.string bytes) => bytes.length + 1
  | .lit _ => 1
  | .nil => 1
  | .ptr d => uptoBulk d + 1
  | .slice elems spare => uptoBulkAll elems + uptoBulkAll spare + 1
  | .agg parts => uptoBulkAll parts + 1
  | .iface _ d => uptoBulk d + 1
  | .map entries => uptoBulkEntries entries + 1
  | .held _ => 1
def uptoBulkAll {H : Type} : List (DataW H) → Nat
  | [] => 0
  | d :: r => uptoBulk d + uptoBulkAll r
def uptoBulkEntries {H : Type} : List (Lit × DataW H) → Nat
  | [] => 0
  | x :: r => uptoBulkEntry x + uptoBulkEntries r
def uptoBulkEntry {H : Type} : Lit × DataW H → Nat
  | (.string bytes, d) => bytes.length + uptoBulk d + 1
  | (_, d) => uptoBulk d + 1
 end
def uptoSmall : (H : Type) → List (DataW H) → Bool := fun _ ds => decide (uptoBulkAll ds ≤ 1048576)
def OpenSpec.upto (s : _root_.Go.ChangeSpec) : _root_.Go.OpenSpec := { _root_.Go.OpenSpec.ofChange s with cond := some uptoSmall }

/-- 'carillonlaw10.AcceptorBytes', WHERE WHAT IT READS IS OF BULK AT MOST 1048576: true; the input reads as it did. -/
def acceptorBytesUptoRow : OpenClaim := { program := "ytocgbfcjmgpleaadoor", sum := "8c2f2dc620ba2b3bba036d2fa3fa79d33349cda1f2a1cd5e2f8e7084bee5eb57", func := "carillon/carillonlaw10.AcceptorBytes", spec := "acceptorBytes", inPlace := ["internal/bytealg.IndexByteString", "internal/bytealg.IndexString"], named := ["carillon/codec.sizes", "internal/bytealg.MaxLen"], apart := false, laid := [("carillon/codec.sizes", laid_carillon_codec_sizes)], narrowed := true }
def AcceptorBytesUptoSaid : Prop := acceptorBytesUptoRow.holds Tryd.pinned (OpenSpec.upto acceptorBytesSpec)

/-- 'carillonlaw10.AcceptorKeeps', WHERE WHAT IT READS IS OF BULK AT MOST 1048576: true; the input reads as it did. -/
def acceptorKeepsUptoRow : OpenClaim := { program := "ytocgbfcjmgpleaadoor", sum := "8c2f2dc620ba2b3bba036d2fa3fa79d33349cda1f2a1cd5e2f8e7084bee5eb57", func := "carillon/carillonlaw10.AcceptorKeeps", spec := "acceptorKeeps", inPlace := ["internal/bytealg.IndexByteString", "internal/bytealg.IndexString"], named := ["carillon/codec.sizes", "internal/bytealg.MaxLen"], apart := false, laid := [("carillon/codec.sizes", laid_carillon_codec_sizes)], narrowed := true }
def AcceptorKeepsUptoSaid : Prop := acceptorKeepsUptoRow.holds Tryd.pinned (OpenSpec.upto acceptorKeepsSpec)

/-- 'carillonlaw10.AcceptorBack', WHERE WHAT IT READS IS OF BULK AT MOST 1048576: true; the input reads as it did. -/
def acceptorBackUptoRow : OpenClaim := { program := "ytocgbfcjmgpleaadoor", sum := "8c2f2dc620ba2b3bba036d2fa3fa79d33349cda1f2a1cd5e2f8e7084bee5eb57", func := "carillon/carillonlaw10.AcceptorBack", spec := "acceptorBack", inPlace := ["internal/bytealg.IndexByteString", "internal/bytealg.IndexString"], named := ["carillon/codec.sizes", "internal/bytealg.MaxLen"], apart := false, laid := [("carillon/codec.sizes", laid_carillon_codec_sizes)], narrowed := true }
def AcceptorBackUptoSaid : Prop := acceptorBackUptoRow.holds Tryd.pinned (OpenSpec.upto acceptorBackSpec)

end Rows
end Go.Proofs.YtocgbfcjmgpleaaDoor
