/-
  No cell of these rows narrows 'for every input' (looked for: loops, veiled, ifaces, maps, wideKeys, modest, calm, conditions, laid).
  DERIVED. THE GIVEN ROWS OF THIS SEAT. 6 by the template 'for every input the law returns true; each argument reads behind the call as it read before'; 0 by the template 'total and deterministic' (their statements: YtdpogggajdfedaaTotals.lean).
  GIVEN WITH THE SEED: the statements are not yours to turn. If you find one false, say at which input.
  Laid BY PROGRAM, IN A SANDBOX (cutbox-rows.mjs): the forced cells as the released guide's own fill.sh prints them over the translation 5c5d535022818879… (all of the seat's roots in one cut). By AI agents, Wed Nov 11 2026. No macro, syntax, notation, axiom, sorry.
-/
import Derived.Test.YtdpogggajdfedaaChecked
import GoSem.Claim
import GoSem.ClaimJoined
import GoSem.ClaimMapViews
import Derived.JoinedTies
import Derived.KernelRfl
namespace Go.Proofs.Ytdpogggajdfedaa
/- THE CELL 'sum', in the pinned program and in every row, IS THE sha256 OF THE DUMP (.gsa) THAT YtdpogggajdfedaaProg.lean LOADS. Nothing in Lean hashes anything: it is a label: what it is worth is what the hold of that sum in a sandbox is worth. -/
noncomputable def Try.pinned : Pinned := { name := "ytdpogggajdfedaa", sum := "5c5d5350228188795c984ad22c50430ce851cbc8617eba851bbf2720a3d9a150", checked := Try.checked }
namespace Rows
def none {H : Type} : Left H := { results := [], args := [] }

/-- 'carillonlaw09.LinkOrder': WHATEVER THE INPUT: true; the input reads as it did. -/
def linkOrderSpec : ChangeSpec := { name := "linkOrder", fn := fun _ => fun
  | [d] => { results := [.lit (.bool true)], args := [d] }
  | _ => none }
def linkOrderRow : OpenClaim := { program := "ytdpogggajdfedaa", sum := "5c5d5350228188795c984ad22c50430ce851cbc8617eba851bbf2720a3d9a150", func := "carillon/carillonlaw09.LinkOrder", spec := "linkOrder", apart := false }
def LinkOrderSaid : Prop := linkOrderRow.holds Try.pinned (OpenSpec.ofChange linkOrderSpec)

/-- ITS FALSE NEIGHBOUR: 'it returns false'. Refute it at one input. -/
def linkOrderWrong : ChangeSpec := { name := "linkOrder", fn := fun _ => fun
  | [d] => { results := [.lit (.bool false)], args := [d] }
  | _ => none }
def LinkOrderWrongFalsely : Prop := linkOrderRow.holds Try.pinned (OpenSpec.ofChange linkOrderWrong)

/-- 'carillonlaw09.LinkAll': WHATEVER THE INPUT: true; the input reads as it did. -/
def linkAllSpec : ChangeSpec := { name := "linkAll", fn := fun _ => fun
  | [d] => { results := [.lit (.bool true)], args := [d] }
  | _ => none }
def linkAllRow : OpenClaim := { program := "ytdpogggajdfedaa", sum := "5c5d5350228188795c984ad22c50430ce851cbc8617eba851bbf2720a3d9a150", func := "carillon/carillonlaw09.LinkAll", spec := "linkAll", apart := false }
def LinkAllSaid : Prop := linkAllRow.holds Try.pinned (OpenSpec.ofChange linkAllSpec)

/-- ITS FALSE NEIGHBOUR: 'it returns false'. Refute it at one input. -/
def linkAllWrong : ChangeSpec := { name := "linkAll", fn := fun _ => fun
  | [d] => { results := [.lit (.bool false)], args := [d] }
  | _ => none }
def LinkAllWrongFalsely : Prop := linkAllRow.holds Try.pinned (OpenSpec.ofChange linkAllWrong)

/-- 'carillonlaw09.LinkAnew': WHATEVER THE INPUT: true; the input reads as it did. -/
def linkAnewSpec : ChangeSpec := { name := "linkAnew", fn := fun _ => fun
  | [d1, d2] => { results := [.lit (.bool true)], args := [d1, d2] }
  | _ => none }
def linkAnewRow : OpenClaim := { program := "ytdpogggajdfedaa", sum := "5c5d5350228188795c984ad22c50430ce851cbc8617eba851bbf2720a3d9a150", func := "carillon/carillonlaw09.LinkAnew", spec := "linkAnew", apart := false }
def LinkAnewSaid : Prop := linkAnewRow.holds Try.pinned (OpenSpec.ofChange linkAnewSpec)

/-- ITS FALSE NEIGHBOUR: 'it returns false'. Refute it at one input. -/
def linkAnewWrong : ChangeSpec := { name := "linkAnew", fn := fun _ => fun
  | [d1, d2] => { results := [.lit (.bool false)], args := [d1, d2] }
  | _ => none }
def LinkAnewWrongFalsely : Prop := linkAnewRow.holds Try.pinned (OpenSpec.ofChange linkAnewWrong)

/-- 'carillonlaw09.LinkPlays': WHATEVER THE INPUT: true; the input reads as it did. -/
def linkPlaysSpec : ChangeSpec := { name := "linkPlays", fn := fun _ => fun
  | [d1, d2] => { results := [.lit (.bool true)], args := [d1, d2] }
  | _ => none }
def linkPlaysRow : OpenClaim := { program := "ytdpogggajdfedaa", sum := "5c5d5350228188795c984ad22c50430ce851cbc8617eba851bbf2720a3d9a150", func := "carillon/carillonlaw09.LinkPlays", spec := "linkPlays", apart := false }
def LinkPlaysSaid : Prop := linkPlaysRow.holds Try.pinned (OpenSpec.ofChange linkPlaysSpec)

/-- ITS FALSE NEIGHBOUR: 'it returns false'. Refute it at one input. -/
def linkPlaysWrong : ChangeSpec := { name := "linkPlays", fn := fun _ => fun
  | [d1, d2] => { results := [.lit (.bool false)], args := [d1, d2] }
  | _ => none }
def LinkPlaysWrongFalsely : Prop := linkPlaysRow.holds Try.pinned (OpenSpec.ofChange linkPlaysWrong)

/-- 'carillonlaw09.LinkWindow': WHATEVER THE INPUT: true; the input reads as it did. -/
def linkWindowSpec : ChangeSpec := { name := "linkWindow", fn := fun _ => fun
  | [d] => { results := [.lit (.bool true)], args := [d] }
  | _ => none }
def linkWindowRow : OpenClaim := { program := "ytdpogggajdfedaa", sum := "5c5d5350228188795c984ad22c50430ce851cbc8617eba851bbf2720a3d9a150", func := "carillon/carillonlaw09.LinkWindow", spec := "linkWindow", apart := false }
def LinkWindowSaid : Prop := linkWindowRow.holds Try.pinned (OpenSpec.ofChange linkWindowSpec)

/-- ITS FALSE NEIGHBOUR: 'it returns false'. Refute it at one input. -/
def linkWindowWrong : ChangeSpec := { name := "linkWindow", fn := fun _ => fun
  | [d] => { results := [.lit (.bool false)], args := [d] }
  | _ => none }
def LinkWindowWrongFalsely : Prop := linkWindowRow.holds Try.pinned (OpenSpec.ofChange linkWindowWrong)

/-- 'carillonlaw09.LinkDeaf': WHATEVER THE INPUT: true; the input reads as it did. -/
def linkDeafSpec : ChangeSpec := { name := "linkDeaf", fn := fun _ => fun
  | [d1, d2] => { results := [.lit (.bool true)], args := [d1, d2] }
  | _ => none }
def linkDeafRow : OpenClaim := { program := "ytdpogggajdfedaa", sum := "5c5d5350228188795c984ad22c50430ce851cbc8617eba851bbf2720a3d9a150", func := "carillon/carillonlaw09.LinkDeaf", spec := "linkDeaf", apart := false }
def LinkDeafSaid : Prop := linkDeafRow.holds Try.pinned (OpenSpec.ofChange linkDeafSpec)

/-- ITS FALSE NEIGHBOUR: 'it returns false'. Refute it at one input. -/
def linkDeafWrong : ChangeSpec := { name := "linkDeaf", fn := fun _ => fun
  | [d1, d2] => { results := [.lit (.bool false)], args := [d1, d2] }
  | _ => none }
def LinkDeafWrongFalsely : Prop := linkDeafRow.holds Try.pinned (OpenSpec.ofChange linkDeafWrong)

/- THE SECOND FORM. 'bulk': how many values and letters a reading holds, each counted each time it is reached (what is shared counts as often as it is met; a slice's spare places count too). A statement '..UptoSaid' is the law's where the arguments, and the package variables that the reading takes, are together of bulk at most 1048576: NARROWER than '..Said'. Prove '..Said' where nothing that the law and all that it calls make is longer than what came in: it says more and counts as full. Else prove '..UptoSaid'. A law counts once. -/
mutual
def uptoBulk {H : Type} : DataW H → Nat
  | .lit (.string bytes) => bytes.length + 1
  | .lit _ => 1
  | .nil => 1
  | .ptr d => uptoBulk d + 1
  | .slice elems spare => uptoBulkAll elems + uptoBulkAll spare + 1
  | .agg parts => uptoBulkAll parts + 1
  | .iface _ d => uptoBulk d + 1
  | .map entries => uptoBulkEntries entries + 1
  | .held _ => 1
def uptoBulkAll {H : Type} : List (DataW H) → Nat
  | [] => 0
  | d :: r => uptoBulk d + uptoBulkAll r
def uptoBulkEntries {H : Type} : List (Lit × DataW H) → Nat
  | [] => 0
  | x :: r => uptoBulkEntry x + uptoBulkEntries r
def uptoBulkEntry {H : Type} : Lit × DataW H → Nat
  | (.string bytes, d) => bytes.length + uptoBulk d + 1
  | (_, d) => uptoBulk d + 1
 end
def uptoSmall : (H : Type) → List (DataW H) → Bool := fun _ ds => decide (uptoBulkAll ds ≤ 1048576)
def OpenSpec.upto (s : _root_.Go.ChangeSpec) : _root_.Go.OpenSpec := { _root_.Go.OpenSpec.ofChange s with cond := some uptoSmall }

/-- 'carillonlaw09.LinkOrder', WHERE WHAT IT READS IS OF BULK AT MOST 1048576: true; the input reads as it did. -/
def linkOrderUptoRow : OpenClaim := { program := "ytdpogggajdfedaa", sum := "5c5d5350228188795c984ad22c50430ce851cbc8617eba851bbf2720a3d9a150", func := "carillon/carillonlaw09.LinkOrder", spec := "linkOrder", apart := false, narrowed := true }
def LinkOrderUptoSaid : Prop := linkOrderUptoRow.holds Try.pinned (OpenSpec.upto linkOrderSpec)

/-- 'carillonlaw09.LinkAll', WHERE WHAT IT READS IS OF BULK AT MOST 1048576: true; the input reads as it did. -/
def linkAllUptoRow : OpenClaim := { program := "ytdpogggajdfedaa", sum := "5c5d5350228188795c984ad22c50430ce851cbc8617eba851bbf2720a3d9a150", func := "carillon/carillonlaw09.LinkAll", spec := "linkAll", apart := false, narrowed := true }
def LinkAllUptoSaid : Prop := linkAllUptoRow.holds Try.pinned (OpenSpec.upto linkAllSpec)

/-- 'carillonlaw09.LinkAnew', WHERE WHAT IT READS IS OF BULK AT MOST 1048576: true; the input reads as it did. -/
def linkAnewUptoRow : OpenClaim := { program := "ytdpogggajdfedaa", sum := "5c5d5350228188795c984ad22c50430ce851cbc8617eba851bbf2720a3d9a150", func := "carillon/carillonlaw09.LinkAnew", spec := "linkAnew", apart := false, narrowed := true }
def LinkAnewUptoSaid : Prop := linkAnewUptoRow.holds Try.pinned (OpenSpec.upto linkAnewSpec)

/-- 'carillonlaw09.LinkPlays', WHERE WHAT IT READS IS OF BULK AT MOST 1048576: true; the input reads as it did. -/
def linkPlaysUptoRow : OpenClaim := { program := "ytdpogggajdfedaa", sum := "5c5d5350228188795c984ad22c50430ce851cbc8617eba851bbf2720a3d9a150", func := "carillon/carillonlaw09.LinkPlays", spec := "linkPlays", apart := false, narrowed := true }
def LinkPlaysUptoSaid : Prop := linkPlaysUptoRow.holds Try.pinned (OpenSpec.upto linkPlaysSpec)

/-- 'carillonlaw09.LinkWindow', WHERE WHAT IT READS IS OF BULK AT MOST 1048576: true; the input reads as it did. -/
def linkWindowUptoRow : OpenClaim := { program := "ytdpogggajdfedaa", sum := "5c5d5350228188795c984ad22c50430ce851cbc8617eba851bbf2720a3d9a150", func := "carillon/carillonlaw09.LinkWindow", spec := "linkWindow", apart := false, narrowed := true }
def LinkWindowUptoSaid : Prop := linkWindowUptoRow.holds Try.pinned (OpenSpec.upto linkWindowSpec)

/-- 'carillonlaw09.LinkDeaf', WHERE WHAT IT READS IS OF BULK AT MOST 1048576: true; the input reads as it did. -/
def linkDeafUptoRow : OpenClaim := { program := "ytdpogggajdfedaa", sum := "5c5d5350228188795c984ad22c50430ce851cbc8617eba851bbf2720a3d9a150", func := "carillon/carillonlaw09.LinkDeaf", spec := "linkDeaf", apart := false, narrowed := true }
def LinkDeafUptoSaid : Prop := linkDeafUptoRow.holds Try.pinned (OpenSpec.upto linkDeafSpec)

end Rows
end Go.Proofs.Ytdpogggajdfedaa
