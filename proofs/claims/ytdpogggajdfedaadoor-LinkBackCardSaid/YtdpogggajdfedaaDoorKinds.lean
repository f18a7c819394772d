/- The laws' own struct types, opened: what is well formed, its sizes, its bulk. Printed by wip/genrow.py. -/
import Derived.Test.YtdpogggajdfedaaDoorPx0
import Derived.Test.YtdpogggajdfedaaDoorOpens
namespace Go.Proofs.YtdpogggajdfedaaDoor.P
open Go.RowKit Go.Proofs.YtdpogggajdfedaaDoorW.PrintWords Go.Proofs.YtdpogggajdfedaaDoor.Opens
set_option linter.unusedVariables false
def wf23 (x : S23) : Prop := (fun n : Int => (Lit.int .i64 n).wf = true) x.f0 ∧ (fun n : Int => (Lit.int .i64 n).wf = true) x.f1 ∧ (fun n : Int => (Lit.int .i64 n).wf = true) x.f2 ∧ (fun n : Int => (Lit.int .i64 n).wf = true) x.f3 ∧ (fun s : ByteArray => s.size ≤ maxLen) x.f4
def lens23 (x : S23) : List Nat := (fun _ : Int => ([] : List Nat)) x.f0 ++ ((fun _ : Int => ([] : List Nat)) x.f1 ++ ((fun _ : Int => ([] : List Nat)) x.f2 ++ ((fun _ : Int => ([] : List Nat)) x.f3 ++ ((fun s : ByteArray => [s.size]) x.f4))))
def bulk23 (x : S23) : Nat := ((fun _ : Int => 1) x.f0 + ((fun _ : Int => 1) x.f1 + ((fun _ : Int => 1) x.f2 + ((fun _ : Int => 1) x.f3 + ((fun s : ByteArray => s.size + 1) x.f4))))) + 1
theorem opens23 : Opens Tryd.prog 23 k23 wf23 lens23 bulk23 :=
  opens_iso (fun a => ⟨a.1, a.2.1, a.2.2.1, a.2.2.2.1, a.2.2.2.2⟩) (fun _ => rfl) (opens_struct (n := 5) Tryd.underlying23 (by kernel_rfl) (opensL_cons (opens_int Tryd.underlying3) (by kernel_rfl) (opensL_cons (opens_int Tryd.underlying3) (by kernel_rfl) (opensL_cons (opens_int Tryd.underlying3) (by kernel_rfl) (opensL_cons (opens_int Tryd.underlying3) (by kernel_rfl) (opensL_last (opens_string Tryd.underlying9) (by kernel_rfl) (by kernel_rfl)))))))
end Go.Proofs.YtdpogggajdfedaaDoor.P
