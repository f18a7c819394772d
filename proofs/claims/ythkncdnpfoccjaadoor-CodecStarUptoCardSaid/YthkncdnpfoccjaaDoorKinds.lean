/- The laws' own struct types, opened: what is well formed, its sizes, its bulk. Printed by wip/genrow.py. -/
import Derived.Test.YthkncdnpfoccjaaDoorPx0
import Derived.Test.YthkncdnpfoccjaaDoorOpens
namespace Go.Proofs.YthkncdnpfoccjaaDoor.P
open Go.RowKit Go.Proofs.YthkncdnpfoccjaaDoorW.PrintWords Go.Proofs.YthkncdnpfoccjaaDoor.Opens
set_option linter.unusedVariables false
def wf32 (x : S32) : Prop := (fun n : Int => (Lit.int .i64 n).wf = true) x.f0 ∧ (fun n : Int => (Lit.int .u64 n).wf = true) x.f1 ∧ (fun s : ByteArray => s.size ≤ maxLen) x.f2
def lens32 (x : S32) : List Nat := (fun _ : Int => ([] : List Nat)) x.f0 ++ ((fun _ : Int => ([] : List Nat)) x.f1 ++ ((fun s : ByteArray => [s.size]) x.f2))
def bulk32 (x : S32) : Nat := ((fun _ : Int => 1) x.f0 + ((fun _ : Int => 1) x.f1 + ((fun s : ByteArray => s.size + 1) x.f2))) + 1
theorem opens32 : Opens Tryd.prog 32 k32 wf32 lens32 bulk32 :=
  opens_iso (fun a => ⟨a.1, a.2.1, a.2.2⟩) (fun _ => rfl) (opens_struct (n := 3) Tryd.underlying32 (by kernel_rfl) (opensL_cons (opens_int Tryd.underlying3) (by kernel_rfl) (opensL_cons (opens_int Tryd.underlying30) (by kernel_rfl) (opensL_last (opens_string Tryd.underlying9) (by kernel_rfl) (by kernel_rfl)))))
end Go.Proofs.YthkncdnpfoccjaaDoor.P
