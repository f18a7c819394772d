/- The laws' own struct types, opened: what is well formed, its sizes, its bulk. Printed by wip/genrow.py. -/
import Derived.Test.YtokebimfflobbaaDoorPx0
import Derived.Test.YtokebimfflobbaaDoorOpens
namespace Go.Proofs.YtokebimfflobbaaDoor.P
open Go.RowKit Go.Proofs.YtokebimfflobbaaDoorW.PrintWords Go.Proofs.YtokebimfflobbaaDoor.Opens
set_option linter.unusedVariables false
def wf47 (x : S47) : Prop := (fun n : Int => (Lit.int .i64 n).wf = true) x.f0 ∧ (fun n : Int => (Lit.int .i64 n).wf = true) x.f1
def lens47 (x : S47) : List Nat := (fun _ : Int => ([] : List Nat)) x.f0 ++ ((fun _ : Int => ([] : List Nat)) x.f1)
def bulk47 (x : S47) : Nat := ((fun _ : Int => 1) x.f0 + ((fun _ : Int => 1) x.f1)) + 1
theorem opens47 : Opens Tryd.prog 47 k47 wf47 lens47 bulk47 :=
  opens_iso (fun a => ⟨a.1, a.2⟩) (fun _ => rfl) (opens_struct (n := 2) Tryd.underlying47 (by kernel_rfl) (opensL_cons (opens_int Tryd.underlying3) (by kernel_rfl) (opensL_last (opens_int Tryd.underlying3) (by kernel_rfl) (by kernel_rfl))))
def wf35 (x : S35) : Prop := (fun n : Int => (Lit.int .i64 n).wf = true) x.f0 ∧ (fun l : List S47 => ∀ a ∈ l, wf47 a) x.f1
def lens35 (x : S35) : List Nat := (fun _ : Int => ([] : List Nat)) x.f0 ++ ((fun l : List S47 => l.length * 16 :: l.flatMap lens47) x.f1)
def bulk35 (x : S35) : Nat := ((fun _ : Int => 1) x.f0 + ((fun l : List S47 => (l.map bulk47).sum + 1) x.f1)) + 1
theorem opens35 : Opens Tryd.prog 35 k35 wf35 lens35 bulk35 :=
  opens_iso (fun a => ⟨a.1, a.2⟩) (fun _ => rfl) (opens_struct (n := 2) Tryd.underlying35 (by kernel_rfl) (opensL_cons (opens_int Tryd.underlying3) (by kernel_rfl) (opensL_last (opens_slice Tryd.underlying33 (by kernel_rfl) (by kernel_rfl) opens47) (by kernel_rfl) (by kernel_rfl))))
end Go.Proofs.YtokebimfflobbaaDoor.P
