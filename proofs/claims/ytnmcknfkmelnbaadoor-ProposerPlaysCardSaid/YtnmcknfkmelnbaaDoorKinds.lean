/- The laws' own struct types, opened: what is well formed, its sizes, its bulk. Printed by wip/genrow.py. -/
import Derived.Test.YtnmcknfkmelnbaaDoorPx0
import Derived.Test.YtnmcknfkmelnbaaDoorOpens
namespace Go.Proofs.YtnmcknfkmelnbaaDoor.P
open Go.RowKit Go.Proofs.YtnmcknfkmelnbaaDoorW.PrintWords Go.Proofs.YtnmcknfkmelnbaaDoor.Opens
set_option linter.unusedVariables false
def wf23 (x : S23) : Prop := (fun n : Int => (Lit.int .i64 n).wf = true) x.f0 ∧ (fun n : Int => (Lit.int .i64 n).wf = true) x.f1
def lens23 (x : S23) : List Nat := (fun _ : Int => ([] : List Nat)) x.f0 ++ ((fun _ : Int => ([] : List Nat)) x.f1)
def bulk23 (x : S23) : Nat := ((fun _ : Int => 1) x.f0 + ((fun _ : Int => 1) x.f1)) + 1
theorem opens23 : Opens Tryd.prog 23 k23 wf23 lens23 bulk23 :=
  opens_iso (fun a => ⟨a.1, a.2⟩) (fun _ => rfl) (opens_struct (n := 2) Tryd.underlying23 (by kernel_rfl) (opensL_cons (opens_int Tryd.underlying3) (by kernel_rfl) (opensL_last (opens_int Tryd.underlying3) (by kernel_rfl) (by kernel_rfl))))
def wf34 (x : S34) : Prop := wf23 x.f0 ∧ wf23 x.f1 ∧ (fun s : ByteArray => s.size ≤ maxLen) x.f2
def lens34 (x : S34) : List Nat := lens23 x.f0 ++ (lens23 x.f1 ++ ((fun s : ByteArray => [s.size]) x.f2))
def bulk34 (x : S34) : Nat := (bulk23 x.f0 + (bulk23 x.f1 + ((fun s : ByteArray => s.size + 1) x.f2))) + 1
theorem opens34 : Opens Tryd.prog 34 k34 wf34 lens34 bulk34 :=
  opens_iso (fun a => ⟨a.1, a.2.1, a.2.2⟩) (fun _ => rfl) (opens_struct (n := 5) Tryd.underlying34 (by kernel_rfl) (opensL_cons opens23 (by kernel_rfl) (opensL_cons opens23 (by kernel_rfl) (opensL_last (opens_string Tryd.underlying9) (by kernel_rfl) (by kernel_rfl)))))
def wf36 (x : S36) : Prop := (fun n : Int => (Lit.int .i64 n).wf = true) x.f0 ∧ (fun n : Int => (Lit.int .i64 n).wf = true) x.f1 ∧ wf34 x.f2 ∧ (fun s : ByteArray => s.size ≤ maxLen) x.f3
def lens36 (x : S36) : List Nat := (fun _ : Int => ([] : List Nat)) x.f0 ++ ((fun _ : Int => ([] : List Nat)) x.f1 ++ (lens34 x.f2 ++ ((fun s : ByteArray => [s.size]) x.f3)))
def bulk36 (x : S36) : Nat := ((fun _ : Int => 1) x.f0 + ((fun _ : Int => 1) x.f1 + (bulk34 x.f2 + ((fun s : ByteArray => s.size + 1) x.f3)))) + 1
theorem opens36 : Opens Tryd.prog 36 k36 wf36 lens36 bulk36 :=
  opens_iso (fun a => ⟨a.1, a.2.1, a.2.2.1, a.2.2.2⟩) (fun _ => rfl) (opens_struct (n := 8) Tryd.underlying36 (by kernel_rfl) (opensL_cons (opens_int Tryd.underlying3) (by kernel_rfl) (opensL_cons (opens_int Tryd.underlying3) (by kernel_rfl) (opensL_cons opens34 (by kernel_rfl) (opensL_last (opens_string Tryd.underlying9) (by kernel_rfl) (by kernel_rfl))))))
def wf64 (x : S64) : Prop := (fun n : Int => (Lit.int .i64 n).wf = true) x.f0 ∧ (fun n : Int => (Lit.int .i64 n).wf = true) x.f1 ∧ (fun n : Int => (Lit.int .i64 n).wf = true) x.f2
def lens64 (x : S64) : List Nat := (fun _ : Int => ([] : List Nat)) x.f0 ++ ((fun _ : Int => ([] : List Nat)) x.f1 ++ ((fun _ : Int => ([] : List Nat)) x.f2))
def bulk64 (x : S64) : Nat := ((fun _ : Int => 1) x.f0 + ((fun _ : Int => 1) x.f1 + ((fun _ : Int => 1) x.f2))) + 1
theorem opens64 : Opens Tryd.prog 64 k64 wf64 lens64 bulk64 :=
  opens_iso (fun a => ⟨a.1, a.2.1, a.2.2⟩) (fun _ => rfl) (opens_struct (n := 3) Tryd.underlying64 (by kernel_rfl) (opensL_cons (opens_int Tryd.underlying3) (by kernel_rfl) (opensL_cons (opens_int Tryd.underlying3) (by kernel_rfl) (opensL_last (opens_int Tryd.underlying3) (by kernel_rfl) (by kernel_rfl)))))
end Go.Proofs.YtnmcknfkmelnbaaDoor.P
