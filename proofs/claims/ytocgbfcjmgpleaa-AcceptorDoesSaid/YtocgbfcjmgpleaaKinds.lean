/- The laws' own struct types, opened: what is well formed, its sizes, its bulk. Printed by wip/genrow.py. -/
import Derived.Test.YtocgbfcjmgpleaaPx0
import Derived.Test.YtocgbfcjmgpleaaOpens
namespace Go.Proofs.Ytocgbfcjmgpleaa.P
open Go.RowKit Go.Proofs.YtocgbfcjmgpleaaW.PrintWords Go.Proofs.Ytocgbfcjmgpleaa.Opens
set_option linter.unusedVariables false
def wf23 (x : S23) : Prop := (fun n : Int => (Lit.int .i64 n).wf = true) x.f0 ∧ (fun n : Int => (Lit.int .i64 n).wf = true) x.f1
def lens23 (x : S23) : List Nat := (fun _ : Int => ([] : List Nat)) x.f0 ++ ((fun _ : Int => ([] : List Nat)) x.f1)
def bulk23 (x : S23) : Nat := ((fun _ : Int => 1) x.f0 + ((fun _ : Int => 1) x.f1)) + 1
theorem opens23 : Opens Try.prog 23 k23 wf23 lens23 bulk23 :=
  opens_iso (fun a => ⟨a.1, a.2⟩) (fun _ => rfl) (opens_struct (n := 2) Try.underlying23 (by kernel_rfl) (opensL_cons (opens_int Try.underlying3) (by kernel_rfl) (opensL_last (opens_int Try.underlying3) (by kernel_rfl) (by kernel_rfl))))
def wf25 (x : S25) : Prop := wf23 x.f0 ∧ wf23 x.f1 ∧ (fun s : ByteArray => s.size ≤ maxLen) x.f2
def lens25 (x : S25) : List Nat := lens23 x.f0 ++ (lens23 x.f1 ++ ((fun s : ByteArray => [s.size]) x.f2))
def bulk25 (x : S25) : Nat := (bulk23 x.f0 + (bulk23 x.f1 + ((fun s : ByteArray => s.size + 1) x.f2))) + 1
theorem opens25 : Opens Try.prog 25 k25 wf25 lens25 bulk25 :=
  opens_iso (fun a => ⟨a.1, a.2.1, a.2.2⟩) (fun _ => rfl) (opens_struct (n := 5) Try.underlying25 (by kernel_rfl) (opensL_cons opens23 (by kernel_rfl) (opensL_cons opens23 (by kernel_rfl) (opensL_last (opens_string Try.underlying9) (by kernel_rfl) (by kernel_rfl)))))
end Go.Proofs.Ytocgbfcjmgpleaa.P
