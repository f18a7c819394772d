/- The laws' own struct types, opened: what is well formed, its sizes, its bulk. Printed by wip/genrow.py. -/
import Derived.Test.YtocgbfcjmgpleaaDoorPx0
import Derived.Test.YtocgbfcjmgpleaaDoorOpens
namespace Go.Proofs.YtocgbfcjmgpleaaDoor.P
open Go.RowKit Go.Proofs.YtocgbfcjmgpleaaDoorW.PrintWords Go.Proofs.YtocgbfcjmgpleaaDoor.Opens
set_option linter.unusedVariables false
def wf23 (x : S23) : Prop := (fun n : Int => (Lit.int .i64 n).wf = true) x.f0 ∧ (fun n : Int => (Lit.int .i64 n).wf = true) x.f1
def lens23 (x : S23) : List Nat := (fun _ : Int => ([] : List Nat)) x.f0 ++ ((fun _ : Int => ([] : List Nat)) x.f1)
def bulk23 (x : S23) : Nat := ((fun _ : Int => 1) x.f0 + ((fun _ : Int => 1) x.f1)) + 1
theorem opens23 : Opens Tryd.prog 23 k23 wf23 lens23 bulk23 :=
  opens_iso (fun a => ⟨a.1, a.2⟩) (fun _ => rfl) (opens_struct (n := 2) Tryd.underlying23 (by kernel_rfl) (opensL_cons (opens_int Tryd.underlying3) (by kernel_rfl) (opensL_last (opens_int Tryd.underlying3) (by kernel_rfl) (by kernel_rfl))))
def wf39 (x : S39) : Prop := wf23 x.f0 ∧ (fun _ : Bool => True) x.f1 ∧ (fun s : ByteArray => s.size ≤ maxLen) x.f2
def lens39 (x : S39) : List Nat := lens23 x.f0 ++ ((fun _ : Bool => ([] : List Nat)) x.f1 ++ ((fun s : ByteArray => [s.size]) x.f2))
def bulk39 (x : S39) : Nat := (bulk23 x.f0 + ((fun _ : Bool => 1) x.f1 + ((fun s : ByteArray => s.size + 1) x.f2))) + 1
theorem opens39 : Opens Tryd.prog 39 k39 wf39 lens39 bulk39 :=
  opens_iso (fun a => ⟨a.1, a.2.1, a.2.2⟩) (fun _ => rfl) (opens_struct (n := 4) Tryd.underlying39 (by kernel_rfl) (opensL_cons opens23 (by kernel_rfl) (opensL_cons (opens_bool Tryd.underlying4) (by kernel_rfl) (opensL_last (opens_string Tryd.underlying9) (by kernel_rfl) (by kernel_rfl)))))
def wf25 (x : S25) : Prop := wf23 x.f0 ∧ wf23 x.f1 ∧ (fun s : ByteArray => s.size ≤ maxLen) x.f2
def lens25 (x : S25) : List Nat := lens23 x.f0 ++ (lens23 x.f1 ++ ((fun s : ByteArray => [s.size]) x.f2))
def bulk25 (x : S25) : Nat := (bulk23 x.f0 + (bulk23 x.f1 + ((fun s : ByteArray => s.size + 1) x.f2))) + 1
theorem opens25 : Opens Tryd.prog 25 k25 wf25 lens25 bulk25 :=
  opens_iso (fun a => ⟨a.1, a.2.1, a.2.2⟩) (fun _ => rfl) (opens_struct (n := 5) Tryd.underlying25 (by kernel_rfl) (opensL_cons opens23 (by kernel_rfl) (opensL_cons opens23 (by kernel_rfl) (opensL_last (opens_string Tryd.underlying9) (by kernel_rfl) (by kernel_rfl)))))
end Go.Proofs.YtocgbfcjmgpleaaDoor.P
