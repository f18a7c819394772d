/- The laws' own struct types, opened: what is well formed, its sizes, its bulk. Printed by wip/genrow.py. -/
import Derived.Test.YtbcpjegakjcmgaaDoorPx0
import Derived.Test.YtbcpjegakjcmgaaDoorOpens
namespace Go.Proofs.YtbcpjegakjcmgaaDoor.P
open Go.RowKit Go.Proofs.YtbcpjegakjcmgaaDoorW.PrintWords Go.Proofs.YtbcpjegakjcmgaaDoor.Opens
set_option linter.unusedVariables false
def wf38 (x : S38) : Prop := (fun n : Int => (Lit.int .i64 n).wf = true) x.f0 ∧ (fun n : Int => (Lit.int .i64 n).wf = true) x.f1
def lens38 (x : S38) : List Nat := (fun _ : Int => ([] : List Nat)) x.f0 ++ ((fun _ : Int => ([] : List Nat)) x.f1)
def bulk38 (x : S38) : Nat := ((fun _ : Int => 1) x.f0 + ((fun _ : Int => 1) x.f1)) + 1
theorem opens38 : Opens Tryd.prog 38 k38 wf38 lens38 bulk38 :=
  opens_iso (fun a => ⟨a.1, a.2⟩) (fun _ => rfl) (opens_struct (n := 2) Tryd.underlying38 (by kernel_rfl) (opensL_cons (opens_int Tryd.underlying3) (by kernel_rfl) (opensL_last (opens_int Tryd.underlying3) (by kernel_rfl) (by kernel_rfl))))
def wf24 (x : S24) : Prop := (fun n : Int => (Lit.int .i64 n).wf = true) x.f0 ∧ (fun l : List S38 => ∀ a ∈ l, wf38 a) x.f1
def lens24 (x : S24) : List Nat := (fun _ : Int => ([] : List Nat)) x.f0 ++ ((fun l : List S38 => l.length * 16 :: l.flatMap lens38) x.f1)
def bulk24 (x : S24) : Nat := ((fun _ : Int => 1) x.f0 + ((fun l : List S38 => (l.map bulk38).sum + 1) x.f1)) + 1
theorem opens24 : Opens Tryd.prog 24 k24 wf24 lens24 bulk24 :=
  opens_iso (fun a => ⟨a.1, a.2⟩) (fun _ => rfl) (opens_struct (n := 2) Tryd.underlying24 (by kernel_rfl) (opensL_cons (opens_int Tryd.underlying3) (by kernel_rfl) (opensL_last (opens_slice Tryd.underlying22 (by kernel_rfl) (by kernel_rfl) opens38) (by kernel_rfl) (by kernel_rfl))))
end Go.Proofs.YtbcpjegakjcmgaaDoor.P
