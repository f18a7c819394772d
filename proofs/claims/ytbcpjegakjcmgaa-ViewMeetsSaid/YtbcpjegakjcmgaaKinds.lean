/- The laws' own struct types, opened: what is well formed, its sizes, its bulk. Printed by wip/genrow.py. -/
import Derived.Test.YtbcpjegakjcmgaaPx0
import Derived.Test.YtbcpjegakjcmgaaOpens
namespace Go.Proofs.Ytbcpjegakjcmgaa.P
open Go.RowKit Go.Proofs.YtbcpjegakjcmgaaW.PrintWords Go.Proofs.Ytbcpjegakjcmgaa.Opens
set_option linter.unusedVariables false
def wf26 (x : S26) : Prop := (fun n : Int => (Lit.int .i64 n).wf = true) x.f0 ∧ (fun n : Int => (Lit.int .i64 n).wf = true) x.f1
def lens26 (x : S26) : List Nat := (fun _ : Int => ([] : List Nat)) x.f0 ++ ((fun _ : Int => ([] : List Nat)) x.f1)
def bulk26 (x : S26) : Nat := ((fun _ : Int => 1) x.f0 + ((fun _ : Int => 1) x.f1)) + 1
theorem opens26 : Opens Try.prog 26 k26 wf26 lens26 bulk26 :=
  opens_iso (fun a => ⟨a.1, a.2⟩) (fun _ => rfl) (opens_struct (n := 2) Try.underlying26 (by kernel_rfl) (opensL_cons (opens_int Try.underlying3) (by kernel_rfl) (opensL_last (opens_int Try.underlying3) (by kernel_rfl) (by kernel_rfl))))
def wf24 (x : S24) : Prop := (fun n : Int => (Lit.int .i64 n).wf = true) x.f0 ∧ (fun l : List S26 => ∀ a ∈ l, wf26 a) x.f1
def lens24 (x : S24) : List Nat := (fun _ : Int => ([] : List Nat)) x.f0 ++ ((fun l : List S26 => l.length * 16 :: l.flatMap lens26) x.f1)
def bulk24 (x : S24) : Nat := ((fun _ : Int => 1) x.f0 + ((fun l : List S26 => (l.map bulk26).sum + 1) x.f1)) + 1
theorem opens24 : Opens Try.prog 24 k24 wf24 lens24 bulk24 :=
  opens_iso (fun a => ⟨a.1, a.2⟩) (fun _ => rfl) (opens_struct (n := 2) Try.underlying24 (by kernel_rfl) (opensL_cons (opens_int Try.underlying3) (by kernel_rfl) (opensL_last (opens_slice Try.underlying22 (by kernel_rfl) (by kernel_rfl) opens26) (by kernel_rfl) (by kernel_rfl))))
end Go.Proofs.Ytbcpjegakjcmgaa.P
