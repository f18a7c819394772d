/- The laws' own struct types, opened: what is well formed, its sizes, its bulk. Printed by wip/genrow.py. -/
import Derived.Test.YtdpogggajdfedaaPx0
import Derived.Test.YtdpogggajdfedaaOpens
namespace Go.Proofs.Ytdpogggajdfedaa.P
open Go.RowKit Go.Proofs.YtdpogggajdfedaaW.PrintWords Go.Proofs.Ytdpogggajdfedaa.Opens
set_option linter.unusedVariables false
def wf28 (x : S28) : Prop := (fun n : Int => (Lit.int .i64 n).wf = true) x.f0 ∧ (fun n : Int => (Lit.int .i64 n).wf = true) x.f1 ∧ (fun n : Int => (Lit.int .i64 n).wf = true) x.f2 ∧ (fun s : ByteArray => s.size ≤ maxLen) x.f3
def lens28 (x : S28) : List Nat := (fun _ : Int => ([] : List Nat)) x.f0 ++ ((fun _ : Int => ([] : List Nat)) x.f1 ++ ((fun _ : Int => ([] : List Nat)) x.f2 ++ ((fun s : ByteArray => [s.size]) x.f3)))
def bulk28 (x : S28) : Nat := ((fun _ : Int => 1) x.f0 + ((fun _ : Int => 1) x.f1 + ((fun _ : Int => 1) x.f2 + ((fun s : ByteArray => s.size + 1) x.f3)))) + 1
theorem opens28 : Opens Try.prog 28 k28 wf28 lens28 bulk28 :=
  opens_iso (fun a => ⟨a.1, a.2.1, a.2.2.1, a.2.2.2⟩) (fun _ => rfl) (opens_struct (n := 4) Try.underlying28 (by kernel_rfl) (opensL_cons (opens_int Try.underlying3) (by kernel_rfl) (opensL_cons (opens_int Try.underlying3) (by kernel_rfl) (opensL_cons (opens_int Try.underlying3) (by kernel_rfl) (opensL_last (opens_string Try.underlying9) (by kernel_rfl) (by kernel_rfl))))))
def wf46 (x : S46) : Prop := (fun n : Int => (Lit.int .i64 n).wf = true) x.f0 ∧ (fun n : Int => (Lit.int .i64 n).wf = true) x.f1 ∧ (fun n : Int => (Lit.int .i64 n).wf = true) x.f2 ∧ (fun n : Int => (Lit.int .i64 n).wf = true) x.f3 ∧ (fun s : ByteArray => s.size ≤ maxLen) x.f4
def lens46 (x : S46) : List Nat := (fun _ : Int => ([] : List Nat)) x.f0 ++ ((fun _ : Int => ([] : List Nat)) x.f1 ++ ((fun _ : Int => ([] : List Nat)) x.f2 ++ ((fun _ : Int => ([] : List Nat)) x.f3 ++ ((fun s : ByteArray => [s.size]) x.f4))))
def bulk46 (x : S46) : Nat := ((fun _ : Int => 1) x.f0 + ((fun _ : Int => 1) x.f1 + ((fun _ : Int => 1) x.f2 + ((fun _ : Int => 1) x.f3 + ((fun s : ByteArray => s.size + 1) x.f4))))) + 1
theorem opens46 : Opens Try.prog 46 k46 wf46 lens46 bulk46 :=
  opens_iso (fun a => ⟨a.1, a.2.1, a.2.2.1, a.2.2.2.1, a.2.2.2.2⟩) (fun _ => rfl) (opens_struct (n := 5) Try.underlying46 (by kernel_rfl) (opensL_cons (opens_int Try.underlying3) (by kernel_rfl) (opensL_cons (opens_int Try.underlying3) (by kernel_rfl) (opensL_cons (opens_int Try.underlying3) (by kernel_rfl) (opensL_cons (opens_int Try.underlying3) (by kernel_rfl) (opensL_last (opens_string Try.underlying9) (by kernel_rfl) (by kernel_rfl)))))))
def wf54 (x : S54) : Prop := (fun n : Int => (Lit.int .i64 n).wf = true) x.f0 ∧ (fun s : ByteArray => s.size ≤ maxLen) x.f1 ∧ wf46 x.f2
def lens54 (x : S54) : List Nat := (fun _ : Int => ([] : List Nat)) x.f0 ++ ((fun s : ByteArray => [s.size]) x.f1 ++ (lens46 x.f2))
def bulk54 (x : S54) : Nat := ((fun _ : Int => 1) x.f0 + ((fun s : ByteArray => s.size + 1) x.f1 + (bulk46 x.f2))) + 1
theorem opens54 : Opens Try.prog 54 k54 wf54 lens54 bulk54 :=
  opens_iso (fun a => ⟨a.1, a.2.1, a.2.2⟩) (fun _ => rfl) (opens_struct (n := 7) Try.underlying54 (by kernel_rfl) (opensL_cons (opens_int Try.underlying3) (by kernel_rfl) (opensL_cons (opens_string Try.underlying9) (by kernel_rfl) (opensL_last opens46 (by kernel_rfl) (by kernel_rfl)))))
end Go.Proofs.Ytdpogggajdfedaa.P
