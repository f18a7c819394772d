/- Any acceptor promises and takes just as the chapter says, or refuses: the plain statement. -/
import Derived.Test.YtocgbfcjmgpleaaKinds
import Derived.Test.YtocgbfcjmgpleaaPlain
import Derived.Test.YtocgbfcjmgpleaaPx9
namespace Go.Proofs.Ytocgbfcjmgpleaa.P
open Go.RowKit Go.Proofs.YtocgbfcjmgpleaaW.PrintWords
set_option linter.unusedVariables false
def carillonlaw10_AcceptorDoes.Pure : Prop := ∀ (x0 : S25) (x1 : S23) (x2 : S23) (x3 : ByteArray), wf25 x0 → (∀ n ∈ lens25 x0, n ≤ 140737488351232) → wf23 x1 → (∀ n ∈ lens23 x1, n ≤ 140737488351232) → wf23 x2 → (∀ n ∈ lens23 x2, n ≤ 140737488351232) → x3.size ≤ 140737488351232 → carillonlaw10_AcceptorDoes.f (x0.f0.f0) (x0.f0.f1) (x0.f1.f0) (x0.f1.f1) (x0.f2) (x1.f0) (x1.f1) (x2.f0) (x2.f1) x3 = some true
theorem AcceptorDoes : carillonlaw10_AcceptorDoes.Pure := by
  intro x0 x1 x2 x3 _ _ _ _ _ _ _
  unfold carillonlaw10_AcceptorDoes.f carillonlaw10_examples.f
  simp only [prep_is, rprep_is, take_is, rtake_is, right_is, rright_is, less_is, rless_is, Option.bind_some]
  simp
end Go.Proofs.Ytocgbfcjmgpleaa.P
