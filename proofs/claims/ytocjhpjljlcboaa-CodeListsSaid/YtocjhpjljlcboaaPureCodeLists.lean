/- Lists of numbers and of texts are made as the reference makes them. -/
import Derived.Test.YtocjhpjljlcboaaVCodeLists
import Derived.Test.YtocjhpjljlcboaaCLists
namespace Go.Proofs.Ytocjhpjljlcboaa.Pure
open Go.RowKit Go.Proofs.Ytocjhpjljlcboaa.Q Go.Proofs.YtocjhpjljlcboaaW.PrintWords Go.Proofs.YtocjhpjljlcboaaW.PrintLast Go.Proofs.Ytocjhpjljlcboaa.Spec
theorem CodeLists (l0 : List Int) (l1 : List ByteArray) : ∃ k, barquelaw01_CodeLists.f k l0 l1 = some true := by
  refine ⟨3000 + 1, ?_⟩
  unfold barquelaw01_CodeLists.f
  by_cases h : (l0.length : Int) > 2000
  · rw [if_pos h]
    simp only [barquelaw01_CodeLists.j0]
    rw [if_pos trivial, awake1 3000 (by decide)]
    rfl
  · rw [if_neg h]
    simp only [barquelaw01_CodeLists.j0]
    rw [awake1 3000 (by decide)]
    by_cases h2 : (l1.length : Int) > 2000
    · rw [if_pos (decide_eq_true h2)]
      rfl
    · rw [if_neg (by rw [decide_eq_true_eq]; exact h2), codeNumsA 3000 l0 (by decide), refNumsA 3000 l0 (by omega) (by omega), codeTextsA 3000 l1 (by decide), refTextsA 3000 l1 (by omega) (by omega)]
      simp only [Option.bind_some]
      rw [if_pos trivial, if_pos trivial, if_pos trivial, if_pos trivial]
end Go.Proofs.Ytocjhpjljlcboaa.Pure
