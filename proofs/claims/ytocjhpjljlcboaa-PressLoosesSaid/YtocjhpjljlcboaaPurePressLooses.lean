/- Loose says what the reference's Loose says. -/
import Derived.Test.YtocjhpjljlcboaaVPressLooses
import Derived.Test.YtocjhpjljlcboaaPLaw
import Derived.Test.YtocjhpjljlcboaaPLooseR
namespace Go.Proofs.Ytocjhpjljlcboaa.Pure
open Go.RowKit Go.Proofs.Ytocjhpjljlcboaa.Q Go.Proofs.YtocjhpjljlcboaaW.PrintWords Go.Proofs.YtocjhpjljlcboaaW.PrintLast Go.Proofs.Ytocjhpjljlcboaa.Spec
open Go.Proofs.Ytocjhpjljlcboaa.Q.Press
theorem PressLooses : barquelaw08_PressLooses.Pure := by
  intro a0 _
  obtain ⟨t, ht, hz⟩ := cut_is a0 3000
  refine ⟨1048580 * 400 + 1, ?_⟩
  generalize hK : 1048580 * 400 = K
  have hj : ∀ b, barquelaw08_PressLooses.j0 (K + 1) t b = some true := by
    intro b
    simp only [barquelaw08_PressLooses.j0]
    rw [awake8]
    cases b with
    | true => rfl
    | false =>
      rw [if_neg (by decide), codeLoose t (by unfold Small; omega) K 400 (Nat.le_refl _) (Nat.le_of_eq hK), refLoose t (by unfold Small; omega) K 400 (Nat.le_refl _) (Nat.le_of_eq hK)]
      simp only [Option.bind_some]
      rw [if_pos trivial, if_pos trivial]
  unfold barquelaw08_PressLooses.f
  rw [show barquelaw08_cut.f a0 3000 = some t from ht]
  simp only [Option.bind_some, hj]
  by_cases h : (t.size : Int) > 2
  · rw [if_pos h]
    repeat' split
    all_goals first | rfl | omega
  · rw [if_neg h]
end Go.Proofs.Ytocjhpjljlcboaa.Pure
