/- Press says what the reference's Press says. -/
import Derived.Test.YtocjhpjljlcboaaQ11
import Derived.Test.YtocjhpjljlcboaaPLaw
namespace Go.Proofs.Ytocjhpjljlcboaa.Pure
open Go.RowKit Go.Proofs.Ytocjhpjljlcboaa.Q Go.Proofs.YtocjhpjljlcboaaW.PrintWords Go.Proofs.YtocjhpjljlcboaaW.PrintLast Go.Proofs.Ytocjhpjljlcboaa.Spec
open Go.Proofs.Ytocjhpjljlcboaa.Q.Press
theorem PressPresses : barquelaw08_PressPresses.Pure := by
  intro a0 _
  obtain ⟨t, ht, hz⟩ := cut_is a0 1200
  refine ⟨(t.size + 2) * (2 * t.size + 400) + 20, ?_⟩
  unfold barquelaw08_PressPresses.f
  rw [show barquelaw08_cut.f a0 1200 = some t from ht]
  simp only [Option.bind_some]
  rw [refPress t _ (Nat.le_refl _), pressA_in t (by omega), awake8]
  unfold pressA
  rw [if_pos (by omega)]
  simp only [Option.bind_some]
  rw [if_pos trivial, if_pos trivial]
end Go.Proofs.Ytocjhpjljlcboaa.Pure
