/- Wrap says the shorter of the two forms, over what the reference's Press says. -/
import Derived.Test.YtocjhpjljlcboaaQ11
import Derived.Test.YtocjhpjljlcboaaPLaw
namespace Go.Proofs.Ytocjhpjljlcboaa.Pure
open Go.RowKit Go.Proofs.Ytocjhpjljlcboaa.Q Go.Proofs.YtocjhpjljlcboaaW.PrintWords Go.Proofs.YtocjhpjljlcboaaW.PrintLast Go.Proofs.Ytocjhpjljlcboaa.Spec
open Go.Proofs.Ytocjhpjljlcboaa.Q.Press
theorem PressWraps : barquelaw08_PressWraps.Pure := by
  intro a0 _
  obtain ⟨t, ht, hz⟩ := cut_is a0 1200
  refine ⟨(t.size + 2) * (2 * t.size + 400) + 20, ?_⟩
  unfold barquelaw08_PressWraps.f press_Wrap.f
  rw [show barquelaw08_cut.f a0 1200 = some t from ht]
  simp only [Option.bind_some]
  rw [refPress t _ (Nat.le_refl _), pressA_in t (by omega), awake8]
  unfold pressA
  rw [if_pos (show t.size ≤ 1048576 by omega)]
  simp only [Option.bind_some]
  rw [if_pos trivial]
  by_cases h : ((bs (pressL t)).size : Int) < (t.size : Int)
  · rw [if_pos h, if_pos (by omega)]
    simp only [Option.bind_some]
    rw [if_pos (by omega), if_pos h, if_pos (by omega), if_pos trivial, if_pos trivial, if_pos trivial]
  · rw [if_neg h, if_pos (by omega)]
    simp only [Option.bind_some]
    rw [if_pos (by omega), if_neg h, if_pos trivial, if_pos trivial, if_pos trivial]
end Go.Proofs.Ytocjhpjljlcboaa.Pure
