/- A text twice costs little more than the text. -/
import Derived.Test.YtocjhpjljlcboaaTwice
import Derived.Test.YtocjhpjljlcboaaPLaw
import Derived.Test.YtocjhpjljlcboaaPBound
import Derived.Test.YtocjhpjljlcboaaSums
namespace Go.Proofs.Ytocjhpjljlcboaa.Pure
open Go.RowKit Go.Proofs.Ytocjhpjljlcboaa.Q Go.Proofs.YtocjhpjljlcboaaW.PrintWords Go.Proofs.YtocjhpjljlcboaaW.PrintLast Go.Proofs.Ytocjhpjljlcboaa.Spec
open Go.Proofs.Ytocjhpjljlcboaa.Q.Press
theorem PressTwice : barquelaw08_PressTwice.Pure := by
  intro a0 _
  obtain ⟨t, ht, hz⟩ := cut_is a0 4000
  refine ⟨1048580 * 400, ?_⟩
  generalize hK : 1048580 * 400 = K
  unfold barquelaw08_PressTwice.f
  rw [show barquelaw08_cut.f a0 4000 = some t from ht, awake8]
  simp only [Option.bind_some]
  by_cases h4 : (t.size : Int) < 4
  · rw [if_pos h4]
  · have hsz : (t ++ t).size = t.size + t.size := ByteArray.size_append
    have hc := pressL_twice t (by omega) (by omega)
    rw [if_neg h4, if_pos (by omega), pressA_in (t ++ t) (by omega)]
    simp only [Option.bind_some]
    rw [codeLoose (bs (pressL (t ++ t))) (by unfold Small; rw [bs_size]; omega) K 400 (Nat.le_refl _) (Nat.le_of_eq hK), looseA_pressL (t ++ t) (by omega)]
    simp only [Option.bind_some]
    rw [if_pos trivial, if_pos trivial, if_pos trivial, if_pos]
    rw [sum259 t.size (by omega), bs_size]
    generalize t.size / 64 = q at hc
    generalize t.size / 259 = q2 at hc
    omega
end Go.Proofs.Ytocjhpjljlcboaa.Pure
