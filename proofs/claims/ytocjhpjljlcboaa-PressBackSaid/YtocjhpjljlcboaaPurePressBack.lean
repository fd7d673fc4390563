/- What is pressed, or wrapped, comes out again. -/
import Derived.Test.YtocjhpjljlcboaaVPressBack
import Derived.Test.YtocjhpjljlcboaaPLaw
import Derived.Test.YtocjhpjljlcboaaPBound
import Derived.Test.YtocjhpjljlcboaaPOpen
namespace Go.Proofs.Ytocjhpjljlcboaa.Pure
open Go.RowKit Go.Proofs.Ytocjhpjljlcboaa.Q Go.Proofs.YtocjhpjljlcboaaW.PrintWords Go.Proofs.YtocjhpjljlcboaaW.PrintLast Go.Proofs.Ytocjhpjljlcboaa.Spec
open Go.Proofs.Ytocjhpjljlcboaa.Q.Press
theorem PressBack : barquelaw08_PressBack.Pure := by
  intro a0 _
  obtain ⟨t, ht, hz⟩ := cut_is a0 20000
  refine ⟨1048580 * 400, ?_⟩
  generalize hK : 1048580 * 400 = K
  have hc := pressL_cost t (by omega)
  have hs : Small (bs (pressL t)) := by unfold Small; rw [bs_size]; omega
  unfold barquelaw08_PressBack.f press_Wrap.f
  rw [show barquelaw08_cut.f a0 20000 = some t from ht]
  simp only [Option.bind_some]
  rw [pressA_in t (by omega), awake8]
  simp only [Option.bind_some]
  rw [codeLoose _ hs K 400 (Nat.le_refl _) (Nat.le_of_eq hK), looseA_pressL t (by omega)]
  simp only [Option.bind_some]
  rw [if_pos trivial]
  by_cases h : ((bs (pressL t)).size : Int) < (t.size : Int)
  · rw [if_pos h, if_pos (by omega)]
    simp only [Option.bind_some]
    rw [codeOpen _ K 400 (by unfold Small; rw [ByteArray.size_append, bs_size]; have : (⟨#[90]⟩ : ByteArray).size = 1 := rfl; omega) (Nat.le_refl _) (Nat.le_of_eq hK), openA_pressed, looseA_pressL t (by omega)]
    simp only [Option.bind_some]
    rw [if_pos trivial, if_pos trivial, if_pos trivial, if_pos trivial, if_pos trivial, if_pos trivial]
  · rw [if_neg h, if_pos (by omega)]
    simp only [Option.bind_some]
    rw [codeOpen _ K 400 (by unfold Small; rw [ByteArray.size_append]; have : (⟨#[82]⟩ : ByteArray).size = 1 := rfl; omega) (Nat.le_refl _) (Nat.le_of_eq hK), openA_raw]
    simp only [Option.bind_some]
    rw [if_pos trivial, if_pos trivial, if_pos trivial, if_pos trivial, if_pos trivial, if_pos trivial]
end Go.Proofs.Ytocjhpjljlcboaa.Pure
