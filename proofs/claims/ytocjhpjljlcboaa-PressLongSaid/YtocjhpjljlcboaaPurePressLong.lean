/- What is longer than 2^20 bytes is not pressed. -/
import Derived.Test.YtocjhpjljlcboaaQ12
import Derived.Test.YtocjhpjljlcboaaPLaw
namespace Go.Proofs.Ytocjhpjljlcboaa.Pure
open Go.RowKit Go.Proofs.Ytocjhpjljlcboaa.Q Go.Proofs.YtocjhpjljlcboaaW.PrintWords Go.Proofs.YtocjhpjljlcboaaW.PrintLast Go.Proofs.Ytocjhpjljlcboaa.Spec
open Go.Proofs.Ytocjhpjljlcboaa.Q.Press
theorem size_zeros (n : Nat) : (strOfNums (List.replicate n 0)).size = n := by
  rw [show (List.replicate n (0 : Int)) = (List.replicate n (0 : UInt8)).map (fun c => (c.toNat : Int)) by simp, strOfNums_bs, bs_size, List.length_replicate]
theorem PressLong : barquelaw08_PressLong.Pure := by
  intro a0 hw
  refine ⟨1, ?_⟩
  unfold barquelaw08_PressLong.f
  have long : ∀ s : ByteArray, 1048576 < s.size → press_Press.f s = some (bs [], 4) := by
    intro s hs
    unfold press_Press.f pressA
    rw [if_neg (by omega)]
  by_cases h1 : a0 < 1
  · rw [if_pos h1]
    simp only [barquelaw08_PressLong.j0]
    rw [if_pos trivial, awake8]
    rfl
  · rw [if_neg h1]
    simp only [barquelaw08_PressLong.j0]
    by_cases h9 : a0 > 9
    · rw [if_pos (decide_eq_true h9), awake8]
      rfl
    · rw [if_neg (by rw [decide_eq_true_eq]; exact h9), w64 (by omega) (by omega), if_pos (by omega), if_pos (by omega)]
      have hl := long (strOfNums (List.replicate (1048576 + a0).toNat 0)) (by rw [size_zeros]; omega)
      unfold press_Wrap.f
      rw [hl, awake8]
      simp only [Option.bind_some]
      rw [if_neg (by decide)]
      simp only [Option.bind_some]
      rw [if_pos trivial, if_pos trivial]
end Go.Proofs.Ytocjhpjljlcboaa.Pure
