/- Open says what the document says. -/
import Derived.Test.YtocjhpjljlcboaaVPressOpens
import Derived.Test.YtocjhpjljlcboaaPLaw
import Derived.Test.YtocjhpjljlcboaaPLooseR
import Derived.Test.YtocjhpjljlcboaaPOpen
namespace Go.Proofs.Ytocjhpjljlcboaa.Pure
open Go.RowKit Go.Proofs.Ytocjhpjljlcboaa.Q Go.Proofs.YtocjhpjljlcboaaW.PrintWords Go.Proofs.YtocjhpjljlcboaaW.PrintLast Go.Proofs.Ytocjhpjljlcboaa.Spec
open Go.Proofs.Ytocjhpjljlcboaa.Q.Press
theorem PressOpens : barquelaw08_PressOpens.Pure := by
  intro a0 _
  obtain ⟨t, ht, hz⟩ := cut_is a0 3000
  refine ⟨1048580 * 400 + 1, ?_⟩
  generalize hK : 1048580 * 400 = K
  have hx : (t.extract 1 t.size).size ≤ 3000 := by rw [ByteArray.size_extract]; omega
  have hj : ∀ b, barquelaw08_PressOpens.j0 (K + 1) t b = some true := by
    intro b
    simp only [barquelaw08_PressOpens.j0]
    rw [awake8]
    cases b with
    | true => rfl
    | false =>
      rw [if_neg (by decide), codeOpen t K 400 (by unfold Small; omega) (Nat.le_refl _) (Nat.le_of_eq hK)]
      simp only [Option.bind_some]
      rw [refLoose _ (by unfold Small; omega) K 400 (Nat.le_refl _) (Nat.le_of_eq hK)]
      simp only [Option.bind_some]
      unfold openA
      by_cases h0 : t.toList = []
      · rw [if_pos h0, if_pos h0, if_pos (bs_toList []), if_pos rfl]
      · have hp : 0 < t.size := by
          rcases Nat.eq_zero_or_pos t.size with h | h
          · refine absurd ?_ h0
            rw [Lib.toList_data]
            exact List.eq_nil_of_length_eq_zero (by rw [data_len]; exact h)
          · exact h
        rw [if_neg h0, if_neg h0, if_pos (by omega)]
        by_cases h1 : bt t 0 = 82
        · rw [if_pos h1, if_pos h1, if_pos (by omega), if_pos rfl, if_pos rfl]
        · rw [if_neg h1, if_neg h1]
          by_cases h2 : bt t 0 = 90
          · rw [if_pos h2, if_pos h2, if_pos (by omega), if_pos rfl, if_pos rfl]
          · rw [if_neg h2, if_neg h2, if_pos (bs_toList []), if_pos rfl]
  unfold barquelaw08_PressOpens.f
  rw [show barquelaw08_cut.f a0 3000 = some t from ht]
  simp only [Option.bind_some, hj]
  by_cases h : (t.size : Int) > 3
  · rw [if_pos h]
    repeat' split
    all_goals first | rfl | omega
  · rw [if_neg h]
end Go.Proofs.Ytocjhpjljlcboaa.Pure
