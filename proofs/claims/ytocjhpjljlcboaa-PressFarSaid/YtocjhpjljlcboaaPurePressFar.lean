/- Press says what the reference's Press says, where a text comes again as far back as a copy reaches, and farther. -/
import Derived.Test.YtocjhpjljlcboaaFar
import Derived.Test.YtocjhpjljlcboaaPLaw
import Derived.Test.YtocjhpjljlcboaaPRef
namespace Go.Proofs.Ytocjhpjljlcboaa.Pure
open Go.RowKit Go.Proofs.Ytocjhpjljlcboaa.Q Go.Proofs.YtocjhpjljlcboaaW.PrintWords Go.Proofs.YtocjhpjljlcboaaW.PrintLast Go.Proofs.Ytocjhpjljlcboaa.Spec
open Go.Proofs.Ytocjhpjljlcboaa.Q.Press
theorem strOfNums_size (l : List Int) : (strOfNums l).size = l.length := by
  simp [strOfNums, ByteArray.size]
theorem far_l0 (a0 a1 : Int) (h4 : a0 ≤ 4200) (K : Nat) (hK : 10000 * 20000 ≤ K) : ∀ (d k i : Nat) (x : List Int), (i : Int) + d = a0 → d + K + 1 ≤ k → x.length = 16 + i → barquelaw08_PressFar.l0 k a0 a1 x (i : Int) = some true := by
  intro d
  induction d with
  | zero =>
    intro k i x hi hk hx
    obtain ⟨k, rfl⟩ : ∃ q, k = q + 1 := ⟨k - 1, by omega⟩
    simp only [barquelaw08_PressFar.l0]
    rw [if_neg (by omega), if_pos (by omega)]
    simp only [Option.bind_some]
    have hz : (strOfNums x ++ strOfNums (x.take 16)).size ≤ 5000 := by
      rw [ByteArray.size_append, strOfNums_size, strOfNums_size, List.length_take]
      omega
    have hz1 : (strOfNums x).size + (strOfNums (x.take 16)).size ≤ 9223372036854775807 := by
      rw [strOfNums_size, strOfNums_size, List.length_take]
      omega
    rw [if_pos hz1]
    generalize strOfNums x ++ strOfNums (x.take 16) = t at hz
    have hKt : (t.size + 2) * (2 * t.size + 400) + 20 ≤ k := by
      have h1 : (t.size + 2) * (2 * t.size + 400) ≤ 5002 * 10400 := Nat.mul_le_mul (by omega) (by omega)
      have h2 : 5002 * 10400 + 20 ≤ K := Nat.le_trans (by decide) hK
      have h3 : K ≤ k := by clear h1 h2 hK; omega
      exact Nat.le_trans (Nat.add_le_add_right h1 20) (Nat.le_trans h2 h3)
    rw [refPress t k hKt, pressA_in t (by omega), awake8]
    unfold pressA
    rw [if_pos (by omega)]
    simp only [Option.bind_some]
    rw [if_pos trivial, if_pos trivial]
  | succ d ih =>
    intro k i x hi hk hx
    obtain ⟨k, rfl⟩ : ∃ q, k = q + 1 := ⟨k - 1, by omega⟩
    simp only [barquelaw08_PressFar.l0]
    rw [if_pos (by omega), if_pos (by omega), w64 (by omega) (by omega), show (i : Int) + 1 = ((i + 1 : Nat) : Int) by omega]
    exact ih k (i + 1) _ (by omega) (by omega) (by rw [List.length_append, List.length_singleton]; omega)
theorem PressFar : barquelaw08_PressFar.Pure := by
  intro a0 a1 _ _
  generalize hK : 10000 * 20000 = K
  refine ⟨K + 10000 + 1, ?_⟩
  have hj : barquelaw08_PressFar.j0 (K + 10000 + 1) a0 a1 true = some true := by
    simp only [barquelaw08_PressFar.j0]
    rw [if_pos trivial, awake8]
    rfl
  unfold barquelaw08_PressFar.f
  by_cases h1 : a0 < 4000
  · rw [if_pos h1, hj]
  · rw [if_neg h1]
    by_cases h2 : a0 > 4200
    · rw [decide_eq_true h2, hj]
    · rw [decide_eq_false h2]
      simp only [barquelaw08_PressFar.j0]
      rw [if_neg (by decide)]
      exact far_l0 a0 a1 (by omega) K (Nat.le_of_eq hK) a0.toNat (K + 10000) 0 _ (by omega) (by omega) rfl
end Go.Proofs.Ytocjhpjljlcboaa.Pure
