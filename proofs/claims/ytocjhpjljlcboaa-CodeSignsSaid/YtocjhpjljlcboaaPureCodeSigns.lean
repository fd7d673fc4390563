/- CodeSigns: the bytes of any number with a sign are the document's, or it is refused; they are read again. No condition. -/
import Derived.Test.YtocjhpjljlcboaaMade
namespace Go.Proofs.Ytocjhpjljlcboaa.Pure
open Go.RowKit Go.Proofs.Ytocjhpjljlcboaa.Q Go.Proofs.YtocjhpjljlcboaaW.PrintWords Go.Proofs.YtocjhpjljlcboaaW.PrintLast Go.Proofs.Ytocjhpjljlcboaa.Spec

theorem CodeSigns : barquelaw01_CodeSigns.Pure := by
  intro n _
  refine ⟨61, ?_⟩
  unfold barquelaw01_CodeSigns.f
  rw [codeSigned 61 n (by decide), refSigned 61 n (by decide)]
  simp only [Option.bind_some]
  rw [if_pos trivial, bne_self_eq_false]
  simp only [barquelaw01_CodeSigns.j0, code_Read.f, Option.bind_some]
  rw [if_neg (by decide)]
  by_cases h : -2305843009213693952 ≤ n ∧ n ≤ 2305843009213693951
  · have e1 : signA n = (bs (numL (if n < 0 then -2 * n - 1 else 2 * n).toNat), 0) := by
      unfold signA numA
      rw [if_pos h, if_pos (by split <;> omega)]
    obtain ⟨m, hm⟩ := Int.eq_ofNat_of_zero_le (show 0 ≤ (if n < 0 then -2 * n - 1 else 2 * n) by split <;> omega)
    have hlt : m < 4611686018427387904 := by
      split at hm <;> omega
    have hb := sOf_back n h.1 h.2
    rw [hm] at e1 hb
    rw [e1, Int.toNat_natCast, if_pos rfl]
    have h9 := numL_le m
    have hs : Small (bs (numL m)) := by unfold Small; rw [bs_size]; omega
    rw [show (0 : Int) = ((0 : Nat) : Int) from rfl, codeRSigned 60 _ 0 _ hs (Nat.zero_le _) (by decide)]
    simp only [Option.bind_some]
    have er : rNum (bs (numL m)) 0 ((0 : Nat) : Int) = ((m : Int), (numL m).length, 0) := by
      have := rNum_numL m [] hlt
      rw [List.append_nil] at this
      exact this
    unfold rSigned
    rw [er]
    simp only
    rw [if_pos hb, codeREnd 60 _ _ 0 hs (by rw [bs_size]; exact Nat.le_refl _) (by decide)]
    simp only [Option.bind_some]
    have ee : rEnd (bs (numL m)) (numL m).length 0 = 0 := by
      unfold rEnd
      rw [if_neg (by rw [bs_size]; omega)]
    rw [ee, if_pos (show (0 : Int) = ((0 : Nat) : Int) from rfl), awake1 60 (by decide)]
    rfl
  · have e1 : signA n = (bs [], 2) := by
      unfold signA
      rw [if_neg h]
    rw [e1, if_neg (by simp), awake1 60 (by decide)]
    rfl

end Go.Proofs.Ytocjhpjljlcboaa.Pure
