/- CodeTexts: a text's bytes are the document's, and are read again with whatever stands behind them. No condition. -/
import Derived.Test.YtocjhpjljlcboaaMade
namespace Go.Proofs.Ytocjhpjljlcboaa.Pure
open Go.RowKit Go.Proofs.Ytocjhpjljlcboaa.Q Go.Proofs.YtocjhpjljlcboaaW.PrintWords Go.Proofs.YtocjhpjljlcboaaW.PrintLast Go.Proofs.Ytocjhpjljlcboaa.Spec

theorem CodeTexts : barquelaw01_CodeTexts.Pure := by
  intro s b hs hb
  refine ⟨61, ?_⟩
  unfold barquelaw01_CodeTexts.f
  rw [codeText 61 s (by decide), refText 61 s (by decide)]
  simp only [Option.bind_some]
  rw [if_pos trivial, bne_self_eq_false]
  simp only [barquelaw01_CodeTexts.j0, code_Read.f, Option.bind_some]
  have h9 := numL_le s.size
  have hsz : (textA s).1.size + b.size ≤ 1000000000000000 := by
    unfold textA
    split
    · simp only [ByteArray.size_append, bs_size]
      omega
    · simp only [bs_size, List.length_nil]
      omega
  rw [if_neg (by decide), if_pos (by omega)]
  by_cases h : s.size ≤ 1048576
  · have e1 : textA s = (bs (numL s.size) ++ s, 0) := by
      unfold textA
      rw [if_pos h]
    rw [e1] at hsz
    rw [e1, if_pos rfl]
    simp only at hsz ⊢
    have e2 : bs (numL s.size) ++ s ++ b = bs (numL s.size ++ s.data.toList ++ b.data.toList) := by
      rw [← bs_append, ← bs_append, bs_data, bs_data]
    have hs : Small (bs (numL s.size) ++ s ++ b) := by
      unfold Small
      rw [ByteArray.size_append]
      omega
    rw [show (0 : Int) = ((0 : Nat) : Int) from rfl, codeRText 60 _ 0 _ _ hs (Nat.zero_le _) (by decide)]
    simp only [Option.bind_some]
    have er : rText (bs (numL s.size) ++ s ++ b) 0 ((0 : Nat) : Int) (s.size : Int) = (s, (numL s.size).length + s.size, 0) := by
      rw [e2]
      exact rText_made s b.data.toList s.size h (Int.le_refl _)
    rw [er]
    simp only [code_Reader_Left.f, code_Reader_Err.f, Option.bind_some]
    rw [if_pos trivial, if_pos (by rw [ByteArray.size_append, ByteArray.size_append, bs_size, w64 (by omega) (by omega)]; omega), if_pos (by simp), awake1 60 (by decide)]
    rfl
  · have e1 : textA s = (bs [], 4) := by
      unfold textA
      rw [if_neg h]
    rw [e1, if_neg (by simp), awake1 60 (by decide)]
    rfl

end Go.Proofs.Ytocjhpjljlcboaa.Pure
