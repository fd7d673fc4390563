/- What is read is what would be made. -/
import Derived.Test.YtocjhpjljlcboaaVCodeCanon
import Derived.Test.YtocjhpjljlcboaaCLists
namespace Go.Proofs.Ytocjhpjljlcboaa.Pure
open Go.RowKit Go.Proofs.Ytocjhpjljlcboaa.Q Go.Proofs.YtocjhpjljlcboaaW.PrintWords Go.Proofs.YtocjhpjljlcboaaW.PrintLast Go.Proofs.Ytocjhpjljlcboaa.Spec
theorem left_in (s : ByteArray) (q : Nat) (hs : s.size ≤ 4000) (hq : q ≤ s.size) : wrap64 ((s.size : Int) - wrap64 ((s.size : Int) - (q : Int))) = (q : Int) := by
  rw [w64 (n := (s.size : Int) - (q : Int)) (by omega) (by omega), w64 (by omega) (by omega)]
  omega
theorem canon_j2 (K : Nat) (s : ByteArray) (hs : s.size ≤ 4000) (hK : 5000 ≤ K) : barquelaw01_CodeCanon.j2 (K + 1) s false = some true := by
  have hsm : Small s := by unfold Small; omega
  simp only [barquelaw01_CodeCanon.j2, code_Read.f, code_Reader_Err.f, code_Reader_Left.f]
  rw [if_neg (by decide)]
  simp only [Option.bind_some]
  rw [show code_Reader_Texts.f K s 0 0 4000 4000 = _ from codeRTexts K s 0 0 4000 4000 hsm (by omega) (Nat.zero_le _) (by omega), awake1 K (by omega)]
  simp only [Option.bind_some]
  have hle := rTexts_le s 0 0 4000 4000 (Nat.zero_le _)
  have hc := rTexts_canon s 4000 4000 (by decide) (by decide)
  generalize rTexts s 0 0 4000 4000 = r at hle hc
  rw [codeTextsA K r.1 (by omega)]
  simp only [Option.bind_some]
  rw [left_in s r.2.1 hs hle]
  by_cases he : r.2.2 = 0
  · rw [if_pos he, if_pos (by omega), if_pos (by omega), show ((r.2.1 : Nat) : Int).toNat = r.2.1 by omega, hc he, if_pos rfl]
  · rw [if_neg he]
theorem canon_j1 (K : Nat) (s : ByteArray) (hs : s.size ≤ 4000) (hK : 5001 ≤ K) : barquelaw01_CodeCanon.j1 (K + 1) s false = some true := by
  have hsm : Small s := by unfold Small; omega
  obtain ⟨K, rfl⟩ : ∃ m, K = m + 1 := ⟨K - 1, by omega⟩
  simp only [barquelaw01_CodeCanon.j1, code_Read.f, code_Reader_Err.f, code_Reader_Left.f]
  rw [if_neg (by decide)]
  simp only [Option.bind_some]
  rw [show code_Reader_Nums.f (K + 1) s 0 0 4000 = _ from codeRNums (K + 1) s 0 0 4000 hsm (by omega) (Nat.zero_le _) (by omega)]
  simp only [Option.bind_some]
  have hle := rNums_le s 0 0 4000 (Nat.zero_le _)
  have hc := rNums_canon s 4000 (by decide)
  generalize rNums s 0 0 4000 = r at hle hc
  rw [codeNumsA (K + 1) r.1 (by omega)]
  simp only [Option.bind_some]
  rw [left_in s r.2.1 hs hle]
  by_cases he : r.2.2 = 0
  · rw [if_pos he, if_pos (by omega), if_pos (by omega), show ((r.2.1 : Nat) : Int).toNat = r.2.1 by omega, hc he, show ((s.extract 0 r.2.1).toList != (s.extract 0 r.2.1).toList) = false from bne_self_eq_false _]
    exact canon_j2 K s hs (by omega)
  · rw [if_neg he]
    exact canon_j2 K s hs (by omega)
theorem canon_j0 (K : Nat) (s : ByteArray) (hs : s.size ≤ 4000) (hK : 5002 ≤ K) : barquelaw01_CodeCanon.j0 (K + 1) s = some true := by
  have hsm : Small s := by unfold Small; omega
  obtain ⟨K, rfl⟩ : ∃ m, K = m + 1 := ⟨K - 1, by omega⟩
  simp only [barquelaw01_CodeCanon.j0, code_Read.f, code_Reader_Err.f, code_Reader_Left.f]
  simp only [Option.bind_some]
  rw [show code_Reader_Num.f (K + 1) s 0 0 = _ from codeRNum (K + 1) s 0 0 hsm (Nat.zero_le _) (by omega)]
  simp only [Option.bind_some]
  have hle := rNum_le s 0 0 (Nat.zero_le _)
  have hc := num_canon s 0
  generalize rNum s 0 0 = r at hle hc
  rw [codeNum (K + 1) r.1 (by omega)]
  simp only [Option.bind_some]
  rw [left_in s r.2.1 hs hle]
  by_cases he : r.2.2 = 0
  · rw [if_pos he, if_pos (by omega), if_pos (by omega), show ((r.2.1 : Nat) : Int).toNat = r.2.1 by omega, hc he, show ((s.extract 0 r.2.1).toList != (s.extract 0 r.2.1).toList) = false from bne_self_eq_false _]
    exact canon_j1 K s hs (by omega)
  · rw [if_neg he]
    exact canon_j1 K s hs (by omega)
theorem CodeCanon : barquelaw01_CodeCanon.Pure := by
  intro a0 _
  refine ⟨5100 + 1, ?_⟩
  unfold barquelaw01_CodeCanon.f
  by_cases h : (a0.size : Int) > 4000
  · rw [if_pos h, if_pos (by decide), if_pos (by omega)]
    exact canon_j0 5100 _ (by rw [ByteArray.size_extract]; omega) (by decide)
  · rw [if_neg h]
    exact canon_j0 5100 a0 (by omega) (by decide)
end Go.Proofs.Ytocjhpjljlcboaa.Pure
