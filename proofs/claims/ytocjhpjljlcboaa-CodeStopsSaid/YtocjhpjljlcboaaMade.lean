/- What is made (numbers, numbers with a sign, texts) and chapter 1's first example. -/
import Derived.Test.YtocjhpjljlcboaaRead
import Derived.Lib.Strings
namespace Go.Proofs.Ytocjhpjljlcboaa.Spec
open Go.RowKit Go.Proofs.Ytocjhpjljlcboaa.Q Go.Proofs.YtocjhpjljlcboaaW.PrintWords Go.Proofs.YtocjhpjljlcboaaW.PrintLast Go.Proofs.YtocjhpjljlcboaaW.PrintMore

theorem bs_toList (l : List UInt8) : (bs l).toList = l := by
  rw [Lib.toList_data]
  rfl
theorem toList_inj {s t : ByteArray} (h : s.toList = t.toList) : s = t := by
  rw [Lib.toList_data, Lib.toList_data] at h
  rw [← bs_data s, ← bs_data t, h]
theorem bs_rest (l : List UInt8) (p : Nat) : rest (bs l) p = l.drop p := rfl

/-- Chapter 1's first example. -/
theorem awake1 (k : Nat) (hk : 60 ≤ k) : barquelaw01_awake.f k = some true := by
  unfold barquelaw01_awake.f
  rw [show (300 : Int) = ((300 : Nat) : Int) from rfl, codeNum_in k 300 (by decide) (by omega)]
  simp only [Option.bind_some, code_Read.f]
  have e : numL 300 = [172, 2] := by decide
  rw [e, if_pos (bs_toList _), if_pos trivial]
  have hs : Small (bs [172, 2]) := by unfold Small; rw [bs_size]; decide
  rw [show (0 : Int) = ((0 : Nat) : Int) from rfl, codeRNum k _ 0 _ hs (Nat.zero_le _) (by omega)]
  simp only [Option.bind_some]
  have er : rNum (bs [172, 2]) 0 ((0 : Nat) : Int) = (300, 2, 0) := by
    unfold rNum
    rw [if_pos (show ((0 : Nat) : Int) = 0 from rfl), bs_rest]
    decide
  rw [er]
  simp only
  rw [if_pos (by decide), codeREnd k _ 2 0 hs (by rw [bs_size]; decide) (by omega)]
  simp only [Option.bind_some]
  have ee : rEnd (bs [172, 2]) 2 0 = 0 := by
    unfold rEnd
    rw [if_neg (by rw [bs_size]; decide)]
  rw [ee]
  rfl

/-! ### Signed -/
def signA (n : Int) : ByteArray × Int := if -2305843009213693952 ≤ n ∧ n ≤ 2305843009213693951 then numA (if n < 0 then -2 * n - 1 else 2 * n) else (bs [], 2)
theorem codeSigned (k : Nat) (n : Int) (hk : 13 ≤ k) : code_Signed.f k n = some (signA n) := by
  obtain ⟨k, rfl⟩ : ∃ m, k = m + 1 := ⟨k - 1, by omega⟩
  unfold code_Signed.f signA
  by_cases h1 : n < -2305843009213693952
  · rw [if_pos h1, if_neg (by omega)]
    rfl
  · rw [if_neg h1]
    by_cases h2 : n > 2305843009213693951
    · rw [if_neg (by omega)]
      simp only [code_Signed.j0]
      rw [if_pos (by simpa using h2)]
      rfl
    · rw [if_pos (by omega)]
      simp only [code_Signed.j0]
      rw [if_neg (by simpa using h2)]
      by_cases h3 : n < 0
      · rw [if_pos h3, if_pos h3, w64 (n := -2 * n) (by omega) (by omega), w64 (by omega) (by omega), codeNum k _ (by omega)]
        rfl
      · rw [if_neg h3, if_neg h3, w64 (by omega) (by omega), codeNum k _ (by omega)]
        rfl
theorem refSigned (k : Nat) (n : Int) (hk : 13 ≤ k) : barqueref01_Signed.f k n = some (signA n) := by
  obtain ⟨k, rfl⟩ : ∃ m, k = m + 1 := ⟨k - 1, by omega⟩
  unfold barqueref01_Signed.f signA
  by_cases h1 : n < -2305843009213693952
  · rw [if_pos h1, if_neg (by omega)]
    rfl
  · rw [if_neg h1]
    by_cases h2 : n > 2305843009213693951
    · rw [if_neg (by omega)]
      simp only [barqueref01_Signed.j0]
      rw [if_pos (by simpa using h2)]
      rfl
    · rw [if_pos (by omega)]
      simp only [barqueref01_Signed.j0]
      rw [if_neg (by simpa using h2)]
      by_cases h3 : n < 0
      · rw [if_pos h3, if_pos h3, w64 (n := 2 * n) (by omega) (by omega), w64 (n := -(2 * n)) (by omega) (by omega), w64 (by omega) (by omega), show -(2 * n) - 1 = -2 * n - 1 by omega, refNum k _ (by omega)]
        rfl
      · rw [if_neg h3, if_neg h3, w64 (by omega) (by omega), refNum k _ (by omega)]
        rfl
theorem sOf_back (n : Int) (h1 : -2305843009213693952 ≤ n) (h2 : n ≤ 2305843009213693951) : sOf (if n < 0 then -2 * n - 1 else 2 * n) = n := by
  unfold sOf
  split <;> split <;> omega
theorem rNum_numL (n : Nat) (t : List UInt8) (hn : n < 4611686018427387904) : rNum (bs (numL n ++ t)) 0 0 = ((n : Int), (numL n).length, 0) := by
  unfold rNum
  rw [if_pos rfl, bs_rest, List.drop_zero, getL_numL n t hn]
  simp

/-! ### Text -/
def textA (s : ByteArray) : ByteArray × Int := if s.size ≤ 1048576 then (bs (numL s.size) ++ s, 0) else (bs [], 4)
theorem codeText (k : Nat) (s : ByteArray) (hk : 13 ≤ k) : code_Text.f k s = some (textA s) := by
  unfold code_Text.f textA
  by_cases h : s.size ≤ 1048576
  · have h9 := numL_le s.size
    rw [if_pos h, if_neg (by omega), codeNum_in k s.size (by omega) (by omega)]
    simp only [Option.bind_some]
    rw [if_pos (by rw [bs_size]; omega)]
  · rw [if_neg h, if_pos (by omega)]
    rfl
theorem refBytes (k : Nat) (n : Int) (hk : 13 ≤ k) : barqueref01_Bytes.f k n = some (numA n).1 := by
  unfold barqueref01_Bytes.f
  rw [refNum k n (by omega)]
  rfl
theorem refBytes_in (k : Nat) (n : Nat) (hn : n < 4611686018427387904) (hk : 13 ≤ k) : barqueref01_Bytes.f k (n : Int) = some (bs (numL n)) := by
  unfold barqueref01_Bytes.f
  rw [refNum_in k n hn (by omega)]
  rfl
theorem refText (k : Nat) (s : ByteArray) (hk : 13 ≤ k) : barqueref01_Text.f k s = some (textA s) := by
  unfold barqueref01_Text.f textA
  by_cases h : s.size ≤ 1048576
  · have h9 := numL_le s.size
    rw [if_pos h, if_neg (by omega), refBytes_in k s.size (by omega) (by omega)]
    simp only [Option.bind_some]
    rw [if_pos (by rw [bs_size]; omega)]
  · rw [if_neg h, if_pos (by omega)]
    rfl
theorem data_len (s : ByteArray) : s.data.toList.length = s.size := by
  rw [Array.length_toList]
  rfl
theorem extract_mid (a b : List UInt8) (c : List UInt8) : (bs (a ++ b ++ c)).extract a.length (a.length + b.length) = bs b := by
  apply ByteArray.ext
  simp [bs, ByteArray.data_extract]
/-- A text that was made is read again. -/
theorem rText_made (s : ByteArray) (t : List UInt8) (most : Int) (hs : s.size ≤ 1048576) (hm : (s.size : Int) ≤ most) : rText (bs (numL s.size ++ s.data.toList ++ t)) 0 0 most = (s, (numL s.size).length + s.size, 0) := by
  unfold rText rCount
  rw [List.append_assoc, rNum_numL s.size _ (by omega), if_neg (by simp; omega)]
  unfold rRaw
  simp only
  rw [if_neg (by simp), if_neg (by omega), if_neg (by rw [bs_size, List.length_append, List.length_append, data_len]; omega)]
  have e : ((s.size : Int)).toNat = s.data.toList.length := by
    rw [data_len]
    omega
  rw [e, ← List.append_assoc, extract_mid, bs_data, data_len]
end Go.Proofs.Ytocjhpjljlcboaa.Spec
