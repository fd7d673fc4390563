/- Lists of numbers and texts as plain functions: what makes them (the program and the reference alike), the reader of texts, and that what is read is what would be made. -/
import Derived.Test.YtocjhpjljlcboaaMade
import Derived.Test.YtocjhpjljlcboaaQ12
namespace Go.Proofs.Ytocjhpjljlcboaa.Spec
open Go.RowKit Go.Proofs.Ytocjhpjljlcboaa.Q Go.Proofs.YtocjhpjljlcboaaW.PrintWords Go.Proofs.YtocjhpjljlcboaaW.PrintLast Go.Proofs.YtocjhpjljlcboaaW.PrintMore
set_option linter.unusedVariables false
/-! ### What makes a list -/
def goN : List Int → ByteArray → ByteArray × Int
  | [], acc => (acc, 0)
  | x :: t, acc => if (numA x).2 = 0 then goN t (acc ++ (numA x).1) else (bs [], (numA x).2)
def numsA (l : List Int) : ByteArray × Int := if l.length ≤ 1048576 then goN l (bs (numL l.length)) else (bs [], 4)
def goT : List ByteArray → ByteArray → ByteArray × Int
  | [], acc => (acc, 0)
  | x :: t, acc => if (textA x).2 = 0 then goT t (acc ++ (textA x).1) else (bs [], (textA x).2)
def textsA (l : List ByteArray) : ByteArray × Int := if l.length ≤ 1048576 then goT l (bs (numL l.length)) else (bs [], 4)
theorem numA_size (n : Int) : (numA n).1.size ≤ 9 := by
  unfold numA
  have := numL_le n.toNat
  split <;> rw [bs_size]
  · exact this
  · simp
theorem textA_size (t : ByteArray) : (textA t).1.size ≤ 1048600 := by
  unfold textA
  have := numL_le t.size
  split
  · rw [ByteArray.size_append, bs_size]
    omega
  · rw [bs_size]
    simp
theorem codeGoN (k : Nat) (hk : 13 ≤ k) : ∀ (l : List Int) (acc : ByteArray), acc.size + l.length * 1048600 ≤ 2000000000000 → code_Nums.go k l acc = some (goN l acc)
  | [], acc, _ => rfl
  | x :: t, acc, h => by
    simp only [code_Nums.go, goN]
    rw [codeNum k x (by omega)]
    simp only [Option.bind_some]
    have h9 := numA_size x
    rw [List.length_cons, Nat.succ_mul] at h
    by_cases h0 : (numA x).2 = 0
    · rw [if_pos h0, if_pos h0, if_pos (by omega), codeGoN k hk t _ (by rw [ByteArray.size_append]; omega)]
    · rw [if_neg h0, if_neg h0]
      rfl
theorem codeNumsA (k : Nat) (l : List Int) (hk : 13 ≤ k) : code_Nums.f k l = some (numsA l) := by
  unfold code_Nums.f numsA
  by_cases h : l.length ≤ 1048576
  · have h9 := numL_le l.length
    rw [if_neg (by omega), if_pos h, codeNum_in k l.length (by omega) (by omega)]
    simp only [Option.bind_some]
    rw [if_pos (by rw [bs_size]; omega), codeGoN k hk l _ (by rw [bs_size]; omega)]
  · rw [if_pos (by omega), if_neg h]
    rfl
theorem codeGoT (k : Nat) (hk : 13 ≤ k) : ∀ (l : List ByteArray) (acc : ByteArray), acc.size + l.length * 1048600 ≤ 2000000000000 → code_Texts.go k l acc = some (goT l acc)
  | [], acc, _ => rfl
  | x :: t, acc, h => by
    simp only [code_Texts.go, goT]
    rw [codeText k x (by omega)]
    simp only [Option.bind_some]
    have h9 := textA_size x
    rw [List.length_cons, Nat.succ_mul] at h
    by_cases h0 : (textA x).2 = 0
    · rw [if_pos h0, if_pos h0, if_pos (by omega), codeGoT k hk t _ (by rw [ByteArray.size_append]; omega)]
    · rw [if_neg h0, if_neg h0]
      rfl
theorem codeTextsA (k : Nat) (l : List ByteArray) (hk : 13 ≤ k) : code_Texts.f k l = some (textsA l) := by
  unfold code_Texts.f textsA
  by_cases h : l.length ≤ 1048576
  · have h9 := numL_le l.length
    rw [if_neg (by omega), if_pos h, codeNum_in k l.length (by omega) (by omega)]
    simp only [Option.bind_some]
    rw [if_pos (by rw [bs_size]; omega), codeGoT k hk l _ (by rw [bs_size]; omega)]
  · rw [if_pos (by omega), if_neg h]
    rfl
theorem refGoN (l : List Int) (hl : l.length ≤ 1048576) : ∀ (m k i : Nat) (acc : ByteArray), i + m = l.length → acc.size + m * 1048600 ≤ 2000000000000 → m + 20 ≤ k → barqueref01_Nums.l0 k l acc (i : Int) = some (goN (l.drop i) acc) := by
  intro m
  induction m with
  | zero =>
    intro k i acc hi _ hk
    obtain ⟨k, rfl⟩ : ∃ n, k = n + 1 := ⟨k - 1, by omega⟩
    simp only [barqueref01_Nums.l0]
    rw [if_neg (by omega), List.drop_eq_nil_of_le (by omega)]
    rfl
  | succ m ih =>
    intro k i acc hi hs hk
    obtain ⟨k, rfl⟩ : ∃ n, k = n + 1 := ⟨k - 1, by omega⟩
    rw [Nat.succ_mul] at hs
    simp only [barqueref01_Nums.l0]
    have hx : rd l (i : Int) = l[i] := by
      unfold rd
      rw [show ((i : Nat) : Int).toNat = i by omega]
      simp [List.getD_eq_getElem?_getD, List.getElem?_eq_getElem (show i < l.length by omega)]
    rw [if_pos (by omega), if_pos (by omega), hx, refNum k _ (by omega), List.drop_eq_getElem_cons (by omega)]
    simp only [Option.bind_some, goN]
    have h9 := numA_size l[i]
    by_cases h0 : (numA l[i]).2 = 0
    · rw [if_pos h0, if_pos h0, if_pos (by omega), w64 (by omega) (by omega), show (i : Int) + 1 = ((i + 1 : Nat) : Int) by omega]
      exact ih k (i + 1) _ (by omega) (by rw [ByteArray.size_append]; omega) (by omega)
    · rw [if_neg h0, if_neg h0]
      rfl
theorem refNumsA (k : Nat) (l : List Int) (hl : l.length ≤ 1048576) (hk : l.length + 20 ≤ k) : barqueref01_Nums.f k l = some (numsA l) := by
  unfold barqueref01_Nums.f numsA
  have h9 := numL_le l.length
  rw [if_pos hl, refBytes_in k _ (by omega) (by omega)]
  simp only [Option.bind_some]
  have := refGoN l hl l.length k 0 (bs (numL l.length)) (by omega) (by rw [bs_size]; omega) hk
  rw [List.drop_zero] at this
  exact this
theorem refGoT (l : List ByteArray) (hl : l.length ≤ 1048576) : ∀ (m k i : Nat) (acc : ByteArray), i + m = l.length → acc.size + m * 1048600 ≤ 2000000000000 → m + 20 ≤ k → barqueref01_Texts.l0 k l acc (i : Int) = some (goT (l.drop i) acc) := by
  intro m
  induction m with
  | zero =>
    intro k i acc hi _ hk
    obtain ⟨k, rfl⟩ : ∃ n, k = n + 1 := ⟨k - 1, by omega⟩
    simp only [barqueref01_Texts.l0]
    rw [if_neg (by omega), List.drop_eq_nil_of_le (by omega)]
    rfl
  | succ m ih =>
    intro k i acc hi hs hk
    obtain ⟨k, rfl⟩ : ∃ n, k = n + 1 := ⟨k - 1, by omega⟩
    rw [Nat.succ_mul] at hs
    simp only [barqueref01_Texts.l0]
    have hx : rdOf ByteArray.empty l (i : Int) = l[i] := by
      unfold rdOf
      rw [show ((i : Nat) : Int).toNat = i by omega]
      simp [List.getD_eq_getElem?_getD, List.getElem?_eq_getElem (show i < l.length by omega)]
    rw [if_pos (by omega), if_pos (by omega), hx, refText k _ (by omega), List.drop_eq_getElem_cons (by omega)]
    simp only [Option.bind_some, goT]
    have h9 := textA_size l[i]
    by_cases h0 : (textA l[i]).2 = 0
    · rw [if_pos h0, if_pos h0, if_pos (by omega), w64 (by omega) (by omega), show (i : Int) + 1 = ((i + 1 : Nat) : Int) by omega]
      exact ih k (i + 1) _ (by omega) (by rw [ByteArray.size_append]; omega) (by omega)
    · rw [if_neg h0, if_neg h0]
      rfl
theorem refTextsA (k : Nat) (l : List ByteArray) (hl : l.length ≤ 1048576) (hk : l.length + 20 ≤ k) : barqueref01_Texts.f k l = some (textsA l) := by
  unfold barqueref01_Texts.f textsA
  have h9 := numL_le l.length
  rw [if_pos hl, refBytes_in k _ (by omega) (by omega)]
  simp only [Option.bind_some]
  have := refGoT l hl l.length k 0 (bs (numL l.length)) (by omega) (by rw [bs_size]; omega) hk
  rw [List.drop_zero] at this
  exact this
/-! ### The reader of texts -/
def textsG (s : ByteArray) (most : Int) : Nat → Nat → List ByteArray × Nat × Int
  | 0, p => ([], p, 0)
  | c + 1, p =>
    if (rText s p 0 most).2.2 = 0 then
      if (textsG s most c (rText s p 0 most).2.1).2.2 = 0 then ((rText s p 0 most).1 :: (textsG s most c (rText s p 0 most).2.1).1, (textsG s most c (rText s p 0 most).2.1).2) else ([], (textsG s most c (rText s p 0 most).2.1).2)
    else ([], (rText s p 0 most).2)
theorem rCount_ok (s : ByteArray) (p : Nat) (most : Int) (h : (rCount s p 0 most).2.2 = 0) : (rNum s p 0).2.2 = 0 ∧ rCount s p 0 most = rNum s p 0 ∧ (rNum s p 0).1 ≤ most := by
  unfold rCount at h ⊢
  by_cases hc : (rNum s p 0).2.2 = 0 ∧ (rNum s p 0).1 > most
  · rw [if_pos hc] at h
    exact absurd h (show ¬ ((4 : Int) = 0) by decide)
  · rw [if_neg hc] at h ⊢
    exact ⟨h, rfl, by omega⟩
theorem rRaw_ok (s : ByteArray) (p : Nat) (e n : Int) (h : (rRaw s p e n).2.2 = 0) : e = 0 ∧ 0 ≤ n ∧ n ≤ (s.size : Int) - p ∧ rRaw s p e n = (s.extract p (p + n.toNat), p + n.toNat, 0) := by
  unfold rRaw at h ⊢
  by_cases he : e ≠ 0
  · rw [if_pos he] at h
    exact absurd h he
  · rw [if_neg he] at h ⊢
    by_cases h0 : n < 0
    · rw [if_pos h0] at h
      exact absurd h (show ¬ ((1 : Int) = 0) by decide)
    · rw [if_neg h0] at h ⊢
      by_cases h1 : n > (s.size : Int) - p
      · rw [if_pos h1] at h
        exact absurd h (show ¬ ((3 : Int) = 0) by decide)
      · rw [if_neg h1]
        exact ⟨by omega, by omega, by omega, rfl⟩
theorem rText_ok (s : ByteArray) (p : Nat) (most : Int) (h : (rText s p 0 most).2.2 = 0) : (rNum s p 0).2.2 = 0 ∧ (rNum s p 0).1 ≤ most ∧ 0 ≤ (rNum s p 0).1 ∧ (rNum s p 0).1 ≤ (s.size : Int) - (rNum s p 0).2.1 ∧ rText s p 0 most = (s.extract (rNum s p 0).2.1 ((rNum s p 0).2.1 + (rNum s p 0).1.toNat), (rNum s p 0).2.1 + (rNum s p 0).1.toNat, 0) := by
  unfold rText at h ⊢
  obtain ⟨h1, h2, h3, h4⟩ := rRaw_ok s _ _ _ h
  obtain ⟨h5, h6, h7⟩ := rCount_ok s p most h1
  rw [h4]
  rw [h6] at h2 h3 ⊢
  exact ⟨h5, h7, h2, h3, rfl⟩
theorem rText_more (s : ByteArray) (p : Nat) (most : Int) (h : (rText s p 0 most).2.2 = 0) : p < (rText s p 0 most).2.1 := by
  obtain ⟨h1, h2, h3, h4, h5⟩ := rText_ok s p most h
  have := rNum_more s p h1
  rw [h5]
  simp only
  omega
theorem textsG_ok (s : ByteArray) (most : Int) (c p : Nat) (h : (rText s p 0 most).2.2 = 0) : textsG s most (c + 1) p =
    (if (textsG s most c (rText s p 0 most).2.1).2.2 = 0 then (rText s p 0 most).1 :: (textsG s most c (rText s p 0 most).2.1).1 else [], (textsG s most c (rText s p 0 most).2.1).2) := by
  simp only [textsG]
  rw [if_pos h]
  split <;> rfl
theorem textsG_no (s : ByteArray) (most : Int) (c p : Nat) (h : (rText s p 0 most).2.2 ≠ 0) : textsG s most (c + 1) p = ([], (rText s p 0 most).2) := by
  simp only [textsG]
  rw [if_neg h]
theorem codeTexts_l0 (s : ByteArray) (most : Int) (hs : Small s) (hss : s.size ≤ 1000000000000) (d : Nat) : ∀ (k c i p : Nat) (acc : List ByteArray), p ≤ s.size → s.size - p = d → d + 60 ≤ k → i + c < 4611686018427387904 → acc.length ≤ p →
    code_Reader_Texts.l0 k most acc ((i + c : Nat) : Int) (i : Int) s (p : Int) 0 =
      some (if (textsG s most c p).2.2 = 0 then acc ++ (textsG s most c p).1 else [], s, ((textsG s most c p).2.1 : Int), (textsG s most c p).2.2) := by
  induction d using Nat.strongRecOn with
  | ind d ih =>
    intro k c i p acc hp hd hk hc ha
    obtain ⟨k, rfl⟩ : ∃ m, k = m + 1 := ⟨k - 1, by omega⟩
    simp only [code_Reader_Texts.l0]
    cases c with
    | zero =>
      rw [if_neg (by omega)]
      simp [textsG]
    | succ c =>
      rw [if_pos (by omega), codeRText k s p 0 most hs hp (by omega)]
      simp only [Option.bind_some, code_Reader_off.f]
      by_cases he : (rText s p 0 most).2.2 = 0
      · have hm := rText_more s p most he
        have hl := rText_le s p 0 most hp
        rw [textsG_ok s most c p he, he]
        generalize rText s p 0 most = r at hm hl ⊢
        obtain ⟨n, q, e⟩ := r
        simp only at hm hl ⊢
        rw [if_neg (by decide), if_pos (by omega)]
        have hh := ih (s.size - q) (by omega) k c (i + 1) q (acc ++ [n]) hl rfl (by omega) (by omega) (by simp; omega)
        rw [show wrap64 ((i : Int) + 1) = ((i + 1 : Nat) : Int) by rw [w64 (by omega) (by omega)]; omega, show i + (c + 1) = i + 1 + c by omega, hh]
        by_cases h2 : (textsG s most c q).2.2 = 0
        · simp [h2]
        · simp [h2]
      · rw [textsG_no s most c p he, if_pos (by simpa using he)]
        simp [he]
def rTexts (s : ByteArray) (p : Nat) (e : Int) (a most : Int) : List ByteArray × Nat × Int :=
  if (rCount s p e a).2.2 = 0 then textsG s most (rCount s p e a).1.toNat (rCount s p e a).2.1 else ([], (rCount s p e a).2)
theorem textsG_nil (s : ByteArray) (most : Int) : ∀ (c p : Nat), (textsG s most c p).2.2 ≠ 0 → (textsG s most c p).1 = []
  | 0, p, h => rfl
  | c + 1, p, h => by
    simp only [textsG] at h ⊢
    split
    · rename_i h1
      rw [if_pos h1] at h
      split
      · rename_i h2
        rw [if_pos h2] at h
        exact absurd h2 h
      · rfl
    · rfl
theorem textsG_le (s : ByteArray) (most : Int) : ∀ (c p : Nat), p ≤ s.size → (textsG s most c p).2.1 ≤ s.size
  | 0, p, h => h
  | c + 1, p, h => by
    have h1 := rText_le s p 0 most h
    have h2 := textsG_le s most c _ h1
    simp only [textsG]
    split
    · split <;> exact h2
    · exact h1
theorem rTexts_le (s : ByteArray) (p : Nat) (e : Int) (a most : Int) (h : p ≤ s.size) : (rTexts s p e a most).2.1 ≤ s.size := by
  have := rCount_le s p e a h
  unfold rTexts
  split
  · exact textsG_le s most _ _ this
  · exact this
theorem codeRTexts (k : Nat) (s : ByteArray) (p : Nat) (e : Int) (a most : Int) (hs : Small s) (hss : s.size ≤ 1000000000000) (h : p ≤ s.size) (hk : s.size + 60 ≤ k) :
    code_Reader_Texts.f k s (p : Int) e a most = some ((rTexts s p e a most).1, s, ((rTexts s p e a most).2.1 : Int), (rTexts s p e a most).2.2) := by
  unfold code_Reader_Texts.f
  rw [codeRCount k s p e a hs h (by omega)]
  simp only [Option.bind_some]
  have hg := rCount_ge s p e a
  have hl := rCount_le s p e a h
  unfold rTexts
  by_cases he : (rCount s p e a).2.2 = 0
  · rw [if_pos he, he]
    have hh := codeTexts_l0 s most hs hss _ k (rCount s p e a).1.toNat 0 (rCount s p e a).2.1 [] hl rfl (by omega) (by omega) (by simp)
    rw [show ((0 + (rCount s p e a).1.toNat : Nat) : Int) = (rCount s p e a).1 by omega, show ((0 : Nat) : Int) = 0 from rfl] at hh
    rw [hh]
    by_cases h2 : (textsG s most (rCount s p e a).1.toNat (rCount s p e a).2.1).2.2 = 0
    · rw [if_pos h2]
      rfl
    · rw [if_neg h2, textsG_nil s most _ _ h2]
  · rw [if_neg he, rCount_zero s p e a he]
    obtain ⟨k, rfl⟩ : ∃ m, k = m + 1 := ⟨k - 1, by omega⟩
    simp only [code_Reader_Texts.l0]
    rw [if_neg (by omega)]
/-! ### What is read is what would be made -/
theorem pieces (s : ByteArray) (a b c : Nat) (h : a ≤ b) (h2 : b ≤ c) (hb : c ≤ s.size) : s.extract a b ++ s.extract b c = s.extract a c := by
  apply ByteArray.ext
  simp only [ByteArray.data_append, ByteArray.data_extract]
  rw [Array.extract_append_extract]
  congr 1 <;> omega
theorem num_canon (s : ByteArray) (p : Nat) (h : (rNum s p 0).2.2 = 0) : numA (rNum s p 0).1 = (s.extract p (rNum s p 0).2.1, 0) := by
  have hg := rNum_ge s p 0
  unfold numA
  rw [if_pos hg]
  unfold rNum at h ⊢
  rw [if_pos rfl] at h ⊢
  simp only at h ⊢
  rw [show (((getL (rest s p)).1 : Nat) : Int).toNat = (getL (rest s p)).1 by omega, numL_getL _ h]
  congr 1
  rw [← bs_data (s.extract p _)]
  congr 1
  unfold rest
  rw [ByteArray.data_extract, Array.toList_extract]
  simp only [List.extract_eq_take_drop]
  congr 1
  omega
theorem nums_canon (s : ByteArray) : ∀ (c p : Nat), p ≤ s.size → (numsG s c p).2.2 = 0 → (numsG s c p).1.length = c ∧ p ≤ (numsG s c p).2.1 ∧ ∀ acc, goN (numsG s c p).1 acc = (acc ++ s.extract p (numsG s c p).2.1, 0)
  | 0, p, hp, _ => by
    refine ⟨rfl, Nat.le_refl _, fun acc => ?_⟩
    simp only [numsG, goN]
    have : s.extract p p = bs [] := by
      have e1 : (s.extract p p).data.toList = [] := List.eq_nil_of_length_eq_zero (by rw [data_len, ByteArray.size_extract]; omega)
      rw [← bs_data (s.extract p p), e1]
    rw [this, ← bs_data acc, bs_append, List.append_nil]
  | c + 1, p, hp, h => by
    by_cases h1 : (rNum s p 0).2.2 = 0
    · rw [numsG_ok s c p h1] at h ⊢
      have hle := rNum_le s p 0 hp
      have hm := rNum_more s p h1
      simp only at h ⊢
      rw [if_pos h]
      obtain ⟨i1, i2, i3⟩ := nums_canon s c _ hle h
      have i4 := numsG_le s c _ hle
      refine ⟨by rw [List.length_cons, i1], by omega, fun acc => ?_⟩
      simp only [goN]
      rw [num_canon s p h1]
      simp only []
      rw [if_pos trivial, i3, ByteArray.append_assoc, pieces s p _ _ (by omega) i2 i4]
    · rw [numsG_no s c p h1] at h
      exact absurd h h1
theorem rNums_canon (s : ByteArray) (most : Int) (hmost : most ≤ 1048576) (h : (rNums s 0 0 most).2.2 = 0) : (numsA (rNums s 0 0 most).1).1 = s.extract 0 (rNums s 0 0 most).2.1 := by
  unfold rNums at h ⊢
  by_cases he : (rCount s 0 0 most).2.2 = 0
  · rw [if_pos he] at h ⊢
    obtain ⟨h5, h6, h7⟩ := rCount_ok s 0 most he
    have hg := rNum_ge s 0 0
    have hle := rNum_le s 0 0 (Nat.zero_le _)
    have hc := num_canon s 0 h5
    rw [h6] at h ⊢
    obtain ⟨i1, i2, i3⟩ := nums_canon s _ _ hle h
    have i4 := numsG_le s (rNum s 0 0).1.toNat _ hle
    unfold numsA
    rw [i1, if_pos (by omega), i3]
    unfold numA at hc
    rw [if_pos hg] at hc
    rw [show bs (numL (rNum s 0 0).1.toNat) = s.extract 0 (rNum s 0 0).2.1 from congrArg Prod.fst hc, pieces s 0 _ _ (Nat.zero_le _) i2 i4]
  · rw [if_neg he] at h
    exact absurd h he
theorem text_canon (s : ByteArray) (p : Nat) (most : Int) (hmost : most ≤ 1048576) (hp : p ≤ s.size) (h : (rText s p 0 most).2.2 = 0) : textA (rText s p 0 most).1 = (s.extract p (rText s p 0 most).2.1, 0) := by
  obtain ⟨h1, h2, h3, h4, h5⟩ := rText_ok s p most h
  have hg := rNum_ge s p 0
  have hle := rNum_le s p 0 hp
  have hm := rNum_more s p h1
  have hc := num_canon s p h1
  rw [h5]
  simp only
  have hz : (s.extract (rNum s p 0).2.1 ((rNum s p 0).2.1 + (rNum s p 0).1.toNat)).size = (rNum s p 0).1.toNat := by
    rw [ByteArray.size_extract]
    omega
  unfold textA
  rw [hz, if_pos (by omega)]
  unfold numA at hc
  rw [if_pos hg] at hc
  rw [show bs (numL (rNum s p 0).1.toNat) = s.extract p (rNum s p 0).2.1 from congrArg Prod.fst hc, pieces s p _ _ (by omega) (by omega) (by omega)]
theorem texts_canon (s : ByteArray) (most : Int) (hmost : most ≤ 1048576) : ∀ (c p : Nat), p ≤ s.size → (textsG s most c p).2.2 = 0 → (textsG s most c p).1.length = c ∧ p ≤ (textsG s most c p).2.1 ∧ ∀ acc, goT (textsG s most c p).1 acc = (acc ++ s.extract p (textsG s most c p).2.1, 0)
  | 0, p, hp, _ => by
    refine ⟨rfl, Nat.le_refl _, fun acc => ?_⟩
    simp only [textsG, goT]
    have : s.extract p p = bs [] := by
      have e1 : (s.extract p p).data.toList = [] := List.eq_nil_of_length_eq_zero (by rw [data_len, ByteArray.size_extract]; omega)
      rw [← bs_data (s.extract p p), e1]
    rw [this, ← bs_data acc, bs_append, List.append_nil]
  | c + 1, p, hp, h => by
    by_cases h1 : (rText s p 0 most).2.2 = 0
    · rw [textsG_ok s most c p h1] at h ⊢
      have hle := rText_le s p 0 most hp
      have hm := rText_more s p most h1
      simp only at h ⊢
      rw [if_pos h]
      obtain ⟨i1, i2, i3⟩ := texts_canon s most hmost c _ hle h
      have i4 := textsG_le s most c _ hle
      refine ⟨by rw [List.length_cons, i1], by omega, fun acc => ?_⟩
      simp only [goT]
      rw [text_canon s p most hmost hp h1]
      simp only []
      rw [if_pos trivial, i3, ByteArray.append_assoc, pieces s p _ _ (by omega) i2 i4]
    · rw [textsG_no s most c p h1] at h
      exact absurd h h1
theorem rTexts_canon (s : ByteArray) (a most : Int) (ha : a ≤ 1048576) (hmost : most ≤ 1048576) (h : (rTexts s 0 0 a most).2.2 = 0) : (textsA (rTexts s 0 0 a most).1).1 = s.extract 0 (rTexts s 0 0 a most).2.1 := by
  unfold rTexts at h ⊢
  by_cases he : (rCount s 0 0 a).2.2 = 0
  · rw [if_pos he] at h ⊢
    obtain ⟨h5, h6, h7⟩ := rCount_ok s 0 a he
    have hg := rNum_ge s 0 0
    have hle := rNum_le s 0 0 (Nat.zero_le _)
    have hc := num_canon s 0 h5
    rw [h6] at h ⊢
    obtain ⟨i1, i2, i3⟩ := texts_canon s most hmost _ _ hle h
    have i4 := textsG_le s most (rNum s 0 0).1.toNat _ hle
    unfold textsA
    rw [i1, if_pos (by omega), i3]
    unfold numA at hc
    rw [if_pos hg] at hc
    rw [show bs (numL (rNum s 0 0).1.toNat) = s.extract 0 (rNum s 0 0).2.1 from congrArg Prod.fst hc, pieces s 0 _ _ (Nat.zero_le _) i2 i4]
  · rw [if_neg he] at h
    exact absurd h he
end Go.Proofs.Ytocjhpjljlcboaa.Spec
