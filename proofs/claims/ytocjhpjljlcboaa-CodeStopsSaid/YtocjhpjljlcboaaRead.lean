/- The two readers' calls, each as the plain functions of chapter 1 tell. -/
import Derived.Test.YtocjhpjljlcboaaNums
import Derived.Test.YtocjhpjljlcboaaQ5
import Derived.Test.YtocjhpjljlcboaaQ7
namespace Go.Proofs.Ytocjhpjljlcboaa.Spec
open Go.RowKit Go.Proofs.Ytocjhpjljlcboaa.Q Go.Proofs.YtocjhpjljlcboaaW.PrintWords Go.Proofs.YtocjhpjljlcboaaW.PrintLast Go.Proofs.YtocjhpjljlcboaaW.PrintMore

/-- What is left behind a place. -/
def rest (s : ByteArray) (p : Nat) : List UInt8 := s.data.toList.drop p
theorem rest_length (s : ByteArray) (p : Nat) : (rest s p).length = s.size - p := by
  unfold rest
  rw [List.length_drop, Array.length_toList]
  rfl
theorem rest_end (s : ByteArray) (p : Nat) (h : s.size ≤ p) : rest s p = [] := List.eq_nil_of_length_eq_zero (by rw [rest_length]; omega)
theorem rest_cons (s : ByteArray) (p : Nat) (h : p < s.size) : rest s p = s[p] :: rest s (p + 1) := by
  unfold rest
  rw [List.drop_eq_getElem_cons (by rw [Array.length_toList]; exact h)]
  rfl
theorem bt_nat (s : ByteArray) (p : Nat) (h : p < s.size) : bt s (p : Int) = (s[p].toNat : Int) := by
  unfold bt
  rw [dif_pos (show ((p : Int)).toNat < s.size by omega)]
  rfl
def Small (s : ByteArray) : Prop := s.size ≤ 1000000000000000000

/-! ### Num -/
def rNum (s : ByteArray) (p : Nat) (e : Int) : Int × Nat × Int := if e = 0 then (((getL (rest s p)).1 : Int), p + (getL (rest s p)).2.2, (getL (rest s p)).2.1) else (0, p, e)
theorem rNum_le (s : ByteArray) (p : Nat) (e : Int) (h : p ≤ s.size) : (rNum s p e).2.1 ≤ s.size := by
  unfold rNum
  split
  · have := getL_used (rest s p)
    rw [rest_length] at this
    show p + _ ≤ _
    omega
  · exact h
theorem rNum_ge (s : ByteArray) (p : Nat) (e : Int) : 0 ≤ (rNum s p e).1 ∧ (rNum s p e).1 < 4611686018427387904 := by
  unfold rNum
  split
  · have := getL_lt (rest s p)
    show 0 ≤ ((getL (rest s p)).1 : Int) ∧ ((getL (rest s p)).1 : Int) < _
    omega
  · exact ⟨Int.le_refl _, by show (0 : Int) < 4611686018427387904; decide⟩
theorem rNum_zero (s : ByteArray) (p : Nat) (e : Int) (h : (rNum s p e).2.2 ≠ 0) : (rNum s p e).1 = 0 := by
  unfold rNum at h ⊢
  split
  · rename_i he
    rw [if_pos he] at h
    have := getL_zero (rest s p) h
    show ((getL (rest s p)).1 : Int) = 0
    omega
  · rfl

theorem codeByte (s : ByteArray) (p : Nat) (hs : Small s) (h : p ≤ s.size) :
    code_Reader_Byte.f s (p : Int) 0 = if h' : p < s.size then some ((s[p].toNat : Int), s, ((p + 1 : Nat) : Int), 0) else some (0, s, (p : Int), 3) := by
  unfold Small at hs
  unfold code_Reader_Byte.f code_Reader_off.f
  simp only [Option.bind_some]
  rw [if_neg (by decide)]
  by_cases h' : p < s.size
  · rw [dif_pos h', if_neg (by omega), w64 (n := (p : Int) + 1) (by omega) (by omega), w64 (by omega) (by omega), if_pos (by omega), if_pos (by omega)]
    rw [show (p : Int) + 1 - 1 = (p : Int) by omega, bt_nat s p h', w64 (by omega) (by have := s[p].toNat_lt; omega)]
    rfl
  · rw [dif_neg h', if_pos (by omega)]
    rfl
theorem codeByte_err (s : ByteArray) (p : Int) (e : Int) (he : e ≠ 0) : code_Reader_Byte.f s p e = some (0, s, p, e) := by
  unfold code_Reader_Byte.f code_Reader_off.f
  simp only [Option.bind_some]
  rw [if_pos (by simpa using he)]
theorem refByte (s : ByteArray) (p : Nat) (hs : Small s) (h : p ≤ s.size) :
    barqueref01_Reader_Byte.f s (p : Int) 0 = if h' : p < s.size then some ((s[p].toNat : Int), s, ((p + 1 : Nat) : Int), 0) else some (0, s, (p : Int), 3) := by
  unfold Small at hs
  unfold barqueref01_Reader_Byte.f
  rw [if_pos rfl]
  by_cases h' : p < s.size
  · rw [dif_pos h', if_neg (by omega), w64 (n := (p : Int) + 1) (by omega) (by omega), w64 (by omega) (by omega), if_pos (by omega), if_pos (by omega)]
    rw [show (p : Int) + 1 - 1 = (p : Int) by omega, bt_nat s p h', w64 (by omega) (by have := s[p].toNat_lt; omega)]
    rfl
  · rw [dif_neg h', if_pos (by omega)]
theorem refByte_err (s : ByteArray) (p : Int) (e : Int) (he : e ≠ 0) : barqueref01_Reader_Byte.f s p e = some (0, s, p, e) := by
  unfold barqueref01_Reader_Byte.f
  rw [if_neg he]

theorem pow7 (i : Nat) : (2 : Int) ^ (7 * i) = ((128 ^ i : Nat) : Int) := by
  rw [Int.pow_mul]
  norm_cast
theorem p128 (i : Nat) (h : i ≤ 8) : (128 ^ i : Nat) ≤ 72057594037927936 := by
  have := Nat.pow_le_pow_right (show 0 < 128 by decide) h
  exact Nat.le_trans this (by decide)
theorem add_part (a c P : Nat) (i : Nat) (hi : i ≤ 8) (hP : P = 128 ^ i) (ha : a < P) (hc : c < 128) (h8 : i = 8 → c < 64) :
    Go.bits .or .i64 (a : Int) (shl .i64 (c : Int) (wrap64 (7 * (i : Int)))) = ((a + c * P : Nat) : Int) ∧ a + c * P < P * 128 ∧ a + c * P < 4611686018427387904 := by
  have hp := p128 i hi
  rw [← hP] at hp
  have hcP : c * P < 9223372036854775808 / 2 := by
    rcases Nat.lt_or_ge i 8 with h | h
    · have e7 : (128 : Nat) ^ i ≤ 128 ^ 7 := Nat.pow_le_pow_right (by decide) (by omega)
      have e : (128 : Nat) ^ 7 = 562949953421312 := by decide
      rw [← hP] at e7
      have := Nat.mul_le_mul (show c ≤ 127 by omega) e7
      omega
    · have := h8 (by omega)
      have := Nat.mul_le_mul (show c ≤ 63 by omega) hp
      omega
  have hlt : a + c * P < P * 128 := by
    have := Nat.mul_le_mul_right P (show c ≤ 127 by omega)
    omega
  have hlt2 : a + c * P < 4611686018427387904 := by
    rcases Nat.lt_or_ge i 8 with h | h
    · have e7 : (128 : Nat) ^ i ≤ 128 ^ 7 := Nat.pow_le_pow_right (by decide) (by omega)
      have e : (128 : Nat) ^ 7 = 562949953421312 := by decide
      rw [← hP] at e7
      have := Nat.mul_le_mul (show c ≤ 127 by omega) e7
      omega
    · have := h8 (by omega)
      have := Nat.mul_le_mul (show c ≤ 63 by omega) hp
      omega
  refine ⟨?_, hlt, hlt2⟩
  rw [w64 (by omega) (by omega)]
  unfold shl
  have e0 : min (7 * (i : Int)).toNat (IntKind.bits .i64) = 7 * i := by
    show min (7 * (i : Int)).toNat 64 = 7 * i
    omega
  rw [e0, pow7, ← hP, IntKind.wrap_i64]
  have e1 : ((c : Int) * (P : Int) + 9223372036854775808) % 18446744073709551616 - 9223372036854775808 = ((c * P : Nat) : Int) := by
    have : (c : Int) * (P : Int) = ((c * P : Nat) : Int) := by norm_cast
    rw [this]
    omega
  rw [e1, bits_or_comm]
  have hm : ((c * P : Nat) : Int) % 2 ^ (7 * i) = 0 := by
    rw [pow7, ← hP, ← Int.natCast_emod, Nat.mul_mod_left]
    rfl
  rw [or_join _ _ (7 * i) (by omega) hm (by omega) (by omega) (by rw [pow7, ← hP]; omega) (by omega)]
  omega

theorem codeNum_loop (s : ByteArray) (hs : Small s) (f : Nat) : ∀ (k i a p : Nat), i + f = 9 → p ≤ s.size → a < 128 ^ i → 3 * f + 2 ≤ k →
    code_Reader_Num.l0 k (a : Int) (i : Int) s (p : Int) 0 =
      some (if (getF f i (rest s p)).2.1 = 0 then ((a + (getF f i (rest s p)).1 * 128 ^ i : Nat) : Int) else 0, s, ((p + (getF f i (rest s p)).2.2 : Nat) : Int), (getF f i (rest s p)).2.1) ∨ f = 0 := by
  induction f with
  | zero => intro k i a p _ _ _ _; exact .inr rfl
  | succ f ih =>
    intro k i a p hi hp ha hk
    refine .inl ?_
    obtain ⟨k, rfl⟩ : ∃ m, k = m + 3 := ⟨k - 3, by omega⟩
    simp only [code_Reader_Num.l0]
    rw [codeByte s p hs hp]
    by_cases h : p < s.size
    · rw [dif_pos h, rest_cons s p h]
      simp only [Option.bind_some, code_Reader_off.f, getF]
      rw [if_neg (by decide)]
      generalize hc : s[p] = c
      have hcl := c.toNat_lt
      by_cases h1 : 0 < i ∧ c.toNat = 0 ∨ i = 8 ∧ 63 < c.toNat
      · rw [if_pos h1]
        have hfail : ∀ x, code_Reader_Num.j2 (k + 1) (a : Int) (i : Int) x true s ((p + 1 : Nat) : Int) 0 = some (0, s, ((p + 1 : Nat) : Int), 5) := by
          intro x
          simp only [code_Reader_Num.j2]
          rw [if_pos trivial]
          rfl
        by_cases h8 : i = 8
        · rw [if_pos (by omega)]
          by_cases h63 : 63 < c.toNat
          · simp only [code_Reader_Num.j1]
            rw [if_pos (by simp; omega)]
            have e : decide ((c.toNat : Int) > 63) = true := by simp; omega
            rw [e, hfail]
            simp
          · have h0 : c.toNat = 0 := by omega
            simp only [code_Reader_Num.j1]
            rw [if_neg (by simp; omega), if_pos (by omega)]
            have e : ((c.toNat : Int) == 0) = true := by simp [h0]
            rw [e, hfail]
            simp
        · rw [if_neg (by omega)]
          simp only [code_Reader_Num.j1]
          have h0 : c.toNat = 0 := by omega
          rw [if_neg (by decide), if_pos (by omega)]
          have e : ((c.toNat : Int) == 0) = true := by simp [h0]
          rw [e, hfail]
          simp
      · rw [if_neg h1]
        have hgo : ∀ x, x = false → code_Reader_Num.j2 (k + 1) (a : Int) (i : Int) (c.toNat : Int) x s ((p + 1 : Nat) : Int) 0 =
            some (if (if c.toNat < 128 then (c.toNat, 0, 1) else (if (getF f (i + 1) (rest s (p + 1))).2.1 = 0 then c.toNat % 128 + 128 * (getF f (i + 1) (rest s (p + 1))).1 else 0, (getF f (i + 1) (rest s (p + 1))).2.1, (getF f (i + 1) (rest s (p + 1))).2.2 + 1) : Nat × Int × Nat).2.1 = 0 then
              ((a + (if c.toNat < 128 then (c.toNat, 0, 1) else (if (getF f (i + 1) (rest s (p + 1))).2.1 = 0 then c.toNat % 128 + 128 * (getF f (i + 1) (rest s (p + 1))).1 else 0, (getF f (i + 1) (rest s (p + 1))).2.1, (getF f (i + 1) (rest s (p + 1))).2.2 + 1) : Nat × Int × Nat).1 * 128 ^ i : Nat) : Int) else 0, s,
              ((p + (if c.toNat < 128 then (c.toNat, 0, 1) else (if (getF f (i + 1) (rest s (p + 1))).2.1 = 0 then c.toNat % 128 + 128 * (getF f (i + 1) (rest s (p + 1))).1 else 0, (getF f (i + 1) (rest s (p + 1))).2.1, (getF f (i + 1) (rest s (p + 1))).2.2 + 1) : Nat × Int × Nat).2.2 : Nat) : Int),
              (if c.toNat < 128 then (c.toNat, 0, 1) else (if (getF f (i + 1) (rest s (p + 1))).2.1 = 0 then c.toNat % 128 + 128 * (getF f (i + 1) (rest s (p + 1))).1 else 0, (getF f (i + 1) (rest s (p + 1))).2.1, (getF f (i + 1) (rest s (p + 1))).2.2 + 1) : Nat × Int × Nat).2.1) := by
          rintro x rfl
          simp only [code_Reader_Num.j2]
          rw [if_neg (by decide), if_pos (by rw [w64 (by omega) (by omega)]; omega), and127 _ (by omega) (by omega)]
          have hpart := add_part a (c.toNat % 128) (128 ^ i) i (by omega) rfl ha (Nat.mod_lt _ (by decide)) (by omega)
          rw [show (c.toNat : Int) % 128 = ((c.toNat % 128 : Nat) : Int) by omega, hpart.1]
          by_cases h2 : c.toNat < 128
          · rw [if_pos (by omega), if_pos h2]
            simp only [if_true]
            rw [show c.toNat % 128 = c.toNat by omega]
          · rw [if_neg (by omega), if_neg h2]
            simp only
            have hf : f ≠ 0 := by
              rintro rfl
              have : i = 8 := by omega
              omega
            rw [show wrap64 ((i : Int) + 1) = ((i + 1 : Nat) : Int) by rw [w64 (by omega) (by omega)]; omega]
            rcases ih k (i + 1) (a + c.toNat % 128 * 128 ^ i) (p + 1) (by omega) (by omega) (by rw [Nat.pow_succ]; exact hpart.2.1) (by omega) with e | e
            · rw [e]
              by_cases h3 : (getF f (i + 1) (rest s (p + 1))).2.1 = 0
              · rw [if_pos h3, if_pos h3, if_pos h3]
                congr 2
                · congr 1
                  rw [Nat.pow_succ, Nat.add_mul, Nat.add_assoc]
                  congr 2
                  rw [Nat.mul_comm (128 ^ i) 128, ← Nat.mul_assoc, Nat.mul_comm _ 128]
                · congr 2
                  omega
              · rw [if_neg h3, if_neg h3]
                congr 4
                omega
            · exact absurd e hf
        by_cases h8 : i = 8
        · rw [if_pos (by omega)]
          have e : decide ((c.toNat : Int) > 63) = false := by simp; omega
          rw [e]
          simp only [code_Reader_Num.j1]
          rw [if_neg (by decide), if_pos (by omega)]
          exact hgo _ (by simp; omega)
        · rw [if_neg (by omega)]
          simp only [code_Reader_Num.j1]
          rw [if_neg (by decide)]
          split
          · exact hgo _ (by simp; omega)
          · exact hgo _ rfl
    · rw [dif_neg h, rest_end s p (by omega)]
      simp only [Option.bind_some, code_Reader_off.f, getF]
      rw [if_pos (by decide)]
      simp
theorem codeRNum (k : Nat) (s : ByteArray) (p : Nat) (e : Int) (hs : Small s) (h : p ≤ s.size) (hk : 40 ≤ k) :
    code_Reader_Num.f k s (p : Int) e = some ((rNum s p e).1, s, ((rNum s p e).2.1 : Int), (rNum s p e).2.2) := by
  unfold code_Reader_Num.f rNum
  by_cases he : e = 0
  · subst he
    rw [if_pos rfl]
    rcases codeNum_loop s hs 9 k 0 0 p rfl h (by simp) (by omega) with hh | hh
    · rw [show ((0 : Nat) : Int) = 0 from rfl] at hh
      rw [hh]
      show some (if (getL (rest s p)).2.1 = 0 then _ else _, _) = _
      by_cases h3 : (getL (rest s p)).2.1 = 0
      · rw [if_pos h3]
        simp [getL]
      · rw [if_neg h3]
        have := getL_zero (rest s p) h3
        simp only [this]
        rfl
    · omega
  · rw [if_neg he]
    obtain ⟨k, rfl⟩ : ∃ m, k = m + 1 := ⟨k - 1, by omega⟩
    simp only [code_Reader_Num.l0]
    rw [codeByte_err s _ e he]
    simp only [Option.bind_some, code_Reader_off.f]
    rw [if_pos (by simpa using he)]

theorem refNum_loop (s : ByteArray) (hs : Small s) (f : Nat) : ∀ (k i a p : Nat), i + f = 9 → p ≤ s.size → a < 128 ^ i → 2 * f + 1 ≤ k →
    barqueref01_Reader_Num.l0 k (a : Int) ((128 ^ i : Nat) : Int) (i : Int) s (p : Int) 0 =
      some (if (getF f i (rest s p)).2.1 = 0 then ((a + (getF f i (rest s p)).1 * 128 ^ i : Nat) : Int) else 0, s, ((p + (getF f i (rest s p)).2.2 : Nat) : Int), (getF f i (rest s p)).2.1) ∨ f = 0 := by
  induction f with
  | zero => intro k i a p _ _ _ _; exact .inr rfl
  | succ f ih =>
    intro k i a p hi hp ha hk
    refine .inl ?_
    obtain ⟨k, rfl⟩ : ∃ m, k = m + 2 := ⟨k - 2, by omega⟩
    simp only [barqueref01_Reader_Num.l0]
    rw [if_pos (by omega), refByte s p hs hp]
    by_cases h : p < s.size
    · rw [dif_pos h, rest_cons s p h]
      simp only [Option.bind_some, getF]
      rw [if_pos trivial]
      generalize hc : s[p] = c
      have hcl := c.toNat_lt
      by_cases h1 : 0 < i ∧ c.toNat = 0 ∨ i = 8 ∧ 63 < c.toNat
      · rw [if_pos h1]
        have hfail : ∀ x, barqueref01_Reader_Num.j1 (k + 1) (a : Int) ((128 ^ i : Nat) : Int) (i : Int) x true s ((p + 1 : Nat) : Int) 0 = some (0, s, ((p + 1 : Nat) : Int), 5) := by
          intro x
          simp only [barqueref01_Reader_Num.j1]
          rw [if_pos trivial]
        rw [if_pos (by omega)]
        by_cases h0 : c.toNat = 0
        · rw [if_pos (by omega), hfail]
          simp
        · rw [if_neg (by omega), if_pos (by omega)]
          have e : decide ((c.toNat : Int) > 63) = true := by simp; omega
          rw [e, hfail]
          simp
      · rw [if_neg h1]
        have hgo : ∀ x, x = false → barqueref01_Reader_Num.j1 (k + 1) (a : Int) ((128 ^ i : Nat) : Int) (i : Int) (c.toNat : Int) x s ((p + 1 : Nat) : Int) 0 =
            some (if (if c.toNat < 128 then (c.toNat, 0, 1) else (if (getF f (i + 1) (rest s (p + 1))).2.1 = 0 then c.toNat % 128 + 128 * (getF f (i + 1) (rest s (p + 1))).1 else 0, (getF f (i + 1) (rest s (p + 1))).2.1, (getF f (i + 1) (rest s (p + 1))).2.2 + 1) : Nat × Int × Nat).2.1 = 0 then
              ((a + (if c.toNat < 128 then (c.toNat, 0, 1) else (if (getF f (i + 1) (rest s (p + 1))).2.1 = 0 then c.toNat % 128 + 128 * (getF f (i + 1) (rest s (p + 1))).1 else 0, (getF f (i + 1) (rest s (p + 1))).2.1, (getF f (i + 1) (rest s (p + 1))).2.2 + 1) : Nat × Int × Nat).1 * 128 ^ i : Nat) : Int) else 0, s,
              ((p + (if c.toNat < 128 then (c.toNat, 0, 1) else (if (getF f (i + 1) (rest s (p + 1))).2.1 = 0 then c.toNat % 128 + 128 * (getF f (i + 1) (rest s (p + 1))).1 else 0, (getF f (i + 1) (rest s (p + 1))).2.1, (getF f (i + 1) (rest s (p + 1))).2.2 + 1) : Nat × Int × Nat).2.2 : Nat) : Int),
              (if c.toNat < 128 then (c.toNat, 0, 1) else (if (getF f (i + 1) (rest s (p + 1))).2.1 = 0 then c.toNat % 128 + 128 * (getF f (i + 1) (rest s (p + 1))).1 else 0, (getF f (i + 1) (rest s (p + 1))).2.1, (getF f (i + 1) (rest s (p + 1))).2.2 + 1) : Nat × Int × Nat).2.1) := by
          rintro x rfl
          have hpart := add_part a (c.toNat % 128) (128 ^ i) i (by omega) rfl ha (Nat.mod_lt _ (by decide)) (by omega)
          have hp8 := p128 i (by omega)
          have e1 : Int.tmod (c.toNat : Int) 128 = ((c.toNat % 128 : Nat) : Int) := by
            rw [Int.tmod_eq_emod_of_nonneg (by omega)]
            omega
          have e2 : ((c.toNat % 128 : Nat) : Int) * ((128 ^ i : Nat) : Int) = ((c.toNat % 128 * 128 ^ i : Nat) : Int) := (Int.natCast_mul _ _).symm
          have e3 : wrap64 ((a : Int) + wrap64 ((Int.tmod (c.toNat : Int) 128) * ((128 ^ i : Nat) : Int))) = ((a + c.toNat % 128 * 128 ^ i : Nat) : Int) := by
            have := hpart.2.2
            rw [e1, e2]
            generalize c.toNat % 128 * 128 ^ i = X at this
            rw [w64 (n := (X : Int)) (by omega) (by omega), w64 (by omega) (by omega)]
            omega
          simp only [barqueref01_Reader_Num.j1]
          rw [if_neg (by decide), e3]
          by_cases h2 : c.toNat < 128
          · rw [if_pos (by omega), if_pos h2]
            simp only [if_true]
            rw [show c.toNat % 128 = c.toNat by omega]
          · rw [if_neg (by omega), if_neg h2]
            simp only
            have hf : f ≠ 0 := by
              rintro rfl
              have : i = 8 := by omega
              omega
            have hi7 : i ≤ 7 := by omega
            have e4 : wrap64 (((128 ^ i : Nat) : Int) * 128) = ((128 ^ (i + 1) : Nat) : Int) := by
              have := p128 (i + 1) (by omega)
              rw [Nat.pow_succ] at this ⊢
              generalize 128 ^ i = X at this
              rw [w64 (by omega) (by omega)]
              omega
            rw [e4, show wrap64 ((i : Int) + 1) = ((i + 1 : Nat) : Int) by rw [w64 (by omega) (by omega)]; omega]
            rcases ih k (i + 1) (a + c.toNat % 128 * 128 ^ i) (p + 1) (by omega) (by omega) (by rw [Nat.pow_succ]; exact hpart.2.1) (by omega) with e | e
            · rw [e]
              by_cases h3 : (getF f (i + 1) (rest s (p + 1))).2.1 = 0
              · rw [if_pos h3, if_pos h3, if_pos h3]
                congr 2
                · congr 1
                  rw [Nat.pow_succ, Nat.add_mul, Nat.add_assoc]
                  congr 2
                  rw [Nat.mul_comm (128 ^ i) 128, ← Nat.mul_assoc, Nat.mul_comm _ 128]
                · congr 2
                  omega
              · rw [if_neg h3, if_neg h3]
                congr 4
                omega
            · exact absurd e hf
        by_cases hi0 : (i : Int) > 0
        · rw [if_pos hi0, if_neg (by omega)]
          by_cases h8 : i = 8
          · rw [if_pos (by omega)]
            exact hgo _ (by simp; omega)
          · rw [if_neg (by omega)]
            exact hgo _ rfl
        · rw [if_neg hi0, if_neg (by omega)]
          exact hgo _ rfl
    · rw [dif_neg h, rest_end s p (by omega)]
      simp only [Option.bind_some, getF]
      rw [if_neg (by decide)]
      simp
theorem refRNum (k : Nat) (s : ByteArray) (p : Nat) (e : Int) (hs : Small s) (h : p ≤ s.size) (hk : 40 ≤ k) :
    barqueref01_Reader_Num.f k s (p : Int) e = some ((rNum s p e).1, s, ((rNum s p e).2.1 : Int), (rNum s p e).2.2) := by
  unfold barqueref01_Reader_Num.f rNum
  by_cases he : e = 0
  · subst he
    rw [if_pos rfl]
    rcases refNum_loop s hs 9 k 0 0 p rfl h (by simp) (by omega) with hh | hh
    · rw [show ((0 : Nat) : Int) = 0 from rfl, show ((128 ^ 0 : Nat) : Int) = 1 from rfl] at hh
      rw [hh]
      show some (if (getL (rest s p)).2.1 = 0 then _ else _, _) = _
      by_cases h3 : (getL (rest s p)).2.1 = 0
      · rw [if_pos h3]
        simp [getL]
      · rw [if_neg h3]
        have := getL_zero (rest s p) h3
        simp only [this]
        rfl
    · omega
  · rw [if_neg he]
    obtain ⟨k, rfl⟩ : ∃ m, k = m + 1 := ⟨k - 1, by omega⟩
    simp only [barqueref01_Reader_Num.l0]
    rw [if_pos (by decide), refByte_err s _ e he]
    simp only [Option.bind_some]
    rw [if_neg he]

/-! ### Signed -/
def sOf (n : Int) : Int := if n % 2 = 1 then -(n / 2) - 1 else n / 2
def rSigned (s : ByteArray) (p : Nat) (e : Int) : Int × Nat × Int := (sOf (rNum s p e).1, (rNum s p e).2)
theorem codeRSigned (k : Nat) (s : ByteArray) (p : Nat) (e : Int) (hs : Small s) (h : p ≤ s.size) (hk : 40 ≤ k) :
    code_Reader_Signed.f k s (p : Int) e = some ((rSigned s p e).1, s, ((rSigned s p e).2.1 : Int), (rSigned s p e).2.2) := by
  unfold code_Reader_Signed.f
  rw [codeRNum k s p e hs h hk]
  simp only [Option.bind_some]
  obtain ⟨h0, h1⟩ := rNum_ge s p e
  unfold rSigned sOf
  generalize (rNum s p e).1 = n at h0 h1
  rw [and1 n h0 (by omega)]
  have ed : Int.tdiv n 2 = n / 2 := by rw [Int.tdiv_eq_ediv_of_nonneg h0]
  rw [ed]
  split
  · simp only
    rw [w64 (n := n / 2) (by omega) (by omega), w64 (n := -(n / 2)) (by omega) (by omega), w64 (by omega) (by omega)]
  · simp only
    rw [w64 (by omega) (by omega)]
theorem refRSigned (k : Nat) (s : ByteArray) (p : Nat) (e : Int) (hs : Small s) (h : p ≤ s.size) (hk : 40 ≤ k) :
    barqueref01_Reader_Signed.f k s (p : Int) e = some ((rSigned s p e).1, s, ((rSigned s p e).2.1 : Int), (rSigned s p e).2.2) := by
  unfold barqueref01_Reader_Signed.f
  rw [refRNum k s p e hs h hk]
  simp only [Option.bind_some]
  obtain ⟨h0, h1⟩ := rNum_ge s p e
  unfold rSigned sOf
  generalize (rNum s p e).1 = n at h0 h1
  have ed : Int.tdiv n 2 = n / 2 := by rw [Int.tdiv_eq_ediv_of_nonneg h0]
  have em : Int.tmod n 2 = n % 2 := by rw [Int.tmod_eq_emod_of_nonneg h0]
  rw [ed, em]
  split
  · simp only
    rw [w64 (n := n / 2) (by omega) (by omega), w64 (n := -(n / 2)) (by omega) (by omega), w64 (by omega) (by omega)]
  · simp only
    rw [w64 (by omega) (by omega)]

/-! ### Raw -/
def rRaw (s : ByteArray) (p : Nat) (e : Int) (n : Int) : ByteArray × Nat × Int :=
  if e ≠ 0 then (bs [], p, e) else if n < 0 then (bs [], p, 1) else if n > (s.size : Int) - p then (bs [], p, 3) else (s.extract p (p + n.toNat), p + n.toNat, 0)
theorem rRaw_le (s : ByteArray) (p : Nat) (e : Int) (n : Int) (h : p ≤ s.size) : (rRaw s p e n).2.1 ≤ s.size := by
  unfold rRaw
  split
  · exact h
  · split
    · exact h
    · split
      · exact h
      · show p + n.toNat ≤ s.size
        omega
theorem codeRRaw (s : ByteArray) (p : Nat) (e : Int) (n : Int) (hs : Small s) (h : p ≤ s.size) (hn : n < 9223372036854775808) :
    code_Reader_Raw.f s (p : Int) e n = some ((rRaw s p e n).1, s, ((rRaw s p e n).2.1 : Int), (rRaw s p e n).2.2) := by
  unfold Small at hs
  unfold code_Reader_Raw.f rRaw code_Reader_off.f code_Reader_Left.f
  simp only [Option.bind_some]
  by_cases he : e = 0
  · subst he
    rw [if_neg (by decide), if_neg (show ¬ ((0 : Int) ≠ 0) by decide)]
    by_cases h0 : n < 0
    · rw [if_pos h0, if_pos h0]
      rfl
    · rw [if_neg h0, if_neg h0, w64 (n := (s.size : Int) - p) (by omega) (by omega)]
      by_cases h1 : n > (s.size : Int) - p
      · rw [if_pos h1, if_pos h1]
        rfl
      · rw [if_neg h1, if_neg h1, w64 (n := (p : Int) + n) (by omega) (by omega), w64 (by omega) (by omega), if_pos (by omega), if_pos (by omega), if_pos (by omega)]
        rw [show ((p : Int) + n - n).toNat = p by omega, show ((p : Int) + n).toNat = p + n.toNat by omega, show (p : Int) + n = ((p + n.toNat : Nat) : Int) by omega]
  · rw [if_pos (by simpa using he), if_pos he]
    rfl
theorem refRRaw (s : ByteArray) (p : Nat) (e : Int) (n : Int) (hs : Small s) (h : p ≤ s.size) (hn : n < 9223372036854775808) :
    barqueref01_Reader_Raw.f s (p : Int) e n = some ((rRaw s p e n).1, s, ((rRaw s p e n).2.1 : Int), (rRaw s p e n).2.2) := by
  unfold Small at hs
  unfold barqueref01_Reader_Raw.f rRaw
  by_cases he : e = 0
  · subst he
    rw [if_pos rfl, if_neg (show ¬ ((0 : Int) ≠ 0) by decide)]
    by_cases h0 : n < 0
    · rw [if_pos h0, if_pos h0]
      rfl
    · rw [if_neg h0, if_neg h0, w64 (n := (s.size : Int) - p) (by omega) (by omega)]
      by_cases h1 : n > (s.size : Int) - p
      · rw [if_pos h1, if_pos h1]
        rfl
      · rw [if_neg h1, if_neg h1, w64 (n := (p : Int) + n) (by omega) (by omega), w64 (by omega) (by omega), if_pos (by omega), if_pos (by omega), if_pos (by omega)]
        rw [show ((p : Int) + n - n).toNat = p by omega, show ((p : Int) + n).toNat = p + n.toNat by omega, show (p : Int) + n = ((p + n.toNat : Nat) : Int) by omega]
  · rw [if_neg he, if_pos he]
    rfl

/-! ### Count, Text -/
def rCount (s : ByteArray) (p : Nat) (e : Int) (most : Int) : Int × Nat × Int :=
  if (rNum s p e).2.2 = 0 ∧ (rNum s p e).1 > most then (0, (rNum s p e).2.1, 4) else rNum s p e
theorem rCount_le (s : ByteArray) (p : Nat) (e : Int) (most : Int) (h : p ≤ s.size) : (rCount s p e most).2.1 ≤ s.size := by
  have := rNum_le s p e h
  unfold rCount
  split <;> exact this
theorem rCount_ge (s : ByteArray) (p : Nat) (e : Int) (most : Int) : 0 ≤ (rCount s p e most).1 ∧ (rCount s p e most).1 < 4611686018427387904 := by
  have := rNum_ge s p e
  unfold rCount
  split
  · exact ⟨Int.le_refl _, by show (0 : Int) < 4611686018427387904; decide⟩
  · exact this
theorem rCount_zero (s : ByteArray) (p : Nat) (e : Int) (most : Int) (h : (rCount s p e most).2.2 ≠ 0) : (rCount s p e most).1 = 0 := by
  unfold rCount at h ⊢
  split
  · rfl
  · rename_i hc
    rw [if_neg hc] at h
    exact rNum_zero s p e h
theorem codeRCount (k : Nat) (s : ByteArray) (p : Nat) (e : Int) (most : Int) (hs : Small s) (h : p ≤ s.size) (hk : 40 ≤ k) :
    code_Reader_Count.f k s (p : Int) e most = some ((rCount s p e most).1, s, ((rCount s p e most).2.1 : Int), (rCount s p e most).2.2) := by
  unfold code_Reader_Count.f
  rw [codeRNum k s p e hs h hk]
  unfold code_Reader_off.f code_Reader_fail.f code_Reader_off.f rCount
  simp only [Option.bind_some]
  by_cases he : (rNum s p e).2.2 = 0
  · rw [he, if_neg (by decide)]
    by_cases h1 : (rNum s p e).1 > most
    · rw [if_pos h1, if_neg (by decide), if_pos ⟨rfl, h1⟩]
      rfl
    · rw [if_neg h1, if_neg (fun hh => h1 hh.2), he]
  · rw [if_pos (by simpa using he), if_neg (fun hh => he hh.1)]
theorem refRCount (k : Nat) (s : ByteArray) (p : Nat) (e : Int) (most : Int) (hs : Small s) (h : p ≤ s.size) (hk : 40 ≤ k) :
    barqueref01_Reader_Count.f k s (p : Int) e most = some ((rCount s p e most).1, s, ((rCount s p e most).2.1 : Int), (rCount s p e most).2.2) := by
  unfold barqueref01_Reader_Count.f
  rw [refRNum k s p e hs h hk]
  unfold rCount
  simp only [Option.bind_some]
  by_cases he : (rNum s p e).2.2 = 0
  · rw [he, if_pos rfl]
    by_cases h1 : (rNum s p e).1 > most
    · rw [if_pos h1, if_pos ⟨rfl, h1⟩]
    · rw [if_neg h1, if_neg (fun hh => h1 hh.2), he]
  · rw [if_neg he, if_neg (fun hh => he hh.1)]
def rText (s : ByteArray) (p : Nat) (e : Int) (most : Int) : ByteArray × Nat × Int := rRaw s (rCount s p e most).2.1 (rCount s p e most).2.2 (rCount s p e most).1
theorem rText_le (s : ByteArray) (p : Nat) (e : Int) (most : Int) (h : p ≤ s.size) : (rText s p e most).2.1 ≤ s.size := rRaw_le _ _ _ _ (rCount_le s p e most h)
theorem codeRText (k : Nat) (s : ByteArray) (p : Nat) (e : Int) (most : Int) (hs : Small s) (h : p ≤ s.size) (hk : 40 ≤ k) :
    code_Reader_Text.f k s (p : Int) e most = some ((rText s p e most).1, s, ((rText s p e most).2.1 : Int), (rText s p e most).2.2) := by
  unfold code_Reader_Text.f
  rw [codeRCount k s p e most hs h hk]
  simp only [Option.bind_some]
  have := rCount_ge s p e most
  rw [codeRRaw s _ _ _ hs (rCount_le s p e most h) (by omega)]
  rfl
theorem refRText (k : Nat) (s : ByteArray) (p : Nat) (e : Int) (most : Int) (hs : Small s) (h : p ≤ s.size) (hk : 40 ≤ k) :
    barqueref01_Reader_Text.f k s (p : Int) e most = some ((rText s p e most).1, s, ((rText s p e most).2.1 : Int), (rText s p e most).2.2) := by
  unfold barqueref01_Reader_Text.f
  rw [refRCount k s p e most hs h hk]
  simp only [Option.bind_some]
  have := rCount_ge s p e most
  rw [refRRaw s _ _ _ hs (rCount_le s p e most h) (by omega)]
  rfl

/-! ### End -/
def rEnd (s : ByteArray) (p : Nat) (e : Int) : Int := if e = 0 ∧ p < s.size then 4 else e
theorem codeREnd (k : Nat) (s : ByteArray) (p : Nat) (e : Int) (hs : Small s) (h : p ≤ s.size) (hk : 2 ≤ k) :
    code_Reader_End.f k s (p : Int) e = some (rEnd s p e, s, (p : Int), rEnd s p e) := by
  unfold Small at hs
  obtain ⟨k, rfl⟩ : ∃ m, k = m + 1 := ⟨k - 1, by omega⟩
  unfold code_Reader_End.f code_Reader_off.f code_Reader_Left.f rEnd
  simp only [Option.bind_some]
  by_cases he : e = 0
  · subst he
    rw [if_neg (by decide), w64 (by omega) (by omega)]
    by_cases h1 : p < s.size
    · rw [if_pos ⟨rfl, h1⟩]
      have : decide ((s.size : Int) - p > 0) = true := by simp; omega
      rw [this]
      rfl
    · rw [if_neg (fun hh => h1 hh.2)]
      have : decide ((s.size : Int) - p > 0) = false := by simp; omega
      rw [this]
      rfl
  · rw [if_pos (by simpa using he), if_neg (fun hh => he hh.1)]
    rfl
theorem refREnd (s : ByteArray) (p : Nat) (e : Int) : barqueref01_Reader_End.f s (p : Int) e = some (rEnd s p e, s, (p : Int), rEnd s p e) := by
  unfold barqueref01_Reader_End.f rEnd
  by_cases he : e = 0
  · subst he
    rw [if_pos rfl]
    by_cases h1 : p < s.size
    · rw [if_pos (by omega), if_pos ⟨rfl, h1⟩]
    · rw [if_neg (by omega), if_neg (fun hh => h1 hh.2)]
  · rw [if_neg he, if_neg (fun hh => he hh.1)]

/-! ### Nums, Texts -/
def numsG (s : ByteArray) : Nat → Nat → List Int × Nat × Int
  | 0, p => ([], p, 0)
  | c + 1, p =>
    if (rNum s p 0).2.2 = 0 then
      if (numsG s c (rNum s p 0).2.1).2.2 = 0 then ((rNum s p 0).1 :: (numsG s c (rNum s p 0).2.1).1, (numsG s c (rNum s p 0).2.1).2) else ([], (numsG s c (rNum s p 0).2.1).2)
    else ([], (rNum s p 0).2)
theorem rNum_more (s : ByteArray) (p : Nat) (h : (rNum s p 0).2.2 = 0) : p < (rNum s p 0).2.1 := by
  unfold rNum at h ⊢
  rw [if_pos rfl] at h ⊢
  have := getL_pos (rest s p) h
  show p < p + _
  omega
theorem numsG_ok (s : ByteArray) (c p : Nat) (h : (rNum s p 0).2.2 = 0) : numsG s (c + 1) p =
    (if (numsG s c (rNum s p 0).2.1).2.2 = 0 then (rNum s p 0).1 :: (numsG s c (rNum s p 0).2.1).1 else [], (numsG s c (rNum s p 0).2.1).2) := by
  simp only [numsG]
  rw [if_pos h]
  split <;> rfl
theorem numsG_no (s : ByteArray) (c p : Nat) (h : (rNum s p 0).2.2 ≠ 0) : numsG s (c + 1) p = ([], (rNum s p 0).2) := by
  simp only [numsG]
  rw [if_neg h]
theorem codeNums_l0 (s : ByteArray) (hs : Small s) (hss : s.size ≤ 1000000000000) (d : Nat) : ∀ (k c i p : Nat) (acc : List Int), p ≤ s.size → s.size - p = d → d + 60 ≤ k → i + c < 4611686018427387904 → acc.length ≤ p →
    code_Reader_Nums.l0 k acc ((i + c : Nat) : Int) (i : Int) s (p : Int) 0 =
      some (if (numsG s c p).2.2 = 0 then acc ++ (numsG s c p).1 else [], s, ((numsG s c p).2.1 : Int), (numsG s c p).2.2) := by
  induction d using Nat.strongRecOn with
  | ind d ih =>
    intro k c i p acc hp hd hk hc ha
    obtain ⟨k, rfl⟩ : ∃ m, k = m + 1 := ⟨k - 1, by omega⟩
    simp only [code_Reader_Nums.l0]
    cases c with
    | zero =>
      rw [if_neg (by omega)]
      simp [numsG]
    | succ c =>
      rw [if_pos (by omega), codeRNum k s p 0 hs hp (by omega)]
      simp only [Option.bind_some, code_Reader_off.f]
      by_cases he : (rNum s p 0).2.2 = 0
      · have hm := rNum_more s p he
        have hl := rNum_le s p 0 hp
        rw [numsG_ok s c p he, he]
        generalize rNum s p 0 = r at hm hl ⊢
        obtain ⟨n, q, e⟩ := r
        simp only at hm hl ⊢
        rw [if_neg (by decide), if_pos (by omega)]
        have hh := ih (s.size - q) (by omega) k c (i + 1) q (acc ++ [n]) hl rfl (by omega) (by omega) (by simp; omega)
        rw [show wrap64 ((i : Int) + 1) = ((i + 1 : Nat) : Int) by rw [w64 (by omega) (by omega)]; omega, show i + (c + 1) = i + 1 + c by omega, hh]
        by_cases h2 : (numsG s c q).2.2 = 0
        · simp [h2]
        · simp [h2]
      · rw [numsG_no s c p he, if_pos (by simpa using he)]
        simp [he]
theorem refNums_l0 (s : ByteArray) (hs : Small s) (hss : s.size ≤ 1000000000000) (d : Nat) : ∀ (k c i p : Nat) (acc : List Int), p ≤ s.size → s.size - p = d → d + 60 ≤ k → i + c < 4611686018427387904 → acc.length ≤ p →
    barqueref01_Reader_Nums.l0 k ((i + c : Nat) : Int) acc (i : Int) s (p : Int) 0 =
      some (if (numsG s c p).2.2 = 0 then acc ++ (numsG s c p).1 else [], s, ((numsG s c p).2.1 : Int), (numsG s c p).2.2) := by
  induction d using Nat.strongRecOn with
  | ind d ih =>
    intro k c i p acc hp hd hk hc ha
    obtain ⟨k, rfl⟩ : ∃ m, k = m + 2 := ⟨k - 2, by omega⟩
    rw [barqueref01_Reader_Nums.l0]
    cases c with
    | zero =>
      rw [if_neg (by omega), if_pos rfl]
      simp [numsG]
    | succ c =>
      rw [if_pos (by omega), if_pos rfl, refRNum (k + 1) s p 0 hs hp (by omega)]
      simp only [Option.bind_some]
      rw [if_pos (by omega)]
      by_cases he : (rNum s p 0).2.2 = 0
      · have hm := rNum_more s p he
        have hl := rNum_le s p 0 hp
        rw [numsG_ok s c p he, he]
        generalize rNum s p 0 = r at hm hl ⊢
        obtain ⟨n, q, e⟩ := r
        simp only at hm hl ⊢
        have hh := ih (s.size - q) (by omega) (k + 1) c (i + 1) q (acc ++ [n]) hl rfl (by omega) (by omega) (by simp; omega)
        rw [show wrap64 ((i : Int) + 1) = ((i + 1 : Nat) : Int) by rw [w64 (by omega) (by omega)]; omega, show i + (c + 1) = i + 1 + c by omega, hh]
        by_cases h2 : (numsG s c q).2.2 = 0
        · simp [h2]
        · simp [h2]
      · rw [numsG_no s c p he, barqueref01_Reader_Nums.l0, if_neg he, if_neg he]
        simp [he]
def rNums (s : ByteArray) (p : Nat) (e : Int) (most : Int) : List Int × Nat × Int :=
  if (rCount s p e most).2.2 = 0 then numsG s (rCount s p e most).1.toNat (rCount s p e most).2.1 else ([], (rCount s p e most).2)
theorem numsG_nil (s : ByteArray) : ∀ (c p : Nat), (numsG s c p).2.2 ≠ 0 → (numsG s c p).1 = []
  | 0, p, h => rfl
  | c + 1, p, h => by
    simp only [numsG] at h ⊢
    split
    · rename_i h1
      rw [if_pos h1] at h
      split
      · rename_i h2
        rw [if_pos h2] at h
        exact absurd h2 h
      · rfl
    · rfl
theorem numsG_le (s : ByteArray) : ∀ (c p : Nat), p ≤ s.size → (numsG s c p).2.1 ≤ s.size
  | 0, p, h => h
  | c + 1, p, h => by
    have h1 := rNum_le s p 0 h
    have h2 := numsG_le s c _ h1
    simp only [numsG]
    split
    · split <;> exact h2
    · exact h1
theorem rNums_le (s : ByteArray) (p : Nat) (e : Int) (most : Int) (h : p ≤ s.size) : (rNums s p e most).2.1 ≤ s.size := by
  have := rCount_le s p e most h
  unfold rNums
  split
  · exact numsG_le s _ _ this
  · exact this
theorem rNum_from (s : ByteArray) (p : Nat) (e : Int) : p ≤ (rNum s p e).2.1 := by
  unfold rNum
  split
  · exact Nat.le_add_right _ _
  · exact Nat.le_refl _
theorem rCount_from (s : ByteArray) (p : Nat) (e : Int) (most : Int) : p ≤ (rCount s p e most).2.1 := by
  unfold rCount
  split
  · exact rNum_from s p e
  · exact rNum_from s p e
theorem codeRNums (k : Nat) (s : ByteArray) (p : Nat) (e : Int) (most : Int) (hs : Small s) (hss : s.size ≤ 1000000000000) (h : p ≤ s.size) (hk : s.size + 60 ≤ k) :
    code_Reader_Nums.f k s (p : Int) e most = some ((rNums s p e most).1, s, ((rNums s p e most).2.1 : Int), (rNums s p e most).2.2) := by
  unfold code_Reader_Nums.f
  rw [codeRCount k s p e most hs h (by omega)]
  simp only [Option.bind_some]
  have hg := rCount_ge s p e most
  have hl := rCount_le s p e most h
  unfold rNums
  by_cases he : (rCount s p e most).2.2 = 0
  · rw [if_pos he, he]
    have hh := codeNums_l0 s hs hss _ k (rCount s p e most).1.toNat 0 (rCount s p e most).2.1 [] hl rfl (by omega) (by omega) (by simp)
    rw [show ((0 + (rCount s p e most).1.toNat : Nat) : Int) = (rCount s p e most).1 by omega, show ((0 : Nat) : Int) = 0 from rfl] at hh
    rw [hh]
    by_cases h2 : (numsG s (rCount s p e most).1.toNat (rCount s p e most).2.1).2.2 = 0
    · rw [if_pos h2]
      rfl
    · rw [if_neg h2, numsG_nil s _ _ h2]
  · rw [if_neg he, rCount_zero s p e most he]
    obtain ⟨k, rfl⟩ : ∃ m, k = m + 1 := ⟨k - 1, by omega⟩
    simp only [code_Reader_Nums.l0]
    rw [if_neg (by omega)]
theorem refRNums (k : Nat) (s : ByteArray) (p : Nat) (e : Int) (most : Int) (hs : Small s) (hss : s.size ≤ 1000000000000) (h : p ≤ s.size) (hk : s.size + 60 ≤ k) :
    barqueref01_Reader_Nums.f k s (p : Int) e most = some ((rNums s p e most).1, s, ((rNums s p e most).2.1 : Int), (rNums s p e most).2.2) := by
  unfold barqueref01_Reader_Nums.f
  rw [refRCount k s p e most hs h (by omega)]
  simp only [Option.bind_some]
  have hg := rCount_ge s p e most
  have hl := rCount_le s p e most h
  unfold rNums
  by_cases he : (rCount s p e most).2.2 = 0
  · rw [if_pos he, he]
    have hh := refNums_l0 s hs hss _ k (rCount s p e most).1.toNat 0 (rCount s p e most).2.1 [] hl rfl (by omega) (by omega) (by simp)
    rw [show ((0 + (rCount s p e most).1.toNat : Nat) : Int) = (rCount s p e most).1 by omega, show ((0 : Nat) : Int) = 0 from rfl] at hh
    rw [hh]
    by_cases h2 : (numsG s (rCount s p e most).1.toNat (rCount s p e most).2.1).2.2 = 0
    · rw [if_pos h2]
      rfl
    · rw [if_neg h2, numsG_nil s _ _ h2]
  · rw [if_neg he, rCount_zero s p e most he]
    obtain ⟨k, rfl⟩ : ∃ m, k = m + 1 := ⟨k - 1, by omega⟩
    simp only [barqueref01_Reader_Nums.l0]
    rw [if_neg (by omega), if_neg he]
end Go.Proofs.Ytocjhpjljlcboaa.Spec
