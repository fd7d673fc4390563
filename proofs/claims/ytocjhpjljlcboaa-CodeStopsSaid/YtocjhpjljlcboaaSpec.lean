/- What chapter 1 says of numbers, texts, lists and readers, over lists of bytes: plain functions, and that what is made is read again, and what is read is what would be made. -/
namespace Go.Proofs.Ytocjhpjljlcboaa.Spec

/-! ### A number's bytes -/
def numF : Nat → Nat → List UInt8
  | 0, _ => []
  | f + 1, n => if n < 128 then [UInt8.ofNat n] else UInt8.ofNat (n % 128 + 128) :: numF f (n / 128)
/-- The bytes of a number below 2^62. -/
def numL (n : Nat) : List UInt8 := numF 9 n

theorem numF_more (f : Nat) : ∀ (g n : Nat), n < 128 ^ (f + 1) → f ≤ g → numF (g + 1) n = numF (f + 1) n := by
  induction f with
  | zero =>
    intro g n h hg
    have h1 : n < 128 := by simpa using h
    simp only [numF, if_pos h1]
  | succ f ih =>
    intro g n h hg
    obtain ⟨g, rfl⟩ : ∃ m, g = m + 1 := ⟨g - 1, by omega⟩
    by_cases hn : n < 128
    · rw [numF.eq_2 n (g + 1), numF.eq_2 n (f + 1), if_pos hn, if_pos hn]
    · rw [numF.eq_2 n (g + 1), if_neg hn, ih g (n / 128) (by rw [Nat.pow_succ] at h; omega) (by omega), numF.eq_2 n (f + 1), if_neg hn]

theorem numF_pos (f n : Nat) : 0 < (numF (f + 1) n).length := by
  simp only [numF]
  split <;> simp
theorem numF_le (f n : Nat) : (numF f n).length ≤ f := by
  induction f generalizing n with
  | zero => simp [numF]
  | succ f ih =>
    simp only [numF]
    split
    · simp
    · have := ih (n / 128)
      simp
      omega
theorem numL_pos (n : Nat) : 0 < (numL n).length := numF_pos 8 n
theorem numL_le (n : Nat) : (numL n).length ≤ 9 := numF_le 9 n

/-! ### A number is read: (its value, the error, how many bytes are gone) -/
def getF : Nat → Nat → List UInt8 → Nat × Int × Nat
  | 0, _, _ => (0, 0, 0)
  | _ + 1, _, [] => (0, 3, 0)
  | f + 1, i, c :: t =>
    if 0 < i ∧ c.toNat = 0 ∨ i = 8 ∧ 63 < c.toNat then (0, 5, 1)
    else if c.toNat < 128 then (c.toNat, 0, 1)
    else
      let r := getF f (i + 1) t
      (if r.2.1 = 0 then c.toNat % 128 + 128 * r.1 else 0, r.2.1, r.2.2 + 1)
def getL (l : List UInt8) : Nat × Int × Nat := getF 9 0 l

theorem getF_used (f : Nat) : ∀ (i : Nat) (l : List UInt8), (getF f i l).2.2 ≤ l.length := by
  induction f with
  | zero => intro i l; simp [getF]
  | succ f ih =>
    intro i l
    cases l with
    | nil => simp [getF]
    | cons c t =>
      simp only [getF]
      split
      · simp
      · split
        · simp
        · have := ih (i + 1) t
          simp
          omega
theorem getL_used (l : List UInt8) : (getL l).2.2 ≤ l.length := getF_used 9 0 l

theorem getF_err (f : Nat) : ∀ (i : Nat) (l : List UInt8), (getF f i l).2.1 = 0 ∨ (getF f i l).2.1 = 3 ∨ (getF f i l).2.1 = 5 := by
  induction f with
  | zero => intro i l; simp [getF]
  | succ f ih =>
    intro i l
    cases l with
    | nil => simp [getF]
    | cons c t =>
      simp only [getF]
      split
      · simp
      · split
        · simp
        · exact ih (i + 1) t
theorem getL_err (l : List UInt8) : (getL l).2.1 = 0 ∨ (getL l).2.1 = 3 ∨ (getL l).2.1 = 5 := getF_err 9 0 l
theorem getF_zero (f : Nat) : ∀ (i : Nat) (l : List UInt8), (getF f i l).2.1 ≠ 0 → (getF f i l).1 = 0 := by
  induction f with
  | zero => intro i l h; simp [getF]
  | succ f ih =>
    intro i l h
    cases l with
    | nil => simp [getF]
    | cons c t =>
      simp only [getF] at h ⊢
      split
      · rfl
      · rename_i h1
        rw [if_neg h1] at h
        split
        · rename_i h2
          rw [if_pos h2] at h
          exact absurd rfl h
        · rename_i h2
          rw [if_neg h2] at h
          exact if_neg h
theorem getL_zero (l : List UInt8) (h : (getL l).2.1 ≠ 0) : (getL l).1 = 0 := getF_zero 9 0 l h

/-- At most 2^62 - 1. -/
theorem getF_lt (f : Nat) : ∀ (i : Nat) (l : List UInt8), i + f = 9 → (getF f i l).1 * 128 ^ i < 4611686018427387904 := by
  induction f with
  | zero => intro i l h; simp [getF]
  | succ f ih =>
    intro i l h
    cases l with
    | nil => simp [getF]
    | cons c t =>
      simp only [getF]
      split
      · simp
      · rename_i h1
        have hc := c.toNat_lt
        split
        · rename_i h2
          by_cases hi : i = 8
          · subst hi
            have : c.toNat ≤ 63 := by omega
            simp only
            have e : (128 : Nat) ^ 8 = 72057594037927936 := by decide
            rw [e]
            omega
          · have e : (128 : Nat) ^ i ≤ 128 ^ 7 := Nat.pow_le_pow_right (by decide) (by omega)
            have e7 : (128 : Nat) ^ 7 = 562949953421312 := by decide
            have := Nat.mul_le_mul (show c.toNat ≤ 127 by omega) e
            simp only
            omega
        · rename_i h2
          have ht := ih (i + 1) t (by omega)
          by_cases hi : i = 8
          · omega
          · split
            · simp only
              have e : (128 : Nat) ^ (i + 1) = 128 ^ i * 128 := Nat.pow_succ _ _
              rw [e] at ht
              have hi7 : i ≤ 7 := by omega
              generalize hr : (getF f (i + 1) t).1 = r at ht
              -- (c % 128 + 128 r) 128^i < 2^62, out of r 128^(i+1) < 2^62
              have hp : 128 ^ i * 128 ^ (8 - i) * 64 = 4611686018427387904 := by
                rw [← Nat.pow_add, show i + (8 - i) = 8 by omega]
              have hq : 128 ^ (8 - i) = 128 * 128 ^ (7 - i) := by
                rw [show 8 - i = (7 - i) + 1 by omega, Nat.pow_succ, Nat.mul_comm]
              have hP : 0 < 128 ^ i := Nat.pow_pos (by decide)
              generalize 128 ^ i = P at ht hp hP
              generalize 128 ^ (7 - i) = Q at hq
              rw [hq] at hp
              have h3 : r * 128 < 128 * Q * 64 := by
                have : P * (r * 128) < P * (128 * Q * 64) := by
                  have e1 : P * (r * 128) = r * (P * 128) := by
                    rw [Nat.mul_left_comm]
                  have e2 : P * (128 * Q * 64) = P * (128 * Q) * 64 := by simp only [Nat.mul_assoc]
                  rw [e1, e2, hp]
                  exact ht
                exact Nat.lt_of_mul_lt_mul_left this
              have h4 : c.toNat % 128 + 128 * r < 128 * Q * 64 := by
                have : c.toNat % 128 < 128 := Nat.mod_lt _ (by decide)
                have h5 : r < Q * 64 := by omega
                omega
              calc (c.toNat % 128 + 128 * r) * P < (128 * Q * 64) * P := Nat.mul_lt_mul_of_pos_right h4 hP
                _ = P * (128 * Q) * 64 := by rw [Nat.mul_comm, ← Nat.mul_assoc]
                _ = 4611686018427387904 := hp
            · simp
theorem getL_lt (l : List UInt8) : (getL l).1 < 4611686018427387904 := by
  have h := getF_lt 9 0 l rfl
  rw [Nat.pow_zero, Nat.mul_one] at h
  exact h

/-- What was made is read again. -/
theorem getF_numF (f : Nat) : ∀ (i n : Nat) (t : List UInt8), i + f = 9 → n * 128 ^ i < 4611686018427387904 → 0 < i → 0 < n → getF f i (numF f n ++ t) = (n, 0, (numF f n).length) := by
  induction f with
  | zero =>
    intro i n t h hn hi h0
    obtain rfl : i = 9 := by omega
    have : (128 : Nat) ^ 9 = 9223372036854775808 := by decide
    rw [this] at hn
    omega
  | succ f ih =>
    intro i n t h hn hi h0
    have hi8 : i ≤ 8 := by omega
    by_cases h1 : n < 128
    · simp only [numF, if_pos h1, List.cons_append, List.nil_append, getF]
      have e : (UInt8.ofNat n).toNat = n := by simp; omega
      rw [e]
      have hx : ¬ (0 < i ∧ n = 0 ∨ i = 8 ∧ 63 < n) := by
        intro hh
        rcases hh with hh | ⟨rfl, hh⟩
        · omega
        · have e8 : (128 : Nat) ^ 8 = 72057594037927936 := by decide
          rw [e8] at hn
          omega
      rw [if_neg hx, if_pos h1]
      simp
    · simp only [numF, if_neg h1, List.cons_append, getF]
      have e : (UInt8.ofNat (n % 128 + 128)).toNat = n % 128 + 128 := by simp; omega
      rw [e]
      have hi7 : i ≠ 8 := by
        rintro rfl
        have e8 : (128 : Nat) ^ 8 = 72057594037927936 := by decide
        rw [e8] at hn
        omega
      have hx : ¬ (0 < i ∧ n % 128 + 128 = 0 ∨ i = 8 ∧ 63 < n % 128 + 128) := by omega
      rw [if_neg hx, if_neg (by omega)]
      have hr := ih (i + 1) (n / 128) t (by omega) (by
        rw [Nat.pow_succ]
        have h2 : n / 128 * 128 ≤ n := Nat.div_mul_le_self n 128
        calc n / 128 * (128 ^ i * 128) = (n / 128 * 128) * 128 ^ i := by rw [Nat.mul_comm (128 ^ i) 128, Nat.mul_assoc]
          _ ≤ n * 128 ^ i := Nat.mul_le_mul_right _ h2
          _ < _ := hn) (by omega) (by omega)
      rw [hr]
      simp
      omega
theorem getL_numL (n : Nat) (t : List UInt8) (hn : n < 4611686018427387904) : getL (numL n ++ t) = (n, 0, (numL n).length) := by
  unfold getL numL
  by_cases h1 : n < 128
  · simp only [numF, if_pos h1, List.cons_append, List.nil_append, getF]
    have e : (UInt8.ofNat n).toNat = n := by simp; omega
    rw [e, if_neg (by omega), if_pos h1]
    simp
  · rw [show (9 : Nat) = 8 + 1 from rfl]
    simp only [numF, if_neg h1, List.cons_append, getF]
    have e : (UInt8.ofNat (n % 128 + 128)).toNat = n % 128 + 128 := by simp; omega
    rw [e, if_neg (by omega), if_neg (by omega)]
    have hr := getF_numF 8 1 (n / 128) t rfl (by omega) (by omega) (by omega)
    rw [show (0 + 1 : Nat) = 1 from rfl]
    simp only [numF] at hr ⊢
    rw [hr]
    simp
    omega

/-- What is read without an error is just what would be made. -/
theorem numF_getF (f : Nat) : ∀ (i : Nat) (l : List UInt8), i + f = 9 → (getF f i l).2.1 = 0 → 0 < f → numF f (getF f i l).1 = l.take (getF f i l).2.2 ∧ (0 < i → 0 < (getF f i l).1) := by
  induction f with
  | zero => intro i l h he h0; omega
  | succ f ih =>
    intro i l h he h0
    cases l with
    | nil => simp [getF] at he
    | cons c t =>
      simp only [getF] at he ⊢
      by_cases h1 : 0 < i ∧ c.toNat = 0 ∨ i = 8 ∧ 63 < c.toNat
      · rw [if_pos h1] at he
        simp at he
      · rw [if_neg h1] at he ⊢
        by_cases h2 : c.toNat < 128
        · rw [if_pos h2]
          simp only [numF, if_pos h2]
          refine ⟨by simp, by omega⟩
        · rw [if_neg h2] at he ⊢
          simp only at he ⊢
          rw [if_pos he]
          have hc := c.toNat_lt
          have hf : 0 < f := by
            rcases Nat.eq_zero_or_pos f with rfl | h'
            · exfalso
              have : i = 8 := by omega
              omega
            · exact h'
          obtain ⟨h3, h4⟩ := ih (i + 1) t (by omega) he hf
          have h5 := h4 (by omega)
          have e1 : (c.toNat % 128 + 128 * (getF f (i + 1) t).1) % 128 = c.toNat - 128 := by omega
          have e2 : (c.toNat % 128 + 128 * (getF f (i + 1) t).1) / 128 = (getF f (i + 1) t).1 := by omega
          refine ⟨?_, fun _ => by omega⟩
          simp only [numF]
          rw [if_neg (by omega), e1, e2, h3]
          have e3 : c.toNat - 128 + 128 = c.toNat := by omega
          rw [e3]
          simp
theorem numL_getL (l : List UInt8) (h : (getL l).2.1 = 0) : numL (getL l).1 = l.take (getL l).2.2 := (numF_getF 9 0 l rfl h (by decide)).1
theorem getL_pos (l : List UInt8) (h : (getL l).2.1 = 0) : 0 < (getL l).2.2 := by
  have h1 := congrArg List.length (numL_getL l h)
  have h2 := numL_pos (getL l).1
  have h3 := getL_used l
  rw [List.length_take] at h1
  omega
end Go.Proofs.Ytocjhpjljlcboaa.Spec
