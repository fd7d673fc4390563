/- How long a pressed text is. -/
import Derived.Test.YtocjhpjljlcboaaPBack
namespace Go.Proofs.Ytocjhpjljlcboaa.Q
open Go.RowKit Go.Proofs.YtocjhpjljlcboaaW.PrintWords Go.Proofs.YtocjhpjljlcboaaW.PrintLast Go.Proofs.YtocjhpjljlcboaaW.PrintMore
open Go.Proofs.Ytocjhpjljlcboaa.Lay Go.Proofs.Ytocjhpjljlcboaa.Spec
set_option linter.unusedVariables false
namespace Press
theorem numF_short : ∀ (k f n : Nat), n < 128 ^ (k + 1) → (numF f n).length ≤ k + 1
  | _, 0, _, _ => by simp [numF]
  | 0, f + 1, n, h => by
    simp only [numF]
    rw [if_pos (by simpa using h)]
    simp
  | k + 1, f + 1, n, h => by
    simp only [numF]
    split
    · simp
    · have := numF_short k f (n / 128) (by rw [Nat.pow_succ] at h; omega)
      simp only [List.length_cons]
      omega
theorem numL_1 (n : Nat) (h : n < 128) : (numL n).length ≤ 1 := numF_short 0 9 n (by omega)
theorem numL_2 (n : Nat) (h : n < 16384) : (numL n).length ≤ 2 := numF_short 1 9 n (by omega)
theorem numL_3 (n : Nat) (h : n < 2097152) : (numL n).length ≤ 3 := numF_short 2 9 n (by omega)
theorem plain_cost (s : ByteArray) (fr a : Nat) (ha : a ≤ s.size) (hs : s.size ≤ 1048575) : (plainL s fr a).length ≤ (a - fr) + (a - fr) / 64 + 1 := by
  unfold plainL
  by_cases h : fr < a
  · rw [if_pos h, List.length_append, data_len, ByteArray.size_extract]
    have h3 := numL_3 (2 * (a - fr)) (by omega)
    by_cases h2 : a - fr < 8192
    · have h2' := numL_2 (2 * (a - fr)) (by omega)
      by_cases h1 : a - fr < 64
      · have h1' := numL_1 (2 * (a - fr)) (by omega)
        omega
      · omega
    · omega
  · rw [if_neg h]
    simp
theorem copy_cost (s : ByteArray) (a : Nat) (h : best s a ≠ (0, 0)) : (numL (2 * ((best s a).2 - 4) + 1)).length + (numL ((best s a).1 - 1)).length ≤ 4 ∧ (numL (2 * ((best s a).2 - 4) + 1)).length + (numL ((best s a).1 - 1)).length + 1 ≤ (best s a).2 := by
  rcases best_in s a with h0 | ⟨q1, q2, q3, q4, q5, q6⟩
  · exact absurd h0 h
  have h2 := numL_2 (2 * ((best s a).2 - 4) + 1) (by omega)
  have h3 := numL_2 ((best s a).1 - 1) (by omega)
  by_cases h1 : (best s a).2 < 68
  · have := numL_1 (2 * ((best s a).2 - 4) + 1) (by omega)
    omega
  · omega
theorem toks_cost (s : ByteArray) (hs : s.size ≤ 1048575) : ∀ (f a fr : Nat), a ≤ s.size → fr ≤ a → (toks (best s) s f a fr).length ≤ (s.size - fr) + (s.size - fr) / 64 + 1 := by
  intro f
  induction f with
  | zero =>
    intro a fr _ _
    simp [toks]
  | succ f ih =>
    intro a fr ha hfr
    simp only [toks]
    by_cases hlt : a < s.size
    · rw [if_pos hlt]
      by_cases hb : (best s a).2 = 0
      · rw [if_pos hb]
        exact ih (a + 1) fr (by omega) (by omega)
      · rw [if_neg hb, List.length_append, List.length_append, List.length_append]
        have h1 := copy_cost s a (fun e => hb (by rw [e]))
        have h2 := plain_cost s fr a ha hs
        have hfit := best_fit s a ha
        have h3 := ih (a + (best s a).2) (a + (best s a).2) hfit (Nat.le_refl _)
        omega
    · rw [if_neg hlt]
      exact plain_cost s fr s.size (Nat.le_refl _) hs
theorem pressL_cost (s : ByteArray) (hs : s.size ≤ 1048575) : (pressL s).length ≤ s.size + s.size / 64 + 4 := by
  unfold pressL
  rw [List.length_append]
  have h1 := numL_3 s.size (by omega)
  have h2 := toks_cost s hs (s.size + 2) 0 0 (Nat.zero_le _) (Nat.le_refl _)
  omega
/-! ### A text twice -/
theorem wide_ge (al : Nat → Nat) (a : Nat) : ∀ (m : Nat) (r : Nat × Nat), m ≤ a → r.2 ≤ (wide al a m r).2 ∧ ∀ p, p < m → a - p ≤ 4096 → al p ≤ (wide al a m r).2
  | 0, r, _ => ⟨Nat.le_refl _, fun p hp => by omega⟩
  | n + 1, r, hm => by
    simp only [wide]
    by_cases hd : a - n ≤ 4096
    · rw [if_pos hd]
      have ih := wide_ge al a n (if r.2 < al n then (a - n, al n) else r) (by omega)
      have h1 : r.2 ≤ (if r.2 < al n then (a - n, al n) else r).2 ∧ al n ≤ (if r.2 < al n then (a - n, al n) else r).2 := by
        split
        · simp only
          omega
        · omega
      refine ⟨Nat.le_trans h1.1 ih.1, fun p hp hd2 => ?_⟩
      rcases Nat.eq_or_lt_of_le (Nat.le_of_lt_succ hp) with rfl | h3
      · exact Nat.le_trans h1.2 ih.1
      · exact ih.2 p h3 hd2
    · rw [if_neg hd]
      exact ⟨Nat.le_refl _, fun p hp hd2 => by omega⟩
theorem alN_ge (s : ByteArray) (a b : Nat) : ∀ (f k L : Nat), (∀ i, i < L → b + i < s.size ∧ bt s ((a + i : Nat) : Int) = bt s ((b + i : Nat) : Int)) → L ≤ k + f → L ≤ alN s a b f k ∨ L ≤ k
  | 0, k, L, _, h => .inr h
  | f + 1, k, L, hL, h => by
    by_cases hk : L ≤ k
    · exact .inr hk
    · simp only [alN]
      rw [if_pos (hL k (by omega))]
      rcases alN_ge s a b f (k + 1) L hL (by omega) with h1 | h1
      · exact .inl h1
      · refine .inl (Nat.le_trans h1 ?_)
        exact alN_from s a b f (k + 1)
where
  alN_from (s : ByteArray) (a b : Nat) : ∀ f k, k ≤ alN s a b f k
    | 0, k => Nat.le_refl _
    | f + 1, k => by
      simp only [alN]
      split
      · exact Nat.le_trans (Nat.le_succ _) (alN_from s a b f (k + 1))
      · exact Nat.le_refl _
theorem alike_ge (s : ByteArray) (a b L : Nat) (h : L ≤ 259) (hL : ∀ i, i < L → b + i < s.size ∧ bt s ((a + i : Nat) : Int) = bt s ((b + i : Nat) : Int)) : L ≤ alike s a b := by
  rcases alN_ge s a b 259 0 L hL (by omega) with h1 | h1
  · exact h1
  · omega
theorem bt_append_left (s t : ByteArray) (i : Nat) (h : i < s.size) : bt (s ++ t) (i : Int) = bt s (i : Int) := by
  rw [bt_nat _ _ (by rw [ByteArray.size_append]; omega), bt_nat _ _ h, ByteArray.getElem_append_left h]
theorem bt_append_right (s t : ByteArray) (i : Nat) (h : i < t.size) : bt (s ++ t) ((s.size + i : Nat) : Int) = bt t (i : Int) := by
  rw [bt_nat _ _ (by rw [ByteArray.size_append]; omega), bt_nat _ _ h, ByteArray.getElem_append_right (by omega)]
  congr 2
  congr 1
  omega
theorem best_twice (t : ByteArray) (ht : t.size ≤ 4096) (h0 : 0 < t.size) (a : Nat) (h1 : t.size ≤ a) (h2 : a + 4 ≤ t.size + t.size) : min 259 (t.size + t.size - a) ≤ (best (t ++ t) a).2 := by
  have hz : (t ++ t).size = t.size + t.size := ByteArray.size_append
  have hg := (wide_ge (fun p => alike (t ++ t) p a) a a (0, 3) (Nat.le_refl _)).2 (a - t.size) (by omega) (by omega)
  have hal : min 259 (t.size + t.size - a) ≤ alike (t ++ t) (a - t.size) a := by
    refine alike_ge _ _ _ _ (by omega) (fun i hi => ⟨by omega, ?_⟩)
    rw [bt_append_left t t _ (by omega), show a + i = t.size + (a - t.size + i) by omega, bt_append_right t t _ (by omega)]
  have hw : min 259 (t.size + t.size - a) ≤ (wbest (t ++ t) a).2 := Nat.le_trans hal hg
  rcases best_wide (t ++ t) a (by omega) with ⟨e1, e2⟩ | ⟨e1, e2⟩
  · rw [e2] at hw
    simp only at hw
    omega
  · rw [← e2]
    exact hw
/-- Out of the second half: four bytes for each 259. -/
theorem toks_half (t : ByteArray) (ht : t.size ≤ 4096) (h0 : 0 < t.size) : ∀ (f a : Nat), t.size ≤ a → a ≤ t.size + t.size → (toks (best (t ++ t)) (t ++ t) f a a).length ≤ 4 * ((t.size + t.size - a) / 259 + 1) := by
  have hz : (t ++ t).size = t.size + t.size := ByteArray.size_append
  have tail : ∀ (f a fr : Nat), fr ≤ a → t.size + t.size < a + 4 → (toks (best (t ++ t)) (t ++ t) f a fr).length ≤ (plainL (t ++ t) fr (t ++ t).size).length := by
    intro f
    induction f with
    | zero =>
      intro a fr _ _
      simp [toks]
    | succ f ih =>
      intro a fr hfr h4
      simp only [toks]
      split
      · rw [if_pos (by unfold best; rw [if_neg (by omega)])]
        exact ih (a + 1) fr (by omega) (by omega)
      · exact Nat.le_refl _
  intro f
  induction f with
  | zero =>
    intro a _ _
    simp [toks]
  | succ f ih =>
    intro a h1 h2
    by_cases h4 : a + 4 ≤ t.size + t.size
    · simp only [toks]
      have hb := best_twice t ht h0 a h1 h4
      have hfit := best_fit (t ++ t) a (by omega)
      rw [if_pos (by omega), if_neg (by omega), List.length_append, List.length_append, List.length_append]
      have hc := copy_cost (t ++ t) a (fun e => by rw [e] at hb; simp only at hb; omega)
      have hpl : (plainL (t ++ t) a a).length = 0 := by
        unfold plainL
        rw [if_neg (by omega)]
        rfl
      have hq : (best (t ++ t) a).2 ≤ 259 := by
        rcases best_in (t ++ t) a with h5 | h5
        · rw [h5]
          decide
        · exact h5.2.1
      have h3 := ih (a + (best (t ++ t) a).2) (by omega) (by omega)
      by_cases h9 : 259 ≤ t.size + t.size - a
      · have e : a + (best (t ++ t) a).2 = a + 259 := by omega
        rw [e] at h3 ⊢
        omega
      · have : a + (best (t ++ t) a).2 = t.size + t.size := by omega
        rw [this] at h3
        cases f with
        | zero =>
          simp only [toks, List.length_nil]
          omega
        | succ f =>
          have h6 := tail (f + 1) (a + (best (t ++ t) a).2) (a + (best (t ++ t) a).2) (Nat.le_refl _) (by omega)
          have h7 : (plainL (t ++ t) (a + (best (t ++ t) a).2) (t ++ t).size).length = 0 := by
            unfold plainL
            rw [if_neg (by omega)]
            rfl
          omega
    · have h6 := tail (f + 1) a a (Nat.le_refl _) (by omega)
      have h7 : (plainL (t ++ t) a (t ++ t).size).length ≤ 4 := by
        unfold plainL
        split
        · rw [List.length_append, data_len, ByteArray.size_extract]
          have := numL_1 (2 * ((t ++ t).size - a)) (by omega)
          omega
        · simp
      omega
theorem toks_twice (t : ByteArray) (ht : t.size ≤ 4096) (h0 : 4 ≤ t.size) : ∀ (f a fr : Nat), a ≤ t.size → fr ≤ a → (toks (best (t ++ t)) (t ++ t) f a fr).length ≤ (t.size - fr) + (t.size - fr) / 64 + 5 + 4 * (t.size / 259 + 1) := by
  have hz : (t ++ t).size = t.size + t.size := ByteArray.size_append
  intro f
  induction f with
  | zero =>
    intro a fr _ _
    simp [toks]
  | succ f ih =>
    intro a fr ha hfr
    simp only [toks]
    rw [if_pos (by omega)]
    by_cases hb : (best (t ++ t) a).2 = 0
    · rw [if_pos hb]
      have hne : a ≠ t.size := by
        rintro rfl
        have := best_twice t ht (by omega) t.size (Nat.le_refl _) (by omega)
        omega
      exact ih (a + 1) fr (by omega) (by omega)
    · rw [if_neg hb, List.length_append, List.length_append, List.length_append]
      have h1 := copy_cost (t ++ t) a (fun e => hb (by rw [e]))
      have h2 := plain_cost (t ++ t) fr a (by omega) (by omega)
      have hfit := best_fit (t ++ t) a (by omega)
      by_cases hin : a + (best (t ++ t) a).2 ≤ t.size
      · have h3 := ih (a + (best (t ++ t) a).2) (a + (best (t ++ t) a).2) hin (Nat.le_refl _)
        omega
      · have h3 := toks_half t ht (by omega) f (a + (best (t ++ t) a).2) (by omega) (by omega)
        have h4 : (t.size + t.size - (a + (best (t ++ t) a).2)) / 259 ≤ t.size / 259 := Nat.div_le_div_right (by omega)
        omega
theorem pressL_twice (t : ByteArray) (ht : t.size ≤ 4096) (h0 : 4 ≤ t.size) : (pressL (t ++ t)).length ≤ t.size + t.size / 64 + 7 + 4 * (t.size / 259 + 1) := by
  have hz : (t ++ t).size = t.size + t.size := ByteArray.size_append
  unfold pressL
  rw [List.length_append]
  have h1 := numL_2 (t ++ t).size (by omega)
  have h2 := toks_twice t ht h0 ((t ++ t).size + 2) 0 0 (Nat.zero_le _) (Nat.le_refl _)
  omega
end Press
end Go.Proofs.Ytocjhpjljlcboaa.Q
