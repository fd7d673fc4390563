/- The reference's press is the same plain function. -/
import Derived.Test.YtocjhpjljlcboaaPAlike
import Derived.Test.YtocjhpjljlcboaaQ5
namespace Go.Proofs.Ytocjhpjljlcboaa.Q
open Go.RowKit Go.Proofs.YtocjhpjljlcboaaW.PrintWords Go.Proofs.YtocjhpjljlcboaaW.PrintLast Go.Proofs.YtocjhpjljlcboaaW.PrintMore
open Go.Proofs.Ytocjhpjljlcboaa.Lay Go.Proofs.Ytocjhpjljlcboaa.Spec
set_option linter.unusedVariables false
namespace Press
/-! ### The reference's steps -/
theorem refAlike_l0 (s : ByteArray) (a b : Nat) (hs : s.size ≤ 1048576) (hab : a < b) (hb : b ≤ s.size) (f : Nat) : ∀ (K k : Nat), k + f = 259 → f < K → barqueref08_alike.l0 K s (a : Int) (b : Int) (k : Int) = some ((alN s a b f k : Nat) : Int) := by
  induction f with
  | zero =>
    intro K k hk hK
    obtain ⟨K, rfl⟩ : ∃ m, K = m + 1 := ⟨K - 1, by omega⟩
    simp only [barqueref08_alike.l0]
    rw [if_neg (by omega)]
    rfl
  | succ f ih =>
    intro K k hk hK
    obtain ⟨K, rfl⟩ : ∃ m, K = m + 1 := ⟨K - 1, by omega⟩
    simp only [barqueref08_alike.l0, alN]
    rw [if_pos (by omega), w64 (n := (b : Int) + k) (by omega) (by omega), w64 (n := (a : Int) + k) (by omega) (by omega)]
    by_cases h1 : b + k < s.size
    · rw [if_pos (by omega), if_pos (by omega), if_pos (by omega), if_pos (by omega)]
      rw [show (a : Int) + (k : Int) = ((a + k : Nat) : Int) by omega, show (b : Int) + (k : Int) = ((b + k : Nat) : Int) by omega]
      by_cases h2 : bt s ((a + k : Nat) : Int) = bt s ((b + k : Nat) : Int)
      · rw [if_pos h2, if_pos ⟨h1, h2⟩, w64 (by omega) (by omega), show (k : Int) + 1 = ((k + 1 : Nat) : Int) by omega]
        exact ih K (k + 1) (by omega) (by omega)
      · rw [if_neg h2, if_neg (fun h => h2 h.2)]
    · rw [if_neg (by omega), if_neg (fun h => h1 h.1)]
theorem refAlike (s : ByteArray) (a b K : Nat) (hs : s.size ≤ 1048576) (hab : a < b) (hb : b ≤ s.size) (hK : 260 ≤ K) : barqueref08_alike.f K s (a : Int) (b : Int) = some ((alike s a b : Nat) : Int) := by
  unfold barqueref08_alike.f
  exact refAlike_l0 s a b hs hab hb 259 K 0 rfl (by omega)
theorem ref_l1 (s x4 x5 : ByteArray) (a : Nat) (hs : s.size ≤ 1048576) (ha : a < s.size) : ∀ (m K : Nat) (r : Nat × Nat), m ≤ a → 2 * m + 300 ≤ K → r.2 ≤ 259 → 3 ≤ r.2 →
    ∃ (K' : Nat) (d : Int), K ≤ K' + 2 * m + 2 ∧ barqueref08_Press.l1 K s x4 x5 (a : Int) (r.1 : Int) (r.2 : Int) ((a + 1 - m : Nat) : Int) = barqueref08_Press.j2 (K' + 1) s x4 x5 (a : Int) ((wide (fun p => alike s p a) a m r).1 : Int) ((wide (fun p => alike s p a) a m r).2 : Int) d false := by
  intro m
  induction m with
  | zero =>
    intro K r hm hK hr hr3
    obtain ⟨K, rfl⟩ : ∃ n, K = n + 2 := ⟨K - 2, by omega⟩
    refine ⟨K, ((a + 1 - 0 : Nat) : Int), by omega, ?_⟩
    simp only [barqueref08_Press.l1, wide]
    rw [if_neg (c := ((a + 1 - 0 : Nat) : Int) ≤ (a : Int)) (by omega)]
    split <;> rfl
  | succ n ih =>
    intro K r hm hK hr hr3
    obtain ⟨K, rfl⟩ : ∃ n, K = n + 2 := ⟨K - 2, by omega⟩
    simp only [barqueref08_Press.l1]
    by_cases hd : a - n ≤ 4096
    · rw [if_pos (by omega), if_pos (by omega)]
      by_cases h9 : r.2 < 259
      · rw [show decide ((r.2 : Int) < 259) = true from decide_eq_true (by omega)]
        simp only [barqueref08_Press.j2]
        rw [if_pos trivial, w64 (n := (a : Int) - ((a + 1 - (n + 1) : Nat) : Int)) (by omega) (by omega), show (a : Int) - ((a + 1 - (n + 1) : Nat) : Int) = (n : Int) by omega, refAlike s n a K hs (by omega) (by omega) (by omega)]
        simp only [Option.bind_some]
        rw [w64 (n := ((a + 1 - (n + 1) : Nat) : Int) + 1) (by omega) (by omega), show ((a + 1 - (n + 1) : Nat) : Int) + 1 = ((a + 1 - n : Nat) : Int) by omega]
        have hl := alike_le s n a
        by_cases hg : r.2 < alike s n a
        · rw [if_pos (by omega), show ((a + 1 - (n + 1) : Nat) : Int) = ((a - n : Nat) : Int) by omega]
          obtain ⟨K', d, h1, h2⟩ := ih K (a - n, alike s n a) (by omega) (by omega) hl (by simp only; omega)
          refine ⟨K', d, by omega, ?_⟩
          simp only [wide]
          rw [if_pos hd, if_pos hg]
          exact h2
        · rw [if_neg (by omega)]
          obtain ⟨K', d, h1, h2⟩ := ih K r (by omega) (by omega) hr hr3
          refine ⟨K', d, by omega, ?_⟩
          simp only [wide]
          rw [if_pos hd, if_neg hg]
          exact h2
      · rw [show decide ((r.2 : Int) < 259) = false from decide_eq_false (by omega), wide_full _ a (fun p => alike_le s p a) (n + 1) r (by omega)]
        exact ⟨K, _, by omega, rfl⟩
    · rw [if_neg (by omega)]
      refine ⟨K, ((a + 1 - (n + 1) : Nat) : Int), by omega, ?_⟩
      simp only [wide]
      rw [if_neg hd]
theorem bs_plain (s : ByteArray) (fr a : Nat) (ha : a ≤ s.size) (hs : s.size ≤ 1048576) (K : Nat) (hK : 13 ≤ K) : barqueref08_plain.f K (s.extract fr a) = some (bs (plainL s fr a)) := by
  have hz : (s.extract fr a).size = a - fr := by rw [ByteArray.size_extract]; omega
  unfold barqueref08_plain.f plainL
  by_cases hl : fr < a
  · rw [if_neg, if_pos hl, hz, w64 (by omega) (by omega), show (2 : Int) * ((a - fr : Nat) : Int) = ((2 * (a - fr) : Nat) : Int) by omega, refBytes_in K _ (by omega) hK]
    · simp only [Option.bind_some]
      have h9 := numL_le (2 * (a - fr))
      rw [if_pos (by rw [bs_size]; omega), ← bs_append, bs_data]
    · intro e
      have := congrArg List.length e
      rw [Lib.toList_data] at this
      simp only [List.length_nil, data_len] at this
      omega
  · have : s.extract fr a = bs [] := by
      have e1 : (s.extract fr a).data.toList = [] := List.eq_nil_of_length_eq_zero (by rw [data_len, hz]; omega)
      rw [← bs_data (s.extract fr a), e1]
    rw [this, if_pos (bs_toList []), if_neg hl]
    rfl
theorem ref_l0 (s : ByteArray) (hs : s.size ≤ 1048576) (c : Nat) (hc : 2 * s.size + 400 ≤ c) : ∀ (f K a fr : Nat) (L : List UInt8), s.size - a < f → a ≤ s.size → fr ≤ a → L.length + (a - fr) ≤ 9 + 30 * a → f * c ≤ K →
    barqueref08_Press.l0 K s (bs L) (s.extract fr a) (a : Int) = some (bs (L ++ toks (best s) s f a fr), 0) := by
  intro f
  induction f with
  | zero => intro K a fr L h; omega
  | succ f ih =>
    intro K a fr L hf ha hfr hL hK
    rw [Nat.succ_mul] at hK
    obtain ⟨K, rfl⟩ : ∃ n, K = n + 1 := ⟨K - 1, by omega⟩
    simp only [barqueref08_Press.l0, toks]
    by_cases hlt : a < s.size
    · rw [if_pos (by omega), if_pos hlt]
      obtain ⟨K', d, h1, h2⟩ := ref_l1 s (bs L) (s.extract fr a) a hs hlt a K (0, 3) (Nat.le_refl _) (by omega) (by decide) (by decide)
      have h3 : barqueref08_Press.l1 K s (bs L) (s.extract fr a) (a : Int) 0 3 1 = barqueref08_Press.j2 (K' + 1) s (bs L) (s.extract fr a) (a : Int) ((wbest s a).1 : Int) ((wbest s a).2 : Int) d false := by
        rw [← show barqueref08_Press.l1 K s (bs L) (s.extract fr a) (a : Int) (((0, 3) : Nat × Nat).1 : Int) (((0, 3) : Nat × Nat).2 : Int) ((a + 1 - a : Nat) : Int) = barqueref08_Press.l1 K s (bs L) (s.extract fr a) (a : Int) 0 3 1 from by rw [show a + 1 - a = 1 by omega]; rfl]
        exact h2
      rw [h3]
      simp only [barqueref08_Press.j2]
      rw [if_neg (by decide)]
      rcases best_wide s a ha with ⟨hb, hw⟩ | ⟨hb, hw⟩
      · rw [hw, hb]
        simp only []
        rw [if_pos (show ((0 : Nat) : Int) = 0 from rfl), if_pos trivial, if_pos (by omega), w64 (by omega) (by omega), if_pos (by omega), if_pos (by omega), show ((a : Int) + 1).toNat = a + 1 by omega, show (a : Int).toNat = a by omega, extract_step s fr a (a + 1) hfr (by omega) (by omega), if_pos, show (a : Int) + 1 = ((a + 1 : Nat) : Int) by omega]
        · exact ih K' (a + 1) fr L (by omega) (by omega) (by omega) (by omega) (by omega)
        · rw [← ByteArray.size_append, extract_step s fr a (a + 1) hfr (by omega) (by omega), ByteArray.size_extract]
          omega
      · have hB := best_is s hs a ha
        rcases hB.2 with h0 | ⟨q1, q2, q3, q4⟩
        · rw [h0] at hb
          exact absurd hb (by decide)
        have hfit : a + (best s a).2 ≤ s.size := by
          exact best_fit s a ha
        rw [hw, if_neg (by omega), if_neg (by omega), bs_plain s fr a ha hs K' (by omega)]
        simp only [Option.bind_some]
        have hp := plainL_le s fr a
        have hn1 := numL_le (2 * ((best s a).2 - 4) + 1)
        have hn2 := numL_le ((best s a).1 - 1)
        rw [if_pos (by rw [bs_size, bs_size]; omega), w64 (n := ((best s a).2 : Int) - 4) (by omega) (by omega), w64 (n := (2 : Int) * (((best s a).2 : Int) - 4)) (by omega) (by omega), w64 (n := (2 : Int) * (((best s a).2 : Int) - 4) + 1) (by omega) (by omega), show (2 : Int) * (((best s a).2 : Int) - 4) + 1 = ((2 * ((best s a).2 - 4) + 1 : Nat) : Int) by omega, refBytes_in K' _ (by omega) (by omega)]
        simp only [Option.bind_some]
        rw [bs_append, if_pos (by rw [bs_size, bs_size, List.length_append]; omega), w64 (by omega) (by omega), show ((best s a).1 : Int) - 1 = (((best s a).1 - 1 : Nat) : Int) by omega, refBytes_in K' _ (by omega) (by omega)]
        simp only [Option.bind_some]
        rw [bs_append, if_pos (by rw [bs_size, bs_size, List.length_append, List.length_append]; omega), bs_append, w64 (by omega) (by omega), show (a : Int) + ((best s a).2 : Int) = ((a + (best s a).2 : Nat) : Int) by omega]
        have hx : (⟨#[]⟩ : ByteArray) = s.extract (a + (best s a).2) (a + (best s a).2) := by
          have e1 : (s.extract (a + (best s a).2) (a + (best s a).2)).data.toList = [] := List.eq_nil_of_length_eq_zero (by rw [data_len, ByteArray.size_extract]; omega)
          rw [← bs_data (s.extract (a + (best s a).2) (a + (best s a).2)), e1]
          rfl
        rw [hx, ih K' (a + (best s a).2) (a + (best s a).2) _ (by omega) hfit (Nat.le_refl _) (by simp only [List.length_append]; omega) (by omega)]
        simp only [List.append_assoc]
    · obtain rfl : a = s.size := by omega
      rw [if_neg (by omega), if_neg (by omega), bs_plain s fr s.size (Nat.le_refl _) hs K (by omega)]
      simp only [Option.bind_some]
      have hp := plainL_le s fr s.size
      rw [if_pos (by rw [bs_size, bs_size]; omega), bs_append]
theorem refPress (s : ByteArray) (K : Nat) (hK : (s.size + 2) * (2 * s.size + 400) + 20 ≤ K) : barqueref08_Press.f K s = some (pressA s) := by
  unfold barqueref08_Press.f pressA
  by_cases hs : s.size ≤ 1048576
  · rw [if_neg (by omega), if_pos hs, refBytes_in K _ (by omega) (by omega)]
    simp only [Option.bind_some]
    have hx : (⟨#[]⟩ : ByteArray) = s.extract 0 0 := by
      have e1 : (s.extract 0 0).data.toList = [] := List.eq_nil_of_length_eq_zero (by rw [data_len, ByteArray.size_extract]; omega)
      rw [← bs_data (s.extract 0 0), e1]
      rfl
    have h9 := numL_le s.size
    rw [hx]
    exact ref_l0 s hs _ (Nat.le_refl _) (s.size + 2) K 0 0 (numL s.size) (by omega) (by omega) (Nat.le_refl _) (by omega) (Nat.le_trans (Nat.le_add_right _ 20) hK)
  · rw [if_pos (by omega), if_neg hs]
    rfl
end Press
end Go.Proofs.Ytocjhpjljlcboaa.Q
