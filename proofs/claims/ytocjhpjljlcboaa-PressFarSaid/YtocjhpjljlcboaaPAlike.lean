/- What stands alike; the best copy of the whole window is the best down the slot's chain. -/
import Derived.Test.YtocjhpjljlcboaaPressF
import Derived.Test.YtocjhpjljlcboaaMade
namespace Go.Proofs.Ytocjhpjljlcboaa.Q
open Go.RowKit Go.Proofs.YtocjhpjljlcboaaW.PrintWords Go.Proofs.YtocjhpjljlcboaaW.PrintLast Go.Proofs.YtocjhpjljlcboaaW.PrintMore
open Go.Proofs.Ytocjhpjljlcboaa.Lay Go.Proofs.Ytocjhpjljlcboaa.Spec
set_option linter.unusedVariables false
namespace Press
/-! ### What stands alike -/
theorem alN_all (s : ByteArray) (a b : Nat) : ∀ (f k i : Nat), k ≤ i → i < alN s a b f k → b + i < s.size ∧ bt s ((a + i : Nat) : Int) = bt s ((b + i : Nat) : Int)
  | 0, k, i, h1, h2 => by simp only [alN] at h2; omega
  | f + 1, k, i, h1, h2 => by
    simp only [alN] at h2
    split at h2
    · rename_i hc
      rcases Nat.eq_or_lt_of_le h1 with rfl | h3
      · exact hc
      · exact alN_all s a b f (k + 1) i h3 h2
    · omega
theorem alike_all (s : ByteArray) (a b i : Nat) (h : i < alike s a b) : b + i < s.size ∧ bt s ((a + i : Nat) : Int) = bt s ((b + i : Nat) : Int) := alN_all s a b 259 0 i (Nat.zero_le _) h
theorem alike_fit (s : ByteArray) (a b : Nat) (hb : b ≤ s.size) : b + alike s a b ≤ s.size := by
  rcases h : alike s a b with _ | n
  · exact hb
  · have := (alike_all s a b n (by omega)).1
    omega
theorem bt_extract (s : ByteArray) (i j : Nat) (h : i + j < s.size) : bt (s.extract i s.size) (j : Int) = bt s ((i + j : Nat) : Int) := by
  have hz : j < (s.extract i s.size).size := by rw [ByteArray.size_extract]; omega
  rw [bt_nat _ _ hz, bt_nat _ _ h]
  congr 2
  rw [ByteArray.getElem_extract]
theorem slot_alike (s : ByteArray) (p a : Nat) (hpa : p < a) (h : 4 ≤ alike s p a) : slot s p = slot s a := by
  have ha := fun i (hi : i < 4) => alike_all s p a i (by omega)
  have h3 := (ha 3 (by omega)).1
  have e : ∀ i : Nat, i < 4 → bt (s.extract p s.size) (i : Int) = bt (s.extract a s.size) (i : Int) := by
    intro i hi
    rw [bt_extract s p i (by omega), bt_extract s a i (by omega)]
    exact (ha i hi).2
  have e0 := e 0 (by omega)
  have e1 := e 1 (by omega)
  have e2 := e 2 (by omega)
  have e3 := e 3 (by omega)
  have z1 : (s.extract p s.size).size = s.size - p := by rw [ByteArray.size_extract]; omega
  have z2 : (s.extract a s.size).size = s.size - a := by rw [ByteArray.size_extract]; omega
  unfold slot press_slot.f
  rw [if_pos (by omega), if_pos (by omega), if_pos (by omega), if_pos (by omega), if_pos (by omega), if_pos (by omega), if_pos (by omega), if_pos (by omega)]
  have e0' : bt (s.extract p s.size) 0 = bt (s.extract a s.size) 0 := e0
  have e1' : bt (s.extract p s.size) 1 = bt (s.extract a s.size) 1 := e1
  have e2' : bt (s.extract p s.size) 2 = bt (s.extract a s.size) 2 := e2
  have e3' : bt (s.extract p s.size) 3 = bt (s.extract a s.size) 3 := e3
  rw [e0', e1', e2', e3']
/-! ### The whole window -/
def wide (al : Nat → Nat) (a : Nat) : Nat → Nat × Nat → Nat × Nat
  | 0, r => r
  | n + 1, r => if a - n ≤ 4096 then wide al a n (if r.2 < al n then (a - n, al n) else r) else r
theorem wide_full (al : Nat → Nat) (a : Nat) (hal : ∀ p, al p ≤ 259) : ∀ (m : Nat) (r : Nat × Nat), 259 ≤ r.2 → wide al a m r = r
  | 0, _, _ => rfl
  | n + 1, r, h => by
    simp only [wide]
    split
    · rw [if_neg (by have := hal n; omega)]
      exact wide_full al a hal n r h
    · rfl
theorem scan_out (sl al : Nat → Nat) (k a : Nat) : ∀ (m : Nat) (r : Nat × Nat), 4096 < a - (m - 1) → m ≤ a → scan sl al k a m r = r
  | 0, _, _, _ => rfl
  | n + 1, r, h, hm => by
    simp only [scan]
    split
    · rw [if_neg (by omega)]
    · exact scan_out sl al k a n r (by omega) (by omega)
def Same (r r' : Nat × Nat) : Prop := (r.2 < 4 ∧ r' = (0, 3)) ∨ (4 ≤ r.2 ∧ r = r')
theorem scan_wide (sl al : Nat → Nat) (a : Nat) (hsl : ∀ p, p < a → 4 ≤ al p → sl p = sl a) : ∀ (m : Nat) (r r' : Nat × Nat), m ≤ a → Same r r' → Same (scan sl al (sl a) a m r) (wide al a m r')
  | 0, _, _, _, h => h
  | n + 1, r, r', hm, h => by
    simp only [wide]
    by_cases hd : a - n ≤ 4096
    · rw [if_pos hd]
      by_cases hs : sl n = sl a
      · simp only [scan]
        rw [if_pos hs, if_pos hd]
        refine scan_wide sl al a hsl n _ _ (by omega) ?_
        rcases h with ⟨h1, rfl⟩ | ⟨h1, rfl⟩
        · by_cases h4 : 4 ≤ al n
          · rw [if_pos (by omega), if_pos (by simp only; omega)]
            exact .inr ⟨h4, rfl⟩
          · rw [if_neg (c := (0, 3).2 < al n) (by simp only; omega)]
            refine .inl ⟨?_, rfl⟩
            split
            · simp only; omega
            · exact h1
        · refine .inr ⟨?_, rfl⟩
          split
          · simp only; omega
          · exact h1
      · simp only [scan]
        rw [if_neg hs]
        have h4 : al n < 4 := by
          rcases Nat.lt_or_ge (al n) 4 with h4 | h4
          · exact h4
          · exact absurd (hsl n (by omega) h4) hs
        rw [if_neg (c := r'.2 < al n) (by rcases h with ⟨_, rfl⟩ | ⟨h1, rfl⟩
                                          · simp only; omega
                                          · omega)]
        exact scan_wide sl al a hsl n _ _ (by omega) h
    · rw [if_neg hd, scan_out sl al (sl a) a (n + 1) r (by omega) hm]
      exact h
theorem scan_fit (sl al : Nat → Nat) (k a z : Nat) (hal : ∀ p, al p ≤ z) (m : Nat) : (scan sl al k a m (0, 0)).2 ≤ z := scan_le sl al k a z hal m (0, 0) (Nat.zero_le _)
theorem best_fit (s : ByteArray) (a : Nat) (ha : a ≤ s.size) : a + (best s a).2 ≤ s.size := by
  unfold best
  split
  · unfold found
    split
    · exact ha
    · have := scan_fit (slot s) (fun p => alike s p a) (slot s a) a (s.size - a) (fun p => by have := alike_fit s p a ha; omega) a
      omega
  · exact ha
/-- The reference's copy at a place: the window's best of more than three bytes. -/
def wbest (s : ByteArray) (a : Nat) : Nat × Nat := wide (fun p => alike s p a) a a (0, 3)
theorem best_wide (s : ByteArray) (a : Nat) (ha : a ≤ s.size) : (best s a = (0, 0) ∧ wbest s a = (0, 3)) ∨ (4 ≤ (best s a).2 ∧ wbest s a = best s a) := by
  unfold best wbest
  by_cases h4 : a + 4 ≤ s.size
  · rw [if_pos h4]
    unfold found
    have h := scan_wide (slot s) (fun p => alike s p a) a (fun p hp h => slot_alike s p a hp h) a (0, 0) (0, 3) (Nat.le_refl _) (.inl ⟨by decide, rfl⟩)
    generalize scan (slot s) (fun p => alike s p a) (slot s a) a a (0, 0) = r at h
    rcases h with ⟨h1, h2⟩ | ⟨h1, h2⟩
    · rw [if_pos h1]
      exact .inl ⟨rfl, h2⟩
    · rw [if_neg (by omega)]
      exact .inr ⟨h1, h2.symm⟩
  · rw [if_neg h4]
    refine .inl ⟨rfl, ?_⟩
    have : ∀ p, alike s p a ≤ 3 := by
      intro p
      have := alike_fit s p a ha
      omega
    have : ∀ m, wide (fun p => alike s p a) a m (0, 3) = (0, 3) := by
      intro m
      induction m with
      | zero => rfl
      | succ n ih =>
        simp only [wide]
        split
        · rw [if_neg (by have := this n; omega)]
          exact ih
        · rfl
    exact this a
theorem extract_step (s : ByteArray) (fr a b : Nat) (h : fr ≤ a) (h2 : a ≤ b) (hb : b ≤ s.size) : s.extract fr a ++ s.extract a b = s.extract fr b := by
  apply ByteArray.ext
  simp only [ByteArray.data_append, ByteArray.data_extract]
  rw [Array.extract_append_extract]
  congr 1 <;> omega
end Press
end Go.Proofs.Ytocjhpjljlcboaa.Q
