/- What is pressed comes out again. -/
import Derived.Test.YtocjhpjljlcboaaPLoose
namespace Go.Proofs.Ytocjhpjljlcboaa.Q
open Go.RowKit Go.Proofs.YtocjhpjljlcboaaW.PrintWords Go.Proofs.YtocjhpjljlcboaaW.PrintLast Go.Proofs.YtocjhpjljlcboaaW.PrintMore
open Go.Proofs.Ytocjhpjljlcboaa.Lay Go.Proofs.Ytocjhpjljlcboaa.Spec
set_option linter.unusedVariables false
namespace Press
theorem scan_al (sl al : Nat → Nat) (k a : Nat) : ∀ (m : Nat) (r : Nat × Nat), m ≤ a → (r.2 = 0 ∨ r.2 = al (a - r.1)) → ((scan sl al k a m r).2 = 0 ∨ (scan sl al k a m r).2 = al (a - (scan sl al k a m r).1))
  | 0, r, _, h => h
  | n + 1, r, hm, h => by
    simp only [scan]
    split
    · split
      · refine scan_al sl al k a n _ (by omega) ?_
        split
        · refine .inr ?_
          simp only
          rw [show a - (a - n) = n by omega]
        · exact h
      · exact h
    · exact scan_al sl al k a n r (by omega) h
/-- What the best copy is. -/
theorem best_in (s : ByteArray) (a : Nat) : best s a = (0, 0) ∨ 4 ≤ (best s a).2 ∧ (best s a).2 ≤ 259 ∧ 1 ≤ (best s a).1 ∧ (best s a).1 ≤ a ∧ (best s a).1 ≤ 4096 ∧ (best s a).2 = alike s (a - (best s a).1) a := by
  unfold best
  split
  · unfold found
    have h1 := scan_inv (slot s) (fun p => alike s p a) (slot s a) a a (0, 0) (Nat.le_refl _) (.inl rfl)
    have h2 := scan_le (slot s) (fun p => alike s p a) (slot s a) a 259 (fun p => alike_le s p a) a (0, 0) (Nat.zero_le _)
    have h3 := scan_al (slot s) (fun p => alike s p a) (slot s a) a a (0, 0) (Nat.le_refl _) (.inl rfl)
    generalize scan (slot s) (fun p => alike s p a) (slot s a) a a (0, 0) = r at h1 h2 h3
    split
    · exact .inl rfl
    · refine .inr ?_
      omega
  · exact .inl rfl
def pre (s : ByteArray) (a : Nat) : List Int := bytesOf (s.extract 0 a)
theorem pre_length (s : ByteArray) (a : Nat) (h : a ≤ s.size) : (pre s a).length = a := by
  unfold pre
  rw [bytesOf_length, ByteArray.size_extract]
  omega
theorem bytesOf_append (s t : ByteArray) : bytesOf (s ++ t) = bytesOf s ++ bytesOf t := by
  unfold bytesOf
  rw [ByteArray.data_append, Array.toList_append, List.map_append]
theorem pre_more (s : ByteArray) (a b : Nat) (h : a ≤ b) (hb : b ≤ s.size) : pre s a ++ bytesOf (s.extract a b) = pre s b := by
  unfold pre
  rw [← bytesOf_append, extract_step s 0 a b (Nat.zero_le _) h hb]
theorem pre_rd (s : ByteArray) (a i : Nat) (ha : a ≤ s.size) (hi : i < a) : rd (pre s a) (i : Int) = bt s (i : Int) := by
  unfold pre
  rw [rd_bytesOf]
  have hz : i < (s.extract 0 a).size := by rw [ByteArray.size_extract]; omega
  rw [bt_nat _ _ hz, bt_nat _ _ (by omega)]
  congr 2
  rw [ByteArray.getElem_extract]
  congr 1
  omega
theorem pre_step (s : ByteArray) (a : Nat) (ha : a < s.size) : pre s a ++ [bt s (a : Int)] = pre s (a + 1) := by
  rw [← pre_more s a (a + 1) (by omega) (by omega)]
  congr 1
  unfold bytesOf
  have h1 : (s.extract a (a + 1)).data.toList = [s[a]] := by
    have hz : (s.extract a (a + 1)).size = 1 := by rw [ByteArray.size_extract]; omega
    apply List.ext_getElem
    · rw [data_len, hz]
      rfl
    · intro i h1 h2
      rw [data_len, hz] at h1
      obtain rfl : i = 0 := by omega
      have := ByteArray.getElem_extract (b := s) (start := a) (stop := a + 1) (i := 0) (h := by omega)
      simp only [List.getElem_singleton, Nat.add_zero] at this ⊢
      rw [← this]
      rfl
  rw [h1, bt_nat s a ha]
  rfl
theorem cop_pre (s : ByteArray) (a d L : Nat) (hd : 1 ≤ d) (hda : d ≤ a) (hL : L ≤ alike s (a - d) a) : ∀ (m i : Nat), i + m ≤ L → a + i ≤ s.size → cop (d : Int) m (pre s (a + i)) = pre s (a + i + m)
  | 0, i, _, _ => rfl
  | m + 1, i, h, hs => by
    simp only [cop]
    have h1 := alike_all s (a - d) a i (by omega)
    rw [pre_length s (a + i) hs, show ((a + i : Nat) : Int) - (d : Int) = ((a - d + i : Nat) : Int) by omega, pre_rd s (a + i) _ hs (by omega), h1.2, pre_step s (a + i) h1.1]
    have := cop_pre s a d L hd hda hL m (i + 1) (by omega) (by omega)
    rw [show a + (i + 1) = a + i + 1 by omega] at this
    rw [this]
    congr 1
    omega
/-! ### The reader over what was made -/
theorem rest_split (S : ByteArray) (p : Nat) (a b : List UInt8) (h : rest S p = a ++ b) : rest S (p + a.length) = b := by
  unfold rest at h ⊢
  rw [← List.drop_drop, h, List.drop_left]
theorem rest_fits (S : ByteArray) (p : Nat) (a b : List UInt8) (h : rest S p = a ++ b) (h0 : 0 < a.length) : p + a.length + b.length = S.size := by
  have := congrArg List.length h
  rw [rest_length, List.length_append] at this
  omega
theorem rNum_rest (S : ByteArray) (p n : Nat) (b : List UInt8) (hn : n < 4611686018427387904) (h : rest S p = numL n ++ b) : rNum S p 0 = ((n : Int), p + (numL n).length, 0) := by
  unfold rNum
  rw [if_pos rfl, h, getL_numL n b hn]
theorem rRaw_rest (S : ByteArray) (p : Nat) (t : ByteArray) (b : List UInt8) (ht : 0 < t.size) (h : rest S p = t.data.toList ++ b) : rRaw S p 0 (t.size : Int) = (t, p + t.size, 0) := by
  have hf := rest_fits S p _ _ h (by rw [data_len]; exact ht)
  rw [data_len] at hf
  unfold rRaw
  rw [if_neg (fun h => h rfl), if_neg (by omega), if_neg (by omega)]
  have e : S.extract p (p + t.size) = t := by
    have h2 : (S.extract p (p + t.size)).data.toList = (rest S p).take t.size := by
      unfold rest
      rw [ByteArray.data_extract, Array.toList_extract]
      simp only [List.extract_eq_take_drop]
      congr 1
      omega
    rw [← bs_data (S.extract p (p + t.size)), h2, h, ← data_len t, List.take_left, bs_data]
  rw [show ((t.size : Nat) : Int).toNat = t.size by omega, e]
theorem loose_plain (s S : ByteArray) (fr a p g : Nat) (X : List UInt8) (hs : s.size ≤ 1048576) (hfr : fr < a) (ha : a ≤ s.size) (h : rest S p = plainL s fr a ++ X) :
    ∃ p', looseG S (s.size : Int) (g + 1) (pre s fr) p 0 = looseG S (s.size : Int) g (pre s a) p' 0 ∧ rest S p' = X ∧ p' ≤ S.size := by
  unfold plainL at h
  rw [if_pos hfr, List.append_assoc] at h
  have h1 := rNum_rest S p (2 * (a - fr)) _ (by omega) h
  have h2 := rest_split S p _ _ h
  have hz : (s.extract fr a).size = a - fr := by rw [ByteArray.size_extract]; omega
  have h3 := rRaw_rest S _ (s.extract fr a) X (by omega) h2
  have h4 := rest_split S _ _ _ h2
  rw [data_len] at h4
  have hp := rest_fits S _ _ _ h2 (by rw [data_len]; omega)
  rw [data_len] at hp
  refine ⟨_, ?_, h4, by omega⟩
  simp only [looseG]
  rw [if_pos ⟨trivial, by rw [pre_length s fr (by omega)]; omega⟩, h1]
  simp only []
  rw [if_pos (by omega), if_pos trivial, if_neg (by rw [pre_length s fr (by omega)]; omega)]
  rw [show ((2 * (a - fr) : Nat) : Int) / 2 = ((s.extract fr a).size : Int) by omega, h3]
  simp only []
  rw [pre_more s fr a (by omega) ha]
theorem loose_copy (s S : ByteArray) (a p g : Nat) (X : List UInt8) (hs : s.size ≤ 1048576) (ha : a < s.size) (hb : best s a ≠ (0, 0)) (h : rest S p = numL (2 * ((best s a).2 - 4) + 1) ++ (numL ((best s a).1 - 1) ++ X)) :
    ∃ p', looseG S (s.size : Int) (g + 1) (pre s a) p 0 = looseG S (s.size : Int) g (pre s (a + (best s a).2)) p' 0 ∧ rest S p' = X ∧ (p < S.size → p' ≤ S.size) := by
  rcases best_in s a with h0 | ⟨q1, q2, q3, q4, q5, q6⟩
  · exact absurd h0 hb
  have hfit := best_fit s a (by omega)
  generalize best s a = B at h q1 q2 q3 q4 q5 q6 hfit
  have h1 := rNum_rest S p (2 * (B.2 - 4) + 1) _ (by omega) h
  have h2 := rest_split S p _ _ h
  have h3 := rNum_rest S _ (B.1 - 1) X (by omega) h2
  have h4 := rest_split S _ _ _ h2
  have hp := rest_fits S _ _ _ h2 (numL_pos _)
  refine ⟨_, ?_, h4, fun _ => by omega⟩
  simp only [looseG]
  have hl := pre_length s a (by omega)
  rw [if_pos ⟨trivial, by rw [hl]; omega⟩, h1]
  simp only []
  rw [if_neg (by omega), h3]
  simp only []
  rw [if_pos trivial, if_neg (by rw [hl]; omega)]
  rw [show ((B.1 - 1 : Nat) : Int) + 1 = (B.1 : Int) by omega, show (((2 * (B.2 - 4) + 1 : Nat) : Int) / 2 + 4).toNat = B.2 by omega]
  have := cop_pre s a B.1 B.2 q3 q4 (by omega) B.2 0 (by omega) (by omega)
  rw [Nat.add_zero] at this
  rw [this]
theorem str_pre (s : ByteArray) : strOfNums (pre s s.size) = s := by
  unfold pre
  have : s.extract 0 s.size = s := ByteArray.extract_zero_size
  rw [this]
  unfold bytesOf
  rw [strOfNums_bs, bs_data]
theorem loose_end (s S : ByteArray) (p g : Nat) (hp : p ≤ S.size) (h : rest S p = []) : looseG S (s.size : Int) (g + 1) (pre s s.size) p 0 = (s, 0) := by
  have hz := congrArg List.length h
  rw [rest_length, List.length_nil] at hz
  simp only [looseG]
  rw [if_neg (fun h => by have := h.2; rw [pre_length s s.size (Nat.le_refl _)] at this; omega)]
  unfold rEnd
  rw [if_neg (c := (0 : Int) = 0 ∧ p < S.size) (by omega), if_pos rfl, str_pre]
theorem loose_toks (s S : ByteArray) (hs : s.size ≤ 1048576) : ∀ (f a fr p g : Nat), s.size - a < f → a ≤ s.size → fr ≤ a → s.size - fr < g → p ≤ S.size → rest S p = toks (best s) s f a fr → looseG S (s.size : Int) g (pre s fr) p 0 = (s, 0) := by
  intro f
  induction f with
  | zero => intro a fr p g h; omega
  | succ f ih =>
    intro a fr p g hf ha hfr hg hp h
    simp only [toks] at h
    obtain ⟨g, rfl⟩ : ∃ m, g = m + 1 := ⟨g - 1, by omega⟩
    by_cases hlt : a < s.size
    · rw [if_pos hlt] at h
      by_cases hb : (best s a).2 = 0
      · rw [if_pos hb] at h
        exact ih (a + 1) fr p (g + 1) (by omega) (by omega) (by omega) hg hp h
      · rw [if_neg hb] at h
        have hb0 : best s a ≠ (0, 0) := fun e => hb (by rw [e])
        have hq : 4 ≤ (best s a).2 := by
          rcases best_in s a with h0 | h0
          · exact absurd h0 hb0
          · exact h0.1
        have hfit := best_fit s a ha
        by_cases hfa : fr < a
        · obtain ⟨p1, e1, r1, hp1⟩ := loose_plain s S fr a p g _ hs hfa ha h
          rw [e1]
          obtain ⟨g, rfl⟩ : ∃ m, g = m + 1 := ⟨g - 1, by omega⟩
          obtain ⟨p2, e2, r2, hp2⟩ := loose_copy s S a p1 g _ hs hlt hb0 r1
          rw [e2]
          have hlen := rest_fits S p1 _ _ r1 (numL_pos _)
          have := numL_pos (2 * ((best s a).2 - 4) + 1)
          exact ih _ _ p2 g (by omega) hfit (Nat.le_refl _) (by omega) (hp2 (by omega)) r2
        · obtain rfl : fr = a := by omega
          rw [show plainL s fr fr = [] by unfold plainL; rw [if_neg (by omega)], List.nil_append] at h
          obtain ⟨p2, e2, r2, hp2⟩ := loose_copy s S fr p g _ hs hlt hb0 h
          rw [e2]
          have hlen := rest_fits S p _ _ h (numL_pos _)
          have := numL_pos (2 * ((best s fr).2 - 4) + 1)
          exact ih _ _ p2 g (by omega) hfit (Nat.le_refl _) (by omega) (hp2 (by omega)) r2
    · rw [if_neg hlt] at h
      by_cases hfa : fr < s.size
      · obtain ⟨p1, e1, r1, hp1⟩ := loose_plain s S fr s.size p g [] hs hfa (Nat.le_refl _) (by rw [h, List.append_nil])
        rw [e1]
        obtain ⟨g, rfl⟩ : ∃ m, g = m + 1 := ⟨g - 1, by omega⟩
        exact loose_end s S p1 g hp1 r1
      · obtain rfl : fr = s.size := by omega
        rw [show plainL s s.size s.size = [] by unfold plainL; rw [if_neg (by omega)]] at h
        exact loose_end s S p g hp h
/-- What is pressed comes out again. -/
theorem looseA_pressL (s : ByteArray) (hs : s.size ≤ 1048576) : looseA (bs (pressL s)) = (s, 0) := by
  have hr : rest (bs (pressL s)) 0 = numL s.size ++ toks (best s) s (s.size + 2) 0 0 := by
    rw [bs_rest]
    rfl
  have h1 := rNum_rest _ 0 s.size _ (by omega) hr
  have h2 := rest_split _ 0 _ _ hr
  have h3 := rest_fits _ 0 _ _ hr (numL_pos _)
  have hc : rCount (bs (pressL s)) 0 0 1048576 = ((s.size : Int), 0 + (numL s.size).length, 0) := by
    unfold rCount
    rw [h1]
    simp only []
    rw [if_neg (fun h => by have := h.2; omega)]
  unfold looseA
  rw [hc]
  have h0 : pre s 0 = [] := List.eq_nil_of_length_eq_zero (pre_length s 0 (Nat.zero_le _))
  rw [← h0]
  exact loose_toks s (bs (pressL s)) hs (s.size + 2) 0 0 (0 + (numL s.size).length) 1048580 (by omega) (Nat.zero_le _) (Nat.le_refl _) (by omega) (by omega) h2
end Press
end Go.Proofs.Ytocjhpjljlcboaa.Q
