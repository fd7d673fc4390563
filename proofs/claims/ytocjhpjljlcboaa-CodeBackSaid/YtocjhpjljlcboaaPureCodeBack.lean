/- A number, a text and lists that are made, one behind the other, are read again. -/
import Derived.Test.YtocjhpjljlcboaaVCodeBack
import Derived.Test.YtocjhpjljlcboaaCBack
namespace Go.Proofs.Ytocjhpjljlcboaa.Pure
open Go.RowKit Go.Proofs.Ytocjhpjljlcboaa.Q Go.Proofs.YtocjhpjljlcboaaW.PrintWords Go.Proofs.YtocjhpjljlcboaaW.PrintLast Go.Proofs.Ytocjhpjljlcboaa.Spec
/-- The reading back. -/
theorem back_j2 (K : Nat) (hK : 1000000 ≤ K) (n : Int) (s : ByteArray) (l : List Int) (m : List ByteArray) (hn : 0 ≤ n ∧ n < 4611686018427387904) (hs : s.size ≤ 500) (hl : l.length ≤ 500) (hm : m.length ≤ 500) (hlr : ∀ x ∈ l, 0 ≤ x ∧ x < 4611686018427387904) (hms : ∀ t ∈ m, t.size ≤ 500) :
    barquelaw01_CodeBack.j2 (K + 1) n s l m (bs (numL n.toNat)) (bs (numL s.size) ++ s) (bs (numL l.length) ++ bs (encN l)) (bs (numL m.length) ++ bs (encT m)) false = some true := by
  have z1 := numL_le n.toNat
  have z2 := numL_le s.size
  have z3 := numL_le l.length
  have z4 := numL_le m.length
  have z5 := encN_le l
  have z6 := encT_le m hms
  simp only [barquelaw01_CodeBack.j2]
  rw [awake1 K (by omega), if_neg (by decide)]
  have e2 : bs (numL s.size) ++ s = bs (numL s.size ++ s.data.toList) := by rw [← bs_append, bs_data]
  rw [e2, bs_append, bs_append, bs_append, bs_append, bs_append]
  rw [if_pos (by rw [bs_size, bs_size, List.length_append, data_len]; omega), if_pos (by rw [bs_size, bs_size, List.length_append, List.length_append, List.length_append, data_len]; omega), if_pos (by rw [bs_size, bs_size, List.length_append, List.length_append, List.length_append, List.length_append, List.length_append, data_len]; omega)]
  have eX : numL n.toNat ++ (numL s.size ++ s.data.toList) ++ (numL l.length ++ encN l) ++ (numL m.length ++ encT m) = numL n.toNat ++ (numL s.size ++ (s.data.toList ++ (numL l.length ++ (encN l ++ (numL m.length ++ (encT m ++ [])))))) := by
    simp only [List.append_assoc, List.append_nil]
  rw [eX]
  have hA := At.all (numL n.toNat ++ (numL s.size ++ (s.data.toList ++ (numL l.length ++ (encN l ++ (numL m.length ++ (encT m ++ [])))))))
  have hz : (bs (numL n.toNat ++ (numL s.size ++ (s.data.toList ++ (numL l.length ++ (encN l ++ (numL m.length ++ (encT m ++ [])))))))).size ≤ 400000 := by
    rw [bs_size]
    simp only [List.length_append, List.length_nil, data_len]
    omega
  generalize bs (numL n.toNat ++ (numL s.size ++ (s.data.toList ++ (numL l.length ++ (encN l ++ (numL m.length ++ (encT m ++ []))))))) = S at hA hz
  have hsm : Small S := by unfold Small; omega
  have r1 := hA.num (by omega)
  rw [show ((n.toNat : Nat) : Int) = n by omega] at r1
  have A1 := hA.step
  have r2 := A1.text (most := 500) (by omega) (by omega)
  have A2 := A1.step.step
  rw [data_len] at A2
  have r3 := A2.count (most := 500) (by omega) (by omega)
  have A3 := A2.step
  have r4 := At.nums l _ _ hlr A3
  have A4 := A3.step
  have r5 := A4.count (most := 500) (by omega) (by omega)
  have A5 := A4.step
  have r6 := At.texts (most := 500) (by decide) m _ _ hms A5
  have A6 := A5.step
  have hp1 := A1.2
  have hp2 := A2.2
  have hp4 := A4.2
  have hp6 := A6.2
  generalize 0 + (numL n.toNat).length = p1 at *
  generalize p1 + (numL s.size).length + s.size = p2 at *
  generalize p2 + (numL l.length).length = p3 at *
  generalize p3 + (encN l).length = p4 at *
  generalize p4 + (numL m.length).length = p5 at *
  generalize p5 + (encT m).length = p6 at *
  simp only [code_Read.f, Option.bind_some]
  rw [show code_Reader_Num.f K S 0 0 = _ from codeRNum K S 0 0 hsm (Nat.zero_le _) (by omega), r1]
  simp only [Option.bind_some]
  rw [if_pos trivial, codeRText K S p1 0 500 hsm (by omega) (by omega), r2]
  simp only [Option.bind_some]
  rw [if_pos trivial, codeRNums K S p2 0 500 hsm (by omega) (by omega) (by omega)]
  have r34 : rNums S p2 0 500 = (l, p4, 0) := by
    unfold rNums
    rw [r3]
    simp only []
    rw [if_pos trivial, show ((l.length : Nat) : Int).toNat = l.length by omega, r4]
  rw [r34]
  simp only [Option.bind_some]
  rw [ints_f K l (by omega) (by omega)]
  simp only [Option.bind_some]
  rw [if_pos trivial, codeRTexts K S p4 0 500 500 hsm (by omega) (by omega) (by omega)]
  have r56 : rTexts S p4 0 500 500 = (m, p6, 0) := by
    unfold rTexts
    rw [r5]
    simp only []
    rw [if_pos trivial, show ((m.length : Nat) : Int).toNat = m.length by omega, r6]
  rw [r56]
  simp only [Option.bind_some]
  rw [texts_f K m (by omega) (by omega)]
  simp only [Option.bind_some]
  rw [if_pos trivial, codeREnd K S p6 0 hsm (by omega) (by omega)]
  simp only [Option.bind_some]
  have e0 : rEnd S p6 0 = 0 := by
    unfold rEnd
    rw [if_neg (by omega)]
  rw [e0, if_pos rfl]
theorem back_l0 (K : Nat) (hK : 1000000 ≤ K) (n : Int) (s : ByteArray) (l : List Int) (m : List ByteArray) (hs : s.size ≤ 500) (hl : l.length ≤ 500) (hm : m.length ≤ 500) : ∀ (d i k : Nat), i + d = m.length → d + K + 2 ≤ k → (∀ j, (h : j < i) → (hj : j < m.length) → m[j].size ≤ 500) → barquelaw01_CodeBack.l0 k n s l m (i : Int) = some true := by
  intro d
  induction d with
  | zero =>
    intro i k hi hk hall
    obtain ⟨k, rfl⟩ : ∃ q, k = q + 2 := ⟨k - 2, by omega⟩
    have hms : ∀ t ∈ m, t.size ≤ 500 := by
      intro t ht
      obtain ⟨j, hj, rfl⟩ := List.mem_iff_getElem.mp ht
      exact hall j (by omega) hj
    simp only [barquelaw01_CodeBack.l0]
    rw [if_neg (by omega), codeNum (k + 1) n (by omega), codeText (k + 1) s (by omega), codeNumsA (k + 1) l (by omega), codeTextsA (k + 1) m (by omega)]
    simp only [Option.bind_some]
    have hT : textsA m = (bs (numL m.length) ++ bs (encT m), 0) := by
      unfold textsA
      rw [if_pos (by omega), goT_ok m _ hms]
    have hS : textA s = (bs (numL s.size) ++ s, 0) := by
      unfold textA
      rw [if_pos (by omega)]
    have hbad : ∀ a b c d', barquelaw01_CodeBack.j2 (k + 1) n s l m a b c d' true = some true := by
      intro a b c d'
      simp only [barquelaw01_CodeBack.j2]
      rw [if_pos trivial, awake1 k (by omega)]
      rfl
    rw [hT, hS]
    by_cases hn : 0 ≤ n ∧ n < 4611686018427387904
    · have hN : numA n = (bs (numL n.toNat), 0) := by
        unfold numA
        rw [if_pos hn]
      rw [hN]
      simp only []
      rw [if_pos trivial, if_pos trivial]
      by_cases hl0 : (numsA l).2 = 0
      · rw [if_pos hl0]
        unfold numsA at hl0 ⊢
        rw [if_pos (by omega)] at hl0 ⊢
        obtain ⟨g1, g2⟩ := goN_ok l _ hl0
        rw [g1]
        simp only []
        exact back_j2 k (by omega) n s l m hn hs hl hm g2 hms
      · rw [if_neg hl0, hbad]
    · have hN : numA n = (bs [], 2) := by
        unfold numA
        rw [if_neg hn]
      rw [hN]
      simp only []
      rw [if_neg (by decide), hbad]
  | succ d ih =>
    intro i k hi hk hall
    obtain ⟨k, rfl⟩ : ∃ q, k = q + 1 := ⟨k - 1, by omega⟩
    simp only [barquelaw01_CodeBack.l0]
    have hx : rdOf ByteArray.empty m (i : Int) = m[i] := by
      unfold rdOf
      rw [show ((i : Nat) : Int).toNat = i by omega]
      simp [List.getD_eq_getElem?_getD, List.getElem?_eq_getElem (show i < m.length by omega)]
    rw [if_pos (by omega), if_pos (by omega), hx]
    by_cases h : (m[i].size : Int) > 500
    · rw [if_pos h, awake1 k (by omega)]
      rfl
    · rw [if_neg h, w64 (by omega) (by omega), show (i : Int) + 1 = ((i + 1 : Nat) : Int) by omega]
      refine ih (i + 1) k (by omega) (by omega) (fun j h1 h2 => ?_)
      rcases Nat.eq_or_lt_of_le (Nat.le_of_lt_succ h1) with rfl | h3
      · omega
      · exact hall j h3 h2
theorem CodeBack (n : Int) (s : ByteArray) (l : List Int) (m : List ByteArray) (_ : (Lit.int .i64 n).wf = true) (_ : s.size ≤ 140737488351232) : ∃ k, barquelaw01_CodeBack.f k n s l m = some true := by
  refine ⟨2000000 + 1, ?_⟩
  have hj : barquelaw01_CodeBack.j0 (2000000 + 1) n s l m true = some true := by
    simp only [barquelaw01_CodeBack.j0]
    rw [if_pos trivial, awake1 2000000 (by decide)]
    rfl
  unfold barquelaw01_CodeBack.f
  by_cases h1 : (l.length : Int) > 500
  · rw [if_pos h1, hj]
  · rw [if_neg h1]
    by_cases h2 : (m.length : Int) > 500
    · rw [if_pos h2, hj]
    · rw [if_neg h2]
      by_cases h3 : (s.size : Int) > 500
      · rw [decide_eq_true h3, hj]
      · rw [decide_eq_false h3]
        simp only [barquelaw01_CodeBack.j0]
        rw [if_neg (by decide)]
        exact back_l0 1000000 (Nat.le_refl _) n s l m (by omega) (by omega) (by omega) m.length 0 2000000 (by omega) (by omega) (fun j h => by omega)
end Go.Proofs.Ytocjhpjljlcboaa.Pure
