/- step: whatever is asked of two readers that stand alike, or of which both have failed with one error. -/
import Derived.Test.YtocjhpjljlcboaaStepL
import Derived.Test.YtocjhpjljlcboaaCBack
namespace Go.Proofs.Ytocjhpjljlcboaa.Spec
open Go.RowKit Go.Proofs.Ytocjhpjljlcboaa.Q Go.Proofs.YtocjhpjljlcboaaW.PrintWords Go.Proofs.YtocjhpjljlcboaaW.PrintLast Go.Proofs.YtocjhpjljlcboaaW.PrintMore
set_option linter.unusedVariables false
theorem refTexts_l0 (s : ByteArray) (most : Int) (hs : Small s) (hss : s.size ≤ 1000000000000) (d : Nat) : ∀ (k c i p : Nat) (acc : List ByteArray), p ≤ s.size → s.size - p = d → d + 60 ≤ k → i + c < 4611686018427387904 → acc.length ≤ p →
    barqueref01_Reader_Texts.l0 k most ((i + c : Nat) : Int) acc (i : Int) s (p : Int) 0 =
      some (if (textsG s most c p).2.2 = 0 then acc ++ (textsG s most c p).1 else [], s, ((textsG s most c p).2.1 : Int), (textsG s most c p).2.2) := by
  induction d using Nat.strongRecOn with
  | ind d ih =>
    intro k c i p acc hp hd hk hc ha
    obtain ⟨k, rfl⟩ : ∃ m, k = m + 2 := ⟨k - 2, by omega⟩
    rw [barqueref01_Reader_Texts.l0]
    cases c with
    | zero =>
      rw [if_neg (by omega), if_pos rfl]
      simp [textsG]
    | succ c =>
      rw [if_pos (by omega), if_pos rfl, refRText (k + 1) s p 0 most hs hp (by omega)]
      simp only [Option.bind_some]
      rw [if_pos (by omega)]
      by_cases he : (rText s p 0 most).2.2 = 0
      · have hm := rText_more s p most he
        have hl := rText_le s p 0 most hp
        rw [textsG_ok s most c p he, he]
        generalize rText s p 0 most = r at hm hl ⊢
        obtain ⟨n, q, e⟩ := r
        simp only at hm hl ⊢
        have hh := ih (s.size - q) (by omega) (k + 1) c (i + 1) q (acc ++ [n]) hl rfl (by omega) (by omega) (by simp; omega)
        rw [show wrap64 ((i : Int) + 1) = ((i + 1 : Nat) : Int) by rw [w64 (by omega) (by omega)]; omega, show i + (c + 1) = i + 1 + c by omega, hh]
        by_cases h2 : (textsG s most c q).2.2 = 0
        · simp [h2]
        · simp [h2]
      · rw [textsG_no s most c p he, barqueref01_Reader_Texts.l0, if_neg he, if_neg he]
        simp [he]
theorem refRTexts (k : Nat) (s : ByteArray) (p : Nat) (e : Int) (a most : Int) (hs : Small s) (hss : s.size ≤ 1000000000000) (h : p ≤ s.size) (hk : s.size + 60 ≤ k) :
    barqueref01_Reader_Texts.f k s (p : Int) e a most = some ((rTexts s p e a most).1, s, ((rTexts s p e a most).2.1 : Int), (rTexts s p e a most).2.2) := by
  unfold barqueref01_Reader_Texts.f
  rw [refRCount k s p e a hs h (by omega)]
  simp only [Option.bind_some]
  have hg := rCount_ge s p e a
  have hl := rCount_le s p e a h
  unfold rTexts
  by_cases he : (rCount s p e a).2.2 = 0
  · rw [if_pos he, he]
    have hh := refTexts_l0 s most hs hss _ k (rCount s p e a).1.toNat 0 (rCount s p e a).2.1 [] hl rfl (by omega) (by omega) (by simp)
    rw [show ((0 + (rCount s p e a).1.toNat : Nat) : Int) = (rCount s p e a).1 by omega, show ((0 : Nat) : Int) = 0 from rfl] at hh
    rw [hh]
    by_cases h2 : (textsG s most (rCount s p e a).1.toNat (rCount s p e a).2.1).2.2 = 0
    · rw [if_pos h2]
      rfl
    · rw [if_neg h2, textsG_nil s most _ _ h2]
  · rw [if_neg he, rCount_zero s p e a he]
    obtain ⟨k, rfl⟩ : ∃ m, k = m + 1 := ⟨k - 1, by omega⟩
    simp only [barqueref01_Reader_Texts.l0]
    rw [if_neg (by omega), if_neg he]
theorem numsG_short (s : ByteArray) : ∀ (c p : Nat), p ≤ s.size → (numsG s c p).1.length + p ≤ s.size
  | 0, p, h => by simp only [numsG, List.length_nil]; omega
  | c + 1, p, h => by
    by_cases h1 : (rNum s p 0).2.2 = 0
    · have hm := rNum_more s p h1
      have ih := numsG_short s c _ (rNum_le s p 0 h)
      rw [numsG_ok s c p h1]
      simp only
      split
      · rw [List.length_cons]
        omega
      · rw [List.length_nil]
        omega
    · rw [numsG_no s c p h1, List.length_nil]
      omega
theorem textsG_short (s : ByteArray) (most : Int) : ∀ (c p : Nat), p ≤ s.size → (textsG s most c p).1.length + p ≤ s.size
  | 0, p, h => by simp only [textsG, List.length_nil]; omega
  | c + 1, p, h => by
    by_cases h1 : (rText s p 0 most).2.2 = 0
    · have hm := rText_more s p most h1
      have ih := textsG_short s most c _ (rText_le s p 0 most h)
      rw [textsG_ok s most c p h1]
      simp only
      split
      · rw [List.length_cons]
        omega
      · rw [List.length_nil]
        omega
    · rw [textsG_no s most c p h1, List.length_nil]
      omega
theorem rNums_short (s : ByteArray) (p : Nat) (e most : Int) (h : p ≤ s.size) : (rNums s p e most).1.length ≤ s.size := by
  unfold rNums
  split
  · have := numsG_short s (rCount s p e most).1.toNat _ (rCount_le s p e most h)
    omega
  · simp
theorem rTexts_short (s : ByteArray) (p : Nat) (e a most : Int) (h : p ≤ s.size) : (rTexts s p e a most).1.length ≤ s.size := by
  unfold rTexts
  split
  · have := textsG_short s most (rCount s p e a).1.toNat _ (rCount_le s p e a h)
    omega
  · simp
/-! ### Behind an error -/
section
variable (s : ByteArray) (p : Nat) (e : Int) (he : e ≠ 0)
include he
theorem rNum_e : rNum s p e = (0, p, e) := by
  unfold rNum
  rw [if_neg he]
theorem rSigned_e : rSigned s p e = (0, p, e) := by
  unfold rSigned
  rw [rNum_e s p e he]
  rfl
theorem rRaw_e (n : Int) : rRaw s p e n = (bs [], p, e) := by
  unfold rRaw
  rw [if_pos he]
theorem rCount_e (n : Int) : rCount s p e n = (0, p, e) := by
  unfold rCount
  rw [rNum_e s p e he]
  simp only []
  rw [if_neg (fun h => he h.1)]
theorem rText_e (n : Int) : rText s p e n = (bs [], p, e) := by
  unfold rText
  rw [rCount_e s p e he]
  exact rRaw_e s p e he 0
theorem rEnd_e : rEnd s p e = e := by
  unfold rEnd
  rw [if_neg (fun h => he h.1)]
theorem codeNums_e (k : Nat) (n : Int) (hs : Small s) (h : p ≤ s.size) (hk : 41 ≤ k) : code_Reader_Nums.f k s (p : Int) e n = some ([], s, (p : Int), e) := by
  unfold code_Reader_Nums.f
  rw [codeRCount k s p e n hs h (by omega), rCount_e s p e he]
  simp only [Option.bind_some]
  obtain ⟨k, rfl⟩ : ∃ m, k = m + 1 := ⟨k - 1, by omega⟩
  simp only [code_Reader_Nums.l0]
  rw [if_neg (by omega)]
theorem refNums_e (k : Nat) (n : Int) (hs : Small s) (h : p ≤ s.size) (hk : 41 ≤ k) : barqueref01_Reader_Nums.f k s (p : Int) e n = some ([], s, (p : Int), e) := by
  unfold barqueref01_Reader_Nums.f
  rw [refRCount k s p e n hs h (by omega), rCount_e s p e he]
  simp only [Option.bind_some]
  obtain ⟨k, rfl⟩ : ∃ m, k = m + 1 := ⟨k - 1, by omega⟩
  simp only [barqueref01_Reader_Nums.l0]
  rw [if_neg (by omega), if_neg he]
theorem codeTexts_e (k : Nat) (n m : Int) (hs : Small s) (h : p ≤ s.size) (hk : 41 ≤ k) : code_Reader_Texts.f k s (p : Int) e n m = some ([], s, (p : Int), e) := by
  unfold code_Reader_Texts.f
  rw [codeRCount k s p e n hs h (by omega), rCount_e s p e he]
  simp only [Option.bind_some]
  obtain ⟨k, rfl⟩ : ∃ m, k = m + 1 := ⟨k - 1, by omega⟩
  simp only [code_Reader_Texts.l0]
  rw [if_neg (by omega)]
theorem refTexts_e (k : Nat) (n m : Int) (hs : Small s) (h : p ≤ s.size) (hk : 41 ≤ k) : barqueref01_Reader_Texts.f k s (p : Int) e n m = some ([], s, (p : Int), e) := by
  unfold barqueref01_Reader_Texts.f
  rw [refRCount k s p e n hs h (by omega), rCount_e s p e he]
  simp only [Option.bind_some]
  obtain ⟨k, rfl⟩ : ∃ m, k = m + 1 := ⟨k - 1, by omega⟩
  simp only [barqueref01_Reader_Texts.l0]
  rw [if_neg (by omega), if_neg he]
end
end Go.Proofs.Ytocjhpjljlcboaa.Spec
namespace Go.Proofs.Ytocjhpjljlcboaa.Q
open Go.RowKit Go.Proofs.YtocjhpjljlcboaaW.PrintWords Go.Proofs.YtocjhpjljlcboaaW.PrintLast Go.Proofs.YtocjhpjljlcboaaW.PrintMore
open Go.Proofs.Ytocjhpjljlcboaa.Spec
def opV (x N M : Int) : Value := .agg #[.int .i64 x, .int .i64 N, .int .i64 M]
/-- Behind an error: nothing moves. -/
theorem step_err (w0 w : World) (g q : Nat) (s t : ByteArray) (p u : Nat) (e x N M : Int) (h : Two w0 w g q s p t u e) (he : e ≠ 0) (hs : Small s) (ht : Small t) (hp : p ≤ s.size) (hu : u ≤ t.size) (hN : N < 9223372036854775808) :
    Calls Try.prog 43 #[.pointer (some ⟨g, 0, none⟩), .pointer (some ⟨q, 0, none⟩), opV x N M] w fun en w' => en = .returned (.bool true) ∧ Two w0 w' g q s p t u e := by
  have c : x = 0 ∨ x = 1 ∨ x = 2 ∨ x = 3 ∨ x = 4 ∨ x = 5 ∨ x = 6 ∨ x = 7 ∨ (x < 0 ∨ 7 < x) := by omega
  rcases c with rfl | rfl | rfl | rfl | rfl | rfl | rfl | rfl | hx
  · exact step_0 60 w0 w g q s t p u e N M 0 p u e h (codeByte_err s p e he) (refByte_err t u e he)
  · exact step_1 60 w0 w g q s t p u e N M 0 p u e h (by rw [codeRNum 60 s p e hs hp (by decide), rNum_e s p e he]) (by rw [refRNum 60 t u e ht hu (by decide), rNum_e t u e he])
  · exact step_2 60 w0 w g q s t p u e N M 0 p u e h (by rw [codeRSigned 60 s p e hs hp (by decide), rSigned_e s p e he]) (by rw [refRSigned 60 t u e ht hu (by decide), rSigned_e t u e he])
  · exact step_3 60 w0 w g q s t p u e N M (bs []) p u e h (by rw [codeRRaw s p e N hs hp hN, rRaw_e s p e he]) (by rw [refRRaw t u e N ht hu hN, rRaw_e t u e he])
  · exact step_4 60 w0 w g q s t p u e N M 0 p u e h (by rw [codeRCount 60 s p e N hs hp (by decide), rCount_e s p e he]) (by rw [refRCount 60 t u e N ht hu (by decide), rCount_e t u e he])
  · exact step_5 60 w0 w g q s t p u e N M (bs []) p u e h (by rw [codeRText 60 s p e N hs hp (by decide), rText_e s p e he]) (by rw [refRText 60 t u e N ht hu (by decide), rText_e t u e he])
  · exact step_6 60 w0 w g q s t p u e N M [] p u e h (codeNums_e s p e he 60 N hs hp (by decide)) (refNums_e t u e he 60 N ht hu (by decide)) (ints_f 60 [] (by decide) (by decide))
  · exact step_7 60 w0 w g q s t p u e N M [] p u e h (codeTexts_e s p e he 60 N M hs hp (by decide)) (refTexts_e t u e he 60 N M ht hu (by decide)) (texts_f 60 [] (by decide) (by decide))
  · exact step_d 60 w0 w g q s t p u e N M e p u e x h hx (by rw [codeREnd 60 s p e hs hp (by decide), rEnd_e s p e he]) (by rw [refREnd t u e, rEnd_e t u e he])
/-- Two readers that stand alike go on alike. -/
theorem step_same (w0 w : World) (g q : Nat) (s : ByteArray) (p : Nat) (e x N M : Int) (h : Two w0 w g q s p s p e) (hz : s.size ≤ 4000) (hp : p ≤ s.size) (hN : N < 9223372036854775808) :
    Calls Try.prog 43 #[.pointer (some ⟨g, 0, none⟩), .pointer (some ⟨q, 0, none⟩), opV x N M] w fun en w' => en = .returned (.bool true) ∧ ∃ (p1 : Nat) (e1 : Int), Two w0 w' g q s p1 s p1 e1 ∧ p1 ≤ s.size := by
  have hs : Small s := by unfold Small; omega
  by_cases he : e = 0
  · subst he
    have c : x = 0 ∨ x = 1 ∨ x = 2 ∨ x = 3 ∨ x = 4 ∨ x = 5 ∨ x = 6 ∨ x = 7 ∨ (x < 0 ∨ 7 < x) := by omega
    rcases c with rfl | rfl | rfl | rfl | rfl | rfl | rfl | rfl | hx
    · by_cases hlt : p < s.size
      · exact (step_0 60 w0 w g q s s p p 0 N M (s[p].toNat : Int) ((p + 1 : Nat) : Int) ((p + 1 : Nat) : Int) 0 h (by rw [codeByte s p hs hp, dif_pos hlt]) (by rw [refByte s p hs hp, dif_pos hlt])).mono fun e w' ⟨h1, h2⟩ => ⟨h1, p + 1, 0, h2, hlt⟩
      · exact (step_0 60 w0 w g q s s p p 0 N M 0 p p 3 h (by rw [codeByte s p hs hp, dif_neg hlt]) (by rw [refByte s p hs hp, dif_neg hlt])).mono fun e w' ⟨h1, h2⟩ => ⟨h1, p, 3, h2, hp⟩
    · exact (step_1 60 w0 w g q s s p p 0 N M _ _ _ _ h (codeRNum 60 s p 0 hs hp (by decide)) (refRNum 60 s p 0 hs hp (by decide))).mono fun e w' ⟨h1, h2⟩ => ⟨h1, _, _, h2, rNum_le s p 0 hp⟩
    · exact (step_2 60 w0 w g q s s p p 0 N M _ _ _ _ h (codeRSigned 60 s p 0 hs hp (by decide)) (refRSigned 60 s p 0 hs hp (by decide))).mono fun e w' ⟨h1, h2⟩ => ⟨h1, _, _, h2, rNum_le s p 0 hp⟩
    · exact (step_3 60 w0 w g q s s p p 0 N M _ _ _ _ h (codeRRaw s p 0 N hs hp hN) (refRRaw s p 0 N hs hp hN)).mono fun e w' ⟨h1, h2⟩ => ⟨h1, _, _, h2, rRaw_le s p 0 N hp⟩
    · exact (step_4 60 w0 w g q s s p p 0 N M _ _ _ _ h (codeRCount 60 s p 0 N hs hp (by decide)) (refRCount 60 s p 0 N hs hp (by decide))).mono fun e w' ⟨h1, h2⟩ => ⟨h1, _, _, h2, rCount_le s p 0 N hp⟩
    · exact (step_5 60 w0 w g q s s p p 0 N M _ _ _ _ h (codeRText 60 s p 0 N hs hp (by decide)) (refRText 60 s p 0 N hs hp (by decide))).mono fun e w' ⟨h1, h2⟩ => ⟨h1, _, _, h2, rText_le s p 0 N hp⟩
    · have hl := rNums_short s p 0 N hp
      exact (step_6 5000 w0 w g q s s p p 0 N M _ _ _ _ h (codeRNums 5000 s p 0 N hs (by omega) hp (by omega)) (refRNums 5000 s p 0 N hs (by omega) hp (by omega)) (ints_f 5000 _ (by omega) (by omega))).mono fun e w' ⟨h1, h2⟩ => ⟨h1, _, _, h2, rNums_le s p 0 N hp⟩
    · have hl := rTexts_short s p 0 N M hp
      exact (step_7 5000 w0 w g q s s p p 0 N M _ _ _ _ h (codeRTexts 5000 s p 0 N M hs (by omega) hp (by omega)) (refRTexts 5000 s p 0 N M hs (by omega) hp (by omega)) (texts_f 5000 _ (by omega) (by omega))).mono fun e w' ⟨h1, h2⟩ => ⟨h1, _, _, h2, rTexts_le s p 0 N M hp⟩
    · exact (step_d 60 w0 w g q s s p p 0 N M _ _ _ _ x h hx (codeREnd 60 s p 0 hs hp (by decide)) (refREnd s p 0)).mono fun e w' ⟨h1, h2⟩ => ⟨h1, _, _, h2, hp⟩
  · exact (step_err w0 w g q s s p p e x N M h he hs hs hp hp hN).mono fun e' w' ⟨h1, h2⟩ => ⟨h1, p, e, h2, hp⟩
end Go.Proofs.Ytocjhpjljlcboaa.Q
