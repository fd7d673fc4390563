/- What is made, one behind the other, is read again. -/
import Derived.Test.YtocjhpjljlcboaaCLists
namespace Go.Proofs.Ytocjhpjljlcboaa.Spec
open Go.RowKit Go.Proofs.Ytocjhpjljlcboaa.Q Go.Proofs.YtocjhpjljlcboaaW.PrintWords Go.Proofs.YtocjhpjljlcboaaW.PrintLast Go.Proofs.YtocjhpjljlcboaaW.PrintMore
set_option linter.unusedVariables false
/-- A reader at a place, and what lies ahead of it. -/
def At (S : ByteArray) (p : Nat) (X : List UInt8) : Prop := rest S p = X ∧ p + X.length = S.size
theorem At.step {S : ByteArray} {p : Nat} {a b : List UInt8} (h : At S p (a ++ b)) : At S (p + a.length) b := by
  obtain ⟨h1, h2⟩ := h
  rw [List.length_append] at h2
  refine ⟨?_, by omega⟩
  unfold rest at h1 ⊢
  rw [← List.drop_drop, h1, List.drop_left]
theorem At.all (X : List UInt8) : At (bs X) 0 X := ⟨by rw [bs_rest]; rfl, by rw [bs_size]; omega⟩
theorem At.num {S : ByteArray} {p n : Nat} {b : List UInt8} (hn : n < 4611686018427387904) (h : At S p (numL n ++ b)) : rNum S p 0 = ((n : Int), p + (numL n).length, 0) := by
  unfold rNum
  rw [if_pos rfl, h.1, getL_numL n b hn]
theorem At.count {S : ByteArray} {p n : Nat} {b : List UInt8} {most : Int} (hn : n < 4611686018427387904) (hm : (n : Int) ≤ most) (h : At S p (numL n ++ b)) : rCount S p 0 most = ((n : Int), p + (numL n).length, 0) := by
  unfold rCount
  rw [h.num hn]
  simp only []
  rw [if_neg (fun hh => by have := hh.2; omega)]
theorem At.raw {S : ByteArray} {p : Nat} {t : ByteArray} {b : List UInt8} (h : At S p (t.data.toList ++ b)) : rRaw S p 0 (t.size : Int) = (t, p + t.size, 0) := by
  have hf := h.2
  rw [List.length_append, data_len] at hf
  unfold rRaw
  rw [if_neg (fun h => h rfl), if_neg (by omega), if_neg (by omega)]
  have e : S.extract p (p + t.size) = t := by
    have h2 : (S.extract p (p + t.size)).data.toList = (rest S p).take t.size := by
      unfold rest
      rw [ByteArray.data_extract, Array.toList_extract]
      simp only [List.extract_eq_take_drop]
      congr 1
      omega
    rw [← bs_data (S.extract p (p + t.size)), h2, h.1, ← data_len t, List.take_left, bs_data]
  rw [show ((t.size : Nat) : Int).toNat = t.size by omega, e]
theorem At.text {S : ByteArray} {p : Nat} {t : ByteArray} {b : List UInt8} {most : Int} (hs : t.size ≤ 1048576) (hm : (t.size : Int) ≤ most) (h : At S p (numL t.size ++ (t.data.toList ++ b))) : rText S p 0 most = (t, p + (numL t.size).length + t.size, 0) := by
  unfold rText
  rw [h.count (by omega) hm]
  simp only []
  rw [h.step.raw]
def encN (l : List Int) : List UInt8 := l.flatMap fun n => numL n.toNat
def encT (l : List ByteArray) : List UInt8 := l.flatMap fun t => numL t.size ++ t.data.toList
theorem goN_ok : ∀ (l : List Int) (acc : ByteArray), (goN l acc).2 = 0 → goN l acc = (acc ++ bs (encN l), 0) ∧ ∀ n ∈ l, 0 ≤ n ∧ n < 4611686018427387904
  | [], acc, _ => by
    refine ⟨?_, fun n hn => absurd hn (List.not_mem_nil)⟩
    simp only [goN, encN, List.flatMap_nil]
    rw [← bs_data acc, bs_append, List.append_nil]
  | x :: t, acc, h => by
    simp only [goN] at h ⊢
    by_cases h0 : 0 ≤ x ∧ x < 4611686018427387904
    · have hx : numA x = (bs (numL x.toNat), 0) := by
        unfold numA
        rw [if_pos h0]
      rw [hx] at h ⊢
      simp only [] at h ⊢
      rw [if_pos trivial] at h ⊢
      obtain ⟨h1, h2⟩ := goN_ok t _ h
      refine ⟨?_, fun n hn => ?_⟩
      · rw [h1, ByteArray.append_assoc, bs_append]
        rfl
      · rcases List.mem_cons.mp hn with rfl | hn
        · exact h0
        · exact h2 n hn
    · have hx : numA x = (bs [], 2) := by
        unfold numA
        rw [if_neg h0]
      rw [hx] at h
      exact absurd h (show ¬ ((2 : Int) = 0) by decide)
theorem goT_ok : ∀ (l : List ByteArray) (acc : ByteArray), (∀ t ∈ l, t.size ≤ 500) → goT l acc = (acc ++ bs (encT l), 0)
  | [], acc, _ => by
    simp only [goT, encT, List.flatMap_nil]
    rw [← bs_data acc, bs_append, List.append_nil]
  | x :: t, acc, h => by
    have hx := h x (List.mem_cons_self)
    have hA : textA x = (bs (numL x.size ++ x.data.toList), 0) := by
      unfold textA
      rw [if_pos (by omega), ← bs_append, bs_data]
    simp only [goT]
    rw [hA]
    simp only []
    rw [if_pos trivial, goT_ok t _ (fun y hy => h y (List.mem_cons_of_mem _ hy)), ByteArray.append_assoc, bs_append]
    rfl
theorem At.nums {S : ByteArray} : ∀ (l : List Int) (p : Nat) (b : List UInt8), (∀ n ∈ l, 0 ≤ n ∧ n < 4611686018427387904) → At S p (encN l ++ b) → numsG S l.length p = (l, p + (encN l).length, 0)
  | [], p, b, _, h => rfl
  | x :: t, p, b, hx, h => by
    have h0 := hx x (List.mem_cons_self)
    have e : encN (x :: t) = numL x.toNat ++ encN t := rfl
    rw [e, List.append_assoc] at h
    have hn := h.num (by omega)
    rw [show ((x.toNat : Nat) : Int) = x by omega] at hn
    have ih := At.nums t _ b (fun n hn => hx n (List.mem_cons_of_mem _ hn)) h.step
    rw [List.length_cons, numsG_ok S _ p (by rw [hn]), hn]
    simp only []
    rw [ih]
    simp only []
    rw [if_pos trivial, e, List.length_append, Nat.add_assoc]
theorem At.texts {S : ByteArray} {most : Int} (hm : 500 ≤ most) : ∀ (l : List ByteArray) (p : Nat) (b : List UInt8), (∀ t ∈ l, t.size ≤ 500) → At S p (encT l ++ b) → textsG S most l.length p = (l, p + (encT l).length, 0)
  | [], p, b, _, h => rfl
  | x :: t, p, b, hx, h => by
    have h0 := hx x (List.mem_cons_self)
    have e : encT (x :: t) = numL x.size ++ x.data.toList ++ encT t := rfl
    rw [e, List.append_assoc, List.append_assoc] at h
    have hn := h.text (most := most) (by omega) (by omega)
    have h3 := h.step.step
    rw [data_len] at h3
    have ih := At.texts hm t _ b (fun n hn => hx n (List.mem_cons_of_mem _ hn)) h3
    rw [List.length_cons, textsG_ok S most _ p (by rw [hn]), hn]
    simp only []
    rw [ih]
    simp only []
    rw [if_pos trivial, e, List.length_append, List.length_append, data_len]
    congr 2
    omega
theorem encN_le : ∀ l : List Int, (encN l).length ≤ 9 * l.length
  | [] => Nat.le_refl _
  | x :: t => by
    have e : encN (x :: t) = numL x.toNat ++ encN t := rfl
    have := encN_le t
    have := numL_le x.toNat
    rw [e, List.length_append, List.length_cons]
    omega
theorem encT_le : ∀ l : List ByteArray, (∀ t ∈ l, t.size ≤ 500) → (encT l).length ≤ 509 * l.length
  | [], _ => Nat.le_refl _
  | x :: t, h => by
    have e : encT (x :: t) = numL x.size ++ x.data.toList ++ encT t := rfl
    have := encT_le t (fun n hn => h n (List.mem_cons_of_mem _ hn))
    have := numL_le x.size
    have := h x (List.mem_cons_self)
    rw [e, List.length_append, List.length_append, data_len, List.length_cons]
    omega
theorem ints_same (l : List Int) (hl : l.length ≤ 1000000) : ∀ (m k i : Nat), i + m = l.length → m < k → barquelaw01_ints.l0 k l l (i : Int) = some true := by
  intro m
  induction m with
  | zero =>
    intro k i hi hk
    obtain ⟨k, rfl⟩ : ∃ n, k = n + 1 := ⟨k - 1, by omega⟩
    simp only [barquelaw01_ints.l0]
    rw [if_neg (by omega)]
  | succ m ih =>
    intro k i hi hk
    obtain ⟨k, rfl⟩ : ∃ n, k = n + 1 := ⟨k - 1, by omega⟩
    simp only [barquelaw01_ints.l0]
    rw [if_pos (by omega), if_pos (by omega), if_pos (by omega), if_pos trivial, w64 (by omega) (by omega), show (i : Int) + 1 = ((i + 1 : Nat) : Int) by omega]
    exact ih k (i + 1) (by omega) (by omega)
theorem ints_f (k : Nat) (l : List Int) (hl : l.length ≤ 1000000) (hk : l.length + 1 ≤ k) : barquelaw01_ints.f k l l = some true := by
  unfold barquelaw01_ints.f
  rw [if_pos rfl]
  exact ints_same l hl l.length k 0 (by omega) hk
theorem texts_same (l : List ByteArray) (hl : l.length ≤ 1000000) : ∀ (m k i : Nat), i + m = l.length → m < k → barquelaw01_texts.l0 k l l (i : Int) = some true := by
  intro m
  induction m with
  | zero =>
    intro k i hi hk
    obtain ⟨k, rfl⟩ : ∃ n, k = n + 1 := ⟨k - 1, by omega⟩
    simp only [barquelaw01_texts.l0]
    rw [if_neg (by omega)]
  | succ m ih =>
    intro k i hi hk
    obtain ⟨k, rfl⟩ : ∃ n, k = n + 1 := ⟨k - 1, by omega⟩
    simp only [barquelaw01_texts.l0]
    rw [if_pos (by omega), if_pos (by omega), if_pos (by omega), if_pos trivial, w64 (by omega) (by omega), show (i : Int) + 1 = ((i + 1 : Nat) : Int) by omega]
    exact ih k (i + 1) (by omega) (by omega)
theorem texts_f (k : Nat) (l : List ByteArray) (hl : l.length ≤ 1000000) (hk : l.length + 1 ≤ k) : barquelaw01_texts.f k l l = some true := by
  unfold barquelaw01_texts.f
  rw [if_pos rfl]
  exact texts_same l hl l.length k 0 (by omega) hk
end Go.Proofs.Ytocjhpjljlcboaa.Spec
