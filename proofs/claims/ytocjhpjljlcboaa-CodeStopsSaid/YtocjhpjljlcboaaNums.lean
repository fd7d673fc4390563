/- The printed functions on numbers and the reader's first ones, as the plain functions of chapter 1 tell. -/
import Derived.Test.YtocjhpjljlcboaaQ2
import Derived.Test.YtocjhpjljlcboaaSpec
import Derived.Laws.BitsLemmas
namespace Go.Proofs.Ytocjhpjljlcboaa.Spec
open Go.RowKit Go.Proofs.Ytocjhpjljlcboaa.Q Go.Proofs.YtocjhpjljlcboaaW.PrintWords Go.Proofs.YtocjhpjljlcboaaW.PrintLast Go.Proofs.YtocjhpjljlcboaaW.PrintMore

/-! ### Numbers that need no wrap -/
theorem w64 {n : Int} (h0 : -9223372036854775808 ≤ n) (h1 : n < 9223372036854775808) : wrap64 n = n := by
  unfold wrap64
  omega
theorem wraps_i64 (n : Int) (h₀ : 0 ≤ n) (h₁ : n < 2 ^ 63) : IntKind.i64.wrap n = n := by
  rw [IntKind.wrap_i64]
  omega
theorem and127 (x : Int) (h₀ : 0 ≤ x) (h₁ : x < 9223372036854775808) : Go.bits .and .i64 x 127 = x % 128 :=
  bits_mask .i64 63 (by decide) wraps_i64 7 (by decide) x h₀ h₁
theorem and1 (x : Int) (h₀ : 0 ≤ x) (h₁ : x < 9223372036854775808) : Go.bits .and .i64 x 1 = x % 2 :=
  bits_mask .i64 63 (by decide) wraps_i64 1 (by decide) x h₀ h₁
theorem or_join (x y : Int) (i : Nat) (hx₀ : 0 ≤ x) (hx : x % 2 ^ i = 0) (hx₁ : x < 2 ^ 63) (hy₀ : 0 ≤ y) (hy : y < 2 ^ i) (hy₁ : y < 2 ^ 63) : Go.bits .or .i64 x y = x + y :=
  bits_join .i64 63 (by decide) wraps_i64 i x y hx₀ hx hx₁ hy₀ hy hy₁
theorem bits_or_comm (k : IntKind) (x y : Int) : Go.bits .or k x y = Go.bits .or k y x := by
  simp only [Go.bits, BitVec.or_comm]
theorem or128 (x : Int) (h₀ : 0 ≤ x) (h₁ : x < 128) : Go.bits .or .i64 x 128 = x + 128 := by
  rw [bits_or_comm, or_join 128 x 7 (by omega) (by decide) (by decide) h₀ (by omega) (by omega)]
  omega

/-! ### Bytes -/
def bs (l : List UInt8) : ByteArray := ⟨l.toArray⟩
theorem bs_size (l : List UInt8) : (bs l).size = l.length := by simp [bs, ByteArray.size]
theorem bs_append (l m : List UInt8) : bs l ++ bs m = bs (l ++ m) := by
  apply ByteArray.ext
  simp [bs, ByteArray.data_append]
theorem bs_data (s : ByteArray) : bs s.data.toList = s := by
  apply ByteArray.ext
  simp [bs]
theorem bs_nil : (⟨#[]⟩ : ByteArray) = bs [] := rfl
theorem strOfNums_bs (l : List UInt8) : strOfNums (l.map fun c => (c.toNat : Int)) = bs l := by
  unfold strOfNums bs
  congr 2
  rw [List.map_map]
  conv => rhs; rw [← List.map_id l]
  apply List.map_congr_left
  intro c _
  simp

/-! ### Num -/
theorem codeNum_l0 (f : Nat) : ∀ (k n : Nat) (acc : List UInt8), n < 128 ^ (f + 1) → n < 4611686018427387904 → f < k → acc.length + f < 1000 →
    code_Num.l0 k (n : Int) (acc.map fun c => (c.toNat : Int)) = some (bs (acc ++ numF (f + 1) n), 0) := by
  induction f with
  | zero =>
    intro k n acc h hn hk ha
    obtain ⟨k, rfl⟩ : ∃ m, k = m + 1 := ⟨k - 1, by omega⟩
    have h1 : n < 128 := by simpa using h
    simp only [code_Num.l0]
    rw [if_neg (by omega), if_pos (by rw [List.length_map]; omega)]
    simp only [numF, if_pos h1]
    rw [← strOfNums_bs, List.map_append]
    have e : (n : Int) % 256 = ((UInt8.ofNat n).toNat : Int) := by
      simp
    rw [e]
    rfl
  | succ f ih =>
    intro k n acc h hn hk ha
    obtain ⟨k, rfl⟩ : ∃ m, k = m + 1 := ⟨k - 1, by omega⟩
    simp only [code_Num.l0]
    by_cases h1 : n < 128
    · rw [if_neg (by omega), if_pos (by rw [List.length_map]; omega), numF.eq_2 n (f + 1), if_pos h1]
      rw [← strOfNums_bs, List.map_append]
      have e : (n : Int) % 256 = ((UInt8.ofNat n).toNat : Int) := by
        simp
      rw [e]
      rfl
    · rw [if_pos (by omega), if_pos (by rw [List.length_map]; omega), numF.eq_2 n (f + 1), if_neg h1]
      have e : (Go.bits .or .i64 (Go.bits .and .i64 (n : Int) 127) 128) % 256 = ((UInt8.ofNat (n % 128 + 128)).toNat : Int) := by
        rw [and127 _ (by omega) (by omega), or128 _ (by omega) (by omega)]
        simp
      rw [e, show (n : Int) / 128 = ((n / 128 : Nat) : Int) by omega]
      have hh := ih k (n / 128) (acc ++ [UInt8.ofNat (n % 128 + 128)]) (by rw [Nat.pow_succ] at h; omega) (by omega) (by omega) (by simp; omega)
      rw [List.map_append] at hh
      rw [List.append_assoc] at hh
      exact hh
theorem refNum_l0 (f : Nat) : ∀ (k n : Nat) (acc : List UInt8), n < 128 ^ (f + 1) → n < 4611686018427387904 → f < k → acc.length + f < 1000 →
    barqueref01_Num.l0 k (n : Int) (acc.map fun c => (c.toNat : Int)) = some (bs (acc ++ numF (f + 1) n), 0) := by
  induction f with
  | zero =>
    intro k n acc h hn hk ha
    obtain ⟨k, rfl⟩ : ∃ m, k = m + 1 := ⟨k - 1, by omega⟩
    have h1 : n < 128 := by simpa using h
    simp only [barqueref01_Num.l0]
    rw [if_neg (by omega), if_pos (by rw [List.length_map]; omega)]
    simp only [numF, if_pos h1]
    rw [← strOfNums_bs, List.map_append]
    have e : (n : Int) % 256 = ((UInt8.ofNat n).toNat : Int) := by
      simp
    rw [e]
    rfl
  | succ f ih =>
    intro k n acc h hn hk ha
    obtain ⟨k, rfl⟩ : ∃ m, k = m + 1 := ⟨k - 1, by omega⟩
    simp only [barqueref01_Num.l0]
    by_cases h1 : n < 128
    · rw [if_neg (by omega), if_pos (by rw [List.length_map]; omega), numF.eq_2 n (f + 1), if_pos h1]
      rw [← strOfNums_bs, List.map_append]
      have e : (n : Int) % 256 = ((UInt8.ofNat n).toNat : Int) := by
        simp
      rw [e]
      rfl
    · rw [if_pos (by omega), if_pos (by rw [List.length_map]; omega), numF.eq_2 n (f + 1), if_neg h1]
      have e1 : Int.tmod (n : Int) 128 = ((n % 128 : Nat) : Int) := by
        rw [Int.tmod_eq_emod_of_nonneg (by omega)]
        omega
      have e2 : Int.tdiv (n : Int) 128 = ((n / 128 : Nat) : Int) := by
        rw [Int.tdiv_eq_ediv_of_nonneg (by omega)]
        omega
      have e : (wrap64 ((Int.tmod (n : Int) 128) + 128)) % 256 = ((UInt8.ofNat (n % 128 + 128)).toNat : Int) := by
        rw [e1, w64 (by omega) (by omega)]
        simp
      rw [e, e2, w64 (by omega) (by omega)]
      have hh := ih k (n / 128) (acc ++ [UInt8.ofNat (n % 128 + 128)]) (by rw [Nat.pow_succ] at h; omega) (by omega) (by omega) (by simp; omega)
      rw [List.map_append] at hh
      rw [List.append_assoc] at hh
      exact hh
theorem p62 : (4611686018427387904 : Nat) < 128 ^ (8 + 1) := by decide

theorem codeNum_in (k n : Nat) (hn : n < 4611686018427387904) (hk : 12 ≤ k) : code_Num.f k (n : Int) = some (bs (numL n), 0) := by
  obtain ⟨k, rfl⟩ : ∃ m, k = m + 1 := ⟨k - 1, by omega⟩
  unfold code_Num.f
  rw [if_neg (by omega)]
  simp only [code_Num.j0]
  rw [if_neg (by simp; omega)]
  have h := codeNum_l0 8 k n [] (Nat.lt_trans hn p62) hn (by omega) (by simp)
  exact h
theorem refNum_in (k n : Nat) (hn : n < 4611686018427387904) (hk : 12 ≤ k) : barqueref01_Num.f k (n : Int) = some (bs (numL n), 0) := by
  obtain ⟨k, rfl⟩ : ∃ m, k = m + 1 := ⟨k - 1, by omega⟩
  unfold barqueref01_Num.f
  rw [if_neg (by omega)]
  simp only [barqueref01_Num.j0]
  rw [if_neg (by simp; omega)]
  have h := refNum_l0 8 k n [] (Nat.lt_trans hn p62) hn (by omega) (by simp)
  exact h
/-- What Num answers: the bytes, or that the number is refused. -/
def numA (n : Int) : ByteArray × Int := if 0 ≤ n ∧ n < 4611686018427387904 then (bs (numL n.toNat), 0) else (bs [], 2)
theorem codeNum (k : Nat) (n : Int) (hk : 12 ≤ k) : code_Num.f k n = some (numA n) := by
  unfold numA
  split
  · rename_i h
    obtain ⟨m, rfl⟩ := Int.eq_ofNat_of_zero_le h.1
    exact codeNum_in k m (by omega) hk
  · rename_i h
    obtain ⟨k, rfl⟩ : ∃ m, k = m + 1 := ⟨k - 1, by omega⟩
    unfold code_Num.f
    split
    · simp [code_Num.j0, bs]
    · simp only [code_Num.j0]
      rw [if_pos (by simp; omega)]
      rfl
theorem refNum (k : Nat) (n : Int) (hk : 12 ≤ k) : barqueref01_Num.f k n = some (numA n) := by
  unfold numA
  split
  · rename_i h
    obtain ⟨m, rfl⟩ := Int.eq_ofNat_of_zero_le h.1
    exact refNum_in k m (by omega) hk
  · rename_i h
    obtain ⟨k, rfl⟩ : ∃ m, k = m + 1 := ⟨k - 1, by omega⟩
    unfold barqueref01_Num.f
    split
    · simp [barqueref01_Num.j0, bs]
    · simp only [barqueref01_Num.j0]
      rw [if_pos (by simp; omega)]
      rfl
end Go.Proofs.Ytocjhpjljlcboaa.Spec
