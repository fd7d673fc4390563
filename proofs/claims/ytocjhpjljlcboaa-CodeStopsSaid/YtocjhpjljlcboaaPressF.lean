/- Press as a plain function: what the finder finds at each place, out of the text alone. -/
import Derived.Test.YtocjhpjljlcboaaPressW
namespace Go.Proofs.Ytocjhpjljlcboaa.Q
open Go.RowKit Go.Proofs.YtocjhpjljlcboaaW.PrintWords Go.Proofs.YtocjhpjljlcboaaW.PrintLast Go.Proofs.YtocjhpjljlcboaaW.PrintMore
open Go.Proofs.Ytocjhpjljlcboaa.Lay Go.Proofs.Ytocjhpjljlcboaa.Spec
namespace Press
/-! ### How much stands alike -/
def alN (s : ByteArray) (a b : Nat) : Nat → Nat → Nat
  | 0, k => k
  | f + 1, k => if b + k < s.size ∧ bt s ((a + k : Nat) : Int) = bt s ((b + k : Nat) : Int) then alN s a b f (k + 1) else k
def alike (s : ByteArray) (a b : Nat) : Nat := alN s a b 259 0
theorem alN_le (s : ByteArray) (a b : Nat) : ∀ f k, alN s a b f k ≤ k + f
  | 0, k => Nat.le_refl _
  | f + 1, k => by
    simp only [alN]
    split
    · have := alN_le s a b f (k + 1)
      omega
    · omega
theorem alike_le (s : ByteArray) (a b : Nat) : alike s a b ≤ 259 := by
  have := alN_le s a b 259 0
  unfold alike
  omega
theorem alike_l0 (s : ByteArray) (a b : Nat) (hs : s.size ≤ 1048576) (hab : a < b) (hb : b ≤ s.size) (f : Nat) : ∀ (K k : Nat), k + f = 259 → f < K → press_alike.l0 K s (a : Int) (b : Int) 259 (k : Int) = some ((alN s a b f k : Nat) : Int) := by
  induction f with
  | zero =>
    intro K k hk hK
    obtain ⟨K, rfl⟩ : ∃ m, K = m + 1 := ⟨K - 1, by omega⟩
    simp only [press_alike.l0]
    rw [if_neg (by omega)]
    rfl
  | succ f ih =>
    intro K k hk hK
    obtain ⟨K, rfl⟩ : ∃ m, K = m + 1 := ⟨K - 1, by omega⟩
    simp only [press_alike.l0, alN]
    rw [if_pos (by omega), w64 (n := (b : Int) + k) (by omega) (by omega), w64 (n := (a : Int) + k) (by omega) (by omega)]
    by_cases h1 : b + k < s.size
    · rw [if_pos (by omega), if_pos (by omega), if_pos (by omega), if_pos (by omega)]
      rw [show (a : Int) + (k : Int) = ((a + k : Nat) : Int) by omega, show (b : Int) + (k : Int) = ((b + k : Nat) : Int) by omega]
      by_cases h2 : bt s ((a + k : Nat) : Int) = bt s ((b + k : Nat) : Int)
      · rw [if_pos h2, if_pos ⟨h1, h2⟩, w64 (by omega) (by omega), show (k : Int) + 1 = ((k + 1 : Nat) : Int) by omega]
        exact ih K (k + 1) (by omega) (by omega)
      · rw [if_neg h2, if_neg (fun h => h2 h.2)]
    · rw [if_neg (by omega), if_neg (fun h => h1 h.1)]
theorem alike_is (s : ByteArray) (a : Nat) (hs : s.size ≤ 1048576) (ha : a ≤ s.size) : Alike s (fun p => alike s p a) a := by
  intro p hp
  refine ⟨?_, alike_le s p a⟩
  unfold press_alike.f
  exact alike_l0 s p a hs hp ha 259 300 0 rfl (by decide)
/-! ### Slots -/
def slot (s : ByteArray) (i : Nat) : Nat := ((press_slot.f (s.extract i s.size)).getD 0).toNat
theorem slot_is (s : ByteArray) : Slots s (slot s) := by
  intro i hi
  unfold slot
  have hz : (s.extract i s.size).size = s.size - i := by rw [ByteArray.size_extract]; omega
  unfold press_slot.f
  rw [if_pos (by omega), if_pos (by omega), if_pos (by omega), if_pos (by omega)]
  simp only [Option.getD_some]
  generalize (Go.bits .or .u32 _ _ * 2654435761) = X
  have : 0 ≤ X % 4294967296 / 1048576 ∧ X % 4294967296 / 1048576 < 4096 := by omega
  refine ⟨?_, by omega⟩
  congr 1
  omega
/-! ### What is found -/
def best (s : ByteArray) (a : Nat) : Nat × Nat := if a + 4 ≤ s.size then found (slot s) (fun p => alike s p a) a else (0, 0)
theorem scan_inv (sl al : Nat → Nat) (k a : Nat) : ∀ (m : Nat) (r : Nat × Nat), m ≤ a → (r.2 = 0 ∨ 1 ≤ r.1 ∧ r.1 ≤ a ∧ r.1 ≤ 4096) → ((scan sl al k a m r).2 = 0 ∨ 1 ≤ (scan sl al k a m r).1 ∧ (scan sl al k a m r).1 ≤ a ∧ (scan sl al k a m r).1 ≤ 4096)
  | 0, r, _, h => h
  | n + 1, r, hm, h => by
    simp only [scan]
    split
    · split
      · refine scan_inv sl al k a n _ (by omega) ?_
        split
        · refine .inr ?_
          simp only
          omega
        · exact h
      · exact h
    · exact scan_inv sl al k a n r (by omega) h
theorem scan_le (sl al : Nat → Nat) (k a z : Nat) (hal : ∀ p, al p ≤ z) : ∀ (m : Nat) (r : Nat × Nat), r.2 ≤ z → (scan sl al k a m r).2 ≤ z
  | 0, r, h => h
  | n + 1, r, h => by
    simp only [scan]
    split
    · split
      · refine scan_le sl al k a z hal n _ ?_
        split
        · exact hal n
        · exact h
      · exact h
    · exact scan_le sl al k a z hal n r h
theorem best_is (s : ByteArray) (hs : s.size ≤ 1048576) : Finds s (slot s) (fun a p => alike s p a) (best s) := by
  intro a ha
  unfold best
  by_cases h4 : a + 4 ≤ s.size
  · rw [if_pos h4, if_pos h4]
    refine ⟨⟨alike_is s a hs ha, rfl⟩, ?_⟩
    have h1 := scan_inv (slot s) (fun p => alike s p a) (slot s a) a a (0, 0) (Nat.le_refl _) (.inl rfl)
    have h2 := scan_le (slot s) (fun p => alike s p a) (slot s a) a 259 (fun p => alike_le s p a) a (0, 0) (Nat.zero_le _)
    unfold found
    generalize scan (slot s) (fun p => alike s p a) (slot s a) a a (0, 0) = r at h1 h2
    split
    · exact .inl rfl
    · refine .inr ?_
      omega
  · rw [if_neg h4, if_neg h4]
    exact ⟨rfl, .inl rfl⟩
/-- A text's pressed bytes. -/
def pressL (s : ByteArray) : List UInt8 := numL s.size ++ toks (best s) s (s.size + 2) 0 0
def pressA (s : ByteArray) : ByteArray × Int := if s.size ≤ 1048576 then (bs (pressL s), 0) else (bs [], 4)
theorem pressA_calls (s : ByteArray) (w : World) : Calls Try.prog 39 #[.string s] w fun e w' => e = .returned (.tuple #[.string (pressA s).1, .int .i64 (pressA s).2]) ∧ Below w.heap.size w w' := by
  unfold pressA
  by_cases h : s.size ≤ 1048576
  · rw [if_pos h]
    exact press_any w s (slot s) (fun a p => alike s p a) (best s) (slot_is s) (best_is s h) h
  · rw [if_neg h]
    exact press_long w s (by omega)
end Press
end Go.Proofs.Ytocjhpjljlcboaa.Q
