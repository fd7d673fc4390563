/- Sums that stay in 64 bits. -/
import Derived.Test.YtocjhpjljlcboaaNums
namespace Go.Proofs.Ytocjhpjljlcboaa.Q
open Go.RowKit Go.Proofs.YtocjhpjljlcboaaW.PrintWords Go.Proofs.YtocjhpjljlcboaaW.PrintLast Go.Proofs.Ytocjhpjljlcboaa.Spec
namespace Press
theorem div_w (n : Nat) (h : n ≤ 4611686018427387903) (d : Nat) : wrap64 ((n : Int) / (d : Int)) = ((n / d : Nat) : Int) := by
  have e : (n : Int) / (d : Int) = ((n / d : Nat) : Int) := (Int.natCast_ediv n d).symm
  have := Nat.div_le_self n d
  rw [e]
  generalize n / d = q at this
  exact w64 (by omega) (by omega)
theorem sum64 (n : Nat) (h : n ≤ 4611686018427387903) : wrap64 (wrap64 ((n : Int) + wrap64 ((n : Int) / 64)) + 6) = ((n + n / 64 + 6 : Nat) : Int) := by
  have h1 := div_w n h 64
  rw [show wrap64 ((n : Int) / 64) = _ from h1]
  have := Nat.div_mul_le_self n 64
  generalize n / 64 = q at this
  rw [w64 (n := (n : Int) + (q : Int)) (by omega) (by omega), w64 (by omega) (by omega)]
  omega
theorem sum259 (n : Nat) (h : n ≤ 4611686018427387903) : wrap64 (wrap64 (wrap64 (wrap64 ((n : Int) + wrap64 ((n : Int) / 64)) + 6) + wrap64 (4 * wrap64 (wrap64 ((n : Int) / 259) + 1))) + 8) = ((n + n / 64 + 6 + 4 * (n / 259 + 1) + 8 : Nat) : Int) := by
  rw [sum64 n h]
  have h1 := div_w n h 259
  rw [show wrap64 ((n : Int) / 259) = _ from h1]
  have := Nat.div_mul_le_self n 64
  have h2 := Nat.div_mul_le_self n 259
  generalize n / 64 = q at this
  generalize n / 259 = q2 at h2
  rw [w64 (n := (q2 : Int) + 1) (by omega) (by omega), w64 (n := 4 * ((q2 : Int) + 1)) (by omega) (by omega), w64 (n := ((n + q + 6 : Nat) : Int) + 4 * ((q2 : Int) + 1)) (by omega) (by omega), w64 (by omega) (by omega)]
  omega
/-- The bound as a walk shows it. -/
theorem bound259 (n : Nat) (m : Int) (h : n + n ≤ 9223372036854775807) : (m ≤ wrap64 (wrap64 (wrap64 (wrap64 ((n : Int) + wrap64 ((n : Int) / 64)) + 6) + wrap64 (4 * wrap64 (wrap64 ((n : Int) / 259) + 1))) + 8)) = (m ≤ (n : Int) + (n : Int) / 64 + 6 + 4 * ((n : Int) / 259 + 1) + 8) := by
  rw [sum259 n (by omega)]
  have e1 : (n : Int) / 64 = ((n / 64 : Nat) : Int) := (Int.natCast_ediv n 64).symm
  have e2 : (n : Int) / 259 = ((n / 259 : Nat) : Int) := (Int.natCast_ediv n 259).symm
  rw [e1, e2]
  generalize n / 64 = q
  generalize n / 259 = q2
  rw [show (((n + q + 6 + 4 * (q2 + 1) + 8 : Nat)) : Int) = (n : Int) + (q : Int) + 6 + 4 * ((q2 : Int) + 1) + 8 by omega]
end Press
end Go.Proofs.Ytocjhpjljlcboaa.Q
