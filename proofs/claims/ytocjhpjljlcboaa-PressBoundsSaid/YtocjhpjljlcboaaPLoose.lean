/- Loose as a plain function over the reader. -/
import Derived.Test.YtocjhpjljlcboaaPAlike
import Derived.Test.YtocjhpjljlcboaaQ8
namespace Go.Proofs.Ytocjhpjljlcboaa.Q
open Go.RowKit Go.Proofs.YtocjhpjljlcboaaW.PrintWords Go.Proofs.YtocjhpjljlcboaaW.PrintLast Go.Proofs.YtocjhpjljlcboaaW.PrintMore
open Go.Proofs.Ytocjhpjljlcboaa.Lay Go.Proofs.Ytocjhpjljlcboaa.Spec
set_option linter.unusedVariables false
namespace Press
def cop (d : Int) : Nat → List Int → List Int
  | 0, acc => acc
  | n + 1, acc => cop d n (acc ++ [rd acc ((acc.length : Int) - d)])
theorem cop_length (d : Int) : ∀ (n : Nat) (acc : List Int), (cop d n acc).length = acc.length + n
  | 0, _ => rfl
  | n + 1, acc => by
    simp only [cop]
    rw [cop_length d n, List.length_append, List.length_singleton]
    omega
/-- From what is written and where the reader stands to what comes out. -/
def looseG (s : ByteArray) (n : Int) : Nat → List Int → Nat → Int → ByteArray × Int
  | 0, _, _, _ => (bs [], 0)
  | f + 1, acc, p, e =>
    if e = 0 ∧ (acc.length : Int) < n then
      if (rNum s p 0).1 % 2 = 0 then
        if (rNum s p 0).2.2 = 0 then
          if (rNum s p 0).1 = 0 ∨ (rNum s p 0).1 / 2 > n - acc.length then (bs [], 5)
          else looseG s n f (acc ++ bytesOf (rRaw s (rNum s p 0).2.1 0 ((rNum s p 0).1 / 2)).1) (rRaw s (rNum s p 0).2.1 0 ((rNum s p 0).1 / 2)).2.1 (rRaw s (rNum s p 0).2.1 0 ((rNum s p 0).1 / 2)).2.2
        else (bs [], (rNum s p 0).2.2)
      else
        if (rNum s (rNum s p 0).2.1 0).2.2 = 0 then
          if (rNum s (rNum s p 0).2.1 0).1 + 1 > acc.length ∨ (rNum s (rNum s p 0).2.1 0).1 + 1 > 4096 ∨ (rNum s p 0).1 / 2 > 255 ∨ (rNum s p 0).1 / 2 + 4 > n - acc.length then (bs [], 5)
          else looseG s n f (cop ((rNum s (rNum s p 0).2.1 0).1 + 1) ((rNum s p 0).1 / 2 + 4).toNat acc) (rNum s (rNum s p 0).2.1 0).2.1 0
        else (bs [], (rNum s (rNum s p 0).2.1 0).2.2)
    else if rEnd s p e = 0 then (strOfNums acc, 0) else (bs [], rEnd s p e)
theorem rNum_odd (s : ByteArray) (p : Nat) (h : ¬ (rNum s p 0).1 % 2 = 0) : (rNum s p 0).2.2 = 0 := by
  by_cases he : (rNum s p 0).2.2 = 0
  · exact he
  · exact absurd (by rw [rNum_zero s p 0 he]; rfl) h
theorem rRaw_size (s : ByteArray) (p : Nat) (e n : Int) (h : p ≤ s.size) : ((rRaw s p e n).1.size : Int) = (if (rRaw s p e n).2.2 = 0 then n else 0) ∧ ((rRaw s p e n).2.2 = 0 → 0 ≤ n) := by
  unfold rRaw
  by_cases he : e ≠ 0
  · rw [if_pos he, if_neg he]
    exact ⟨rfl, fun h => absurd h he⟩
  · rw [if_neg he]
    by_cases h0 : n < 0
    · rw [if_pos h0]
      exact ⟨rfl, fun h => absurd h (show ¬ ((1 : Int) = 0) by decide)⟩
    · rw [if_neg h0]
      by_cases h1 : n > (s.size : Int) - p
      · rw [if_pos h1]
        exact ⟨rfl, fun h => absurd h (show ¬ ((3 : Int) = 0) by decide)⟩
      · rw [if_neg h1]
        simp only
        rw [if_pos trivial, ByteArray.size_extract]
        exact ⟨by omega, fun _ => by omega⟩
theorem copied_l0 (d : Int) (hd : 1 ≤ d) : ∀ (m K i : Nat) (acc : List Int), d ≤ acc.length → acc.length + m ≤ 3000000 → m < K → i + m ≤ 1000 → press_copied.l0 K acc d ((i + m : Nat) : Int) (i : Int) = some (cop d m acc) := by
  intro m
  induction m with
  | zero =>
    intro K i acc h1 h2 h3 h4
    obtain ⟨K, rfl⟩ : ∃ n, K = n + 1 := ⟨K - 1, by omega⟩
    simp only [press_copied.l0]
    rw [if_neg (by omega)]
    rfl
  | succ m ih =>
    intro K i acc h1 h2 h3 h4
    obtain ⟨K, rfl⟩ : ∃ n, K = n + 1 := ⟨K - 1, by omega⟩
    simp only [press_copied.l0, cop]
    rw [if_pos (by omega), w64 (n := (acc.length : Int) - d) (by omega) (by omega), if_pos (by omega), if_pos (by omega), if_pos (by omega), w64 (by omega) (by omega), show (i : Int) + 1 = ((i + 1 : Nat) : Int) by omega, show i + (m + 1) = (i + 1) + m by omega]
    exact ih K (i + 1) _ (by rw [List.length_append]; omega) (by rw [List.length_append, List.length_singleton]; omega) (by omega) (by omega)
theorem ends (s : ByteArray) (n : Int) (acc : List Int) (p : Nat) (e : Int) (he : e ≠ 0) (f : Nat) (hf : 1 ≤ f) : looseG s n f acc p e = (bs [], e) := by
  obtain ⟨f, rfl⟩ : ∃ m, f = m + 1 := ⟨f - 1, by omega⟩
  simp only [looseG]
  rw [if_neg (fun h => he h.1)]
  unfold rEnd
  rw [if_neg (c := e = 0 ∧ p < s.size) (fun h => he h.1), if_neg he]
theorem code_l0 (s : ByteArray) (n : Int) (hs : Small s) (hn : n ≤ 1048576) (c : Nat) (hc : 400 ≤ c) : ∀ (f K : Nat) (acc : List Int) (p : Nat) (e : Int), p ≤ s.size → (acc.length : Int) ≤ 1048576 → 1 ≤ f → (e = 0 → n - acc.length < f) → f * c ≤ K →
    press_Loose.l0 K n acc s (p : Int) e = some (looseG s n f acc p e) := by
  intro f
  induction f with
  | zero => intro K acc p e _ _ h; omega
  | succ f ih =>
    intro K acc p e hp hl _ hf hK
    rw [Nat.succ_mul] at hK
    generalize hfc : f * c = fc at hK ih
    obtain ⟨K, rfl⟩ : ∃ n, K = n + 3 := ⟨K - 3, by omega⟩
    have hend : press_Loose.j1 (K + 2) n acc false s (p : Int) e = some (if rEnd s p e = 0 then (strOfNums acc, 0) else (bs [], rEnd s p e)) := by
      simp only [press_Loose.j1]
      rw [if_neg (by decide), codeREnd (K + 1) s p e hs hp (by omega)]
      simp only [Option.bind_some]
      split <;> rfl
    simp only [press_Loose.l0, code_Reader_Err.f, Option.bind_some]
    by_cases he : e = 0
    · subst he
      rw [if_pos rfl]
      by_cases hlt : (acc.length : Int) < n
      · have hf1 := hf rfl
        have hf0 : 1 ≤ f := by omega
        have hK0 : fc ≤ K := by omega
        have hn0 : n - acc.length ≤ f := by omega
        have hg := rNum_ge s p 0
        have hle := rNum_le s p 0 hp
        rw [decide_eq_true hlt]
        simp only [looseG]
        rw [if_pos ⟨trivial, hlt⟩]
        simp only [press_Loose.j1]
        rw [if_pos trivial, codeRNum (K + 1) s p 0 hs hp (by omega)]
        simp only [Option.bind_some]
        rw [and1 _ hg.1 (by omega), w64 (n := n - acc.length) (by omega) (by omega)]
        rw [show Int.tdiv (rNum s p 0).1 2 = (rNum s p 0).1 / 2 by rw [Int.tdiv_eq_ediv_of_nonneg hg.1], w64 (n := (rNum s p 0).1 / 2) (by omega) (by omega)]
        by_cases h2 : (rNum s p 0).1 % 2 = 0
        · rw [if_pos h2, if_pos h2]
          have hwrong : press_Loose.j2 (K + 1) n acc (rNum s p 0).1 true s ((rNum s p 0).2.1 : Int) (rNum s p 0).2.2 = some (bs [], if (rNum s p 0).2.2 = 0 then 5 else (rNum s p 0).2.2) := by
            simp only [press_Loose.j2, press_wrong.f, code_Reader_Err.f, Option.bind_some]
            rw [if_pos trivial]
            by_cases hz : (rNum s p 0).2.2 = 0
            · rw [if_pos hz, if_pos hz]
              rfl
            · rw [if_neg hz, if_neg hz]
              rfl
          by_cases h0 : (rNum s p 0).1 = 0
          · rw [if_pos h0, hwrong]
            by_cases hz : (rNum s p 0).2.2 = 0
            · rw [if_pos hz, if_pos hz, if_pos (.inl h0)]
            · rw [if_neg hz, if_neg hz]
          · have hz : (rNum s p 0).2.2 = 0 := by
              by_cases hz : (rNum s p 0).2.2 = 0
              · exact hz
              · exact absurd (rNum_zero s p 0 hz) h0
            rw [if_neg h0, if_pos hz]
            by_cases h3 : (rNum s p 0).1 / 2 > n - acc.length
            · rw [if_pos (.inr h3), decide_eq_true h3, hwrong, if_pos hz]
            · rw [if_neg (fun h => h.elim h0 h3), decide_eq_false h3]
              simp only [press_Loose.j2]
              rw [if_neg (by decide)]
              rw [show Int.tdiv (rNum s p 0).1 2 = (rNum s p 0).1 / 2 by rw [Int.tdiv_eq_ediv_of_nonneg hg.1], w64 (n := (rNum s p 0).1 / 2) (by omega) (by omega), codeRRaw s _ _ _ hs hle (by omega), hz]
              simp only [Option.bind_some]
              have hr := rRaw_size s (rNum s p 0).2.1 0 ((rNum s p 0).1 / 2) hle
              have hrl := rRaw_le s (rNum s p 0).2.1 0 ((rNum s p 0).1 / 2) hle
              generalize rRaw s (rNum s p 0).2.1 0 ((rNum s p 0).1 / 2) = r at hr hrl
              have hsz : (r.1.size : Int) ≤ n - acc.length := by
                rw [hr.1]
                split <;> omega
              rw [if_pos (by omega)]
              refine ih K _ _ _ hrl ?_ hf0 ?_ hK0
              · rw [List.length_append, bytesOf_length]
                omega
              · intro h
                rw [List.length_append, bytesOf_length]
                have := hr.1
                rw [if_pos h] at this
                omega
        · have hz := rNum_odd s p h2
          rw [if_neg h2, if_neg h2, hz, codeRNum (K + 1) s _ 0 hs hle (by omega)]
          have hg' := rNum_ge s (rNum s p 0).2.1 0
          have hle' := rNum_le s (rNum s p 0).2.1 0 hle
          generalize rNum s (rNum s p 0).2.1 0 = u at hg' hle'
          simp only [code_Reader_Err.f, Option.bind_some]
          rw [w64 (n := u.1 + 1) (by omega) (by omega), w64 (n := (rNum s p 0).1 / 2 + 4) (by omega) (by omega)]
          by_cases hu : u.2.2 = 0
          · rw [if_pos hu, if_pos hu]
            have hbad : press_Loose.j3 (K + 1) n acc (rNum s p 0).1 (u.1 + 1) true s (u.2.1 : Int) u.2.2 = some (bs [], 5) := by
              simp only [press_Loose.j3]
              rw [if_pos trivial]
              rfl
            by_cases h4 : u.1 + 1 > acc.length
            · rw [if_pos h4, if_pos (.inl h4), hbad]
            · rw [if_neg h4]
              by_cases h5 : u.1 + 1 > 4096
              · rw [if_pos h5, if_pos (.inr (.inl h5)), hbad]
              · rw [if_neg h5]
                by_cases h6 : (rNum s p 0).1 / 2 > 255
                · rw [if_pos h6, if_pos (.inr (.inr (.inl h6))), hbad]
                · rw [if_neg h6]
                  by_cases h7 : (rNum s p 0).1 / 2 + 4 > n - acc.length
                  · rw [decide_eq_true h7, if_pos (.inr (.inr (.inr h7))), hbad]
                  · rw [decide_eq_false h7, if_neg (fun h => h.elim h4 (fun h => h.elim h5 (fun h => h.elim h6 h7)))]
                    simp only [press_Loose.j3, code_Reader_Err.f, Option.bind_some]
                    rw [if_neg (by decide), if_pos hu]
                    rw [show Int.tdiv (rNum s p 0).1 2 = (rNum s p 0).1 / 2 by rw [Int.tdiv_eq_ediv_of_nonneg hg.1], w64 (n := (rNum s p 0).1 / 2) (by omega) (by omega), w64 (by omega) (by omega)]
                    unfold press_copied.f
                    have hc := copied_l0 (u.1 + 1) (by omega) ((rNum s p 0).1 / 2 + 4).toNat K 0 acc (by omega) (by omega) (by omega) (by omega)
                    rw [show (((0 + ((rNum s p 0).1 / 2 + 4).toNat : Nat)) : Int) = (rNum s p 0).1 / 2 + 4 by omega] at hc
                    rw [show press_copied.l0 K acc (u.1 + 1) ((rNum s p 0).1 / 2 + 4) 0 = _ from hc]
                    simp only [Option.bind_some]
                    rw [hu]
                    exact ih K _ _ _ hle' (by rw [cop_length]; omega) hf0 (fun _ => by rw [cop_length]; omega) hK0
          · rw [if_neg hu, if_neg hu]
            simp only [press_Loose.j3, code_Reader_Err.f, Option.bind_some]
            rw [if_neg (by decide), if_neg hu, ih K acc u.2.1 u.2.2 hle' hl hf0 (fun h => absurd h hu) hK0, ends s n acc _ _ hu f hf0]
      · rw [decide_eq_false hlt, hend]
        simp only [looseG]
        rw [if_neg (c := True ∧ (acc.length : Int) < n) (fun h => hlt h.2)]
    · rw [if_neg he, hend]
      simp only [looseG]
      rw [if_neg (c := e = 0 ∧ (acc.length : Int) < n) (fun h => he h.1)]
/-! ### The whole -/
def looseA (s : ByteArray) : ByteArray × Int := looseG s (rCount s 0 0 1048576).1 1048580 [] (rCount s 0 0 1048576).2.1 (rCount s 0 0 1048576).2.2
theorem rCount_most (s : ByteArray) (p : Nat) (e most : Int) (h : 0 ≤ most) (he : (rCount s p e most).2.2 = 0) : (rCount s p e most).1 ≤ most := by
  unfold rCount at he ⊢
  by_cases hc : (rNum s p e).2.2 = 0 ∧ (rNum s p e).1 > most
  · rw [if_pos hc] at he ⊢
    exact h
  · rw [if_neg hc] at he ⊢
    omega
theorem rCount_bound (s : ByteArray) : (rCount s 0 0 1048576).1 ≤ 1048576 := by
  by_cases he : (rCount s 0 0 1048576).2.2 = 0
  · exact rCount_most s 0 0 _ (by decide) he
  · rw [rCount_zero s 0 0 _ he]
    decide
theorem codeLoose (s : ByteArray) (hs : Small s) (K c : Nat) (hc : 400 ≤ c) (hK : 1048580 * c ≤ K) : press_Loose.f K s = some (looseA s) := by
  have hK40 : 40 ≤ K := Nat.le_trans (Nat.le_trans (by omega) (Nat.le_mul_of_pos_left c (by decide : 0 < 1048580))) hK
  unfold press_Loose.f code_Read.f looseA
  simp only [Option.bind_some]
  rw [show code_Reader_Count.f K s 0 0 1048576 = _ from codeRCount K s 0 0 1048576 hs (Nat.zero_le _) hK40]
  simp only [Option.bind_some]
  have hb := rCount_bound s
  exact code_l0 s _ hs hb c hc 1048580 K [] _ _ (rCount_le s 0 0 _ (Nat.zero_le _)) (by decide) (by decide) (fun _ => by simp only [List.length_nil]; omega) hK
end Press
end Go.Proofs.Ytocjhpjljlcboaa.Q
