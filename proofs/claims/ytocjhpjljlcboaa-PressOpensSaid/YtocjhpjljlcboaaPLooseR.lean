/- The reference's Loose is the same plain function. -/
import Derived.Test.YtocjhpjljlcboaaPLoose
import Derived.Test.YtocjhpjljlcboaaQ9
namespace Go.Proofs.Ytocjhpjljlcboaa.Q
open Go.RowKit Go.Proofs.YtocjhpjljlcboaaW.PrintWords Go.Proofs.YtocjhpjljlcboaaW.PrintLast Go.Proofs.YtocjhpjljlcboaaW.PrintMore
open Go.Proofs.Ytocjhpjljlcboaa.Lay Go.Proofs.Ytocjhpjljlcboaa.Spec
set_option linter.unusedVariables false
namespace Press
theorem ref_copy (s : ByteArray) (n v d : Int) (hv : 0 ≤ v / 2) (hv2 : v / 2 ≤ 255) (hv0 : 0 ≤ v) (hd : 1 ≤ d) (p : Int) : ∀ (m K i : Nat) (acc : List Int), d ≤ acc.length → acc.length + m ≤ 3000000 → m < K → (i : Int) + m = v / 2 + 4 →
    barqueref08_Loose.l1 K n acc v d (i : Int) s p 0 = barqueref08_Loose.l0 (K - 1 - m) n (cop d m acc) s p 0 := by
  intro m
  induction m with
  | zero =>
    intro K i acc h1 h2 h3 h4
    obtain ⟨K, rfl⟩ : ∃ n, K = n + 1 := ⟨K - 1, by omega⟩
    simp only [barqueref08_Loose.l1]
    rw [show Int.tdiv v 2 = v / 2 by rw [Int.tdiv_eq_ediv_of_nonneg hv0], w64 (n := v / 2) (by omega) (by omega), w64 (by omega) (by omega), if_neg (by omega)]
    rfl
  | succ m ih =>
    intro K i acc h1 h2 h3 h4
    obtain ⟨K, rfl⟩ : ∃ n, K = n + 1 := ⟨K - 1, by omega⟩
    simp only [barqueref08_Loose.l1, cop]
    rw [show Int.tdiv v 2 = v / 2 by rw [Int.tdiv_eq_ediv_of_nonneg hv0], w64 (n := v / 2) (by omega) (by omega), w64 (n := v / 2 + 4) (by omega) (by omega), if_pos (by omega), if_pos trivial, w64 (n := (acc.length : Int) - d) (by omega) (by omega), if_pos (by omega), if_pos (by omega), if_pos (by omega), w64 (by omega) (by omega), show (i : Int) + 1 = ((i + 1 : Nat) : Int) by omega]
    rw [ih K (i + 1) _ (by rw [List.length_append]; omega) (by rw [List.length_append, List.length_singleton]; omega) (by omega) (by omega)]
    rw [show K + 1 - 1 - (m + 1) = K - 1 - m by omega]
theorem ref_stop (s : ByteArray) (n v d : Int) (acc : List Int) (hv0 : 0 ≤ v) (hv2 : v < 4611686018427387904) (p e : Int) (he : e ≠ 0) (K : Nat) : barqueref08_Loose.l1 (K + 1) n acc v d 0 s p e = barqueref08_Loose.l0 K n acc s p e := by
  simp only [barqueref08_Loose.l1]
  rw [show Int.tdiv v 2 = v / 2 by rw [Int.tdiv_eq_ediv_of_nonneg hv0], w64 (n := v / 2) (by omega) (by omega), w64 (by omega) (by omega), if_pos (by omega), if_neg he]
theorem rRaw_err (s : ByteArray) (p : Nat) (e n : Int) (he : e ≠ 0) : rRaw s p e n = (bs [], p, e) := by
  unfold rRaw
  rw [if_pos he]
theorem bytesOf_none : bytesOf (bs []) = [] := rfl
theorem rloose_l0 (s : ByteArray) (n : Int) (hs : Small s) (hn : n ≤ 1048576) (c : Nat) (hc : 400 ≤ c) : ∀ (f K : Nat) (acc : List Int) (p : Nat) (e : Int), p ≤ s.size → (acc.length : Int) ≤ 1048576 → 1 ≤ f → (e = 0 → n - acc.length < f) → f * c ≤ K →
    barqueref08_Loose.l0 K n acc s (p : Int) e = some (looseG s n f acc p e) := by
  have hE : ∀ (K : Nat) (acc : List Int) (p : Nat) (e : Int), p ≤ s.size → barqueref08_Loose.j1 (K + 1) n acc false s (p : Int) e = some (if rEnd s p e = 0 then (strOfNums acc, 0) else (bs [], rEnd s p e)) := by
    intro K acc p e hp
    simp only [barqueref08_Loose.j1]
    rw [if_neg (by decide), refREnd s p e]
    simp only [Option.bind_some]
    split <;> rfl
  have hX : ∀ (K : Nat) (acc : List Int) (p : Nat) (e : Int), p ≤ s.size → e ≠ 0 → barqueref08_Loose.l0 (K + 2) n acc s (p : Int) e = some (bs [], e) := by
    intro K acc p e hp he
    simp only [barqueref08_Loose.l0]
    rw [if_neg he, hE K acc p e hp]
    unfold rEnd
    rw [if_neg (c := e = 0 ∧ p < s.size) (fun h => he h.1), if_neg he]
  intro f
  induction f with
  | zero => intro K acc p e _ _ h; omega
  | succ f ih =>
    intro K acc p e hp hl _ hf hK
    rw [Nat.succ_mul] at hK
    generalize hfc : f * c = fc at hK ih
    obtain ⟨K, rfl⟩ : ∃ n, K = n + 6 := ⟨K - 6, by omega⟩
    by_cases he : e = 0
    · subst he
      simp only [barqueref08_Loose.l0]
      rw [if_pos trivial]
      by_cases hlt : (acc.length : Int) < n
      · have hf1 := hf rfl
        have hf0 : 1 ≤ f := by omega
        have hK0 : fc + 390 ≤ K := by omega
        have hn0 : n - acc.length ≤ f := by omega
        have hg := rNum_ge s p 0
        have hle := rNum_le s p 0 hp
        rw [decide_eq_true hlt]
        simp only [looseG]
        rw [if_pos ⟨trivial, hlt⟩]
        simp only [barqueref08_Loose.j1]
        rw [if_pos trivial, refRNum (K + 4) s p 0 hs hp (by omega)]
        simp only [Option.bind_some]
        rw [show Int.tmod (rNum s p 0).1 2 = (rNum s p 0).1 % 2 by rw [Int.tmod_eq_emod_of_nonneg hg.1], w64 (n := n - acc.length) (by omega) (by omega)]
        rw [show Int.tdiv (rNum s p 0).1 2 = (rNum s p 0).1 / 2 by rw [Int.tdiv_eq_ediv_of_nonneg hg.1], w64 (n := (rNum s p 0).1 / 2) (by omega) (by omega)]
        by_cases h2 : (rNum s p 0).1 % 2 = 0
        · rw [if_pos h2, if_pos h2]
          rw [refRRaw s _ 5 _ hs hle (by omega), refRRaw s _ (rNum s p 0).2.2 _ hs hle (by omega), rRaw_err s _ 5 _ (by decide)]
          simp only [Option.bind_some]
          have hsm : acc.length + (bs []).size < 140737488355328 := by
            rw [bs_size]
            simp only [List.length_nil]
            omega
          rw [bytesOf_none, List.append_nil, if_pos hsm, hX (K + 2) acc _ 5 hle (by decide)]
          by_cases hz : (rNum s p 0).2.2 = 0
          · rw [if_pos hz, if_pos hz, hz]
            by_cases h0 : (rNum s p 0).1 = 0
            · rw [if_pos h0, if_pos (.inl h0)]
            · rw [if_neg h0]
              by_cases h3 : (rNum s p 0).1 / 2 > n - acc.length
              · rw [if_pos h3, if_pos (.inr h3)]
              · rw [if_neg h3, if_neg (c := (rNum s p 0).1 = 0 ∨ (rNum s p 0).1 / 2 > n - acc.length) (fun h => h.elim h0 h3)]
                have hr := rRaw_size s (rNum s p 0).2.1 0 ((rNum s p 0).1 / 2) hle
                have hrl := rRaw_le s (rNum s p 0).2.1 0 ((rNum s p 0).1 / 2) hle
                generalize rRaw s (rNum s p 0).2.1 0 ((rNum s p 0).1 / 2) = r at hr hrl
                have hsz : (r.1.size : Int) ≤ n - acc.length := by
                  rw [hr.1]
                  split <;> omega
                rw [if_pos (by omega)]
                refine ih _ _ _ _ hrl ?_ hf0 ?_ (by omega)
                · rw [List.length_append, bytesOf_length]
                  omega
                · intro h
                  rw [List.length_append, bytesOf_length]
                  have := hr.1
                  rw [if_pos h] at this
                  omega
          · rw [if_neg hz, if_neg hz, rRaw_err s _ _ _ hz]
            simp only []
            rw [bytesOf_none, List.append_nil, if_pos hsm, hX (K + 2) acc _ _ hle hz]
        · have hz := rNum_odd s p h2
          rw [if_neg h2, if_neg h2, hz, refRNum (K + 4) s _ 0 hs hle (by omega)]
          have hg' := rNum_ge s (rNum s p 0).2.1 0
          have hle' := rNum_le s (rNum s p 0).2.1 0 hle
          generalize rNum s (rNum s p 0).2.1 0 = u at hg' hle'
          simp only [Option.bind_some]
          rw [w64 (n := u.1 + 1) (by omega) (by omega), w64 (n := (rNum s p 0).1 / 2 + 4) (by omega) (by omega)]
          by_cases hu : u.2.2 = 0
          · rw [if_pos hu, if_pos hu]
            have hbad : barqueref08_Loose.j2 (K + 4) n acc (rNum s p 0).1 (u.1 + 1) true s (u.2.1 : Int) u.2.2 = some (bs [], 5) := by
              simp only [barqueref08_Loose.j2, barqueref08_Loose.j3]
              rw [if_pos trivial, ref_stop s n _ _ acc hg.1 hg.2 _ _ (by decide) (K + 1)]
              obtain ⟨K', rfl⟩ : ∃ m, K = m + 1 := ⟨K - 1, by omega⟩
              exact hX K' acc _ 5 hle' (by decide)
            by_cases h4 : u.1 + 1 > acc.length
            · rw [if_pos h4, if_pos (.inl h4), hbad]
            · rw [if_neg h4]
              by_cases h5 : u.1 + 1 > 4096
              · rw [if_pos h5, if_pos (.inr (.inl h5)), hbad]
              · rw [if_neg h5]
                by_cases h6 : (rNum s p 0).1 / 2 > 255
                · rw [if_pos h6, if_pos (.inr (.inr (.inl h6))), hbad]
                · rw [if_neg h6]
                  by_cases h7 : (rNum s p 0).1 / 2 + 4 > n - acc.length
                  · rw [decide_eq_true h7, if_pos (.inr (.inr (.inr h7))), hbad]
                  · rw [decide_eq_false h7, if_neg (fun h => h.elim h4 (fun h => h.elim h5 (fun h => h.elim h6 h7)))]
                    simp only [barqueref08_Loose.j2, barqueref08_Loose.j3]
                    rw [if_neg (by decide), hu]
                    have hc := ref_copy s n (rNum s p 0).1 (u.1 + 1) (by omega) (by omega) hg.1 (by omega) (u.2.1 : Int) ((rNum s p 0).1 / 2 + 4).toNat (K + 2) 0 acc (by omega) (by omega) (by omega) (by omega)
                    rw [show barqueref08_Loose.l1 (K + 2) n acc (rNum s p 0).1 (u.1 + 1) 0 s (u.2.1 : Int) 0 = _ from hc]
                    exact ih _ _ _ _ hle' (by rw [cop_length]; omega) hf0 (fun _ => by rw [cop_length]; omega) (by omega)
          · rw [if_neg hu, if_neg hu]
            simp only [barqueref08_Loose.j2, barqueref08_Loose.j3]
            rw [if_neg (by decide), ref_stop s n _ _ acc hg.1 hg.2 _ _ hu (K + 1)]
            obtain ⟨K', rfl⟩ : ∃ m, K = m + 1 := ⟨K - 1, by omega⟩
            exact hX K' acc _ _ hle' hu
      · rw [decide_eq_false hlt, hE _ acc p 0 hp]
        simp only [looseG]
        rw [if_neg (c := True ∧ (acc.length : Int) < n) (fun h => hlt h.2)]
    · obtain ⟨K', rfl⟩ : ∃ m, K = m + 1 := ⟨K - 1, by omega⟩
      rw [hX _ acc p e hp he, ends s n acc p e he (f + 1) (by omega)]
theorem refLoose (s : ByteArray) (hs : Small s) (K c : Nat) (hc : 400 ≤ c) (hK : 1048580 * c ≤ K) : barqueref08_Loose.f K s = some (looseA s) := by
  have hK40 : 40 ≤ K := Nat.le_trans (Nat.le_trans (by omega) (Nat.le_mul_of_pos_left c (by decide : 0 < 1048580))) hK
  unfold barqueref08_Loose.f looseA
  rw [show barqueref01_Reader_Count.f K s 0 0 1048576 = _ from refRCount K s 0 0 1048576 hs (Nat.zero_le _) hK40]
  simp only [Option.bind_some]
  have hb := rCount_bound s
  exact rloose_l0 s _ hs hb c hc 1048580 K [] _ _ (rCount_le s 0 0 _ (Nat.zero_le _)) (by decide) (by decide) (fun _ => by simp only [List.length_nil]; omega) hK
end Press
end Go.Proofs.Ytocjhpjljlcboaa.Q
