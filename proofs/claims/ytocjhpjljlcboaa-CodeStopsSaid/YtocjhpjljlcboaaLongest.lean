/- The finder of press: the longest copy (longest). -/
import Derived.Test.YtocjhpjljlcboaaPut
import Derived.Outline
namespace Go.Proofs.Ytocjhpjljlcboaa.Q
open Go.RowKit Go.Proofs.YtocjhpjljlcboaaW.PrintWords Go.Proofs.YtocjhpjljlcboaaW.PrintLast Go.Proofs.YtocjhpjljlcboaaW.PrintMore
set_option linter.unusedVariables false
set_option linter.unusedSimpArgs false
namespace Press
/-- Down a chain of slot k: of what stands ahead of a place the longest copy so far. -/
def scan (sl al : Nat → Nat) (k a : Nat) : Nat → Nat × Nat → Nat × Nat
  | 0, r => r
  | n + 1, r => if sl n = k then (if a - n ≤ 4096 then scan sl al k a n (if r.2 < al n then (a - n, al n) else r) else r) else scan sl al k a n r
theorem scan_none (sl al : Nat → Nat) (k a : Nat) : ∀ (m : Nat) (r : Nat × Nat), last sl k m = 0 → scan sl al k a m r = r
  | 0, _, _ => rfl
  | n + 1, r, h => by
    simp only [last] at h
    split at h
    · omega
    · rename_i hk
      simp only [scan]
      rw [if_neg hk]
      exact scan_none sl al k a n r h
theorem scan_some (sl al : Nat → Nat) (k a : Nat) : ∀ (m p : Nat) (r : Nat × Nat), last sl k m = p + 1 → scan sl al k a m r = (if a - p ≤ 4096 then scan sl al k a p (if r.2 < al p then (a - p, al p) else r) else r) ∧ p < m ∧ sl p = k
  | 0, _, _, h => by simp [last] at h
  | n + 1, p, r, h => by
    simp only [last] at h
    split at h
    · rename_i hk
      obtain rfl : n = p := by omega
      simp only [scan]
      rw [if_pos hk]
      exact ⟨rfl, by omega, hk⟩
    · rename_i hk
      simp only [scan]
      rw [if_neg hk]
      have := scan_some sl al k a n p r h
      exact ⟨this.1, by omega, this.2.2⟩
/-- How much stands alike at a place and an earlier one. -/
def Alike (s : ByteArray) (al : Nat → Nat) (a : Nat) : Prop := ∀ p, p < a → press_alike.f 300 s (p : Int) (a : Int) 259 = some ((al p : Nat) : Int) ∧ al p ≤ 259
def found (sl al : Nat → Nat) (a : Nat) : Nat × Nat := if (scan sl al (sl a) a a (0, 0)).2 < 4 then (0, 0) else scan sl al (sl a) a a (0, 0)
def Chain (sl al : Nat → Nat) (a m b z : Nat) : Prop := scan sl al (sl a) a m (b, z) = scan sl al (sl a) a a (0, 0) ∧ m ≤ a ∧ b ≤ a ∧ z ≤ 259
theorem Fin.only {w w' : World} {F P : Nat} {s : ByteArray} {sl : Nat → Nat} {d n : Nat} (h : Fin w F P s sl d) (e : w' = w.drewN n) : Fin w' F P s sl d := by subst e; exact h.drewN n
theorem Only.trans {F P : Nat} {a b c : World} (h : Only F P a b) (k : Only F P b c) : Only F P a c :=
  ⟨k.os.trans h.os, k.tape.trans h.tape, k.output.trans h.output, Nat.le_trans h.size k.size, fun i h1 h2 h3 => (k.block i h1 h2 (Nat.lt_of_lt_of_le h3 h.size)).trans (h.block i h1 h2 h3)⟩
def Found (sl al : Nat → Nat) (a : Nat) (e : Ending) : Prop := e = .returned (.tuple #[.int .i64 ((found sl al a).1 : Nat), .int .i64 ((found sl al a).2 : Nat)])
set_option maxHeartbeats 4000000 in
set_option maxRecDepth 100000 in
theorem longest_short (w : World) (F P : Nat) (s : ByteArray) (sl : Nat → Nat) (d a : Nat) (hF : Fin w F P s sl d) (ha : s.size < a + 4) (ha2 : a ≤ 2000000) (hs : s.size ≤ 1048576) :
    Calls Try.prog 61 #[.pointer (some ⟨F, 0, none⟩), .int .i64 (a : Nat)] w fun e w' => e = .returned (.tuple #[.int .i64 0, .int .i64 0]) ∧ w = w' := by
  obtain ⟨cs, ds, hF1, hP1, hcs, hds, c0, ch, cp, cd, dd⟩ := hF.ex
  have hc0 := (blk_cell hF1 0).trans c0
  have h1 : decide ((s.size : Int) < (a : Int) + 4) = true := decide_eq_true (by omega)
  have h2 : decide (s.size < a + 4) = true := decide_eq_true (by omega)
  clear hF1 hP1 hcs hds c0 ch cp cd dd hF
  go_enter Try.func61, Try.ntmps61
  go_wp2
  go_ret2
  exact ⟨rfl, rfl⟩
set_option maxHeartbeats 8000000 in
set_option maxRecDepth 100000 in
theorem longest_any (w : World) (F P : Nat) (s : ByteArray) (sl al : Nat → Nat) (d a : Nat) (hF : Fin w F P s sl d) (hS : Slots s sl) (hA : Alike s al a) (hda : d ≤ a) (ha : a + 4 ≤ s.size) (hs : s.size ≤ 1048576) (hFP : F ≠ P) :
    Calls Try.prog 61 #[.pointer (some ⟨F, 0, none⟩), .int .i64 (a : Nat)] w fun e w' => Found sl al a e ∧ Fin w' F P s sl a ∧ Only F P w w' := by
  have HS := Aside0.mk hS
  have HA := Aside0.mk hA
  have HF := Aside0.mk hF
  have HFP := Aside0.mk hFP
  have h1 : decide ((s.size : Int) < (a : Int) + 4) = false := decide_eq_false (by omega)
  have h2 : decide (s.size < a + 4) = false := decide_eq_false (by omega)
  have hc0 : w.cell? ⟨F, 0, none⟩ = some (.string s) := by
    obtain ⟨cs, ds, hF1, hP1, hcs, hds, c0, _⟩ := hF.ex
    exact (blk_cell hF1 0).trans c0
  clear hS hA hF hFP
  go_enter Try.func61, Try.ntmps61
  go_wp2_with fail
  refine (put_any w F P s sl d a HF.out HS.out hda ha hs HFP.out).mono ?_
  rintro e w1 ⟨rfl, hF1, hO1⟩
  have HF1 := Aside0.mk hF1
  have HO1 := Aside0.mk hO1
  clear hF1 hO1 HF hc0 h1 h2
  go_wp2_with fail
  have hsl := (HS.out a ha).1
  have hsb := (HS.out a ha).2
  have hc0 : w1.cell? ⟨F, 0, none⟩ = some (.string s) := by
    obtain ⟨cs, ds, hF1, hP1, hcs, hds, c0, _⟩ := HF1.out.ex
    exact (blk_cell hF1 0).trans c0
  have hch : w1.cell? ⟨F, 1 + sl a, none⟩ = some (.int .i64 (last sl (sl a) a : Nat)) := by
    obtain ⟨cs, ds, hF1, hP1, hcs, hds, c0, ch, _⟩ := HF1.out.ex
    exact (blk_cell hF1 (1 + sl a)).trans (ch (sl a) hsb)
  have hb1 : decide (0 ≤ ((sl a : Nat) : Int)) = true := decide_eq_true (by omega)
  have hb2 : decide (((sl a : Nat) : Int) < 4096) = true := decide_eq_true (by omega)
  go_quiet ((go_at_call 78; exact slot_quiet _ _ _ _ hsl))
  clear hsl hsb hc0 hch hb1 hb2
  go_wp2
  go_loopg [6, 7, 8] (a + 1) (fun g v6 v7 v8 wr => ∃ m b z : Nat, v6 = .int .i64 (b : Nat) ∧ v7 = .int .i64 (z : Nat) ∧ v8 = .int .i64 (last sl (sl a) m : Nat) ∧ Aside0 (g = m + 1) ∧ Aside0 (Chain sl al a m b z) ∧ Aside0 (Fin wr F P s sl a) ∧ Aside0 (Only F P w wr))
  case atStart => exact ⟨a, 0, 0, rfl, rfl, rfl, ⟨rfl⟩, ⟨⟨rfl, Nat.le_refl _, Nat.zero_le _, Nat.zero_le _⟩⟩, ⟨HF1.out.drewN _⟩, ⟨HO1.out.drewN _⟩⟩
  case round =>
    clear HF1 HO1
    obtain ⟨m, b, z, rfl, rfl, rfl, HG, HC, HF, HO⟩ := hrel
    have hC1 := HC.out.1
    have hma := HC.out.2.1
    have hba := HC.out.2.2.1
    have hz := HC.out.2.2.2
    have hll := last_le sl (sl a) m
    rcases hp : last sl (sl a) m with _ | p
    · -- the chain is through
      rw [scan_none sl al (sl a) a m _ hp] at hC1
      have HC1 := Aside0.mk hC1
      clear hp hC1 hll HC HG
      by_cases h4 : z < 4
      · have h4b : decide ((z : Int) < 4) = true := decide_eq_true (by omega)
        have h4c : decide (z < 4) = true := decide_eq_true h4
        have hfd : Found sl al a (.returned (.tuple #[.int .i64 0, .int .i64 0])) := by
          unfold Found found
          rw [← HC1.out, if_pos h4]
          rfl
        have HFD := Aside0.mk hfd
        clear hfd
        go_wp2
        go_ret2
        exact ⟨HFD.out, HF.out, HO.out⟩
      · have h4b : decide ((z : Int) < 4) = false := decide_eq_false (by omega)
        have h4c : decide (z < 4) = false := decide_eq_false h4
        have hfd : Found sl al a (.returned (.tuple #[.int .i64 (b : Nat), .int .i64 (z : Nat)])) := by
          unfold Found found
          rw [← HC1.out, if_neg h4]
        have HFD := Aside0.mk hfd
        clear hfd
        go_wp2
        go_ret2
        exact ⟨HFD.out, HF.out, HO.out⟩
    · obtain ⟨hs1, hpm, hsp⟩ := scan_some sl al (sl a) a m p (b, z) hp
      rw [hs1] at hC1
      have HC1 := Aside0.mk hC1
      have HP := Aside0.mk hp
      have HSP := Aside0.mk hsp
      clear hs1 hp hsp hC1 hll HC
      have e1 : ((p + 1 : Nat) : Int) = (p : Int) + 1 := by omega
      by_cases hw : a - p ≤ 4096
      · rw [if_pos hw] at HC1
        have hw1 : decide ((a : Int) - (p : Int) ≤ 4096) = true := decide_eq_true (by omega)
        have hw2 : (a : Int) - (p : Int) ≤ 4096 := by omega
        have hal := (HA.out p (by omega)).1
        have hal2 := (HA.out p (by omega)).2
        have HAL := Aside0.mk hal
        clear hal
        have hc0 : wr.cell? ⟨F, 0, none⟩ = some (.string s) := by
          obtain ⟨cs, ds, hF1, hP1, hcs, hds, c0, _⟩ := HF.out.ex
          exact (blk_cell hF1 0).trans c0
        have hcp : wr.cell? ⟨F, 4097, none⟩ = some (.slice (some ⟨P, 0, none⟩) s.size s.size) := by
          obtain ⟨cs, ds, hF1, hP1, hcs, hds, c0, ch, cp, _⟩ := HF.out.ex
          exact (blk_cell hF1 4097).trans cp
        have hpe : wr.cell? ⟨P, p, none⟩ = some (.int .i64 (last sl (sl a) p : Nat)) := by
          obtain ⟨cs, ds, hF1, hP1, hcs, hds, c0, ch, cp, cd, dd⟩ := HF.out.ex
          have := (blk_cell hP1 p).trans (dd p (by omega))
          rwa [HSP.out] at this
        have HGO : ∀ b' z' : Nat, (if z < al p then (a - p, al p) else (b, z)) = (b', z') → Aside0 (Chain sl al a p b' z') := by
          intro b' z' h
          have h1 := HC1.out
          simp only at h1
          rw [h] at h1
          refine ⟨h1, by omega, ?_, ?_⟩
          · split at h <;> (injection h with h2 h3; omega)
          · split at h <;> (injection h with h2 h3; omega)
        have HGX := Aside0.mk HGO
        clear HGO
        by_cases hg : z < al p
        · have hg1 : decide ((z : Int) < (al p : Int)) = true := decide_eq_true (by omega)
          have hg2 : decide (z < al p) = true := decide_eq_true hg
          have HX := HGX.out (a - p) (al p) (by rw [if_pos hg])
          clear HGX
          go_wp2_with fail
          refine (press_alike.calls 300 s (p : Int) (a : Int) 259 _ _ HAL.out).mono ?_
          rintro e w2 ⟨rfl, hdr⟩
          obtain ⟨n2, rfl⟩ := hdr.out
          clear hdr
          go_wp2
          go_roundg (p + 1)
          case measure => have := HG.out; omega
          case rel => exact ⟨p, a - p, al p, by go_num, by go_num, by go_num, ⟨rfl⟩, HX, ⟨HF.out.drewN _⟩, ⟨HO.out.drewN _⟩⟩
        · have hg1 : decide ((z : Int) < (al p : Int)) = false := decide_eq_false (by omega)
          have hg2 : decide (z < al p) = false := decide_eq_false hg
          have HX := HGX.out b z (by rw [if_neg hg])
          clear HGX
          go_wp2_with fail
          refine (press_alike.calls 300 s (p : Int) (a : Int) 259 _ _ HAL.out).mono ?_
          rintro e w2 ⟨rfl, hdr⟩
          obtain ⟨n2, rfl⟩ := hdr.out
          clear hdr
          go_wp2
          go_roundg (p + 1)
          case measure => have := HG.out; omega
          case rel => exact ⟨p, b, z, by go_num, by go_num, by go_num, ⟨rfl⟩, HX, ⟨HF.out.drewN _⟩, ⟨HO.out.drewN _⟩⟩
      · rw [if_neg hw] at HC1
        have hw1 : decide ((a : Int) - (p : Int) ≤ 4096) = false := decide_eq_false (by omega)
        have hw2 : ¬ (a : Int) - (p : Int) ≤ 4096 := by omega
        by_cases h4 : z < 4
        · have h4b : decide ((z : Int) < 4) = true := decide_eq_true (by omega)
          have h4c : decide (z < 4) = true := decide_eq_true h4
          have hfd : Found sl al a (.returned (.tuple #[.int .i64 0, .int .i64 0])) := by
            unfold Found found
            rw [← HC1.out, if_pos h4]
            rfl
          have HFD := Aside0.mk hfd
          clear hfd
          go_wp2
          go_ret2
          exact ⟨HFD.out, HF.out, HO.out⟩
        · have h4b : decide ((z : Int) < 4) = false := decide_eq_false (by omega)
          have h4c : decide (z < 4) = false := decide_eq_false h4
          have hfd : Found sl al a (.returned (.tuple #[.int .i64 (b : Nat), .int .i64 (z : Nat)])) := by
            unfold Found found
            rw [← HC1.out, if_neg h4]
          have HFD := Aside0.mk hfd
          clear hfd
          go_wp2
          go_ret2
          exact ⟨HFD.out, HF.out, HO.out⟩
end Press
end Go.Proofs.Ytocjhpjljlcboaa.Q
