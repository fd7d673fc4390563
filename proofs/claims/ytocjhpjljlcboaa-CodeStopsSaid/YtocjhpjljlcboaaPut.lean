/- The finder of press: places are put into chains (put). -/
import Derived.Test.YtocjhpjljlcboaaQ4
import Derived.Test.YtocjhpjljlcboaaShelf
import Derived.BigRegion
import Derived.RegionTactic
namespace Go.Proofs.Ytocjhpjljlcboaa.Q
open Go.RowKit Go.Proofs.YtocjhpjljlcboaaW.PrintWords Go.Proofs.YtocjhpjljlcboaaW.PrintLast Go.Proofs.YtocjhpjljlcboaaW.PrintMore
set_option linter.unusedVariables false
set_option linter.unusedSimpArgs false
namespace Press
/-- The greatest place below n of slot k, from 1 on; 0: none. -/
def last (sl : Nat → Nat) (k : Nat) : Nat → Nat
  | 0 => 0
  | n + 1 => if sl n = k then n + 1 else last sl k n
/-- The slots of a text's places. -/
def Slots (s : ByteArray) (sl : Nat → Nat) : Prop := ∀ i, i + 4 ≤ s.size → press_slot.f (s.extract i s.size) = some ((sl i : Nat) : Int) ∧ sl i < 4096
/-- A finder at block F, its row at P: the first d places are in chains. -/
structure Fin (w : World) (F P : Nat) (s : ByteArray) (sl : Nat → Nat) (d : Nat) : Prop where
  ex : ∃ cs ds : Array Value, w.heap[F]? = some (.cells cs 73 (0, 0)) ∧ w.heap[P]? = some (.cells ds 3 (0, 0)) ∧ cs.size = 4099 ∧ ds.size = s.size ∧
    cs[0]? = some (.string s) ∧ (∀ i, i < 4096 → cs[1 + i]? = some (.int .i64 (last sl i d : Nat))) ∧ cs[4097]? = some (.slice (some ⟨P, 0, none⟩) s.size s.size) ∧ cs[4098]? = some (.int .i64 (d : Nat)) ∧
    (∀ i, i < d → ds[i]? = some (.int .i64 (last sl (sl i) i : Nat)))
/-- Only the blocks F and P have turned. -/
structure Only (F P : Nat) (w w' : World) : Prop where
  os : w'.os = w.os
  tape : w'.tape = w.tape
  output : w'.output = w.output
  size : w.heap.size ≤ w'.heap.size
  block : ∀ k, k ≠ F → k ≠ P → k < w.heap.size → w'.heap[k]? = w.heap[k]?
theorem Only.refl (F P : Nat) (w : World) : Only F P w w := ⟨rfl, rfl, rfl, Nat.le_refl _, fun _ _ _ _ => rfl⟩
theorem Only.drewN {F P : Nat} {w w' : World} (h : Only F P w w') (n : Nat) : Only F P w (w'.drewN n) := ⟨h.os, h.tape, h.output, h.size, h.block⟩
theorem Only.drew {F P : Nat} {w w' : World} (h : Only F P w w') : Only F P w w'.drew := ⟨h.os, h.tape, h.output, h.size, h.block⟩
theorem Only.set {F P : Nat} {w w' : World} (h : Only F P w w') (a : Addr) (v : Value) (ha : a.block = F ∨ a.block = P) : Only F P w (w'.setCell a v) :=
  ⟨h.os, h.tape, h.output, by simpa [World.setCell] using h.size, fun k h1 h2 h3 => (Below.heap_setCell w' a v k (by rcases ha with ha | ha <;> (rw [ha]; assumption))).trans (h.block k h1 h2 h3)⟩
theorem Fin.drewN {w : World} {F P : Nat} {s : ByteArray} {sl : Nat → Nat} {d : Nat} (h : Fin w F P s sl d) (n : Nat) : Fin (w.drewN n) F P s sl d := ⟨h.ex⟩

theorem Fin.drew {w : World} {F P : Nat} {s : ByteArray} {sl : Nat → Nat} {d : Nat} (h : Fin w F P s sl d) : Fin w.drew F P s sl d := ⟨h.ex⟩
theorem last_le (sl : Nat → Nat) (k n : Nat) : last sl k n ≤ n := by
  induction n with
  | zero => simp [last]
  | succ n ih =>
    simp only [last]
    split <;> omega
theorem Fin.step {w : World} {F P : Nat} {s : ByteArray} {sl : Nat → Nat} {e : Nat} (h : Fin w F P s sl e) (hsl : sl e < 4096) (he : e < s.size) (hFP : F ≠ P) :
    Fin (((w.setCell ⟨P, e, none⟩ (.int .i64 (last sl (sl e) e : Nat))).setCell ⟨F, 1 + sl e, none⟩ (.int .i64 ((e : Int) + 1))).setCell ⟨F, 4098, none⟩ (.int .i64 ((e : Int) + 1))) F P s sl (e + 1) := by
  obtain ⟨cs, ds, hF, hP, hcs, hds, c0, ch, cp, cd, dd⟩ := h.ex
  have hF1 := blk_far hF (p := ⟨P, e, none⟩) hFP (.int .i64 (last sl (sl e) e : Nat))
  have hP1 := blk_set hP e (.int .i64 (last sl (sl e) e : Nat))
  have hF2 := blk_set hF1 (1 + sl e) (.int .i64 ((e : Int) + 1))
  have hP2 := blk_far hP1 (p := ⟨F, 1 + sl e, none⟩) (Ne.symm hFP) (.int .i64 ((e : Int) + 1))
  have hF3 := blk_set hF2 4098 (.int .i64 ((e : Int) + 1))
  have hP3 := blk_far hP2 (p := ⟨F, 4098, none⟩) (Ne.symm hFP) (.int .i64 ((e : Int) + 1))
  refine ⟨⟨_, _, hF3, hP3, by simp [hcs], by simp [hds], ?_, ?_, ?_, ?_, ?_⟩⟩
  · rw [Array.getElem?_setIfInBounds_ne (by omega), Array.getElem?_setIfInBounds_ne (by omega), c0]
  · intro i hi
    rw [Array.getElem?_setIfInBounds_ne (by omega)]
    by_cases hk : sl e = i
    · subst hk
      rw [Array.getElem?_setIfInBounds_self_of_lt (by omega)]
      simp [last]
    · rw [Array.getElem?_setIfInBounds_ne (by omega), ch i hi]
      simp [last, hk]
  · rw [Array.getElem?_setIfInBounds_ne (by omega), Array.getElem?_setIfInBounds_ne (by omega), cp]
  · rw [Array.getElem?_setIfInBounds_self_of_lt (by simp [hcs])]
    simp
  · intro i hi
    by_cases hk : e = i
    · subst hk
      rw [Array.getElem?_setIfInBounds_self_of_lt (by omega)]
    · rw [Array.getElem?_setIfInBounds_ne hk, dd i (by omega)]
theorem slot_quiet (s : ByteArray) (r : Int) (w : World) (n : Nat) (h : press_slot.f s = some r) : Calls Try.prog 78 #[.string s] (w.drewN n) fun e w' => e = .returned (.int .i64 r) ∧ ∃ m, w' = w.drewN m := by
  refine (press_slot.calls s r _ h).mono ?_
  rintro e w' ⟨rfl, hd⟩
  obtain ⟨m, rfl⟩ := hd.out
  exact ⟨rfl, n + m, World.drewN_drewN ..⟩

theorem quiet_any (s : ByteArray) (r : Int) (w : World) (a n : Nat) (h : press_slot.f s = some r) : Calls Try.prog 78 #[.string s] (w.drewN (a + n)) fun e w' => e = .returned (.int .i64 r) ∧ ∃ m, w' = w.drewN (a + m) := by
  refine (press_slot.calls s r _ h).mono ?_
  rintro e w' ⟨rfl, hd⟩
  obtain ⟨m, rfl⟩ := hd.out
  exact ⟨rfl, n + m, by rw [World.drewN_drewN, Nat.add_assoc]⟩
set_option maxHeartbeats 4000000 in
set_option maxRecDepth 100000 in
theorem put_any (w : World) (F P : Nat) (s : ByteArray) (sl : Nat → Nat) (d a : Nat) (hF : Fin w F P s sl d) (hS : Slots s sl) (hda : d ≤ a) (ha : a + 4 ≤ s.size) (hs : s.size ≤ 1048576) (hFP : F ≠ P) :
    Calls Try.prog 77 #[.pointer (some ⟨F, 0, none⟩), .int .i64 (a : Nat)] w fun e w' => e = .returned (.tuple #[]) ∧ Fin w' F P s sl a ∧ Only F P w w' := by
  have HS := Aside0.mk hS
  have HF := Aside0.mk hF
  have HFP := Aside0.mk hFP
  clear hS hF hFP
  go_enter Try.func77, Try.ntmps77
  go_wp2
  go_loopg [] (a - d) (fun g wr => ∃ e : Nat, Aside0 (e + g = a) ∧ Aside0 (Fin wr F P s sl e) ∧ Aside0 (Only F P w wr))
  case atStart => exact ⟨d, ⟨by omega⟩, HF, ⟨Only.refl _ _ _⟩⟩
  case round =>
    clear HF
    obtain ⟨e, HG, HF, HO⟩ := hrel
    obtain ⟨cs, ds, hF1, hP1, hcs, hds, c0, ch, cp, cd, dd⟩ := HF.out
    have hcd := (blk_cell hF1 4098).trans cd
    have hc0 := (blk_cell hF1 0).trans c0
    have hcp := (blk_cell hF1 4097).trans cp
    have hge := HG.out
    have hle : e ≤ a := by omega
    by_cases hlt : e < a
    · have h1 : decide ((e : Int) < (a : Int)) = true := decide_eq_true (by omega)
      have h1' : decide (e < a) = true := decide_eq_true hlt
      have h2 : decide ((e : Int) + 4 ≤ (s.size : Int)) = true := decide_eq_true (by omega)
      have h2' : decide (e + 4 ≤ s.size) = true := decide_eq_true (by omega)
      clear c0 ch cp cd dd hF1 hP1 hcs hds hge
      go_wp2
      go_quiet (fail)
      go_wp2
      have hsl := (HS.out e (by omega)).1
      have hsb := (HS.out e (by omega)).2
      go_quiet ((go_at_call 78; exact quiet_any _ _ _ _ _ hsl))
      clear hsl h1 h1' h2 h2'
      obtain ⟨cs, ds, hF1, hP1, hcs, hds, c0, ch, cp, cd, dd⟩ := HF.out
      have hch := (blk_cell hF1 (1 + sl e)).trans (ch (sl e) hsb)
      have hfz := blk_frozen hF1
      have hpf := blk_frozen hP1 e
      obtain ⟨v, hv⟩ : ∃ v, ds[e]? = some v := ⟨_, Array.getElem?_eq_getElem (by omega)⟩
      have hpe := (blk_cell hP1 e).trans hv
      have hf2 := hfz (1 + sl e)
      have hb1 : decide (0 ≤ ((sl e : Nat) : Int)) = true := decide_eq_true (by omega)
      have hb2 : decide (((sl e : Nat) : Int) < 4096) = true := decide_eq_true (by omega)
      have hb3 : decide ((e : Int) < (s.size : Int)) = true := decide_eq_true (by omega)
      have hb4 : decide (e < s.size) = true := decide_eq_true (by omega)
      clear hF1 hP1 hcs hds c0 ch cp cd dd hfz hv
      have hne1 : ¬ F = P := HFP.out
      have hne2 : ¬ P = F := fun h => HFP.out h.symm
      have hfd : wr.frozen? ⟨F, 4098, none⟩ = false := by
        obtain ⟨cs, ds, h, _⟩ := HF.out
        exact blk_frozen h 4098
      go_wp2
      go_region
      go_wp2
      go_region
      go_wp2
      go_roundg (a - (e + 1))
      case measure => have := HG.out; omega
      case rel =>
        refine ⟨e + 1, ⟨by have := HG.out; omega⟩, ⟨?_⟩, ⟨?_⟩⟩
        · exact ((HF.out.drewN _).step hsb (by omega) HFP.out).drew
        · exact ((((HO.out.drewN _).set _ _ (.inr rfl)).set _ _ (.inl rfl)).set _ _ (.inl rfl)).drew
    · have h1 : decide ((e : Int) < (a : Int)) = false := decide_eq_false (by omega)
      have h1' : decide (e < a) = false := decide_eq_false hlt
      have hea : e = a := by omega
      have HE := Aside0.mk hea
      clear c0 ch cp cd dd hF1 hP1 hcs hds hge hea
      go_wp2
      go_quiet (fail)
      go_wp2
      go_end0
      refine ⟨rfl, ?_, ?_⟩
      · have := HF.out.drewN
        rw [HE.out] at this
        exact this _
      · exact HO.out.drewN _
end Press
end Go.Proofs.Ytocjhpjljlcboaa.Q
