-- Written by a program of this session (wip/mkprint.py, over the kit's printer). Lean checks it.
import Derived.Test.YtocjhpjljlcboaaQ0
import Derived.Test.YtocjhpjljlcboaaQ1
import Derived.Test.YtocjhpjljlcboaaQ2
import Derived.Test.YtocjhpjljlcboaaQ3
import Derived.Test.YtocjhpjljlcboaaQ7
import Derived.Test.YtocjhpjljlcboaaQ11
import Derived.Test.YtocjhpjljlcboaaShelf
import Derived.Test.YtocjhpjljlcboaaPressF
namespace Go.Proofs.Ytocjhpjljlcboaa.Q
open Go.RowKit Go.Proofs.YtocjhpjljlcboaaW.PrintWords Go.Proofs.YtocjhpjljlcboaaW.PrintLast Go.Proofs.YtocjhpjljlcboaaW.PrintMore
attribute [local go_sem] max2_int min2_int max_two min_two max_three min_three max_four min_four   -- for this text's walks alone
set_option linter.unusedVariables false
set_option linter.unusedSimpArgs false

-- behind what is given
/-! ### code_Texts: function 46 -/
def code_Texts.go (k : Nat) : List ByteArray → ByteArray → Option (ByteArray × Int)
  | [], acc => some (acc, 0)
  | x :: t, acc => (code_Text.f k x).bind fun r => if r.2 = 0 then (if acc.size + r.1.size ≤ 140737488355328 then code_Texts.go k t (acc ++ r.1) else none) else some ((⟨#[]⟩ : ByteArray), r.2)
def code_Texts.f (k : Nat) (l0 : List ByteArray) : Option (ByteArray × Int) := if (l0.length : Int) > 1048576 then some ((⟨#[]⟩ : ByteArray), 4) else (code_Num.f k (l0.length : Int)).bind fun r => if r.1.size ≤ 140737488355328 then code_Texts.go k l0 r.1 else none
theorem code_Texts.mono_go : ∀ (l : List ByteArray) (acc : ByteArray) (k : Nat), LeO (code_Texts.go k l acc) (code_Texts.go (k + 1) l acc)
  | [], _, _ => LeO.refl _
  | x :: t, acc, k => LeO.bind (code_Text.mono x k) (fun r => LeO.ite (LeO.ite (code_Texts.mono_go t _ k) (LeO.none _)) (LeO.refl _))
theorem code_Texts.mono : ∀ a0 k, LeO (code_Texts.f k a0) (code_Texts.f (k + 1) a0) := by
  intro a0 k
  unfold code_Texts.f
  exact LeO.ite (LeO.refl _) (LeO.bind (code_Num.mono _ k) (fun r => LeO.ite (code_Texts.mono_go _ _ k) (LeO.none _)))
def code_Texts.Rel (k : Nat) (l0 : List ByteArray) (r : ByteArray × Int) (w : World) (i : Nat) (wr : World) : Prop :=
  ∃ acc : ByteArray, Lay.Holds w.heap.size w.heap.size acc.data.toList wr ∧ code_Texts.go k (l0.drop i) acc = some r ∧ Below w.heap.size w wr
set_option maxHeartbeats 8000000 in
set_option maxRecDepth 100000 in
theorem code_Texts.calls (k : Nat) (A0 : Option Addr) (c0 : Nat) (l0 : List ByteArray) (r1 : ByteArray) (r2 : Int) (w : World) (hr0 : Kd.C Kd.string w A0 l0.length l0) (hc0 : l0.length ≤ c0) (h : code_Texts.f k l0 = some (r1, r2)) :
    Calls Try.prog 46 #[.slice A0 l0.length c0] w fun e w' => e = .returned (.tuple #[.string r1, .int .i64 r2]) ∧ Below w.heap.size w w' := by
  have HR0 := Aside0.mk hr0
  clear hr0 hc0
  unfold code_Texts.f at h
  by_cases h1 : (l0.length : Int) > 1048576
  · rw [if_pos h1] at h
    have h1b : decide (1048576 < (l0.length : Int)) = true := decide_eq_true h1
    have h1c : decide (1048576 < l0.length) = true := decide_eq_true (by omega)
    clear h1
    simp only [Option.some.injEq, Prod.mk.injEq] at h
    obtain ⟨rfl, rfl⟩ := h
    go_enter Try.func46, Try.ntmps46
    go_wp2
    go_ret2
    exact ⟨rfl, Below.refl _ _⟩
  · rw [if_neg h1] at h
    have h1b : decide (1048576 < (l0.length : Int)) = false := decide_eq_false h1
    have h1c : decide (1048576 < l0.length) = false := decide_eq_false (by omega)
    have h1d : l0.length ≤ 1048576 := by omega
    clear h1
    obtain ⟨⟨a, b⟩, hA, h⟩ := Option.bind_eq_some_iff.mp h
    replace h : (if a.size ≤ 140737488355328 then code_Texts.go k l0 a else none) = some (r1, r2) := h
    by_cases h2 : a.size ≤ 140737488355328
    · rw [if_pos h2] at h
      have HH := Aside0.mk h
      clear h
      have HA := Aside0.mk hA
      clear hA
      have HF := Aside0.mk (Lay.Holds.fresh w)
      have HBa := Aside0.mk ((Below.refl w.heap.size w).alloc (Nat.le_refl _) (.cells #[.pointer none, .slice none 0 0] 64))
      go_enter Try.func46, Try.ntmps46
      go_wp2_with fail
      refine (code_Num.calls k (l0.length : Int) a b _ HA.out).mono ?_
      rintro e w1 ⟨rfl, hb⟩
      have H1 := Aside0.mk (HF.out.below hb)
      have HB1 := Aside0.mk (below_step HBa.out hb)
      have hz1 : w.heap.size ≤ w1.heap.size := HB1.out.size
      clear hb HF HBa HA
      go_wp2_with fail
      refine (Lay.write w.heap.size w.heap.size [] a _ H1.out (by simpa using h2) hz1).mono ?_
      rintro e w2 ⟨rfl, h2', hb2, _⟩
      rw [List.nil_append] at h2'
      have H2 := Aside0.mk h2'
      have HB2 := Aside0.mk (HB1.out.trans hb2)
      have hz2 : w.heap.size ≤ w2.heap.size := HB2.out.size
      clear h2' hb2 H1 HB1 hz1 h2
      go_wp2_with fail
      go_loopw [24] (fun v wr => ∃ i : Nat, v = .int .i64 i ∧ i ≤ l0.length ∧ Aside0 (code_Texts.Rel k l0 (r1, r2) w i wr)) (fun v _ => l0.length - (intOf v).toNat)
      case atStart => exact ⟨0, rfl, Nat.zero_le _, ⟨⟨a, H2.out, by rw [List.drop_zero]; exact HH.out, HB2.out⟩⟩⟩
      case round =>
        clear H2 HB2 hz2 HH
        obtain ⟨i, rfl, hi, hR⟩ := hrel
        obtain ⟨acc, hH, hgo, hBw⟩ := hR.out
        clear hR
        have hzr : w.heap.size ≤ wr.heap.size := hBw.size
        by_cases hlt : i < l0.length
        · have e0 : l0.drop i = rdOf ByteArray.empty l0 (i : Int) :: l0.drop (i + 1) := by
            rw [List.drop_eq_getElem_cons hlt]
            unfold rdOf
            rw [Int.toNat_natCast, List.getD_eq_getElem?_getD, List.getElem?_eq_getElem hlt]
            rfl
          rw [e0] at hgo
          clear e0
          obtain ⟨⟨x, y⟩, hX, hgo⟩ := Option.bind_eq_some_iff.mp hgo
          replace hgo : (if y = 0 then (if acc.size + x.size ≤ 140737488355328 then code_Texts.go k (l0.drop (i + 1)) (acc ++ x) else none) else some ((⟨#[]⟩ : ByteArray), y)) = some (r1, r2) := hgo
          have hltb : decide ((i : Int) < (l0.length : Int)) = true := decide_eq_true (by omega)
          obtain ⟨ad, ead, hx⟩ := Kd.at_string HR0.out (i : Int) (by omega) (by omega)
          cases ead
          replace hx := (hBw.cell (World.block_lt_of_cell? w _ hx)).trans hx
          rw [Int.toNat_natCast] at hx
          have HX := Aside0.mk hX
          have HHo := Aside0.mk hH
          have HBr := Aside0.mk hBw
          clear hX hH hBw
          by_cases hy : y = 0
          · rw [if_pos hy] at hgo
            have hy1 : (y == 0) = true := beq_iff_eq.mpr hy
            have hy2 : (y != 0) = false := bne_eq_false_iff_eq.mpr hy
            clear hy
            by_cases h3 : acc.size + x.size ≤ 140737488355328
            · rw [if_pos h3] at hgo
              have HG := Aside0.mk hgo
              have H3 := Aside0.mk h3
              clear hgo h3
              go_wp2_with fail
              refine (code_Text.calls k (rdOf ByteArray.empty l0 (i : Int)) x y _ HX.out).mono ?_
              rintro e w3 ⟨rfl, hb⟩
              have H4 := Aside0.mk (HHo.out.below hb)
              have HB4 := Aside0.mk (below_step HBr.out hb)
              have hz4 : w.heap.size ≤ w3.heap.size := HB4.out.size
              clear hb HHo HBr hzr hx
              go_wp2_with fail
              refine (Lay.write w.heap.size w.heap.size acc.data.toList x _ H4.out (by have := H3.out; rw [Array.length_toList]; exact this) hz4).mono ?_
              rintro e w4 ⟨rfl, h5, hb5, _⟩
              have H5 := Aside0.mk h5
              have HB5 := Aside0.mk (HB4.out.trans hb5)
              clear h5 hb5 H4 HB4 hz4
              go_wp2
              go_roundw
              case rel =>
                refine ⟨i + 1, by go_num, by omega, ⟨⟨acc ++ x, ?_, HG.out, HB5.out⟩⟩⟩
                rw [ByteArray.data_append, Array.toList_append]
                exact H5.out
              case measure => simp [intOf]; omega
            · rw [if_neg h3] at hgo
              cases hgo
          · rw [if_neg hy] at hgo
            have hy1 : (y == 0) = false := beq_eq_false_iff_ne.mpr hy
            have hy2 : (y != 0) = true := bne_iff_ne.mpr hy
            simp only [Option.some.injEq, Prod.mk.injEq] at hgo
            obtain ⟨rfl, rfl⟩ := hgo
            clear hy
            go_wp2_with fail
            refine (code_Text.calls k (rdOf ByteArray.empty l0 (i : Int)) x y _ HX.out).mono ?_
            rintro e w3 ⟨rfl, hb⟩
            have HB4 := Aside0.mk (below_step HBr.out hb)
            clear hb HHo HBr hzr hx
            go_wp2
            go_ret2
            exact ⟨rfl, HB4.out⟩
        · have hltb : decide ((i : Int) < (l0.length : Int)) = false := decide_eq_false (by omega)
          rw [List.drop_eq_nil_of_le (by omega)] at hgo
          simp only [code_Texts.go, Option.some.injEq, Prod.mk.injEq] at hgo
          obtain ⟨rfl, rfl⟩ := hgo
          have HHo := Aside0.mk hH
          have HBr := Aside0.mk hBw
          clear hH hBw
          go_wp2_with fail
          refine (Lay.tell w.heap.size w.heap.size acc.data.toList _ HHo.out hzr).mono ?_
          rintro e w3 ⟨rfl, hb⟩
          go_wp2
          go_ret2
          exact ⟨rfl, HBr.out.trans hb⟩
    · rw [if_neg h2] at h
      cases h

end Go.Proofs.Ytocjhpjljlcboaa.Q
