-- Written by a program of this session (wip/mkprint.py, over the kit's printer). Lean checks it.
import Derived.Test.YtocjhpjljlcboaaQ15
import Derived.Test.YtocjhpjljlcboaaQ0
import Derived.Test.YtocjhpjljlcboaaQ4
import Derived.Test.YtocjhpjljlcboaaQ8
import Derived.Test.YtocjhpjljlcboaaQ9
import Derived.Test.YtocjhpjljlcboaaQ10
import Derived.Test.YtocjhpjljlcboaaQ11
import Derived.Test.YtocjhpjljlcboaaShelf
import Derived.Test.YtocjhpjljlcboaaPressF
namespace Go.Proofs.Ytocjhpjljlcboaa.Q
open Go.RowKit Go.Proofs.YtocjhpjljlcboaaW.PrintWords Go.Proofs.YtocjhpjljlcboaaW.PrintLast Go.Proofs.YtocjhpjljlcboaaW.PrintMore
attribute [local go_sem] max2_int min2_int max_two min_two max_three min_three max_four min_four   -- for this text's walks alone
set_option linter.unusedVariables false
set_option linter.unusedSimpArgs false

-- behind what is given
/-! ### barquelaw08_PressOpens: function 19 -/
def barquelaw08_PressOpens.j0 : Nat → ByteArray → Bool → Option (Bool)
  | 0, _, _ => none
  | k + 1, x0, x26 => if x26 = true then ((barquelaw08_awake.f).bind fun t642 => (some t642)) else ((press_Open.f k x0).bind fun bt643 => (if x0.toList = ([] : List UInt8) then (if bt643.1.toList = ([] : List UInt8) then (if bt643.2 = 3 then ((barquelaw08_awake.f).bind fun t645 => (some t645)) else (some false)) else (some false)) else (if 0 < (x0.size : Int) then (if (bt x0 0) = 82 then (if 1 ≤ (x0.size : Int) then (if bt643.1.toList = (x0.extract 1 x0.size).toList then (if bt643.2 = 0 then ((barquelaw08_awake.f).bind fun t646 => (some t646)) else (some false)) else (some false)) else (none)) else (if (bt x0 0) = 90 then (if 1 ≤ (x0.size : Int) then ((barqueref08_Loose.f k (x0.extract 1 x0.size)).bind fun bt647 => (if bt643.1.toList = bt647.1.toList then (if bt643.2 = bt647.2 then ((barquelaw08_awake.f).bind fun t649 => (some t649)) else (some false)) else (some false))) else (none)) else (if bt643.1.toList = ([] : List UInt8) then (if bt643.2 = 5 then ((barquelaw08_awake.f).bind fun t650 => (some t650)) else (some false)) else (some false)))) else (none))))
def barquelaw08_PressOpens.f (k : Nat) (a0 : ByteArray) : Option (Bool) := (barquelaw08_cut.f a0 3000).bind fun t641 => (if (t641.size : Int) > 3 then (if 1 < (t641.size : Int) then (if (bt t641 1) > 127 then (if 2 < (t641.size : Int) then (if (bt t641 2) > 127 then (if 3 < (t641.size : Int) then (barquelaw08_PressOpens.j0 k t641 (decide ((bt t641 3) > 3))) else (none)) else (barquelaw08_PressOpens.j0 k t641 false)) else (none)) else (barquelaw08_PressOpens.j0 k t641 false)) else (none)) else (barquelaw08_PressOpens.j0 k t641 false))
theorem barquelaw08_PressOpens.mono_l : ∀ k, (∀ y0 y1, LeO (barquelaw08_PressOpens.j0 k y0 y1) (barquelaw08_PressOpens.j0 (k + 1) y0 y1))
  | 0 => fun _ _ r h => by simp [barquelaw08_PressOpens.j0] at h
  | k + 1 => by
    have ih0 := barquelaw08_PressOpens.mono_l k
    · intro y0 y1
      unfold barquelaw08_PressOpens.j0
      repeat' first
      | (with_reducible exact ih0 _ _)
      | (with_reducible exact barqueref08_Loose.mono _ _)
      | (with_reducible exact press_Open.mono _ _)
      | (with_reducible exact LeO.refl _)
      | (with_reducible exact LeO.none _)
      | (with_reducible refine LeO.ite ?_ ?_)
      | (with_reducible refine LeO.bind ?_ (fun _ => ?_))
      | exact ih0 _ _
      | exact barqueref08_Loose.mono _ _
      | exact press_Open.mono _ _
      | exact LeO.none _
      | refine LeO.ite ?_ ?_
      | refine LeO.bind ?_ (fun _ => ?_)
theorem barquelaw08_PressOpens.mono : ∀ a0 k, LeO (barquelaw08_PressOpens.f k a0) (barquelaw08_PressOpens.f (k + 1) a0) := by
  intro a0 k
  have ih0 := barquelaw08_PressOpens.mono_l k
  unfold barquelaw08_PressOpens.f
  repeat' first
      | (with_reducible exact ih0 _ _)
      | (with_reducible exact barqueref08_Loose.mono _ _)
      | (with_reducible exact press_Open.mono _ _)
      | (with_reducible exact LeO.refl _)
      | (with_reducible exact LeO.none _)
      | (with_reducible refine LeO.ite ?_ ?_)
      | (with_reducible refine LeO.bind ?_ (fun _ => ?_))
      | exact ih0 _ _
      | exact barqueref08_Loose.mono _ _
      | exact press_Open.mono _ _
      | exact LeO.none _
      | refine LeO.ite ?_ ?_
      | refine LeO.bind ?_ (fun _ => ?_)
set_option maxHeartbeats 8000000 in
set_option maxRecDepth 100000 in
theorem barquelaw08_PressOpens.calls (k : Nat) (a0 : ByteArray) (r : Bool) (w : World) (h : barquelaw08_PressOpens.f k a0 = some r) :
    Calls Try.prog 19 #[.string a0] w fun e w' => e = .returned (.bool r) ∧ Below w.heap.size w w' := by
  have HB := Aside0.mk (Below.refl w.heap.size w)
  have H : ((barquelaw08_cut.f a0 3000).bind fun t641 => (if (t641.size : Int) > 3 then (if 1 < (t641.size : Int) then (if (bt t641 1) > 127 then (if 2 < (t641.size : Int) then (if (bt t641 2) > 127 then (if 3 < (t641.size : Int) then (barquelaw08_PressOpens.j0 k t641 (decide ((bt t641 3) > 3))) else (none)) else (barquelaw08_PressOpens.j0 k t641 false)) else (none)) else (barquelaw08_PressOpens.j0 k t641 false)) else (none)) else (barquelaw08_PressOpens.j0 k t641 false))) = some r := h
  clear h
  replace H := Option.bind_eq_some_iff.mp H
  obtain ⟨t641, A20, H⟩ := H
  replace H : (if (t641.size : Int) > 3 then (if 1 < (t641.size : Int) then (if (bt t641 1) > 127 then (if 2 < (t641.size : Int) then (if (bt t641 2) > 127 then (if 3 < (t641.size : Int) then (barquelaw08_PressOpens.j0 k t641 (decide ((bt t641 3) > 3))) else (none)) else (barquelaw08_PressOpens.j0 k t641 false)) else (none)) else (barquelaw08_PressOpens.j0 k t641 false)) else (none)) else (barquelaw08_PressOpens.j0 k t641 false)) = some r := H
  have A2 := Aside0.mk A20
  clear A20
  have HC3 := Aside0.mk H
  clear H
  go_enter Try.func19, Try.ntmps19
  go_upto_region 2 with (first | ((with_reducible refine gate_callee (f := 38) rfl ?_); refine goesL_ (some 8) rfl rfl Try.func38 (by kernel_rfl) rfl #[.string a0, .int .i64 3000] rfl (by (try simp only [List.map_toArray, List.map_cons, List.map_nil]); first | done | rfl | (simp only [List.length_drop, List.length_take]; rfl)) ?_; (with_reducible refine (barquelaw08_cut.calls a0 3000 t641 _ A2.out).mono ?_); rintro e w' ⟨rfl, ⟨nd, rfl⟩⟩; refine ⟨_, rfl, ?_⟩))
  (try simp only [Act.put, List.setIfInBounds_toArray, List.set_cons_zero, List.set_cons_succ])
  go_cut [26] (fun v26 wc => ∃ (kq : Nat) (x26_2 : Bool), v26 = .bool x26_2 ∧ Aside0 (barquelaw08_PressOpens.j0 kq t641 x26_2 = some r) ∧ Aside0 (kq ≤ k) ∧ Aside0 (Below w.heap.size w wc))
  case first =>
    have H := HC3.out
    clear HC3
    by_cases c4 : (t641.size : Int) > 3
    · rw [if_pos c4] at H
      have c4b0 : decide (3 < (t641.size : Int)) = true := decide_eq_true c4
      have c4b1 : decide (3 < t641.size) = true := decide_eq_true (by omega)
      clear c4
      (first | rw [c4b0] | (simp only [i64_w, i32_w]; rw [c4b0]) | skip)
      by_cases c5 : 1 < (t641.size : Int)
      · rw [if_pos c5] at H
        have c5b0 : decide (1 < (t641.size : Int)) = true := decide_eq_true c5
        have c5b1 : decide (1 < t641.size) = true := decide_eq_true (by omega)
        clear c5
        by_cases c7 : (bt t641 1) > 127
        · rw [if_pos c7] at H
          have c7b0 : decide (127 < (bt t641 1)) = true := decide_eq_true c7
          clear c7
          by_cases c8 : 2 < (t641.size : Int)
          · rw [if_pos c8] at H
            have c8b0 : decide (2 < (t641.size : Int)) = true := decide_eq_true c8
            have c8b1 : decide (2 < t641.size) = true := decide_eq_true (by omega)
            clear c8
            by_cases c10 : (bt t641 2) > 127
            · rw [if_pos c10] at H
              have c10b0 : decide (127 < (bt t641 2)) = true := decide_eq_true c10
              clear c10
              by_cases c11 : 3 < (t641.size : Int)
              · rw [if_pos c11] at H
                have c11b0 : decide (3 < (t641.size : Int)) = true := decide_eq_true c11
                have c11b1 : decide (3 < t641.size) = true := decide_eq_true (by omega)
                clear c11
                have H' := Aside0.mk H
                clear H
                have p6 : 0 ≤ (1 : Int) := (by omega)
                have q6 : 1 < t641.size := (by have : (1 : Int) < (t641.size : Int) := of_decide_eq_true (by first | (with_reducible assumption) | assumption); omega)
                have hx6 : ∀ h : 1 < t641.size, ((t641[1]'h).toNat : Int) = bt t641 1 := bt_at t641 1
                clear p6
                have qi6 : (1 < (t641.size : Int)) = True := eq_true (of_decide_eq_true (by first | (with_reducible assumption) | assumption))
                replace q6 := eq_true q6
                have p9 : 0 ≤ (2 : Int) := (by omega)
                have q9 : 2 < t641.size := (by have : (2 : Int) < (t641.size : Int) := of_decide_eq_true (by first | (with_reducible assumption) | assumption); omega)
                have hx9 : ∀ h : 2 < t641.size, ((t641[2]'h).toNat : Int) = bt t641 2 := bt_at t641 2
                clear p9
                have qi9 : (2 < (t641.size : Int)) = True := eq_true (of_decide_eq_true (by first | (with_reducible assumption) | assumption))
                replace q9 := eq_true q9
                have p12 : 0 ≤ (3 : Int) := (by omega)
                have q12 : 3 < t641.size := (by have : (3 : Int) < (t641.size : Int) := of_decide_eq_true (by first | (with_reducible assumption) | assumption); omega)
                have hx12 : ∀ h : 3 < t641.size, ((t641[3]'h).toNat : Int) = bt t641 3 := bt_at t641 3
                clear p12
                have qi12 : (3 < (t641.size : Int)) = True := eq_true (of_decide_eq_true (by first | (with_reducible assumption) | assumption))
                replace q12 := eq_true q12
                go_wp2
                go_meet
                case rel => exact ⟨_, (decide ((bt t641 3) > 3)), (by first | rfl | (simp; done) | (simp [*]; done)), H', ⟨by first | omega | exact Nat.le_refl _⟩, ⟨by repeat (first | (with_reducible first | exact HB.out | apply below_alloc | apply pw_below_drewN | apply below_drew1) | exact HB.out)⟩⟩
              · rw [if_neg c11] at H
                exact absurd H (by simp)
            · rw [if_neg c10] at H
              have c10b0 : decide (127 < (bt t641 2)) = false := decide_eq_false c10
              clear c10
              have H' := Aside0.mk H
              clear H
              have p6 : 0 ≤ (1 : Int) := (by omega)
              have q6 : 1 < t641.size := (by have : (1 : Int) < (t641.size : Int) := of_decide_eq_true (by first | (with_reducible assumption) | assumption); omega)
              have hx6 : ∀ h : 1 < t641.size, ((t641[1]'h).toNat : Int) = bt t641 1 := bt_at t641 1
              clear p6
              have qi6 : (1 < (t641.size : Int)) = True := eq_true (of_decide_eq_true (by first | (with_reducible assumption) | assumption))
              replace q6 := eq_true q6
              have p9 : 0 ≤ (2 : Int) := (by omega)
              have q9 : 2 < t641.size := (by have : (2 : Int) < (t641.size : Int) := of_decide_eq_true (by first | (with_reducible assumption) | assumption); omega)
              have hx9 : ∀ h : 2 < t641.size, ((t641[2]'h).toNat : Int) = bt t641 2 := bt_at t641 2
              clear p9
              have qi9 : (2 < (t641.size : Int)) = True := eq_true (of_decide_eq_true (by first | (with_reducible assumption) | assumption))
              replace q9 := eq_true q9
              go_wp2
              go_meet
              case rel => exact ⟨_, (false), (by first | rfl | (simp; done) | (simp [*]; done)), H', ⟨by first | omega | exact Nat.le_refl _⟩, ⟨by repeat (first | (with_reducible first | exact HB.out | apply below_alloc | apply pw_below_drewN | apply below_drew1) | exact HB.out)⟩⟩
          · rw [if_neg c8] at H
            exact absurd H (by simp)
        · rw [if_neg c7] at H
          have c7b0 : decide (127 < (bt t641 1)) = false := decide_eq_false c7
          clear c7
          have H' := Aside0.mk H
          clear H
          have p6 : 0 ≤ (1 : Int) := (by omega)
          have q6 : 1 < t641.size := (by have : (1 : Int) < (t641.size : Int) := of_decide_eq_true (by first | (with_reducible assumption) | assumption); omega)
          have hx6 : ∀ h : 1 < t641.size, ((t641[1]'h).toNat : Int) = bt t641 1 := bt_at t641 1
          clear p6
          have qi6 : (1 < (t641.size : Int)) = True := eq_true (of_decide_eq_true (by first | (with_reducible assumption) | assumption))
          replace q6 := eq_true q6
          go_wp2
          go_meet
          case rel => exact ⟨_, (false), (by first | rfl | (simp; done) | (simp [*]; done)), H', ⟨by first | omega | exact Nat.le_refl _⟩, ⟨by repeat (first | (with_reducible first | exact HB.out | apply below_alloc | apply pw_below_drewN | apply below_drew1) | exact HB.out)⟩⟩
      · rw [if_neg c5] at H
        exact absurd H (by simp)
    · rw [if_neg c4] at H
      have c4b0 : decide (3 < (t641.size : Int)) = false := decide_eq_false c4
      have c4b1 : decide (3 < t641.size) = false := decide_eq_false (by omega)
      clear c4
      (first | rw [c4b0] | (simp only [i64_w, i32_w]; rw [c4b0]) | skip)
      have H' := Aside0.mk H
      clear H
      go_wp2
      go_meet
      case rel => exact ⟨_, (false), (by first | rfl | (simp; done) | (simp [*]; done)), H', ⟨by first | omega | exact Nat.le_refl _⟩, ⟨by repeat (first | (with_reducible first | exact HB.out | apply below_alloc | apply pw_below_drewN | apply below_drew1) | exact HB.out)⟩⟩
  case rest =>
    clear HC3
    try clear c1
    try clear p1
    try clear q1
    try clear hx1
    try clear qi1
    try clear p2
    try clear c3
    try clear c4
    try clear c4b0
    try clear c4b1
    try clear c5
    try clear c5b0
    try clear c5b1
    try clear p6
    try clear q6
    try clear hx6
    try clear qi6
    try clear c7
    try clear c7b0
    try clear c8
    try clear c8b0
    try clear c8b1
    try clear p9
    try clear q9
    try clear hx9
    try clear qi9
    try clear c10
    try clear c10b0
    try clear c11
    try clear c11b0
    try clear c11b1
    try clear p12
    try clear q12
    try clear hx12
    try clear qi12
    try clear p12
    try clear p6
    try clear p9
    try clear q12
    try clear q6
    try clear q9
    obtain ⟨kq, x26_2, rfl, HA, HJ2, HB⟩ := hcut
    cases kq with
    | zero => exact absurd HA.out (by simp [barquelaw08_PressOpens.j0])
    | succ kj2 =>
      have H := HA.out
      clear HA
      simp only [barquelaw08_PressOpens.j0] at H
      by_cases c13 : x26_2 = true
      · subst c13
        have H1 : ((barquelaw08_awake.f).bind fun t642 => (some t642)) = some r := by rw [if_pos rfl] at H; exact H
        clear H
        have H := H1
        clear H1
        replace H := Option.bind_eq_some_iff.mp H
        obtain ⟨t642, A140, H⟩ := H
        replace H : (some t642) = some r := H
        have A14 := Aside0.mk A140
        clear A140
        obtain rfl := Option.some.inj H
        go_wp2_with (first | ((with_reducible refine gate_callee (f := 41) rfl ?_); refine goesL_ (some 27) rfl rfl Try.func41 (by kernel_rfl) rfl #[] rfl (by (try simp only [List.map_toArray, List.map_cons, List.map_nil]); first | done | rfl | (simp only [List.length_drop, List.length_take]; rfl)) ?_; (with_reducible refine (barquelaw08_awake.calls  t642 _ A14.out).mono ?_); rintro e w15 ⟨rfl, hb⟩; refine ⟨_, rfl, ?_⟩; have n0_ := Aside0.mk (below_step (by repeat (first | (with_reducible first | exact HB.out | apply below_alloc | apply pw_below_drewN | apply below_drew1) | exact HB.out)) hb); clear HB; have HB := n0_; clear n0_; (try clear hb); (try clear hb2); (try clear hk); (try clear hi)))
        go_ret
        exact ⟨by first | rfl | (simp [errW_none, errW_some] <;> rfl) | (simp [*, errW_none, errW_some] <;> rfl), by repeat (first | (with_reducible first | exact HB.out | apply below_alloc | apply pw_below_drewN | apply below_drew1) | exact HB.out)⟩
      · replace c13 := Bool.eq_false_iff.mpr c13
        subst c13
        have H1 : ((press_Open.f kj2 t641).bind fun bt643 => (if t641.toList = ([] : List UInt8) then (if bt643.1.toList = ([] : List UInt8) then (if bt643.2 = 3 then ((barquelaw08_awake.f).bind fun t645 => (some t645)) else (some false)) else (some false)) else (if 0 < (t641.size : Int) then (if (bt t641 0) = 82 then (if 1 ≤ (t641.size : Int) then (if bt643.1.toList = (t641.extract 1 t641.size).toList then (if bt643.2 = 0 then ((barquelaw08_awake.f).bind fun t646 => (some t646)) else (some false)) else (some false)) else (none)) else (if (bt t641 0) = 90 then (if 1 ≤ (t641.size : Int) then ((barqueref08_Loose.f kj2 (t641.extract 1 t641.size)).bind fun bt647 => (if bt643.1.toList = bt647.1.toList then (if bt643.2 = bt647.2 then ((barquelaw08_awake.f).bind fun t649 => (some t649)) else (some false)) else (some false))) else (none)) else (if bt643.1.toList = ([] : List UInt8) then (if bt643.2 = 5 then ((barquelaw08_awake.f).bind fun t650 => (some t650)) else (some false)) else (some false)))) else (none)))) = some r := by rw [if_neg (show ¬ (false = true) by decide)] at H; exact H
        clear H
        have H := H1
        clear H1
        replace H := Option.bind_eq_some_iff.mp H
        obtain ⟨⟨t643, t644⟩, A160, H⟩ := H
        replace H : (if t641.toList = ([] : List UInt8) then (if t643.toList = ([] : List UInt8) then (if t644 = 3 then ((barquelaw08_awake.f).bind fun t645 => (some t645)) else (some false)) else (some false)) else (if 0 < (t641.size : Int) then (if (bt t641 0) = 82 then (if 1 ≤ (t641.size : Int) then (if t643.toList = (t641.extract 1 t641.size).toList then (if t644 = 0 then ((barquelaw08_awake.f).bind fun t646 => (some t646)) else (some false)) else (some false)) else (none)) else (if (bt t641 0) = 90 then (if 1 ≤ (t641.size : Int) then ((barqueref08_Loose.f kj2 (t641.extract 1 t641.size)).bind fun bt647 => (if t643.toList = bt647.1.toList then (if t644 = bt647.2 then ((barquelaw08_awake.f).bind fun t649 => (some t649)) else (some false)) else (some false))) else (none)) else (if t643.toList = ([] : List UInt8) then (if t644 = 5 then ((barquelaw08_awake.f).bind fun t650 => (some t650)) else (some false)) else (some false)))) else (none))) = some r := H
        have A16 := Aside0.mk A160
        clear A160
        by_cases c17 : t641.toList = ([] : List UInt8)
        · rw [if_pos c17] at H
          have c17b0 : (t641.toList == ([] : List UInt8)) = true := beq_iff_eq.mpr c17
          have c17b1 : (t641.toList != ([] : List UInt8)) = false := bne_eq_false_iff_eq.mpr c17
          clear c17
          by_cases c18 : t643.toList = ([] : List UInt8)
          · rw [if_pos c18] at H
            have c18b0 : (t643.toList == ([] : List UInt8)) = true := beq_iff_eq.mpr c18
            have c18b1 : (t643.toList != ([] : List UInt8)) = false := bne_eq_false_iff_eq.mpr c18
            clear c18
            by_cases c19 : t644 = 3
            · rw [if_pos c19] at H
              have c19b0 : (t644 == 3) = true := beq_iff_eq.mpr c19
              have c19b1 : (t644 != 3) = false := bne_eq_false_iff_eq.mpr c19
              clear c19
              replace H := Option.bind_eq_some_iff.mp H
              obtain ⟨t645, A200, H⟩ := H
              replace H : (some t645) = some r := H
              have A20 := Aside0.mk A200
              clear A200
              obtain rfl := Option.some.inj H
              go_wp2_with (first | ((with_reducible refine gate_callee (f := 53) rfl ?_); refine goesL_ (some 30) rfl rfl Try.func53 (by kernel_rfl) rfl #[.string t641] rfl (by (try simp only [List.map_toArray, List.map_cons, List.map_nil]); first | done | rfl | (simp only [List.length_drop, List.length_take]; rfl)) ?_; (with_reducible refine (press_Open.calls kj2 t641 t643 t644 _ A16.out).mono ?_); rintro e w21 ⟨rfl, hb⟩; refine ⟨_, rfl, ?_⟩; have n0_ := Aside0.mk (below_step (by repeat (first | (with_reducible first | exact HB.out | apply below_alloc | apply pw_below_drewN | apply below_drew1) | exact HB.out)) hb); clear HB; have HB := n0_; clear n0_; (try clear hb); (try clear hb2); (try clear hk); (try clear hi)) | (go_at_call 41; (with_reducible refine (barquelaw08_awake.calls  t645 _ A20.out).mono ?_); rintro e w22 ⟨rfl, hb⟩; have n0_ := Aside0.mk (below_step (by repeat (first | (with_reducible first | exact HB.out | apply below_alloc | apply pw_below_drewN | apply below_drew1) | exact HB.out)) hb); clear HB; have HB := n0_; clear n0_; (try clear hb); (try clear hb2); (try clear hk); (try clear hi)))
              go_ret
              exact ⟨by first | rfl | (simp [errW_none, errW_some] <;> rfl) | (simp [*, errW_none, errW_some] <;> rfl), by repeat (first | (with_reducible first | exact HB.out | apply below_alloc | apply pw_below_drewN | apply below_drew1) | exact HB.out)⟩
            · rw [if_neg c19] at H
              have c19b0 : (t644 == 3) = false := beq_eq_false_iff_ne.mpr c19
              have c19b1 : (t644 != 3) = true := bne_iff_ne.mpr c19
              obtain rfl := Option.some.inj H
              go_wp2_with (first | ((with_reducible refine gate_callee (f := 53) rfl ?_); refine goesL_ (some 30) rfl rfl Try.func53 (by kernel_rfl) rfl #[.string t641] rfl (by (try simp only [List.map_toArray, List.map_cons, List.map_nil]); first | done | rfl | (simp only [List.length_drop, List.length_take]; rfl)) ?_; (with_reducible refine (press_Open.calls kj2 t641 t643 t644 _ A16.out).mono ?_); rintro e w23 ⟨rfl, hb⟩; refine ⟨_, rfl, ?_⟩; have n0_ := Aside0.mk (below_step (by repeat (first | (with_reducible first | exact HB.out | apply below_alloc | apply pw_below_drewN | apply below_drew1) | exact HB.out)) hb); clear HB; have HB := n0_; clear n0_; (try clear hb); (try clear hb2); (try clear hk); (try clear hi)))
              go_ret
              exact ⟨by first | rfl | (simp [errW_none, errW_some] <;> rfl) | (simp [*, errW_none, errW_some] <;> rfl), by repeat (first | (with_reducible first | exact HB.out | apply below_alloc | apply pw_below_drewN | apply below_drew1) | exact HB.out)⟩
          · rw [if_neg c18] at H
            have c18b0 : (t643.toList == ([] : List UInt8)) = false := beq_eq_false_iff_ne.mpr c18
            have c18b1 : (t643.toList != ([] : List UInt8)) = true := bne_iff_ne.mpr c18
            obtain rfl := Option.some.inj H
            go_wp2_with (first | ((with_reducible refine gate_callee (f := 53) rfl ?_); refine goesL_ (some 30) rfl rfl Try.func53 (by kernel_rfl) rfl #[.string t641] rfl (by (try simp only [List.map_toArray, List.map_cons, List.map_nil]); first | done | rfl | (simp only [List.length_drop, List.length_take]; rfl)) ?_; (with_reducible refine (press_Open.calls kj2 t641 t643 t644 _ A16.out).mono ?_); rintro e w24 ⟨rfl, hb⟩; refine ⟨_, rfl, ?_⟩; have n0_ := Aside0.mk (below_step (by repeat (first | (with_reducible first | exact HB.out | apply below_alloc | apply pw_below_drewN | apply below_drew1) | exact HB.out)) hb); clear HB; have HB := n0_; clear n0_; (try clear hb); (try clear hb2); (try clear hk); (try clear hi)))
            go_ret
            exact ⟨by first | rfl | (simp [errW_none, errW_some] <;> rfl) | (simp [*, errW_none, errW_some] <;> rfl), by repeat (first | (with_reducible first | exact HB.out | apply below_alloc | apply pw_below_drewN | apply below_drew1) | exact HB.out)⟩
        · rw [if_neg c17] at H
          have c17b0 : (t641.toList == ([] : List UInt8)) = false := beq_eq_false_iff_ne.mpr c17
          have c17b1 : (t641.toList != ([] : List UInt8)) = true := bne_iff_ne.mpr c17
          by_cases c25 : 0 < (t641.size : Int)
          · rw [if_pos c25] at H
            have c25b0 : decide (0 < (t641.size : Int)) = true := decide_eq_true c25
            have c25b1 : decide (0 < t641.size) = true := decide_eq_true (by omega)
            clear c25
            by_cases c27 : (bt t641 0) = 82
            · rw [if_pos c27] at H
              have c27b0 : ((bt t641 0) == 82) = true := beq_iff_eq.mpr c27
              have c27b1 : ((bt t641 0) != 82) = false := bne_eq_false_iff_eq.mpr c27
              clear c27
              by_cases c28 : 1 ≤ (t641.size : Int)
              · rw [if_pos c28] at H
                have c28b0 := eq_true c28
                have c28b1 : decide (1 ≤ (t641.size : Int)) = true := decide_eq_true c28
                clear c28
                by_cases c29 : t643.toList = (t641.extract 1 t641.size).toList
                · rw [if_pos c29] at H
                  have c29b0 : (t643.toList == (t641.extract 1 t641.size).toList) = true := beq_iff_eq.mpr c29
                  have c29b1 : (t643.toList != (t641.extract 1 t641.size).toList) = false := bne_eq_false_iff_eq.mpr c29
                  clear c29
                  by_cases c30 : t644 = 0
                  · rw [if_pos c30] at H
                    have c30b0 : (t644 == 0) = true := beq_iff_eq.mpr c30
                    have c30b1 : (t644 != 0) = false := bne_eq_false_iff_eq.mpr c30
                    clear c30
                    replace H := Option.bind_eq_some_iff.mp H
                    obtain ⟨t646, A310, H⟩ := H
                    replace H : (some t646) = some r := H
                    have A31 := Aside0.mk A310
                    clear A310
                    obtain rfl := Option.some.inj H
                    go_wp2_with (first | ((with_reducible refine gate_callee (f := 53) rfl ?_); refine goesL_ (some 30) rfl rfl Try.func53 (by kernel_rfl) rfl #[.string t641] rfl (by (try simp only [List.map_toArray, List.map_cons, List.map_nil]); first | done | rfl | (simp only [List.length_drop, List.length_take]; rfl)) ?_; (with_reducible refine (press_Open.calls kj2 t641 t643 t644 _ A16.out).mono ?_); rintro e w32 ⟨rfl, hb⟩; refine ⟨_, rfl, ?_⟩; have n0_ := Aside0.mk (below_step (by repeat (first | (with_reducible first | exact HB.out | apply below_alloc | apply pw_below_drewN | apply below_drew1) | exact HB.out)) hb); clear HB; have HB := n0_; clear n0_; (try clear hb); (try clear hb2); (try clear hk); (try clear hi); have p26 : 0 ≤ (0 : Int) := (by omega); have q26 : 0 < t641.size := (by have : (0 : Int) < (t641.size : Int) := of_decide_eq_true (by first | (with_reducible assumption) | assumption); omega); have hx26 : ∀ h : 0 < t641.size, ((t641[0]'h).toNat : Int) = bt t641 0 := bt_at t641 0; clear p26; have qi26 : (0 < (t641.size : Int)) = True := eq_true (of_decide_eq_true (by first | (with_reducible assumption) | assumption)); replace q26 := eq_true q26) | (go_at_call 41; (with_reducible refine (barquelaw08_awake.calls  t646 _ A31.out).mono ?_); rintro e w33 ⟨rfl, hb⟩; have n0_ := Aside0.mk (below_step (by repeat (first | (with_reducible first | exact HB.out | apply below_alloc | apply pw_below_drewN | apply below_drew1) | exact HB.out)) hb); clear HB; have HB := n0_; clear n0_; (try clear hb); (try clear hb2); (try clear hk); (try clear hi)))
                    go_ret
                    exact ⟨by first | rfl | (simp [errW_none, errW_some] <;> rfl) | (simp [*, errW_none, errW_some] <;> rfl), by repeat (first | (with_reducible first | exact HB.out | apply below_alloc | apply pw_below_drewN | apply below_drew1) | exact HB.out)⟩
                  · rw [if_neg c30] at H
                    have c30b0 : (t644 == 0) = false := beq_eq_false_iff_ne.mpr c30
                    have c30b1 : (t644 != 0) = true := bne_iff_ne.mpr c30
                    obtain rfl := Option.some.inj H
                    go_wp2_with (first | ((with_reducible refine gate_callee (f := 53) rfl ?_); refine goesL_ (some 30) rfl rfl Try.func53 (by kernel_rfl) rfl #[.string t641] rfl (by (try simp only [List.map_toArray, List.map_cons, List.map_nil]); first | done | rfl | (simp only [List.length_drop, List.length_take]; rfl)) ?_; (with_reducible refine (press_Open.calls kj2 t641 t643 t644 _ A16.out).mono ?_); rintro e w34 ⟨rfl, hb⟩; refine ⟨_, rfl, ?_⟩; have n0_ := Aside0.mk (below_step (by repeat (first | (with_reducible first | exact HB.out | apply below_alloc | apply pw_below_drewN | apply below_drew1) | exact HB.out)) hb); clear HB; have HB := n0_; clear n0_; (try clear hb); (try clear hb2); (try clear hk); (try clear hi); have p26 : 0 ≤ (0 : Int) := (by omega); have q26 : 0 < t641.size := (by have : (0 : Int) < (t641.size : Int) := of_decide_eq_true (by first | (with_reducible assumption) | assumption); omega); have hx26 : ∀ h : 0 < t641.size, ((t641[0]'h).toNat : Int) = bt t641 0 := bt_at t641 0; clear p26; have qi26 : (0 < (t641.size : Int)) = True := eq_true (of_decide_eq_true (by first | (with_reducible assumption) | assumption)); replace q26 := eq_true q26))
                    go_ret
                    exact ⟨by first | rfl | (simp [errW_none, errW_some] <;> rfl) | (simp [*, errW_none, errW_some] <;> rfl), by repeat (first | (with_reducible first | exact HB.out | apply below_alloc | apply pw_below_drewN | apply below_drew1) | exact HB.out)⟩
                · rw [if_neg c29] at H
                  have c29b0 : (t643.toList == (t641.extract 1 t641.size).toList) = false := beq_eq_false_iff_ne.mpr c29
                  have c29b1 : (t643.toList != (t641.extract 1 t641.size).toList) = true := bne_iff_ne.mpr c29
                  obtain rfl := Option.some.inj H
                  go_wp2_with (first | ((with_reducible refine gate_callee (f := 53) rfl ?_); refine goesL_ (some 30) rfl rfl Try.func53 (by kernel_rfl) rfl #[.string t641] rfl (by (try simp only [List.map_toArray, List.map_cons, List.map_nil]); first | done | rfl | (simp only [List.length_drop, List.length_take]; rfl)) ?_; (with_reducible refine (press_Open.calls kj2 t641 t643 t644 _ A16.out).mono ?_); rintro e w35 ⟨rfl, hb⟩; refine ⟨_, rfl, ?_⟩; have n0_ := Aside0.mk (below_step (by repeat (first | (with_reducible first | exact HB.out | apply below_alloc | apply pw_below_drewN | apply below_drew1) | exact HB.out)) hb); clear HB; have HB := n0_; clear n0_; (try clear hb); (try clear hb2); (try clear hk); (try clear hi); have p26 : 0 ≤ (0 : Int) := (by omega); have q26 : 0 < t641.size := (by have : (0 : Int) < (t641.size : Int) := of_decide_eq_true (by first | (with_reducible assumption) | assumption); omega); have hx26 : ∀ h : 0 < t641.size, ((t641[0]'h).toNat : Int) = bt t641 0 := bt_at t641 0; clear p26; have qi26 : (0 < (t641.size : Int)) = True := eq_true (of_decide_eq_true (by first | (with_reducible assumption) | assumption)); replace q26 := eq_true q26))
                  go_ret
                  exact ⟨by first | rfl | (simp [errW_none, errW_some] <;> rfl) | (simp [*, errW_none, errW_some] <;> rfl), by repeat (first | (with_reducible first | exact HB.out | apply below_alloc | apply pw_below_drewN | apply below_drew1) | exact HB.out)⟩
              · rw [if_neg c28] at H
                exact absurd H (by simp)
            · rw [if_neg c27] at H
              have c27b0 : ((bt t641 0) == 82) = false := beq_eq_false_iff_ne.mpr c27
              have c27b1 : ((bt t641 0) != 82) = true := bne_iff_ne.mpr c27
              by_cases c37 : (bt t641 0) = 90
              · rw [if_pos c37] at H
                have c37b0 : ((bt t641 0) == 90) = true := beq_iff_eq.mpr c37
                have c37b1 : ((bt t641 0) != 90) = false := bne_eq_false_iff_eq.mpr c37
                clear c37
                by_cases c38 : 1 ≤ (t641.size : Int)
                · rw [if_pos c38] at H
                  have c38b0 := eq_true c38
                  have c38b1 : decide (1 ≤ (t641.size : Int)) = true := decide_eq_true c38
                  clear c38
                  replace H := Option.bind_eq_some_iff.mp H
                  obtain ⟨⟨t647, t648⟩, A390, H⟩ := H
                  replace H : (if t643.toList = t647.toList then (if t644 = t648 then ((barquelaw08_awake.f).bind fun t649 => (some t649)) else (some false)) else (some false)) = some r := H
                  have A39 := Aside0.mk A390
                  clear A390
                  by_cases c40 : t643.toList = t647.toList
                  · rw [if_pos c40] at H
                    have c40b0 : (t643.toList == t647.toList) = true := beq_iff_eq.mpr c40
                    have c40b1 : (t643.toList != t647.toList) = false := bne_eq_false_iff_eq.mpr c40
                    clear c40
                    by_cases c41 : t644 = t648
                    · rw [if_pos c41] at H
                      have c41b0 : (t644 == t648) = true := beq_iff_eq.mpr c41
                      have c41b1 : (t644 != t648) = false := bne_eq_false_iff_eq.mpr c41
                      clear c41
                      replace H := Option.bind_eq_some_iff.mp H
                      obtain ⟨t649, A420, H⟩ := H
                      replace H : (some t649) = some r := H
                      have A42 := Aside0.mk A420
                      clear A420
                      obtain rfl := Option.some.inj H
                      go_wp2_with (first | ((with_reducible refine gate_callee (f := 53) rfl ?_); refine goesL_ (some 30) rfl rfl Try.func53 (by kernel_rfl) rfl #[.string t641] rfl (by (try simp only [List.map_toArray, List.map_cons, List.map_nil]); first | done | rfl | (simp only [List.length_drop, List.length_take]; rfl)) ?_; (with_reducible refine (press_Open.calls kj2 t641 t643 t644 _ A16.out).mono ?_); rintro e w43 ⟨rfl, hb⟩; refine ⟨_, rfl, ?_⟩; have n0_ := Aside0.mk (below_step (by repeat (first | (with_reducible first | exact HB.out | apply below_alloc | apply pw_below_drewN | apply below_drew1) | exact HB.out)) hb); clear HB; have HB := n0_; clear n0_; (try clear hb); (try clear hb2); (try clear hk); (try clear hi); have p26 : 0 ≤ (0 : Int) := (by omega); have q26 : 0 < t641.size := (by have : (0 : Int) < (t641.size : Int) := of_decide_eq_true (by first | (with_reducible assumption) | assumption); omega); have hx26 : ∀ h : 0 < t641.size, ((t641[0]'h).toNat : Int) = bt t641 0 := bt_at t641 0; clear p26; have qi26 : (0 < (t641.size : Int)) = True := eq_true (of_decide_eq_true (by first | (with_reducible assumption) | assumption)); replace q26 := eq_true q26; have p36 : 0 ≤ (0 : Int) := (by omega); have q36 : 0 < t641.size := (by have : (0 : Int) < (t641.size : Int) := of_decide_eq_true (by first | (with_reducible assumption) | assumption); omega); have hx36 : ∀ h : 0 < t641.size, ((t641[0]'h).toNat : Int) = bt t641 0 := bt_at t641 0; clear p36; have qi36 : (0 < (t641.size : Int)) = True := eq_true (of_decide_eq_true (by first | (with_reducible assumption) | assumption)); replace q36 := eq_true q36) | ((with_reducible refine gate_callee (f := 52) rfl ?_); refine goesL_ (some 73) rfl rfl Try.func52 (by kernel_rfl) rfl #[.string (t641.extract 1 t641.size)] rfl (by (try simp only [List.map_toArray, List.map_cons, List.map_nil]); first | done | rfl | (simp only [List.length_drop, List.length_take]; rfl)) ?_; (with_reducible refine (barqueref08_Loose.calls kj2 (t641.extract 1 t641.size) t647 t648 _ A39.out).mono ?_); rintro e w44 ⟨rfl, hb⟩; refine ⟨_, rfl, ?_⟩; have n0_ := Aside0.mk (below_step (by repeat (first | (with_reducible first | exact HB.out | apply below_alloc | apply pw_below_drewN | apply below_drew1) | exact HB.out)) hb); clear HB; have HB := n0_; clear n0_; (try clear hb); (try clear hb2); (try clear hk); (try clear hi)) | (go_at_call 41; (with_reducible refine (barquelaw08_awake.calls  t649 _ A42.out).mono ?_); rintro e w45 ⟨rfl, hb⟩; have n0_ := Aside0.mk (below_step (by repeat (first | (with_reducible first | exact HB.out | apply below_alloc | apply pw_below_drewN | apply below_drew1) | exact HB.out)) hb); clear HB; have HB := n0_; clear n0_; (try clear hb); (try clear hb2); (try clear hk); (try clear hi)))
                      go_ret
                      exact ⟨by first | rfl | (simp [errW_none, errW_some] <;> rfl) | (simp [*, errW_none, errW_some] <;> rfl), by repeat (first | (with_reducible first | exact HB.out | apply below_alloc | apply pw_below_drewN | apply below_drew1) | exact HB.out)⟩
                    · rw [if_neg c41] at H
                      have c41b0 : (t644 == t648) = false := beq_eq_false_iff_ne.mpr c41
                      have c41b1 : (t644 != t648) = true := bne_iff_ne.mpr c41
                      obtain rfl := Option.some.inj H
                      go_wp2_with (first | ((with_reducible refine gate_callee (f := 53) rfl ?_); refine goesL_ (some 30) rfl rfl Try.func53 (by kernel_rfl) rfl #[.string t641] rfl (by (try simp only [List.map_toArray, List.map_cons, List.map_nil]); first | done | rfl | (simp only [List.length_drop, List.length_take]; rfl)) ?_; (with_reducible refine (press_Open.calls kj2 t641 t643 t644 _ A16.out).mono ?_); rintro e w46 ⟨rfl, hb⟩; refine ⟨_, rfl, ?_⟩; have n0_ := Aside0.mk (below_step (by repeat (first | (with_reducible first | exact HB.out | apply below_alloc | apply pw_below_drewN | apply below_drew1) | exact HB.out)) hb); clear HB; have HB := n0_; clear n0_; (try clear hb); (try clear hb2); (try clear hk); (try clear hi); have p26 : 0 ≤ (0 : Int) := (by omega); have q26 : 0 < t641.size := (by have : (0 : Int) < (t641.size : Int) := of_decide_eq_true (by first | (with_reducible assumption) | assumption); omega); have hx26 : ∀ h : 0 < t641.size, ((t641[0]'h).toNat : Int) = bt t641 0 := bt_at t641 0; clear p26; have qi26 : (0 < (t641.size : Int)) = True := eq_true (of_decide_eq_true (by first | (with_reducible assumption) | assumption)); replace q26 := eq_true q26; have p36 : 0 ≤ (0 : Int) := (by omega); have q36 : 0 < t641.size := (by have : (0 : Int) < (t641.size : Int) := of_decide_eq_true (by first | (with_reducible assumption) | assumption); omega); have hx36 : ∀ h : 0 < t641.size, ((t641[0]'h).toNat : Int) = bt t641 0 := bt_at t641 0; clear p36; have qi36 : (0 < (t641.size : Int)) = True := eq_true (of_decide_eq_true (by first | (with_reducible assumption) | assumption)); replace q36 := eq_true q36) | ((with_reducible refine gate_callee (f := 52) rfl ?_); refine goesL_ (some 73) rfl rfl Try.func52 (by kernel_rfl) rfl #[.string (t641.extract 1 t641.size)] rfl (by (try simp only [List.map_toArray, List.map_cons, List.map_nil]); first | done | rfl | (simp only [List.length_drop, List.length_take]; rfl)) ?_; (with_reducible refine (barqueref08_Loose.calls kj2 (t641.extract 1 t641.size) t647 t648 _ A39.out).mono ?_); rintro e w47 ⟨rfl, hb⟩; refine ⟨_, rfl, ?_⟩; have n0_ := Aside0.mk (below_step (by repeat (first | (with_reducible first | exact HB.out | apply below_alloc | apply pw_below_drewN | apply below_drew1) | exact HB.out)) hb); clear HB; have HB := n0_; clear n0_; (try clear hb); (try clear hb2); (try clear hk); (try clear hi)))
                      go_ret
                      exact ⟨by first | rfl | (simp [errW_none, errW_some] <;> rfl) | (simp [*, errW_none, errW_some] <;> rfl), by repeat (first | (with_reducible first | exact HB.out | apply below_alloc | apply pw_below_drewN | apply below_drew1) | exact HB.out)⟩
                  · rw [if_neg c40] at H
                    have c40b0 : (t643.toList == t647.toList) = false := beq_eq_false_iff_ne.mpr c40
                    have c40b1 : (t643.toList != t647.toList) = true := bne_iff_ne.mpr c40
                    obtain rfl := Option.some.inj H
                    go_wp2_with (first | ((with_reducible refine gate_callee (f := 53) rfl ?_); refine goesL_ (some 30) rfl rfl Try.func53 (by kernel_rfl) rfl #[.string t641] rfl (by (try simp only [List.map_toArray, List.map_cons, List.map_nil]); first | done | rfl | (simp only [List.length_drop, List.length_take]; rfl)) ?_; (with_reducible refine (press_Open.calls kj2 t641 t643 t644 _ A16.out).mono ?_); rintro e w48 ⟨rfl, hb⟩; refine ⟨_, rfl, ?_⟩; have n0_ := Aside0.mk (below_step (by repeat (first | (with_reducible first | exact HB.out | apply below_alloc | apply pw_below_drewN | apply below_drew1) | exact HB.out)) hb); clear HB; have HB := n0_; clear n0_; (try clear hb); (try clear hb2); (try clear hk); (try clear hi); have p26 : 0 ≤ (0 : Int) := (by omega); have q26 : 0 < t641.size := (by have : (0 : Int) < (t641.size : Int) := of_decide_eq_true (by first | (with_reducible assumption) | assumption); omega); have hx26 : ∀ h : 0 < t641.size, ((t641[0]'h).toNat : Int) = bt t641 0 := bt_at t641 0; clear p26; have qi26 : (0 < (t641.size : Int)) = True := eq_true (of_decide_eq_true (by first | (with_reducible assumption) | assumption)); replace q26 := eq_true q26; have p36 : 0 ≤ (0 : Int) := (by omega); have q36 : 0 < t641.size := (by have : (0 : Int) < (t641.size : Int) := of_decide_eq_true (by first | (with_reducible assumption) | assumption); omega); have hx36 : ∀ h : 0 < t641.size, ((t641[0]'h).toNat : Int) = bt t641 0 := bt_at t641 0; clear p36; have qi36 : (0 < (t641.size : Int)) = True := eq_true (of_decide_eq_true (by first | (with_reducible assumption) | assumption)); replace q36 := eq_true q36) | ((with_reducible refine gate_callee (f := 52) rfl ?_); refine goesL_ (some 73) rfl rfl Try.func52 (by kernel_rfl) rfl #[.string (t641.extract 1 t641.size)] rfl (by (try simp only [List.map_toArray, List.map_cons, List.map_nil]); first | done | rfl | (simp only [List.length_drop, List.length_take]; rfl)) ?_; (with_reducible refine (barqueref08_Loose.calls kj2 (t641.extract 1 t641.size) t647 t648 _ A39.out).mono ?_); rintro e w49 ⟨rfl, hb⟩; refine ⟨_, rfl, ?_⟩; have n0_ := Aside0.mk (below_step (by repeat (first | (with_reducible first | exact HB.out | apply below_alloc | apply pw_below_drewN | apply below_drew1) | exact HB.out)) hb); clear HB; have HB := n0_; clear n0_; (try clear hb); (try clear hb2); (try clear hk); (try clear hi)))
                    go_ret
                    exact ⟨by first | rfl | (simp [errW_none, errW_some] <;> rfl) | (simp [*, errW_none, errW_some] <;> rfl), by repeat (first | (with_reducible first | exact HB.out | apply below_alloc | apply pw_below_drewN | apply below_drew1) | exact HB.out)⟩
                · rw [if_neg c38] at H
                  exact absurd H (by simp)
              · rw [if_neg c37] at H
                have c37b0 : ((bt t641 0) == 90) = false := beq_eq_false_iff_ne.mpr c37
                have c37b1 : ((bt t641 0) != 90) = true := bne_iff_ne.mpr c37
                by_cases c50 : t643.toList = ([] : List UInt8)
                · rw [if_pos c50] at H
                  have c50b0 : (t643.toList == ([] : List UInt8)) = true := beq_iff_eq.mpr c50
                  have c50b1 : (t643.toList != ([] : List UInt8)) = false := bne_eq_false_iff_eq.mpr c50
                  clear c50
                  by_cases c51 : t644 = 5
                  · rw [if_pos c51] at H
                    have c51b0 : (t644 == 5) = true := beq_iff_eq.mpr c51
                    have c51b1 : (t644 != 5) = false := bne_eq_false_iff_eq.mpr c51
                    clear c51
                    replace H := Option.bind_eq_some_iff.mp H
                    obtain ⟨t650, A520, H⟩ := H
                    replace H : (some t650) = some r := H
                    have A52 := Aside0.mk A520
                    clear A520
                    obtain rfl := Option.some.inj H
                    go_wp2_with (first | ((with_reducible refine gate_callee (f := 53) rfl ?_); refine goesL_ (some 30) rfl rfl Try.func53 (by kernel_rfl) rfl #[.string t641] rfl (by (try simp only [List.map_toArray, List.map_cons, List.map_nil]); first | done | rfl | (simp only [List.length_drop, List.length_take]; rfl)) ?_; (with_reducible refine (press_Open.calls kj2 t641 t643 t644 _ A16.out).mono ?_); rintro e w53 ⟨rfl, hb⟩; refine ⟨_, rfl, ?_⟩; have n0_ := Aside0.mk (below_step (by repeat (first | (with_reducible first | exact HB.out | apply below_alloc | apply pw_below_drewN | apply below_drew1) | exact HB.out)) hb); clear HB; have HB := n0_; clear n0_; (try clear hb); (try clear hb2); (try clear hk); (try clear hi); have p26 : 0 ≤ (0 : Int) := (by omega); have q26 : 0 < t641.size := (by have : (0 : Int) < (t641.size : Int) := of_decide_eq_true (by first | (with_reducible assumption) | assumption); omega); have hx26 : ∀ h : 0 < t641.size, ((t641[0]'h).toNat : Int) = bt t641 0 := bt_at t641 0; clear p26; have qi26 : (0 < (t641.size : Int)) = True := eq_true (of_decide_eq_true (by first | (with_reducible assumption) | assumption)); replace q26 := eq_true q26; have p36 : 0 ≤ (0 : Int) := (by omega); have q36 : 0 < t641.size := (by have : (0 : Int) < (t641.size : Int) := of_decide_eq_true (by first | (with_reducible assumption) | assumption); omega); have hx36 : ∀ h : 0 < t641.size, ((t641[0]'h).toNat : Int) = bt t641 0 := bt_at t641 0; clear p36; have qi36 : (0 < (t641.size : Int)) = True := eq_true (of_decide_eq_true (by first | (with_reducible assumption) | assumption)); replace q36 := eq_true q36) | (go_at_call 41; (with_reducible refine (barquelaw08_awake.calls  t650 _ A52.out).mono ?_); rintro e w54 ⟨rfl, hb⟩; have n0_ := Aside0.mk (below_step (by repeat (first | (with_reducible first | exact HB.out | apply below_alloc | apply pw_below_drewN | apply below_drew1) | exact HB.out)) hb); clear HB; have HB := n0_; clear n0_; (try clear hb); (try clear hb2); (try clear hk); (try clear hi)))
                    go_ret
                    exact ⟨by first | rfl | (simp [errW_none, errW_some] <;> rfl) | (simp [*, errW_none, errW_some] <;> rfl), by repeat (first | (with_reducible first | exact HB.out | apply below_alloc | apply pw_below_drewN | apply below_drew1) | exact HB.out)⟩
                  · rw [if_neg c51] at H
                    have c51b0 : (t644 == 5) = false := beq_eq_false_iff_ne.mpr c51
                    have c51b1 : (t644 != 5) = true := bne_iff_ne.mpr c51
                    obtain rfl := Option.some.inj H
                    go_wp2_with (first | ((with_reducible refine gate_callee (f := 53) rfl ?_); refine goesL_ (some 30) rfl rfl Try.func53 (by kernel_rfl) rfl #[.string t641] rfl (by (try simp only [List.map_toArray, List.map_cons, List.map_nil]); first | done | rfl | (simp only [List.length_drop, List.length_take]; rfl)) ?_; (with_reducible refine (press_Open.calls kj2 t641 t643 t644 _ A16.out).mono ?_); rintro e w55 ⟨rfl, hb⟩; refine ⟨_, rfl, ?_⟩; have n0_ := Aside0.mk (below_step (by repeat (first | (with_reducible first | exact HB.out | apply below_alloc | apply pw_below_drewN | apply below_drew1) | exact HB.out)) hb); clear HB; have HB := n0_; clear n0_; (try clear hb); (try clear hb2); (try clear hk); (try clear hi); have p26 : 0 ≤ (0 : Int) := (by omega); have q26 : 0 < t641.size := (by have : (0 : Int) < (t641.size : Int) := of_decide_eq_true (by first | (with_reducible assumption) | assumption); omega); have hx26 : ∀ h : 0 < t641.size, ((t641[0]'h).toNat : Int) = bt t641 0 := bt_at t641 0; clear p26; have qi26 : (0 < (t641.size : Int)) = True := eq_true (of_decide_eq_true (by first | (with_reducible assumption) | assumption)); replace q26 := eq_true q26; have p36 : 0 ≤ (0 : Int) := (by omega); have q36 : 0 < t641.size := (by have : (0 : Int) < (t641.size : Int) := of_decide_eq_true (by first | (with_reducible assumption) | assumption); omega); have hx36 : ∀ h : 0 < t641.size, ((t641[0]'h).toNat : Int) = bt t641 0 := bt_at t641 0; clear p36; have qi36 : (0 < (t641.size : Int)) = True := eq_true (of_decide_eq_true (by first | (with_reducible assumption) | assumption)); replace q36 := eq_true q36))
                    go_ret
                    exact ⟨by first | rfl | (simp [errW_none, errW_some] <;> rfl) | (simp [*, errW_none, errW_some] <;> rfl), by repeat (first | (with_reducible first | exact HB.out | apply below_alloc | apply pw_below_drewN | apply below_drew1) | exact HB.out)⟩
                · rw [if_neg c50] at H
                  have c50b0 : (t643.toList == ([] : List UInt8)) = false := beq_eq_false_iff_ne.mpr c50
                  have c50b1 : (t643.toList != ([] : List UInt8)) = true := bne_iff_ne.mpr c50
                  obtain rfl := Option.some.inj H
                  go_wp2_with (first | ((with_reducible refine gate_callee (f := 53) rfl ?_); refine goesL_ (some 30) rfl rfl Try.func53 (by kernel_rfl) rfl #[.string t641] rfl (by (try simp only [List.map_toArray, List.map_cons, List.map_nil]); first | done | rfl | (simp only [List.length_drop, List.length_take]; rfl)) ?_; (with_reducible refine (press_Open.calls kj2 t641 t643 t644 _ A16.out).mono ?_); rintro e w56 ⟨rfl, hb⟩; refine ⟨_, rfl, ?_⟩; have n0_ := Aside0.mk (below_step (by repeat (first | (with_reducible first | exact HB.out | apply below_alloc | apply pw_below_drewN | apply below_drew1) | exact HB.out)) hb); clear HB; have HB := n0_; clear n0_; (try clear hb); (try clear hb2); (try clear hk); (try clear hi); have p26 : 0 ≤ (0 : Int) := (by omega); have q26 : 0 < t641.size := (by have : (0 : Int) < (t641.size : Int) := of_decide_eq_true (by first | (with_reducible assumption) | assumption); omega); have hx26 : ∀ h : 0 < t641.size, ((t641[0]'h).toNat : Int) = bt t641 0 := bt_at t641 0; clear p26; have qi26 : (0 < (t641.size : Int)) = True := eq_true (of_decide_eq_true (by first | (with_reducible assumption) | assumption)); replace q26 := eq_true q26; have p36 : 0 ≤ (0 : Int) := (by omega); have q36 : 0 < t641.size := (by have : (0 : Int) < (t641.size : Int) := of_decide_eq_true (by first | (with_reducible assumption) | assumption); omega); have hx36 : ∀ h : 0 < t641.size, ((t641[0]'h).toNat : Int) = bt t641 0 := bt_at t641 0; clear p36; have qi36 : (0 < (t641.size : Int)) = True := eq_true (of_decide_eq_true (by first | (with_reducible assumption) | assumption)); replace q36 := eq_true q36))
                  go_ret
                  exact ⟨by first | rfl | (simp [errW_none, errW_some] <;> rfl) | (simp [*, errW_none, errW_some] <;> rfl), by repeat (first | (with_reducible first | exact HB.out | apply below_alloc | apply pw_below_drewN | apply below_drew1) | exact HB.out)⟩
          · rw [if_neg c25] at H
            exact absurd H (by simp)

/-- THE ONE PURE STATEMENT of barquelaw08_PressOpens: yours. -/
def barquelaw08_PressOpens.Pure : Prop := ∀ (a0 : ByteArray), a0.size ≤ 140737488351232 → ∃ k, barquelaw08_PressOpens.f k a0 = some true
theorem barquelaw08_PressOpens.walk (P : barquelaw08_PressOpens.Pure) (a0 : ByteArray) (w : World) (w0 : a0.size ≤ 140737488351232) :
    Calls Try.prog 19 #[.string a0] w fun e w' => e = .returned (.bool true) ∧ Below w.heap.size w w' := by
  obtain ⟨k, h⟩ := P a0 w0
  refine (barquelaw08_PressOpens.calls k a0 true w h).mono ?_
  rintro e w' ⟨rfl, hd⟩
  exact ⟨rfl, hd⟩

end Go.Proofs.Ytocjhpjljlcboaa.Q
