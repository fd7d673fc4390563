-- Written by a program of this session (wip/mkprint.py, over the kit's printer). Lean checks it.
import Derived.Test.YtocjhpjljlcboaaQ15
import Derived.Test.YtocjhpjljlcboaaQ0
import Derived.Test.YtocjhpjljlcboaaQ4
import Derived.Test.YtocjhpjljlcboaaQ8
import Derived.Test.YtocjhpjljlcboaaQ9
import Derived.Test.YtocjhpjljlcboaaQ10
import Derived.Test.YtocjhpjljlcboaaQ11
import Derived.Test.YtocjhpjljlcboaaShelf
import Derived.Test.YtocjhpjljlcboaaPressF
namespace Go.Proofs.Ytocjhpjljlcboaa.Q
open Go.RowKit Go.Proofs.YtocjhpjljlcboaaW.PrintWords Go.Proofs.YtocjhpjljlcboaaW.PrintLast Go.Proofs.YtocjhpjljlcboaaW.PrintMore
attribute [local go_sem] max2_int min2_int max_two min_two max_three min_three max_four min_four   -- for this text's walks alone
set_option linter.unusedVariables false
set_option linter.unusedSimpArgs false

-- behind what is given
/-! ### barquelaw08_PressLooses: function 17 -/
def barquelaw08_PressLooses.j0 : Nat → ByteArray → Bool → Option (Bool)
  | 0, _, _ => none
  | k + 1, x0, x26 => if x26 = true then ((barquelaw08_awake.f).bind fun t635 => (some t635)) else ((press_Loose.f k x0).bind fun bt636 => ((barqueref08_Loose.f k x0).bind fun bt638 => (if bt636.1.toList = bt638.1.toList then (if bt636.2 = bt638.2 then ((barquelaw08_awake.f).bind fun t640 => (some t640)) else (some false)) else (some false))))
def barquelaw08_PressLooses.f (k : Nat) (a0 : ByteArray) : Option (Bool) := (barquelaw08_cut.f a0 3000).bind fun t634 => (if (t634.size : Int) > 2 then (if 0 < (t634.size : Int) then (if (bt t634 0) > 127 then (if 1 < (t634.size : Int) then (if (bt t634 1) > 127 then (if 2 < (t634.size : Int) then (barquelaw08_PressLooses.j0 k t634 (decide ((bt t634 2) > 3))) else (none)) else (barquelaw08_PressLooses.j0 k t634 false)) else (none)) else (barquelaw08_PressLooses.j0 k t634 false)) else (none)) else (barquelaw08_PressLooses.j0 k t634 false))
theorem barquelaw08_PressLooses.mono_l : ∀ k, (∀ y0 y1, LeO (barquelaw08_PressLooses.j0 k y0 y1) (barquelaw08_PressLooses.j0 (k + 1) y0 y1))
  | 0 => fun _ _ r h => by simp [barquelaw08_PressLooses.j0] at h
  | k + 1 => by
    have ih0 := barquelaw08_PressLooses.mono_l k
    · intro y0 y1
      unfold barquelaw08_PressLooses.j0
      repeat' first
      | (with_reducible exact ih0 _ _)
      | (with_reducible exact barqueref08_Loose.mono _ _)
      | (with_reducible exact press_Loose.mono _ _)
      | (with_reducible exact LeO.refl _)
      | (with_reducible exact LeO.none _)
      | (with_reducible refine LeO.ite ?_ ?_)
      | (with_reducible refine LeO.bind ?_ (fun _ => ?_))
      | exact ih0 _ _
      | exact barqueref08_Loose.mono _ _
      | exact press_Loose.mono _ _
      | exact LeO.none _
      | refine LeO.ite ?_ ?_
      | refine LeO.bind ?_ (fun _ => ?_)
theorem barquelaw08_PressLooses.mono : ∀ a0 k, LeO (barquelaw08_PressLooses.f k a0) (barquelaw08_PressLooses.f (k + 1) a0) := by
  intro a0 k
  have ih0 := barquelaw08_PressLooses.mono_l k
  unfold barquelaw08_PressLooses.f
  repeat' first
      | (with_reducible exact ih0 _ _)
      | (with_reducible exact barqueref08_Loose.mono _ _)
      | (with_reducible exact press_Loose.mono _ _)
      | (with_reducible exact LeO.refl _)
      | (with_reducible exact LeO.none _)
      | (with_reducible refine LeO.ite ?_ ?_)
      | (with_reducible refine LeO.bind ?_ (fun _ => ?_))
      | exact ih0 _ _
      | exact barqueref08_Loose.mono _ _
      | exact press_Loose.mono _ _
      | exact LeO.none _
      | refine LeO.ite ?_ ?_
      | refine LeO.bind ?_ (fun _ => ?_)
set_option maxHeartbeats 8000000 in
set_option maxRecDepth 100000 in
theorem barquelaw08_PressLooses.calls (k : Nat) (a0 : ByteArray) (r : Bool) (w : World) (h : barquelaw08_PressLooses.f k a0 = some r) :
    Calls Try.prog 17 #[.string a0] w fun e w' => e = .returned (.bool r) ∧ Below w.heap.size w w' := by
  have HB := Aside0.mk (Below.refl w.heap.size w)
  have H : ((barquelaw08_cut.f a0 3000).bind fun t634 => (if (t634.size : Int) > 2 then (if 0 < (t634.size : Int) then (if (bt t634 0) > 127 then (if 1 < (t634.size : Int) then (if (bt t634 1) > 127 then (if 2 < (t634.size : Int) then (barquelaw08_PressLooses.j0 k t634 (decide ((bt t634 2) > 3))) else (none)) else (barquelaw08_PressLooses.j0 k t634 false)) else (none)) else (barquelaw08_PressLooses.j0 k t634 false)) else (none)) else (barquelaw08_PressLooses.j0 k t634 false))) = some r := h
  clear h
  replace H := Option.bind_eq_some_iff.mp H
  obtain ⟨t634, A20, H⟩ := H
  replace H : (if (t634.size : Int) > 2 then (if 0 < (t634.size : Int) then (if (bt t634 0) > 127 then (if 1 < (t634.size : Int) then (if (bt t634 1) > 127 then (if 2 < (t634.size : Int) then (barquelaw08_PressLooses.j0 k t634 (decide ((bt t634 2) > 3))) else (none)) else (barquelaw08_PressLooses.j0 k t634 false)) else (none)) else (barquelaw08_PressLooses.j0 k t634 false)) else (none)) else (barquelaw08_PressLooses.j0 k t634 false)) = some r := H
  have A2 := Aside0.mk A20
  clear A20
  have HC3 := Aside0.mk H
  clear H
  go_enter Try.func17, Try.ntmps17
  go_upto_region 2 with (first | ((with_reducible refine gate_callee (f := 38) rfl ?_); refine goesL_ (some 8) rfl rfl Try.func38 (by kernel_rfl) rfl #[.string a0, .int .i64 3000] rfl (by (try simp only [List.map_toArray, List.map_cons, List.map_nil]); first | done | rfl | (simp only [List.length_drop, List.length_take]; rfl)) ?_; (with_reducible refine (barquelaw08_cut.calls a0 3000 t634 _ A2.out).mono ?_); rintro e w' ⟨rfl, ⟨nd, rfl⟩⟩; refine ⟨_, rfl, ?_⟩))
  (try simp only [Act.put, List.setIfInBounds_toArray, List.set_cons_zero, List.set_cons_succ])
  go_cut [26] (fun v26 wc => ∃ (kq : Nat) (x26_2 : Bool), v26 = .bool x26_2 ∧ Aside0 (barquelaw08_PressLooses.j0 kq t634 x26_2 = some r) ∧ Aside0 (kq ≤ k) ∧ Aside0 (Below w.heap.size w wc))
  case first =>
    have H := HC3.out
    clear HC3
    by_cases c4 : (t634.size : Int) > 2
    · rw [if_pos c4] at H
      have c4b0 : decide (2 < (t634.size : Int)) = true := decide_eq_true c4
      have c4b1 : decide (2 < t634.size) = true := decide_eq_true (by omega)
      clear c4
      (first | rw [c4b0] | (simp only [i64_w, i32_w]; rw [c4b0]) | skip)
      by_cases c5 : 0 < (t634.size : Int)
      · rw [if_pos c5] at H
        have c5b0 : decide (0 < (t634.size : Int)) = true := decide_eq_true c5
        have c5b1 : decide (0 < t634.size) = true := decide_eq_true (by omega)
        clear c5
        by_cases c7 : (bt t634 0) > 127
        · rw [if_pos c7] at H
          have c7b0 : decide (127 < (bt t634 0)) = true := decide_eq_true c7
          clear c7
          by_cases c8 : 1 < (t634.size : Int)
          · rw [if_pos c8] at H
            have c8b0 : decide (1 < (t634.size : Int)) = true := decide_eq_true c8
            have c8b1 : decide (1 < t634.size) = true := decide_eq_true (by omega)
            clear c8
            by_cases c10 : (bt t634 1) > 127
            · rw [if_pos c10] at H
              have c10b0 : decide (127 < (bt t634 1)) = true := decide_eq_true c10
              clear c10
              by_cases c11 : 2 < (t634.size : Int)
              · rw [if_pos c11] at H
                have c11b0 : decide (2 < (t634.size : Int)) = true := decide_eq_true c11
                have c11b1 : decide (2 < t634.size) = true := decide_eq_true (by omega)
                clear c11
                have H' := Aside0.mk H
                clear H
                have p6 : 0 ≤ (0 : Int) := (by omega)
                have q6 : 0 < t634.size := (by have : (0 : Int) < (t634.size : Int) := of_decide_eq_true (by first | (with_reducible assumption) | assumption); omega)
                have hx6 : ∀ h : 0 < t634.size, ((t634[0]'h).toNat : Int) = bt t634 0 := bt_at t634 0
                clear p6
                have qi6 : (0 < (t634.size : Int)) = True := eq_true (of_decide_eq_true (by first | (with_reducible assumption) | assumption))
                replace q6 := eq_true q6
                have p9 : 0 ≤ (1 : Int) := (by omega)
                have q9 : 1 < t634.size := (by have : (1 : Int) < (t634.size : Int) := of_decide_eq_true (by first | (with_reducible assumption) | assumption); omega)
                have hx9 : ∀ h : 1 < t634.size, ((t634[1]'h).toNat : Int) = bt t634 1 := bt_at t634 1
                clear p9
                have qi9 : (1 < (t634.size : Int)) = True := eq_true (of_decide_eq_true (by first | (with_reducible assumption) | assumption))
                replace q9 := eq_true q9
                have p12 : 0 ≤ (2 : Int) := (by omega)
                have q12 : 2 < t634.size := (by have : (2 : Int) < (t634.size : Int) := of_decide_eq_true (by first | (with_reducible assumption) | assumption); omega)
                have hx12 : ∀ h : 2 < t634.size, ((t634[2]'h).toNat : Int) = bt t634 2 := bt_at t634 2
                clear p12
                have qi12 : (2 < (t634.size : Int)) = True := eq_true (of_decide_eq_true (by first | (with_reducible assumption) | assumption))
                replace q12 := eq_true q12
                go_wp2
                go_meet
                case rel => exact ⟨_, (decide ((bt t634 2) > 3)), (by first | rfl | (simp; done) | (simp [*]; done)), H', ⟨by first | omega | exact Nat.le_refl _⟩, ⟨by repeat (first | (with_reducible first | exact HB.out | apply below_alloc | apply pw_below_drewN | apply below_drew1) | exact HB.out)⟩⟩
              · rw [if_neg c11] at H
                exact absurd H (by simp)
            · rw [if_neg c10] at H
              have c10b0 : decide (127 < (bt t634 1)) = false := decide_eq_false c10
              clear c10
              have H' := Aside0.mk H
              clear H
              have p6 : 0 ≤ (0 : Int) := (by omega)
              have q6 : 0 < t634.size := (by have : (0 : Int) < (t634.size : Int) := of_decide_eq_true (by first | (with_reducible assumption) | assumption); omega)
              have hx6 : ∀ h : 0 < t634.size, ((t634[0]'h).toNat : Int) = bt t634 0 := bt_at t634 0
              clear p6
              have qi6 : (0 < (t634.size : Int)) = True := eq_true (of_decide_eq_true (by first | (with_reducible assumption) | assumption))
              replace q6 := eq_true q6
              have p9 : 0 ≤ (1 : Int) := (by omega)
              have q9 : 1 < t634.size := (by have : (1 : Int) < (t634.size : Int) := of_decide_eq_true (by first | (with_reducible assumption) | assumption); omega)
              have hx9 : ∀ h : 1 < t634.size, ((t634[1]'h).toNat : Int) = bt t634 1 := bt_at t634 1
              clear p9
              have qi9 : (1 < (t634.size : Int)) = True := eq_true (of_decide_eq_true (by first | (with_reducible assumption) | assumption))
              replace q9 := eq_true q9
              go_wp2
              go_meet
              case rel => exact ⟨_, (false), (by first | rfl | (simp; done) | (simp [*]; done)), H', ⟨by first | omega | exact Nat.le_refl _⟩, ⟨by repeat (first | (with_reducible first | exact HB.out | apply below_alloc | apply pw_below_drewN | apply below_drew1) | exact HB.out)⟩⟩
          · rw [if_neg c8] at H
            exact absurd H (by simp)
        · rw [if_neg c7] at H
          have c7b0 : decide (127 < (bt t634 0)) = false := decide_eq_false c7
          clear c7
          have H' := Aside0.mk H
          clear H
          have p6 : 0 ≤ (0 : Int) := (by omega)
          have q6 : 0 < t634.size := (by have : (0 : Int) < (t634.size : Int) := of_decide_eq_true (by first | (with_reducible assumption) | assumption); omega)
          have hx6 : ∀ h : 0 < t634.size, ((t634[0]'h).toNat : Int) = bt t634 0 := bt_at t634 0
          clear p6
          have qi6 : (0 < (t634.size : Int)) = True := eq_true (of_decide_eq_true (by first | (with_reducible assumption) | assumption))
          replace q6 := eq_true q6
          go_wp2
          go_meet
          case rel => exact ⟨_, (false), (by first | rfl | (simp; done) | (simp [*]; done)), H', ⟨by first | omega | exact Nat.le_refl _⟩, ⟨by repeat (first | (with_reducible first | exact HB.out | apply below_alloc | apply pw_below_drewN | apply below_drew1) | exact HB.out)⟩⟩
      · rw [if_neg c5] at H
        exact absurd H (by simp)
    · rw [if_neg c4] at H
      have c4b0 : decide (2 < (t634.size : Int)) = false := decide_eq_false c4
      have c4b1 : decide (2 < t634.size) = false := decide_eq_false (by omega)
      clear c4
      (first | rw [c4b0] | (simp only [i64_w, i32_w]; rw [c4b0]) | skip)
      have H' := Aside0.mk H
      clear H
      go_wp2
      go_meet
      case rel => exact ⟨_, (false), (by first | rfl | (simp; done) | (simp [*]; done)), H', ⟨by first | omega | exact Nat.le_refl _⟩, ⟨by repeat (first | (with_reducible first | exact HB.out | apply below_alloc | apply pw_below_drewN | apply below_drew1) | exact HB.out)⟩⟩
  case rest =>
    clear HC3
    try clear c1
    try clear p1
    try clear q1
    try clear hx1
    try clear qi1
    try clear p2
    try clear c3
    try clear c4
    try clear c4b0
    try clear c4b1
    try clear c5
    try clear c5b0
    try clear c5b1
    try clear p6
    try clear q6
    try clear hx6
    try clear qi6
    try clear c7
    try clear c7b0
    try clear c8
    try clear c8b0
    try clear c8b1
    try clear p9
    try clear q9
    try clear hx9
    try clear qi9
    try clear c10
    try clear c10b0
    try clear c11
    try clear c11b0
    try clear c11b1
    try clear p12
    try clear q12
    try clear hx12
    try clear qi12
    try clear p12
    try clear p6
    try clear p9
    try clear q12
    try clear q6
    try clear q9
    obtain ⟨kq, x26_2, rfl, HA, HJ2, HB⟩ := hcut
    cases kq with
    | zero => exact absurd HA.out (by simp [barquelaw08_PressLooses.j0])
    | succ kj2 =>
      have H := HA.out
      clear HA
      simp only [barquelaw08_PressLooses.j0] at H
      by_cases c13 : x26_2 = true
      · subst c13
        have H1 : ((barquelaw08_awake.f).bind fun t635 => (some t635)) = some r := by rw [if_pos rfl] at H; exact H
        clear H
        have H := H1
        clear H1
        replace H := Option.bind_eq_some_iff.mp H
        obtain ⟨t635, A140, H⟩ := H
        replace H : (some t635) = some r := H
        have A14 := Aside0.mk A140
        clear A140
        obtain rfl := Option.some.inj H
        go_wp2_with (first | ((with_reducible refine gate_callee (f := 41) rfl ?_); refine goesL_ (some 27) rfl rfl Try.func41 (by kernel_rfl) rfl #[] rfl (by (try simp only [List.map_toArray, List.map_cons, List.map_nil]); first | done | rfl | (simp only [List.length_drop, List.length_take]; rfl)) ?_; (with_reducible refine (barquelaw08_awake.calls  t635 _ A14.out).mono ?_); rintro e w15 ⟨rfl, hb⟩; refine ⟨_, rfl, ?_⟩; have n0_ := Aside0.mk (below_step (by repeat (first | (with_reducible first | exact HB.out | apply below_alloc | apply pw_below_drewN | apply below_drew1) | exact HB.out)) hb); clear HB; have HB := n0_; clear n0_; (try clear hb); (try clear hb2); (try clear hk); (try clear hi)))
        go_ret
        exact ⟨by first | rfl | (simp [errW_none, errW_some] <;> rfl) | (simp [*, errW_none, errW_some] <;> rfl), by repeat (first | (with_reducible first | exact HB.out | apply below_alloc | apply pw_below_drewN | apply below_drew1) | exact HB.out)⟩
      · replace c13 := Bool.eq_false_iff.mpr c13
        subst c13
        have H1 : ((press_Loose.f kj2 t634).bind fun bt636 => ((barqueref08_Loose.f kj2 t634).bind fun bt638 => (if bt636.1.toList = bt638.1.toList then (if bt636.2 = bt638.2 then ((barquelaw08_awake.f).bind fun t640 => (some t640)) else (some false)) else (some false)))) = some r := by rw [if_neg (show ¬ (false = true) by decide)] at H; exact H
        clear H
        have H := H1
        clear H1
        replace H := Option.bind_eq_some_iff.mp H
        obtain ⟨⟨t636, t637⟩, A160, H⟩ := H
        replace H : ((barqueref08_Loose.f kj2 t634).bind fun bt638 => (if t636.toList = bt638.1.toList then (if t637 = bt638.2 then ((barquelaw08_awake.f).bind fun t640 => (some t640)) else (some false)) else (some false))) = some r := H
        have A16 := Aside0.mk A160
        clear A160
        replace H := Option.bind_eq_some_iff.mp H
        obtain ⟨⟨t638, t639⟩, A170, H⟩ := H
        replace H : (if t636.toList = t638.toList then (if t637 = t639 then ((barquelaw08_awake.f).bind fun t640 => (some t640)) else (some false)) else (some false)) = some r := H
        have A17 := Aside0.mk A170
        clear A170
        by_cases c18 : t636.toList = t638.toList
        · rw [if_pos c18] at H
          have c18b0 : (t636.toList == t638.toList) = true := beq_iff_eq.mpr c18
          have c18b1 : (t636.toList != t638.toList) = false := bne_eq_false_iff_eq.mpr c18
          clear c18
          by_cases c19 : t637 = t639
          · rw [if_pos c19] at H
            have c19b0 : (t637 == t639) = true := beq_iff_eq.mpr c19
            have c19b1 : (t637 != t639) = false := bne_eq_false_iff_eq.mpr c19
            clear c19
            replace H := Option.bind_eq_some_iff.mp H
            obtain ⟨t640, A200, H⟩ := H
            replace H : (some t640) = some r := H
            have A20 := Aside0.mk A200
            clear A200
            obtain rfl := Option.some.inj H
            go_wp2_with (first | ((with_reducible refine gate_callee (f := 51) rfl ?_); refine goesL_ (some 30) rfl rfl Try.func51 (by kernel_rfl) rfl #[.string t634] rfl (by (try simp only [List.map_toArray, List.map_cons, List.map_nil]); first | done | rfl | (simp only [List.length_drop, List.length_take]; rfl)) ?_; (with_reducible refine (press_Loose.calls kj2 t634 t636 t637 _ A16.out).mono ?_); rintro e w21 ⟨rfl, hb⟩; refine ⟨_, rfl, ?_⟩; have n0_ := Aside0.mk (below_step (by repeat (first | (with_reducible first | exact HB.out | apply below_alloc | apply pw_below_drewN | apply below_drew1) | exact HB.out)) hb); clear HB; have HB := n0_; clear n0_; (try clear hb); (try clear hb2); (try clear hk); (try clear hi)) | ((with_reducible refine gate_callee (f := 52) rfl ?_); refine goesL_ (some 35) rfl rfl Try.func52 (by kernel_rfl) rfl #[.string t634] rfl (by (try simp only [List.map_toArray, List.map_cons, List.map_nil]); first | done | rfl | (simp only [List.length_drop, List.length_take]; rfl)) ?_; (with_reducible refine (barqueref08_Loose.calls kj2 t634 t638 t639 _ A17.out).mono ?_); rintro e w22 ⟨rfl, hb⟩; refine ⟨_, rfl, ?_⟩; have n0_ := Aside0.mk (below_step (by repeat (first | (with_reducible first | exact HB.out | apply below_alloc | apply pw_below_drewN | apply below_drew1) | exact HB.out)) hb); clear HB; have HB := n0_; clear n0_; (try clear hb); (try clear hb2); (try clear hk); (try clear hi)) | (go_at_call 41; (with_reducible refine (barquelaw08_awake.calls  t640 _ A20.out).mono ?_); rintro e w23 ⟨rfl, hb⟩; have n0_ := Aside0.mk (below_step (by repeat (first | (with_reducible first | exact HB.out | apply below_alloc | apply pw_below_drewN | apply below_drew1) | exact HB.out)) hb); clear HB; have HB := n0_; clear n0_; (try clear hb); (try clear hb2); (try clear hk); (try clear hi)))
            go_ret
            exact ⟨by first | rfl | (simp [errW_none, errW_some] <;> rfl) | (simp [*, errW_none, errW_some] <;> rfl), by repeat (first | (with_reducible first | exact HB.out | apply below_alloc | apply pw_below_drewN | apply below_drew1) | exact HB.out)⟩
          · rw [if_neg c19] at H
            have c19b0 : (t637 == t639) = false := beq_eq_false_iff_ne.mpr c19
            have c19b1 : (t637 != t639) = true := bne_iff_ne.mpr c19
            obtain rfl := Option.some.inj H
            go_wp2_with (first | ((with_reducible refine gate_callee (f := 51) rfl ?_); refine goesL_ (some 30) rfl rfl Try.func51 (by kernel_rfl) rfl #[.string t634] rfl (by (try simp only [List.map_toArray, List.map_cons, List.map_nil]); first | done | rfl | (simp only [List.length_drop, List.length_take]; rfl)) ?_; (with_reducible refine (press_Loose.calls kj2 t634 t636 t637 _ A16.out).mono ?_); rintro e w24 ⟨rfl, hb⟩; refine ⟨_, rfl, ?_⟩; have n0_ := Aside0.mk (below_step (by repeat (first | (with_reducible first | exact HB.out | apply below_alloc | apply pw_below_drewN | apply below_drew1) | exact HB.out)) hb); clear HB; have HB := n0_; clear n0_; (try clear hb); (try clear hb2); (try clear hk); (try clear hi)) | ((with_reducible refine gate_callee (f := 52) rfl ?_); refine goesL_ (some 35) rfl rfl Try.func52 (by kernel_rfl) rfl #[.string t634] rfl (by (try simp only [List.map_toArray, List.map_cons, List.map_nil]); first | done | rfl | (simp only [List.length_drop, List.length_take]; rfl)) ?_; (with_reducible refine (barqueref08_Loose.calls kj2 t634 t638 t639 _ A17.out).mono ?_); rintro e w25 ⟨rfl, hb⟩; refine ⟨_, rfl, ?_⟩; have n0_ := Aside0.mk (below_step (by repeat (first | (with_reducible first | exact HB.out | apply below_alloc | apply pw_below_drewN | apply below_drew1) | exact HB.out)) hb); clear HB; have HB := n0_; clear n0_; (try clear hb); (try clear hb2); (try clear hk); (try clear hi)))
            go_ret
            exact ⟨by first | rfl | (simp [errW_none, errW_some] <;> rfl) | (simp [*, errW_none, errW_some] <;> rfl), by repeat (first | (with_reducible first | exact HB.out | apply below_alloc | apply pw_below_drewN | apply below_drew1) | exact HB.out)⟩
        · rw [if_neg c18] at H
          have c18b0 : (t636.toList == t638.toList) = false := beq_eq_false_iff_ne.mpr c18
          have c18b1 : (t636.toList != t638.toList) = true := bne_iff_ne.mpr c18
          obtain rfl := Option.some.inj H
          go_wp2_with (first | ((with_reducible refine gate_callee (f := 51) rfl ?_); refine goesL_ (some 30) rfl rfl Try.func51 (by kernel_rfl) rfl #[.string t634] rfl (by (try simp only [List.map_toArray, List.map_cons, List.map_nil]); first | done | rfl | (simp only [List.length_drop, List.length_take]; rfl)) ?_; (with_reducible refine (press_Loose.calls kj2 t634 t636 t637 _ A16.out).mono ?_); rintro e w26 ⟨rfl, hb⟩; refine ⟨_, rfl, ?_⟩; have n0_ := Aside0.mk (below_step (by repeat (first | (with_reducible first | exact HB.out | apply below_alloc | apply pw_below_drewN | apply below_drew1) | exact HB.out)) hb); clear HB; have HB := n0_; clear n0_; (try clear hb); (try clear hb2); (try clear hk); (try clear hi)) | ((with_reducible refine gate_callee (f := 52) rfl ?_); refine goesL_ (some 35) rfl rfl Try.func52 (by kernel_rfl) rfl #[.string t634] rfl (by (try simp only [List.map_toArray, List.map_cons, List.map_nil]); first | done | rfl | (simp only [List.length_drop, List.length_take]; rfl)) ?_; (with_reducible refine (barqueref08_Loose.calls kj2 t634 t638 t639 _ A17.out).mono ?_); rintro e w27 ⟨rfl, hb⟩; refine ⟨_, rfl, ?_⟩; have n0_ := Aside0.mk (below_step (by repeat (first | (with_reducible first | exact HB.out | apply below_alloc | apply pw_below_drewN | apply below_drew1) | exact HB.out)) hb); clear HB; have HB := n0_; clear n0_; (try clear hb); (try clear hb2); (try clear hk); (try clear hi)))
          go_ret
          exact ⟨by first | rfl | (simp [errW_none, errW_some] <;> rfl) | (simp [*, errW_none, errW_some] <;> rfl), by repeat (first | (with_reducible first | exact HB.out | apply below_alloc | apply pw_below_drewN | apply below_drew1) | exact HB.out)⟩

/-- THE ONE PURE STATEMENT of barquelaw08_PressLooses: yours. -/
def barquelaw08_PressLooses.Pure : Prop := ∀ (a0 : ByteArray), a0.size ≤ 140737488351232 → ∃ k, barquelaw08_PressLooses.f k a0 = some true
theorem barquelaw08_PressLooses.walk (P : barquelaw08_PressLooses.Pure) (a0 : ByteArray) (w : World) (w0 : a0.size ≤ 140737488351232) :
    Calls Try.prog 17 #[.string a0] w fun e w' => e = .returned (.bool true) ∧ Below w.heap.size w w' := by
  obtain ⟨k, h⟩ := P a0 w0
  refine (barquelaw08_PressLooses.calls k a0 true w h).mono ?_
  rintro e w' ⟨rfl, hd⟩
  exact ⟨rfl, hd⟩

end Go.Proofs.Ytocjhpjljlcboaa.Q
