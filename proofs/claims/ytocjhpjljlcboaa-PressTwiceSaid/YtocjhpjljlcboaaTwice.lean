-- Written by a program of this session (wip/mkprint.py, over the kit's printer). Lean checks it.
import Derived.Test.YtocjhpjljlcboaaQ4
import Derived.Test.YtocjhpjljlcboaaQ8
import Derived.Test.YtocjhpjljlcboaaQ11
import Derived.Test.YtocjhpjljlcboaaSums
import Derived.Test.YtocjhpjljlcboaaShelf
import Derived.Test.YtocjhpjljlcboaaPressF
namespace Go.Proofs.Ytocjhpjljlcboaa.Q
open Go.RowKit Go.Proofs.YtocjhpjljlcboaaW.PrintWords Go.Proofs.YtocjhpjljlcboaaW.PrintLast Go.Proofs.YtocjhpjljlcboaaW.PrintMore
attribute [local go_sem] max2_int min2_int max_two min_two max_three min_three max_four min_four   -- for this text's walks alone
set_option linter.unusedVariables false
set_option linter.unusedSimpArgs false
-- behind what is given
/-! ### barquelaw08_PressTwice: function 18 -/
def barquelaw08_PressTwice.f (k : Nat) (a0 : ByteArray) : Option (Bool) := (barquelaw08_cut.f a0 4000).bind fun t641 => (if (t641.size : Int) < 4 then ((barquelaw08_awake.f).bind fun t642 => (some t642)) else (if t641.size + t641.size ≤ 9223372036854775807 then ((press_Press.f (t641 ++ t641)).bind fun bt643 => ((press_Loose.f k bt643.1).bind fun bt645 => (if bt643.2 = 0 then (if bt645.2 = 0 then (if bt645.1.toList = (t641 ++ t641).toList then (if (bt643.1.size : Int) ≤ (wrap64 ((wrap64 ((wrap64 ((wrap64 ((t641.size : Int) + (wrap64 ((t641.size : Int) / 64)))) + 6)) + (wrap64 (4 * (wrap64 ((wrap64 ((t641.size : Int) / 259)) + 1)))))) + 8)) then ((barquelaw08_awake.f).bind fun t647 => (some t647)) else (some false)) else (some false)) else (some false)) else (some false)))) else (none)))
theorem barquelaw08_PressTwice.mono : ∀ a0 k, LeO (barquelaw08_PressTwice.f k a0) (barquelaw08_PressTwice.f (k + 1) a0) := by
  intro a0 k
  unfold barquelaw08_PressTwice.f
  repeat' first
      | (with_reducible exact press_Loose.mono _ _)
      | (with_reducible exact LeO.refl _)
      | (with_reducible exact LeO.none _)
      | (with_reducible refine LeO.ite ?_ ?_)
      | (with_reducible refine LeO.bind ?_ (fun _ => ?_))
      | exact press_Loose.mono _ _
      | exact LeO.none _
      | refine LeO.ite ?_ ?_
      | refine LeO.bind ?_ (fun _ => ?_)
set_option maxHeartbeats 8000000 in
set_option maxRecDepth 100000 in
theorem barquelaw08_PressTwice.calls (k : Nat) (a0 : ByteArray) (r : Bool) (w : World) (h : barquelaw08_PressTwice.f k a0 = some r) :
    Calls Try.prog 18 #[.string a0] w fun e w' => e = .returned (.bool r) ∧ Below w.heap.size w w' := by
  have HB := Aside0.mk (Below.refl w.heap.size w)
  have H : ((barquelaw08_cut.f a0 4000).bind fun t641 => (if (t641.size : Int) < 4 then ((barquelaw08_awake.f).bind fun t642 => (some t642)) else (if t641.size + t641.size ≤ 9223372036854775807 then ((press_Press.f (t641 ++ t641)).bind fun bt643 => ((press_Loose.f k bt643.1).bind fun bt645 => (if bt643.2 = 0 then (if bt645.2 = 0 then (if bt645.1.toList = (t641 ++ t641).toList then (if (bt643.1.size : Int) ≤ (wrap64 ((wrap64 ((wrap64 ((wrap64 ((t641.size : Int) + (wrap64 ((t641.size : Int) / 64)))) + 6)) + (wrap64 (4 * (wrap64 ((wrap64 ((t641.size : Int) / 259)) + 1)))))) + 8)) then ((barquelaw08_awake.f).bind fun t647 => (some t647)) else (some false)) else (some false)) else (some false)) else (some false)))) else (none)))) = some r := h
  clear h
  replace H := Option.bind_eq_some_iff.mp H
  obtain ⟨t641, A20, H⟩ := H
  replace H : (if (t641.size : Int) < 4 then ((barquelaw08_awake.f).bind fun t642 => (some t642)) else (if t641.size + t641.size ≤ 9223372036854775807 then ((press_Press.f (t641 ++ t641)).bind fun bt643 => ((press_Loose.f k bt643.1).bind fun bt645 => (if bt643.2 = 0 then (if bt645.2 = 0 then (if bt645.1.toList = (t641 ++ t641).toList then (if (bt643.1.size : Int) ≤ (wrap64 ((wrap64 ((wrap64 ((wrap64 ((t641.size : Int) + (wrap64 ((t641.size : Int) / 64)))) + 6)) + (wrap64 (4 * (wrap64 ((wrap64 ((t641.size : Int) / 259)) + 1)))))) + 8)) then ((barquelaw08_awake.f).bind fun t647 => (some t647)) else (some false)) else (some false)) else (some false)) else (some false)))) else (none))) = some r := H
  have A2 := Aside0.mk A20
  clear A20
  by_cases c3 : (t641.size : Int) < 4
  · rw [if_pos c3] at H
    have c3b0 : decide ((t641.size : Int) < 4) = true := decide_eq_true c3
    have c3b1 : decide (t641.size < 4) = true := decide_eq_true (by omega)
    clear c3
    replace H := Option.bind_eq_some_iff.mp H
    obtain ⟨t642, A40, H⟩ := H
    replace H : (some t642) = some r := H
    have A4 := Aside0.mk A40
    clear A40
    obtain rfl := Option.some.inj H
    go_enter Try.func18, Try.ntmps18
    go_wp2_with (first | ((with_reducible refine gate_callee (f := 38) rfl ?_); refine goesL_ (some 8) rfl rfl Try.func38 (by kernel_rfl) rfl #[.string a0, .int .i64 4000] rfl (by (try simp only [List.map_toArray, List.map_cons, List.map_nil]); first | done | rfl | (simp only [List.length_drop, List.length_take]; rfl)) ?_; (with_reducible refine (barquelaw08_cut.calls a0 4000 t641 _ A2.out).mono ?_); rintro e w' ⟨rfl, ⟨nd, rfl⟩⟩; refine ⟨_, rfl, ?_⟩) | ((with_reducible refine gate_callee (f := 41) rfl ?_); refine goesL_ (some 12) rfl rfl Try.func41 (by kernel_rfl) rfl #[] rfl (by (try simp only [List.map_toArray, List.map_cons, List.map_nil]); first | done | rfl | (simp only [List.length_drop, List.length_take]; rfl)) ?_; (with_reducible refine (barquelaw08_awake.calls  t642 _ A4.out).mono ?_); rintro e w5 ⟨rfl, hb⟩; refine ⟨_, rfl, ?_⟩; have n0_ := Aside0.mk (below_step (by repeat (first | (with_reducible first | exact HB.out | apply below_alloc | apply pw_below_drewN | apply below_drew1) | exact HB.out)) hb); clear HB; have HB := n0_; clear n0_; (try clear hb); (try clear hb2); (try clear hk); (try clear hi)))
    go_ret
    exact ⟨by first | rfl | (simp [errW_none, errW_some] <;> rfl) | (simp [*, errW_none, errW_some] <;> rfl), by repeat (first | (with_reducible first | exact HB.out | apply below_alloc | apply pw_below_drewN | apply below_drew1) | exact HB.out)⟩
  · rw [if_neg c3] at H
    have c3b0 : decide ((t641.size : Int) < 4) = false := decide_eq_false c3
    have c3b1 : decide (t641.size < 4) = false := decide_eq_false (by omega)
    clear c3
    by_cases c6 : t641.size + t641.size ≤ 9223372036854775807
    · rw [if_pos c6] at H
      have c6b0 := eq_true c6
      have c6b1 : decide (t641.size + t641.size ≤ 9223372036854775807) = true := decide_eq_true c6
      try have c6b2 : (9223372036854775807 < t641.size + t641.size) = False := eq_false (Nat.not_lt.2 c6)
      replace H := Option.bind_eq_some_iff.mp H
      obtain ⟨⟨t643, t644⟩, A70, H⟩ := H
      replace H : ((press_Loose.f k t643).bind fun bt645 => (if t644 = 0 then (if bt645.2 = 0 then (if bt645.1.toList = (t641 ++ t641).toList then (if (t643.size : Int) ≤ (wrap64 ((wrap64 ((wrap64 ((wrap64 ((t641.size : Int) + (wrap64 ((t641.size : Int) / 64)))) + 6)) + (wrap64 (4 * (wrap64 ((wrap64 ((t641.size : Int) / 259)) + 1)))))) + 8)) then ((barquelaw08_awake.f).bind fun t647 => (some t647)) else (some false)) else (some false)) else (some false)) else (some false))) = some r := H
      have A7 := Aside0.mk A70
      clear A70
      replace H := Option.bind_eq_some_iff.mp H
      obtain ⟨⟨t645, t646⟩, A80, H⟩ := H
      replace H : (if t644 = 0 then (if t646 = 0 then (if t645.toList = (t641 ++ t641).toList then (if (t643.size : Int) ≤ (wrap64 ((wrap64 ((wrap64 ((wrap64 ((t641.size : Int) + (wrap64 ((t641.size : Int) / 64)))) + 6)) + (wrap64 (4 * (wrap64 ((wrap64 ((t641.size : Int) / 259)) + 1)))))) + 8)) then ((barquelaw08_awake.f).bind fun t647 => (some t647)) else (some false)) else (some false)) else (some false)) else (some false)) = some r := H
      have A8 := Aside0.mk A80
      clear A80
      by_cases c9 : t644 = 0
      · rw [if_pos c9] at H
        have c9b0 : (t644 == 0) = true := beq_iff_eq.mpr c9
        have c9b1 : (t644 != 0) = false := bne_eq_false_iff_eq.mpr c9
        clear c9
        by_cases c10 : t646 = 0
        · rw [if_pos c10] at H
          have c10b0 : (t646 == 0) = true := beq_iff_eq.mpr c10
          have c10b1 : (t646 != 0) = false := bne_eq_false_iff_eq.mpr c10
          clear c10
          by_cases c11 : t645.toList = (t641 ++ t641).toList
          · rw [if_pos c11] at H
            have c11b0 : (t645.toList == (t641 ++ t641).toList) = true := beq_iff_eq.mpr c11
            have c11b1 : (t645.toList != (t641 ++ t641).toList) = false := bne_eq_false_iff_eq.mpr c11
            clear c11
            by_cases c12 : (t643.size : Int) ≤ (wrap64 ((wrap64 ((wrap64 ((wrap64 ((t641.size : Int) + (wrap64 ((t641.size : Int) / 64)))) + 6)) + (wrap64 (4 * (wrap64 ((wrap64 ((t641.size : Int) / 259)) + 1)))))) + 8))
            · rw [if_pos c12] at H
              have c12b0 : decide ((t643.size : Int) ≤ (wrap64 ((wrap64 ((wrap64 ((wrap64 ((t641.size : Int) + (wrap64 ((t641.size : Int) / 64)))) + 6)) + (wrap64 (4 * (wrap64 ((wrap64 ((t641.size : Int) / 259)) + 1)))))) + 8))) = true := decide_eq_true c12
              have c12u : decide ((t643.size : Int) ≤ (t641.size : Int) + (t641.size : Int) / 64 + 6 + 4 * ((t641.size : Int) / 259 + 1) + 8) = true := decide_eq_true ((Press.bound259 _ _ (of_eq_true c6b0)).mp c12)
              clear c12
              replace H := Option.bind_eq_some_iff.mp H
              obtain ⟨t647, A130, H⟩ := H
              replace H : (some t647) = some r := H
              have A13 := Aside0.mk A130
              clear A130
              obtain rfl := Option.some.inj H
              go_enter Try.func18, Try.ntmps18
              go_wp2_with (first | ((with_reducible refine gate_callee (f := 38) rfl ?_); refine goesL_ (some 8) rfl rfl Try.func38 (by kernel_rfl) rfl #[.string a0, .int .i64 4000] rfl (by (try simp only [List.map_toArray, List.map_cons, List.map_nil]); first | done | rfl | (simp only [List.length_drop, List.length_take]; rfl)) ?_; (with_reducible refine (barquelaw08_cut.calls a0 4000 t641 _ A2.out).mono ?_); rintro e w' ⟨rfl, ⟨nd, rfl⟩⟩; refine ⟨_, rfl, ?_⟩) | ((with_reducible refine gate_callee (f := 39) rfl ?_); refine goesL_ (some 17) rfl rfl Try.func39 (by kernel_rfl) rfl #[.string (t641 ++ t641)] rfl (by (try simp only [List.map_toArray, List.map_cons, List.map_nil]); first | done | rfl | (simp only [List.length_drop, List.length_take]; rfl)) ?_; (with_reducible refine (press_Press.calls (t641 ++ t641) t643 t644 _ A7.out).mono ?_); rintro e w14 ⟨rfl, hb⟩; refine ⟨_, rfl, ?_⟩; have n0_ := Aside0.mk (below_step (by repeat (first | (with_reducible first | exact HB.out | apply below_alloc | apply pw_below_drewN | apply below_drew1) | exact HB.out)) hb); clear HB; have HB := n0_; clear n0_; (try clear hb); (try clear hb2); (try clear hk); (try clear hi)) | ((with_reducible refine gate_callee (f := 51) rfl ?_); refine goesL_ (some 22) rfl rfl Try.func51 (by kernel_rfl) rfl #[.string t643] rfl (by (try simp only [List.map_toArray, List.map_cons, List.map_nil]); first | done | rfl | (simp only [List.length_drop, List.length_take]; rfl)) ?_; (with_reducible refine (press_Loose.calls k t643 t645 t646 _ A8.out).mono ?_); rintro e w15 ⟨rfl, hb⟩; refine ⟨_, rfl, ?_⟩; have n0_ := Aside0.mk (below_step (by repeat (first | (with_reducible first | exact HB.out | apply below_alloc | apply pw_below_drewN | apply below_drew1) | exact HB.out)) hb); clear HB; have HB := n0_; clear n0_; (try clear hb); (try clear hb2); (try clear hk); (try clear hi)) | (go_at_call 41; (with_reducible refine (barquelaw08_awake.calls  t647 _ A13.out).mono ?_); rintro e w16 ⟨rfl, hb⟩; have n0_ := Aside0.mk (below_step (by repeat (first | (with_reducible first | exact HB.out | apply below_alloc | apply pw_below_drewN | apply below_drew1) | exact HB.out)) hb); clear HB; have HB := n0_; clear n0_; (try clear hb); (try clear hb2); (try clear hk); (try clear hi)))
              go_ret
              exact ⟨by first | rfl | (simp [errW_none, errW_some] <;> rfl) | (simp [*, errW_none, errW_some] <;> rfl), by repeat (first | (with_reducible first | exact HB.out | apply below_alloc | apply pw_below_drewN | apply below_drew1) | exact HB.out)⟩
            · rw [if_neg c12] at H
              have c12b0 : decide ((t643.size : Int) ≤ (wrap64 ((wrap64 ((wrap64 ((wrap64 ((t641.size : Int) + (wrap64 ((t641.size : Int) / 64)))) + 6)) + (wrap64 (4 * (wrap64 ((wrap64 ((t641.size : Int) / 259)) + 1)))))) + 8))) = false := decide_eq_false c12
              have c12u : decide ((t643.size : Int) ≤ (t641.size : Int) + (t641.size : Int) / 64 + 6 + 4 * ((t641.size : Int) / 259 + 1) + 8) = false := decide_eq_false (fun hh => c12 ((Press.bound259 _ _ (of_eq_true c6b0)).mpr hh))
              clear c12
              obtain rfl := Option.some.inj H
              go_enter Try.func18, Try.ntmps18
              go_wp2_with (first | ((with_reducible refine gate_callee (f := 38) rfl ?_); refine goesL_ (some 8) rfl rfl Try.func38 (by kernel_rfl) rfl #[.string a0, .int .i64 4000] rfl (by (try simp only [List.map_toArray, List.map_cons, List.map_nil]); first | done | rfl | (simp only [List.length_drop, List.length_take]; rfl)) ?_; (with_reducible refine (barquelaw08_cut.calls a0 4000 t641 _ A2.out).mono ?_); rintro e w' ⟨rfl, ⟨nd, rfl⟩⟩; refine ⟨_, rfl, ?_⟩) | ((with_reducible refine gate_callee (f := 39) rfl ?_); refine goesL_ (some 17) rfl rfl Try.func39 (by kernel_rfl) rfl #[.string (t641 ++ t641)] rfl (by (try simp only [List.map_toArray, List.map_cons, List.map_nil]); first | done | rfl | (simp only [List.length_drop, List.length_take]; rfl)) ?_; (with_reducible refine (press_Press.calls (t641 ++ t641) t643 t644 _ A7.out).mono ?_); rintro e w17 ⟨rfl, hb⟩; refine ⟨_, rfl, ?_⟩; have n0_ := Aside0.mk (below_step (by repeat (first | (with_reducible first | exact HB.out | apply below_alloc | apply pw_below_drewN | apply below_drew1) | exact HB.out)) hb); clear HB; have HB := n0_; clear n0_; (try clear hb); (try clear hb2); (try clear hk); (try clear hi)) | ((with_reducible refine gate_callee (f := 51) rfl ?_); refine goesL_ (some 22) rfl rfl Try.func51 (by kernel_rfl) rfl #[.string t643] rfl (by (try simp only [List.map_toArray, List.map_cons, List.map_nil]); first | done | rfl | (simp only [List.length_drop, List.length_take]; rfl)) ?_; (with_reducible refine (press_Loose.calls k t643 t645 t646 _ A8.out).mono ?_); rintro e w18 ⟨rfl, hb⟩; refine ⟨_, rfl, ?_⟩; have n0_ := Aside0.mk (below_step (by repeat (first | (with_reducible first | exact HB.out | apply below_alloc | apply pw_below_drewN | apply below_drew1) | exact HB.out)) hb); clear HB; have HB := n0_; clear n0_; (try clear hb); (try clear hb2); (try clear hk); (try clear hi)))
              go_ret
              exact ⟨by first | rfl | (simp [errW_none, errW_some] <;> rfl) | (simp [*, errW_none, errW_some] <;> rfl), by repeat (first | (with_reducible first | exact HB.out | apply below_alloc | apply pw_below_drewN | apply below_drew1) | exact HB.out)⟩
          · rw [if_neg c11] at H
            have c11b0 : (t645.toList == (t641 ++ t641).toList) = false := beq_eq_false_iff_ne.mpr c11
            have c11b1 : (t645.toList != (t641 ++ t641).toList) = true := bne_iff_ne.mpr c11
            obtain rfl := Option.some.inj H
            go_enter Try.func18, Try.ntmps18
            go_wp2_with (first | ((with_reducible refine gate_callee (f := 38) rfl ?_); refine goesL_ (some 8) rfl rfl Try.func38 (by kernel_rfl) rfl #[.string a0, .int .i64 4000] rfl (by (try simp only [List.map_toArray, List.map_cons, List.map_nil]); first | done | rfl | (simp only [List.length_drop, List.length_take]; rfl)) ?_; (with_reducible refine (barquelaw08_cut.calls a0 4000 t641 _ A2.out).mono ?_); rintro e w' ⟨rfl, ⟨nd, rfl⟩⟩; refine ⟨_, rfl, ?_⟩) | ((with_reducible refine gate_callee (f := 39) rfl ?_); refine goesL_ (some 17) rfl rfl Try.func39 (by kernel_rfl) rfl #[.string (t641 ++ t641)] rfl (by (try simp only [List.map_toArray, List.map_cons, List.map_nil]); first | done | rfl | (simp only [List.length_drop, List.length_take]; rfl)) ?_; (with_reducible refine (press_Press.calls (t641 ++ t641) t643 t644 _ A7.out).mono ?_); rintro e w19 ⟨rfl, hb⟩; refine ⟨_, rfl, ?_⟩; have n0_ := Aside0.mk (below_step (by repeat (first | (with_reducible first | exact HB.out | apply below_alloc | apply pw_below_drewN | apply below_drew1) | exact HB.out)) hb); clear HB; have HB := n0_; clear n0_; (try clear hb); (try clear hb2); (try clear hk); (try clear hi)) | ((with_reducible refine gate_callee (f := 51) rfl ?_); refine goesL_ (some 22) rfl rfl Try.func51 (by kernel_rfl) rfl #[.string t643] rfl (by (try simp only [List.map_toArray, List.map_cons, List.map_nil]); first | done | rfl | (simp only [List.length_drop, List.length_take]; rfl)) ?_; (with_reducible refine (press_Loose.calls k t643 t645 t646 _ A8.out).mono ?_); rintro e w20 ⟨rfl, hb⟩; refine ⟨_, rfl, ?_⟩; have n0_ := Aside0.mk (below_step (by repeat (first | (with_reducible first | exact HB.out | apply below_alloc | apply pw_below_drewN | apply below_drew1) | exact HB.out)) hb); clear HB; have HB := n0_; clear n0_; (try clear hb); (try clear hb2); (try clear hk); (try clear hi)))
            go_ret
            exact ⟨by first | rfl | (simp [errW_none, errW_some] <;> rfl) | (simp [*, errW_none, errW_some] <;> rfl), by repeat (first | (with_reducible first | exact HB.out | apply below_alloc | apply pw_below_drewN | apply below_drew1) | exact HB.out)⟩
        · rw [if_neg c10] at H
          have c10b0 : (t646 == 0) = false := beq_eq_false_iff_ne.mpr c10
          have c10b1 : (t646 != 0) = true := bne_iff_ne.mpr c10
          obtain rfl := Option.some.inj H
          go_enter Try.func18, Try.ntmps18
          go_wp2_with (first | ((with_reducible refine gate_callee (f := 38) rfl ?_); refine goesL_ (some 8) rfl rfl Try.func38 (by kernel_rfl) rfl #[.string a0, .int .i64 4000] rfl (by (try simp only [List.map_toArray, List.map_cons, List.map_nil]); first | done | rfl | (simp only [List.length_drop, List.length_take]; rfl)) ?_; (with_reducible refine (barquelaw08_cut.calls a0 4000 t641 _ A2.out).mono ?_); rintro e w' ⟨rfl, ⟨nd, rfl⟩⟩; refine ⟨_, rfl, ?_⟩) | ((with_reducible refine gate_callee (f := 39) rfl ?_); refine goesL_ (some 17) rfl rfl Try.func39 (by kernel_rfl) rfl #[.string (t641 ++ t641)] rfl (by (try simp only [List.map_toArray, List.map_cons, List.map_nil]); first | done | rfl | (simp only [List.length_drop, List.length_take]; rfl)) ?_; (with_reducible refine (press_Press.calls (t641 ++ t641) t643 t644 _ A7.out).mono ?_); rintro e w21 ⟨rfl, hb⟩; refine ⟨_, rfl, ?_⟩; have n0_ := Aside0.mk (below_step (by repeat (first | (with_reducible first | exact HB.out | apply below_alloc | apply pw_below_drewN | apply below_drew1) | exact HB.out)) hb); clear HB; have HB := n0_; clear n0_; (try clear hb); (try clear hb2); (try clear hk); (try clear hi)) | ((with_reducible refine gate_callee (f := 51) rfl ?_); refine goesL_ (some 22) rfl rfl Try.func51 (by kernel_rfl) rfl #[.string t643] rfl (by (try simp only [List.map_toArray, List.map_cons, List.map_nil]); first | done | rfl | (simp only [List.length_drop, List.length_take]; rfl)) ?_; (with_reducible refine (press_Loose.calls k t643 t645 t646 _ A8.out).mono ?_); rintro e w22 ⟨rfl, hb⟩; refine ⟨_, rfl, ?_⟩; have n0_ := Aside0.mk (below_step (by repeat (first | (with_reducible first | exact HB.out | apply below_alloc | apply pw_below_drewN | apply below_drew1) | exact HB.out)) hb); clear HB; have HB := n0_; clear n0_; (try clear hb); (try clear hb2); (try clear hk); (try clear hi)))
          go_ret
          exact ⟨by first | rfl | (simp [errW_none, errW_some] <;> rfl) | (simp [*, errW_none, errW_some] <;> rfl), by repeat (first | (with_reducible first | exact HB.out | apply below_alloc | apply pw_below_drewN | apply below_drew1) | exact HB.out)⟩
      · rw [if_neg c9] at H
        have c9b0 : (t644 == 0) = false := beq_eq_false_iff_ne.mpr c9
        have c9b1 : (t644 != 0) = true := bne_iff_ne.mpr c9
        obtain rfl := Option.some.inj H
        go_enter Try.func18, Try.ntmps18
        go_wp2_with (first | ((with_reducible refine gate_callee (f := 38) rfl ?_); refine goesL_ (some 8) rfl rfl Try.func38 (by kernel_rfl) rfl #[.string a0, .int .i64 4000] rfl (by (try simp only [List.map_toArray, List.map_cons, List.map_nil]); first | done | rfl | (simp only [List.length_drop, List.length_take]; rfl)) ?_; (with_reducible refine (barquelaw08_cut.calls a0 4000 t641 _ A2.out).mono ?_); rintro e w' ⟨rfl, ⟨nd, rfl⟩⟩; refine ⟨_, rfl, ?_⟩) | ((with_reducible refine gate_callee (f := 39) rfl ?_); refine goesL_ (some 17) rfl rfl Try.func39 (by kernel_rfl) rfl #[.string (t641 ++ t641)] rfl (by (try simp only [List.map_toArray, List.map_cons, List.map_nil]); first | done | rfl | (simp only [List.length_drop, List.length_take]; rfl)) ?_; (with_reducible refine (press_Press.calls (t641 ++ t641) t643 t644 _ A7.out).mono ?_); rintro e w23 ⟨rfl, hb⟩; refine ⟨_, rfl, ?_⟩; have n0_ := Aside0.mk (below_step (by repeat (first | (with_reducible first | exact HB.out | apply below_alloc | apply pw_below_drewN | apply below_drew1) | exact HB.out)) hb); clear HB; have HB := n0_; clear n0_; (try clear hb); (try clear hb2); (try clear hk); (try clear hi)) | ((with_reducible refine gate_callee (f := 51) rfl ?_); refine goesL_ (some 22) rfl rfl Try.func51 (by kernel_rfl) rfl #[.string t643] rfl (by (try simp only [List.map_toArray, List.map_cons, List.map_nil]); first | done | rfl | (simp only [List.length_drop, List.length_take]; rfl)) ?_; (with_reducible refine (press_Loose.calls k t643 t645 t646 _ A8.out).mono ?_); rintro e w24 ⟨rfl, hb⟩; refine ⟨_, rfl, ?_⟩; have n0_ := Aside0.mk (below_step (by repeat (first | (with_reducible first | exact HB.out | apply below_alloc | apply pw_below_drewN | apply below_drew1) | exact HB.out)) hb); clear HB; have HB := n0_; clear n0_; (try clear hb); (try clear hb2); (try clear hk); (try clear hi)))
        go_ret
        exact ⟨by first | rfl | (simp [errW_none, errW_some] <;> rfl) | (simp [*, errW_none, errW_some] <;> rfl), by repeat (first | (with_reducible first | exact HB.out | apply below_alloc | apply pw_below_drewN | apply below_drew1) | exact HB.out)⟩
    · rw [if_neg c6] at H
      exact absurd H (by simp)

/-- THE ONE PURE STATEMENT of barquelaw08_PressTwice: yours. -/
def barquelaw08_PressTwice.Pure : Prop := ∀ (a0 : ByteArray), a0.size ≤ 140737488351232 → ∃ k, barquelaw08_PressTwice.f k a0 = some true
theorem barquelaw08_PressTwice.walk (P : barquelaw08_PressTwice.Pure) (a0 : ByteArray) (w : World) (w0 : a0.size ≤ 140737488351232) :
    Calls Try.prog 18 #[.string a0] w fun e w' => e = .returned (.bool true) ∧ Below w.heap.size w w' := by
  obtain ⟨k, h⟩ := P a0 w0
  refine (barquelaw08_PressTwice.calls k a0 true w h).mono ?_
  rintro e w' ⟨rfl, hd⟩
  exact ⟨rfl, hd⟩

end Go.Proofs.Ytocjhpjljlcboaa.Q
