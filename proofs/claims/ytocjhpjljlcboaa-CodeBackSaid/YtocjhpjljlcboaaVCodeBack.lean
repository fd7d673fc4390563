-- Written by a program of this session (wip/mkprint.py, over the kit's printer). Lean checks it.
import Derived.Test.YtocjhpjljlcboaaQ14
import Derived.Test.YtocjhpjljlcboaaQ0
import Derived.Test.YtocjhpjljlcboaaQ1
import Derived.Test.YtocjhpjljlcboaaQ2
import Derived.Test.YtocjhpjljlcboaaQ3
import Derived.Test.YtocjhpjljlcboaaQ4
import Derived.Test.YtocjhpjljlcboaaQ5
import Derived.Test.YtocjhpjljlcboaaQ11
import Derived.Test.YtocjhpjljlcboaaQ12
import Derived.Test.YtocjhpjljlcboaaShelf
import Derived.Test.YtocjhpjljlcboaaPressF
namespace Go.Proofs.Ytocjhpjljlcboaa.Q
open Go.RowKit Go.Proofs.YtocjhpjljlcboaaW.PrintWords Go.Proofs.YtocjhpjljlcboaaW.PrintLast Go.Proofs.YtocjhpjljlcboaaW.PrintMore
attribute [local go_sem] max2_int min2_int max_two min_two max_three min_three max_four min_four   -- for this text's walks alone
set_option linter.unusedVariables false
set_option linter.unusedSimpArgs false

-- behind what is given
/-! ### barquelaw01_CodeBack: function 16 -/
mutual
def barquelaw01_CodeBack.j0 : Nat → Int → ByteArray → List Int → List ByteArray → Bool → Option (Bool)
  | 0, _, _, _, _, _ => none
  | k + 1, x0, x1, x2, x3, x31 => if x31 = true then ((barquelaw01_awake.f k).bind fun t591 => (some t591)) else (barquelaw01_CodeBack.l0 k x0 x1 x2 x3 0)
def barquelaw01_CodeBack.l0 : Nat → Int → ByteArray → List Int → List ByteArray → Int → Option (Bool)
  | 0, _, _, _, _, _ => none
  | k + 1, x0, x1, x2, x3, x9 => if x9 < (x3.length : Int) then (if 0 ≤ x9 then (if ((rdOf ByteArray.empty x3 x9).size : Int) > 500 then ((barquelaw01_awake.f k).bind fun t593 => (some t593)) else (barquelaw01_CodeBack.l0 k x0 x1 x2 x3 (wrap64 (x9 + 1)))) else (none)) else ((code_Num.f k x0).bind fun bt594 => ((code_Text.f k x1).bind fun bt596 => ((code_Nums.f k x2).bind fun bt598 => ((code_Texts.f k x3).bind fun bt600 => (if bt594.2 = 0 then (if bt596.2 = 0 then (if bt598.2 = 0 then (barquelaw01_CodeBack.j2 k x0 x1 x2 x3 bt594.1 bt596.1 bt598.1 bt600.1 (bt600.2 != 0)) else (barquelaw01_CodeBack.j2 k x0 x1 x2 x3 bt594.1 bt596.1 bt598.1 bt600.1 true)) else (barquelaw01_CodeBack.j2 k x0 x1 x2 x3 bt594.1 bt596.1 bt598.1 bt600.1 true)) else (barquelaw01_CodeBack.j2 k x0 x1 x2 x3 bt594.1 bt596.1 bt598.1 bt600.1 true))))))
def barquelaw01_CodeBack.j2 : Nat → Int → ByteArray → List Int → List ByteArray → ByteArray → ByteArray → ByteArray → ByteArray → Bool → Option (Bool)
  | 0, _, _, _, _, _, _, _, _, _ => none
  | k + 1, x0, x1, x2, x3, x10, x12, x14, x16, x79 => if x79 = true then ((barquelaw01_awake.f k).bind fun t602 => (some t602)) else (if x10.size + x12.size ≤ 9223372036854775807 then (if (x10 ++ x12).size + x14.size ≤ 9223372036854775807 then (if ((x10 ++ x12) ++ x14).size + x16.size ≤ 9223372036854775807 then ((code_Read.f (((x10 ++ x12) ++ x14) ++ x16)).bind fun bt603 => ((code_Reader_Num.f k bt603.1 bt603.2.1 bt603.2.2).bind fun bt607 => (if bt607.1 = x0 then ((code_Reader_Text.f k bt607.2.1 bt607.2.2.1 bt607.2.2.2 500).bind fun bt611 => (if bt611.1.toList = x1.toList then ((code_Reader_Nums.f k bt611.2.1 bt611.2.2.1 bt611.2.2.2 500).bind fun bt615 => ((barquelaw01_ints.f k bt615.1 x2).bind fun t621 => (if t621 = true then ((code_Reader_Texts.f k bt615.2.1 bt615.2.2.1 bt615.2.2.2 500 500).bind fun bt622 => ((barquelaw01_texts.f k bt622.1 x3).bind fun t628 => (if t628 = true then ((code_Reader_End.f k bt622.2.1 bt622.2.2.1 bt622.2.2.2).bind fun bt629 => (if bt629.1 = 0 then ((barquelaw01_awake.f k).bind fun t633 => (some t633)) else (some false))) else (some false)))) else (some false)))) else (some false))) else (some false)))) else (none)) else (none)) else (none))
end
def barquelaw01_CodeBack.f (k : Nat) (a0 : Int) (a1 : ByteArray) (l2 : List Int) (l3 : List ByteArray) : Option (Bool) := if (l2.length : Int) > 500 then (barquelaw01_CodeBack.j0 k a0 a1 l2 l3 true) else (if (l3.length : Int) > 500 then (barquelaw01_CodeBack.j0 k a0 a1 l2 l3 true) else (barquelaw01_CodeBack.j0 k a0 a1 l2 l3 (decide ((a1.size : Int) > 500))))
theorem barquelaw01_CodeBack.mono_l : ∀ k, (∀ y0 y1 y2 y3 y4, LeO (barquelaw01_CodeBack.j0 k y0 y1 y2 y3 y4) (barquelaw01_CodeBack.j0 (k + 1) y0 y1 y2 y3 y4)) ∧ (∀ y0 y1 y2 y3 y4, LeO (barquelaw01_CodeBack.l0 k y0 y1 y2 y3 y4) (barquelaw01_CodeBack.l0 (k + 1) y0 y1 y2 y3 y4)) ∧ (∀ y0 y1 y2 y3 y4 y5 y6 y7 y8, LeO (barquelaw01_CodeBack.j2 k y0 y1 y2 y3 y4 y5 y6 y7 y8) (barquelaw01_CodeBack.j2 (k + 1) y0 y1 y2 y3 y4 y5 y6 y7 y8))
  | 0 => ⟨fun _ _ _ _ _ r h => by simp [barquelaw01_CodeBack.j0] at h, fun _ _ _ _ _ r h => by simp [barquelaw01_CodeBack.l0] at h, fun _ _ _ _ _ _ _ _ _ r h => by simp [barquelaw01_CodeBack.j2] at h⟩
  | k + 1 => by
    obtain ⟨ih0, ih1, ih2⟩ := barquelaw01_CodeBack.mono_l k
    refine ⟨?_, ?_, ?_⟩
    · intro y0 y1 y2 y3 y4
      unfold barquelaw01_CodeBack.j0
      repeat' first
      | (with_reducible exact ih0 _ _ _ _ _)
      | (with_reducible exact ih1 _ _ _ _ _)
      | (with_reducible exact ih2 _ _ _ _ _ _ _ _ _)
      | (with_reducible exact barquelaw01_awake.mono _)
      | (with_reducible exact barquelaw01_ints.mono _ _ _)
      | (with_reducible exact barquelaw01_texts.mono _ _ _)
      | (with_reducible exact code_Num.mono _ _)
      | (with_reducible exact code_Nums.mono _ _)
      | (with_reducible exact code_Reader_End.mono _ _ _ _)
      | (with_reducible exact code_Reader_Num.mono _ _ _ _)
      | (with_reducible exact code_Reader_Nums.mono _ _ _ _ _)
      | (with_reducible exact code_Reader_Text.mono _ _ _ _ _)
      | (with_reducible exact code_Reader_Texts.mono _ _ _ _ _ _)
      | (with_reducible exact code_Text.mono _ _)
      | (with_reducible exact code_Texts.mono _ _)
      | (with_reducible exact LeO.refl _)
      | (with_reducible exact LeO.none _)
      | (with_reducible refine LeO.ite ?_ ?_)
      | (with_reducible refine LeO.bind ?_ (fun _ => ?_))
      | exact ih0 _ _ _ _ _
      | exact ih1 _ _ _ _ _
      | exact ih2 _ _ _ _ _ _ _ _ _
      | exact barquelaw01_awake.mono _
      | exact barquelaw01_ints.mono _ _ _
      | exact barquelaw01_texts.mono _ _ _
      | exact code_Num.mono _ _
      | exact code_Nums.mono _ _
      | exact code_Reader_End.mono _ _ _ _
      | exact code_Reader_Num.mono _ _ _ _
      | exact code_Reader_Nums.mono _ _ _ _ _
      | exact code_Reader_Text.mono _ _ _ _ _
      | exact code_Reader_Texts.mono _ _ _ _ _ _
      | exact code_Text.mono _ _
      | exact code_Texts.mono _ _
      | exact LeO.none _
      | refine LeO.ite ?_ ?_
      | refine LeO.bind ?_ (fun _ => ?_)
    · intro y0 y1 y2 y3 y4
      unfold barquelaw01_CodeBack.l0
      repeat' first
      | (with_reducible exact ih0 _ _ _ _ _)
      | (with_reducible exact ih1 _ _ _ _ _)
      | (with_reducible exact ih2 _ _ _ _ _ _ _ _ _)
      | (with_reducible exact barquelaw01_awake.mono _)
      | (with_reducible exact barquelaw01_ints.mono _ _ _)
      | (with_reducible exact barquelaw01_texts.mono _ _ _)
      | (with_reducible exact code_Num.mono _ _)
      | (with_reducible exact code_Nums.mono _ _)
      | (with_reducible exact code_Reader_End.mono _ _ _ _)
      | (with_reducible exact code_Reader_Num.mono _ _ _ _)
      | (with_reducible exact code_Reader_Nums.mono _ _ _ _ _)
      | (with_reducible exact code_Reader_Text.mono _ _ _ _ _)
      | (with_reducible exact code_Reader_Texts.mono _ _ _ _ _ _)
      | (with_reducible exact code_Text.mono _ _)
      | (with_reducible exact code_Texts.mono _ _)
      | (with_reducible exact LeO.refl _)
      | (with_reducible exact LeO.none _)
      | (with_reducible refine LeO.ite ?_ ?_)
      | (with_reducible refine LeO.bind ?_ (fun _ => ?_))
      | exact ih0 _ _ _ _ _
      | exact ih1 _ _ _ _ _
      | exact ih2 _ _ _ _ _ _ _ _ _
      | exact barquelaw01_awake.mono _
      | exact barquelaw01_ints.mono _ _ _
      | exact barquelaw01_texts.mono _ _ _
      | exact code_Num.mono _ _
      | exact code_Nums.mono _ _
      | exact code_Reader_End.mono _ _ _ _
      | exact code_Reader_Num.mono _ _ _ _
      | exact code_Reader_Nums.mono _ _ _ _ _
      | exact code_Reader_Text.mono _ _ _ _ _
      | exact code_Reader_Texts.mono _ _ _ _ _ _
      | exact code_Text.mono _ _
      | exact code_Texts.mono _ _
      | exact LeO.none _
      | refine LeO.ite ?_ ?_
      | refine LeO.bind ?_ (fun _ => ?_)
    · intro y0 y1 y2 y3 y4 y5 y6 y7 y8
      unfold barquelaw01_CodeBack.j2
      repeat' first
      | (with_reducible exact ih0 _ _ _ _ _)
      | (with_reducible exact ih1 _ _ _ _ _)
      | (with_reducible exact ih2 _ _ _ _ _ _ _ _ _)
      | (with_reducible exact barquelaw01_awake.mono _)
      | (with_reducible exact barquelaw01_ints.mono _ _ _)
      | (with_reducible exact barquelaw01_texts.mono _ _ _)
      | (with_reducible exact code_Num.mono _ _)
      | (with_reducible exact code_Nums.mono _ _)
      | (with_reducible exact code_Reader_End.mono _ _ _ _)
      | (with_reducible exact code_Reader_Num.mono _ _ _ _)
      | (with_reducible exact code_Reader_Nums.mono _ _ _ _ _)
      | (with_reducible exact code_Reader_Text.mono _ _ _ _ _)
      | (with_reducible exact code_Reader_Texts.mono _ _ _ _ _ _)
      | (with_reducible exact code_Text.mono _ _)
      | (with_reducible exact code_Texts.mono _ _)
      | (with_reducible exact LeO.refl _)
      | (with_reducible exact LeO.none _)
      | (with_reducible refine LeO.ite ?_ ?_)
      | (with_reducible refine LeO.bind ?_ (fun _ => ?_))
      | exact ih0 _ _ _ _ _
      | exact ih1 _ _ _ _ _
      | exact ih2 _ _ _ _ _ _ _ _ _
      | exact barquelaw01_awake.mono _
      | exact barquelaw01_ints.mono _ _ _
      | exact barquelaw01_texts.mono _ _ _
      | exact code_Num.mono _ _
      | exact code_Nums.mono _ _
      | exact code_Reader_End.mono _ _ _ _
      | exact code_Reader_Num.mono _ _ _ _
      | exact code_Reader_Nums.mono _ _ _ _ _
      | exact code_Reader_Text.mono _ _ _ _ _
      | exact code_Reader_Texts.mono _ _ _ _ _ _
      | exact code_Text.mono _ _
      | exact code_Texts.mono _ _
      | exact LeO.none _
      | refine LeO.ite ?_ ?_
      | refine LeO.bind ?_ (fun _ => ?_)
theorem barquelaw01_CodeBack.mono : ∀ a0 a1 a2 a3 k, LeO (barquelaw01_CodeBack.f k a0 a1 a2 a3) (barquelaw01_CodeBack.f (k + 1) a0 a1 a2 a3) := by
  intro a0 a1 a2 a3 k
  obtain ⟨ih0, ih1, ih2⟩ := barquelaw01_CodeBack.mono_l k
  unfold barquelaw01_CodeBack.f
  repeat' first
      | (with_reducible exact ih0 _ _ _ _ _)
      | (with_reducible exact ih1 _ _ _ _ _)
      | (with_reducible exact ih2 _ _ _ _ _ _ _ _ _)
      | (with_reducible exact barquelaw01_awake.mono _)
      | (with_reducible exact barquelaw01_ints.mono _ _ _)
      | (with_reducible exact barquelaw01_texts.mono _ _ _)
      | (with_reducible exact code_Num.mono _ _)
      | (with_reducible exact code_Nums.mono _ _)
      | (with_reducible exact code_Reader_End.mono _ _ _ _)
      | (with_reducible exact code_Reader_Num.mono _ _ _ _)
      | (with_reducible exact code_Reader_Nums.mono _ _ _ _ _)
      | (with_reducible exact code_Reader_Text.mono _ _ _ _ _)
      | (with_reducible exact code_Reader_Texts.mono _ _ _ _ _ _)
      | (with_reducible exact code_Text.mono _ _)
      | (with_reducible exact code_Texts.mono _ _)
      | (with_reducible exact LeO.refl _)
      | (with_reducible exact LeO.none _)
      | (with_reducible refine LeO.ite ?_ ?_)
      | (with_reducible refine LeO.bind ?_ (fun _ => ?_))
      | exact ih0 _ _ _ _ _
      | exact ih1 _ _ _ _ _
      | exact ih2 _ _ _ _ _ _ _ _ _
      | exact barquelaw01_awake.mono _
      | exact barquelaw01_ints.mono _ _ _
      | exact barquelaw01_texts.mono _ _ _
      | exact code_Num.mono _ _
      | exact code_Nums.mono _ _
      | exact code_Reader_End.mono _ _ _ _
      | exact code_Reader_Num.mono _ _ _ _
      | exact code_Reader_Nums.mono _ _ _ _ _
      | exact code_Reader_Text.mono _ _ _ _ _
      | exact code_Reader_Texts.mono _ _ _ _ _ _
      | exact code_Text.mono _ _
      | exact code_Texts.mono _ _
      | exact LeO.none _
      | refine LeO.ite ?_ ?_
      | refine LeO.bind ?_ (fun _ => ?_)
set_option maxHeartbeats 8000000 in
set_option maxRecDepth 100000 in
theorem barquelaw01_CodeBack.calls (k : Nat) (a0 : Int) (a1 : ByteArray) (A2 : Option Addr) (c2 : Nat) (l2 : List Int) (A3 : Option Addr) (c3 : Nat) (l3 : List ByteArray) (r : Bool) (w : World) (hr2 : Kd.C (Kd.int .i64) w A2 l2.length l2) (hc2 : l2.length ≤ c2) (hr3 : Kd.C Kd.string w A3 l3.length l3) (hc3 : l3.length ≤ c3) (h : barquelaw01_CodeBack.f k a0 a1 l2 l3 = some r) :
    Calls Try.prog 16 #[.int .i64 a0, .string a1, .slice A2 l2.length c2, .slice A3 l3.length c3] w fun e w' => e = .returned (.bool r) ∧ Below w.heap.size w w' := by
  have HR2 := Aside0.mk hr2
  have HC2 := Aside0.mk hc2
  clear hr2 hc2
  have HR3 := Aside0.mk hr3
  have HC3 := Aside0.mk hc3
  clear hr3 hc3
  have HB := Aside0.mk (Below.refl w.heap.size w)
  have H : (if (l2.length : Int) > 500 then (barquelaw01_CodeBack.j0 k a0 a1 l2 l3 true) else (if (l3.length : Int) > 500 then (barquelaw01_CodeBack.j0 k a0 a1 l2 l3 true) else (barquelaw01_CodeBack.j0 k a0 a1 l2 l3 (decide ((a1.size : Int) > 500))))) = some r := h
  clear h
  have HC5 := Aside0.mk H
  clear H
  go_enter Try.func16, Try.ntmps16
  go_upto_region 1 with (fail)
  go_cut [31] (fun v31 wc => ∃ (kq : Nat) (x31_4 : Bool), v31 = .bool x31_4 ∧ Aside0 (barquelaw01_CodeBack.j0 kq a0 a1 l2 l3 x31_4 = some r) ∧ Aside0 (kq ≤ k) ∧ Aside0 (Below w.heap.size w wc))
  case first =>
    have H := HC5.out
    clear HC5
    by_cases c6 : (l2.length : Int) > 500
    · rw [if_pos c6] at H
      have c6b0 : decide (500 < (l2.length : Int)) = true := decide_eq_true c6
      have c6b1 : decide (500 < l2.length) = true := decide_eq_true (by omega)
      clear c6
      (first | rw [c6b0] | (simp only [i64_w, i32_w]; rw [c6b0]) | skip)
      have H' := Aside0.mk H
      clear H
      go_wp2
      go_meet
      case rel => exact ⟨_, (true), (by first | rfl | (simp; done) | (simp [*]; done)), H', ⟨by first | omega | exact Nat.le_refl _⟩, ⟨by repeat (first | (with_reducible first | exact HB.out | apply below_alloc | apply pw_below_drewN | apply below_drew1) | exact HB.out)⟩⟩
    · rw [if_neg c6] at H
      have c6b0 : decide (500 < (l2.length : Int)) = false := decide_eq_false c6
      have c6b1 : decide (500 < l2.length) = false := decide_eq_false (by omega)
      clear c6
      (first | rw [c6b0] | (simp only [i64_w, i32_w]; rw [c6b0]) | skip)
      by_cases c7 : (l3.length : Int) > 500
      · rw [if_pos c7] at H
        have c7b0 : decide (500 < (l3.length : Int)) = true := decide_eq_true c7
        have c7b1 : decide (500 < l3.length) = true := decide_eq_true (by omega)
        clear c7
        have H' := Aside0.mk H
        clear H
        go_wp2
        go_meet
        case rel => exact ⟨_, (true), (by first | rfl | (simp; done) | (simp [*]; done)), H', ⟨by first | omega | exact Nat.le_refl _⟩, ⟨by repeat (first | (with_reducible first | exact HB.out | apply below_alloc | apply pw_below_drewN | apply below_drew1) | exact HB.out)⟩⟩
      · rw [if_neg c7] at H
        have c7b0 : decide (500 < (l3.length : Int)) = false := decide_eq_false c7
        have c7b1 : decide (500 < l3.length) = false := decide_eq_false (by omega)
        clear c7
        have H' := Aside0.mk H
        clear H
        go_wp2
        go_meet
        case rel => exact ⟨_, (decide ((a1.size : Int) > 500)), (by first | rfl | (simp; done) | (simp [*]; done)), H', ⟨by first | omega | exact Nat.le_refl _⟩, ⟨by repeat (first | (with_reducible first | exact HB.out | apply below_alloc | apply pw_below_drewN | apply below_drew1) | exact HB.out)⟩⟩
  case rest =>
    clear HC5
    try clear c1
    try clear c2
    try clear p2
    try clear c3
    try clear c6
    try clear c6b0
    try clear c6b1
    try clear c7
    try clear c7b0
    try clear c7b1
    obtain ⟨kq, x31_4, rfl, HA, HJ4, HB⟩ := hcut
    cases kq with
    | zero => exact absurd HA.out (by simp [barquelaw01_CodeBack.j0])
    | succ kj4 =>
      have H := HA.out
      clear HA
      simp only [barquelaw01_CodeBack.j0] at H
      by_cases c8 : x31_4 = true
      · subst c8
        have H1 : ((barquelaw01_awake.f kj4).bind fun t591 => (some t591)) = some r := by rw [if_pos rfl] at H; exact H
        clear H
        have H := H1
        clear H1
        replace H := Option.bind_eq_some_iff.mp H
        obtain ⟨t591, A90, H⟩ := H
        replace H : (some t591) = some r := H
        have A9 := Aside0.mk A90
        clear A90
        obtain rfl := Option.some.inj H
        go_wp2_with (first | ((with_reducible refine gate_callee (f := 23) rfl ?_); refine goesL_ (some 32) rfl rfl Try.func23 (by kernel_rfl) rfl #[] rfl (by (try simp only [List.map_toArray, List.map_cons, List.map_nil]); first | done | rfl | (simp only [List.length_drop, List.length_take]; rfl)) ?_; (with_reducible refine (barquelaw01_awake.calls kj4  t591 _ A9.out).mono ?_); rintro e w10 ⟨rfl, hb⟩; refine ⟨_, rfl, ?_⟩; have n0_ := Aside0.mk (below_step (by repeat (first | (with_reducible first | exact HB.out | apply below_alloc | apply pw_below_drewN | apply below_drew1) | exact HB.out)) hb); clear HB; have HB := n0_; clear n0_; (try clear hb); (try clear hb2); (try clear hk); (try clear hi)))
        go_ret
        exact ⟨by first | rfl | (simp [errW_none, errW_some] <;> rfl) | (simp [*, errW_none, errW_some] <;> rfl), by repeat (first | (with_reducible first | exact HB.out | apply below_alloc | apply pw_below_drewN | apply below_drew1) | exact HB.out)⟩
      · replace c8 := Bool.eq_false_iff.mpr c8
        subst c8
        have H1 : (barquelaw01_CodeBack.l0 kj4 a0 a1 l2 l3 0) = some r := by rw [if_neg (show ¬ (false = true) by decide)] at H; exact H
        clear H
        have H := H1
        clear H1
        have H' := Aside0.mk H
        clear H
        go_wp2
        go_loopg [9] kj4 (fun kq v9 w' => ∃ (x9_2 : Int), v9 = .int .i64 x9_2 ∧ Aside0 (barquelaw01_CodeBack.l0 kq a0 a1 l2 l3 x9_2 = some r) ∧ Aside0 (kq ≤ kj4) ∧ Aside0 (Below w.heap.size w w'))
        case atStart => exact ⟨(0), (by first | rfl | (simp; done) | (simp [*]; done)), H', ⟨Nat.le_refl _⟩, ⟨by repeat (first | (with_reducible first | exact HB.out | apply below_alloc | apply pw_below_drewN | apply below_drew1) | exact HB.out)⟩⟩
        case round =>
          clear H'
          try clear c1
          try clear c2
          try clear p2
          try clear c3
          try clear c6
          try clear c6b0
          try clear c6b1
          try clear c7
          try clear c7b0
          try clear c7b1
          try clear c8
          try clear p2
          obtain ⟨x9_2, rfl, HA, HK2, HB⟩ := hrel
          cases gk with
          | zero => exact absurd HA.out (by simp [barquelaw01_CodeBack.l0])
          | succ k2 =>
            have H := HA.out
            clear HA
            simp only [barquelaw01_CodeBack.l0] at H
            by_cases c11 : x9_2 < (l3.length : Int)
            · rw [if_pos c11] at H
              have c11b0 : decide (x9_2 < (l3.length : Int)) = true := decide_eq_true c11
              clear c11
              by_cases c12 : 0 ≤ x9_2
              · rw [if_pos c12] at H
                have c12b0 : decide (0 ≤ x9_2) = true := decide_eq_true c12
                clear c12
                by_cases c13 : ((rdOf ByteArray.empty l3 x9_2).size : Int) > 500
                · rw [if_pos c13] at H
                  have c13b0 : decide (500 < ((rdOf ByteArray.empty l3 x9_2).size : Int)) = true := decide_eq_true c13
                  have c13b1 : decide (500 < (rdOf ByteArray.empty l3 x9_2).size) = true := decide_eq_true (by omega)
                  clear c13
                  replace H := Option.bind_eq_some_iff.mp H
                  obtain ⟨t593, A140, H⟩ := H
                  replace H : (some t593) = some r := H
                  have A14 := Aside0.mk A140
                  clear A140
                  obtain rfl := Option.some.inj H
                  have p592 : 0 ≤ (x9_2 : Int) := of_decide_eq_true (by first | (with_reducible assumption) | assumption)
                  have q592 : x9_2 < (l3.length : Int) := of_decide_eq_true (by first | (with_reducible assumption) | assumption)
                  obtain ⟨ad592, e592, hx592_0⟩ := Kd.at_string HR3.out x9_2 p592 q592
                  cases e592
                  replace hx592_0 := (HB.out.cell (World.block_lt_of_cell? w _ hx592_0)).trans hx592_0
                  replace p592 := eq_true p592
                  replace q592 := eq_true q592
                  go_wp2_with (first | ((with_reducible refine gate_callee (f := 23) rfl ?_); refine goesL_ (some 45) rfl rfl Try.func23 (by kernel_rfl) rfl #[] rfl (by (try simp only [List.map_toArray, List.map_cons, List.map_nil]); first | done | rfl | (simp only [List.length_drop, List.length_take]; rfl)) ?_; (with_reducible refine (barquelaw01_awake.calls k2  t593 _ A14.out).mono ?_); rintro e w15 ⟨rfl, hb⟩; refine ⟨_, rfl, ?_⟩; have n0_ := Aside0.mk (below_step (by repeat (first | (with_reducible first | exact HB.out | apply below_alloc | apply pw_below_drewN | apply below_drew1) | exact HB.out)) hb); clear HB; have HB := n0_; clear n0_; (try clear hb); (try clear hb2); (try clear hk); (try clear hi)))
                  go_ret
                  exact ⟨by first | rfl | (simp [errW_none, errW_some] <;> rfl) | (simp [*, errW_none, errW_some] <;> rfl), by repeat (first | (with_reducible first | exact HB.out | apply below_alloc | apply pw_below_drewN | apply below_drew1) | exact HB.out)⟩
                · rw [if_neg c13] at H
                  have c13b0 : decide (500 < ((rdOf ByteArray.empty l3 x9_2).size : Int)) = false := decide_eq_false c13
                  have c13b1 : decide (500 < (rdOf ByteArray.empty l3 x9_2).size) = false := decide_eq_false (by omega)
                  clear c13
                  have H' := Aside0.mk H
                  clear H
                  have p592 : 0 ≤ (x9_2 : Int) := of_decide_eq_true (by first | (with_reducible assumption) | assumption)
                  have q592 : x9_2 < (l3.length : Int) := of_decide_eq_true (by first | (with_reducible assumption) | assumption)
                  obtain ⟨ad592, e592, hx592_0⟩ := Kd.at_string HR3.out x9_2 p592 q592
                  cases e592
                  replace hx592_0 := (HB.out.cell (World.block_lt_of_cell? w _ hx592_0)).trans hx592_0
                  replace p592 := eq_true p592
                  replace q592 := eq_true q592
                  go_wp2
                  go_roundg k2
                  case measure => have := HJ4.out; have := HK2.out; omega
                  case rel => exact ⟨(wrap64 (x9_2 + 1)), (by first | rfl | (simp; done) | (simp [*]; done)), H', ⟨by have := HJ4.out; have := HK2.out; omega⟩, ⟨by repeat (first | (with_reducible first | exact HB.out | apply below_alloc | apply pw_below_drewN | apply below_drew1) | exact HB.out)⟩⟩
              · rw [if_neg c12] at H
                exact absurd H (by simp)
            · rw [if_neg c11] at H
              have c11b0 : decide (x9_2 < (l3.length : Int)) = false := decide_eq_false c11
              clear c11
              replace H := Option.bind_eq_some_iff.mp H
              obtain ⟨⟨t594, t595⟩, A160, H⟩ := H
              replace H : ((code_Text.f k2 a1).bind fun bt596 => ((code_Nums.f k2 l2).bind fun bt598 => ((code_Texts.f k2 l3).bind fun bt600 => (if t595 = 0 then (if bt596.2 = 0 then (if bt598.2 = 0 then (barquelaw01_CodeBack.j2 k2 a0 a1 l2 l3 t594 bt596.1 bt598.1 bt600.1 (bt600.2 != 0)) else (barquelaw01_CodeBack.j2 k2 a0 a1 l2 l3 t594 bt596.1 bt598.1 bt600.1 true)) else (barquelaw01_CodeBack.j2 k2 a0 a1 l2 l3 t594 bt596.1 bt598.1 bt600.1 true)) else (barquelaw01_CodeBack.j2 k2 a0 a1 l2 l3 t594 bt596.1 bt598.1 bt600.1 true))))) = some r := H
              have A16 := Aside0.mk A160
              clear A160
              replace H := Option.bind_eq_some_iff.mp H
              obtain ⟨⟨t596, t597⟩, A170, H⟩ := H
              replace H : ((code_Nums.f k2 l2).bind fun bt598 => ((code_Texts.f k2 l3).bind fun bt600 => (if t595 = 0 then (if t597 = 0 then (if bt598.2 = 0 then (barquelaw01_CodeBack.j2 k2 a0 a1 l2 l3 t594 t596 bt598.1 bt600.1 (bt600.2 != 0)) else (barquelaw01_CodeBack.j2 k2 a0 a1 l2 l3 t594 t596 bt598.1 bt600.1 true)) else (barquelaw01_CodeBack.j2 k2 a0 a1 l2 l3 t594 t596 bt598.1 bt600.1 true)) else (barquelaw01_CodeBack.j2 k2 a0 a1 l2 l3 t594 t596 bt598.1 bt600.1 true)))) = some r := H
              have A17 := Aside0.mk A170
              clear A170
              replace H := Option.bind_eq_some_iff.mp H
              obtain ⟨⟨t598, t599⟩, A180, H⟩ := H
              replace H : ((code_Texts.f k2 l3).bind fun bt600 => (if t595 = 0 then (if t597 = 0 then (if t599 = 0 then (barquelaw01_CodeBack.j2 k2 a0 a1 l2 l3 t594 t596 t598 bt600.1 (bt600.2 != 0)) else (barquelaw01_CodeBack.j2 k2 a0 a1 l2 l3 t594 t596 t598 bt600.1 true)) else (barquelaw01_CodeBack.j2 k2 a0 a1 l2 l3 t594 t596 t598 bt600.1 true)) else (barquelaw01_CodeBack.j2 k2 a0 a1 l2 l3 t594 t596 t598 bt600.1 true))) = some r := H
              have A18 := Aside0.mk A180
              clear A180
              replace H := Option.bind_eq_some_iff.mp H
              obtain ⟨⟨t600, t601⟩, A190, H⟩ := H
              replace H : (if t595 = 0 then (if t597 = 0 then (if t599 = 0 then (barquelaw01_CodeBack.j2 k2 a0 a1 l2 l3 t594 t596 t598 t600 (t601 != 0)) else (barquelaw01_CodeBack.j2 k2 a0 a1 l2 l3 t594 t596 t598 t600 true)) else (barquelaw01_CodeBack.j2 k2 a0 a1 l2 l3 t594 t596 t598 t600 true)) else (barquelaw01_CodeBack.j2 k2 a0 a1 l2 l3 t594 t596 t598 t600 true)) = some r := H
              have A19 := Aside0.mk A190
              clear A190
              have HC20 := Aside0.mk H
              clear H
              go_upto_region 12 with (first | ((with_reducible refine gate_callee (f := 21) rfl ?_); refine goesL_ (some 48) rfl rfl Try.func21 (by kernel_rfl) rfl #[.int .i64 a0] rfl (by (try simp only [List.map_toArray, List.map_cons, List.map_nil]); first | done | rfl | (simp only [List.length_drop, List.length_take]; rfl)) ?_; (with_reducible refine (code_Num.calls k2 a0 t594 t595 _ A16.out).mono ?_); rintro e w21 ⟨rfl, hb⟩; refine ⟨_, rfl, ?_⟩; have n0_ := Aside0.mk (below_step (by repeat (first | (with_reducible first | exact HB.out | apply below_alloc | apply pw_below_drewN | apply below_drew1) | exact HB.out)) hb); clear HB; have HB := n0_; clear n0_; (try clear hb); (try clear hb2); (try clear hk); (try clear hi)) | ((with_reducible refine gate_callee (f := 29) rfl ?_); refine goesL_ (some 53) rfl rfl Try.func29 (by kernel_rfl) rfl #[.string a1] rfl (by (try simp only [List.map_toArray, List.map_cons, List.map_nil]); first | done | rfl | (simp only [List.length_drop, List.length_take]; rfl)) ?_; (with_reducible refine (code_Text.calls k2 a1 t596 t597 _ A17.out).mono ?_); rintro e w22 ⟨rfl, hb⟩; refine ⟨_, rfl, ?_⟩; have n0_ := Aside0.mk (below_step (by repeat (first | (with_reducible first | exact HB.out | apply below_alloc | apply pw_below_drewN | apply below_drew1) | exact HB.out)) hb); clear HB; have HB := n0_; clear n0_; (try clear hb); (try clear hb2); (try clear hk); (try clear hi)) | ((with_reducible refine gate_callee (f := 44) rfl ?_); refine goesL_ (some 58) rfl rfl Try.func44 (by kernel_rfl) rfl #[.slice A2 l2.length c2] rfl (by (try simp only [List.map_toArray, List.map_cons, List.map_nil]); first | done | rfl | (simp only [List.length_drop, List.length_take]; rfl)) ?_; (with_reducible refine (code_Nums.calls k2 _ _ l2 t598 t599 _ ?side1 ?side2 A18.out).mono ?_); (case side1 => repeat (first | exact (Kd.C_below HR2.out HB.out) | (with_reducible refine Kd.C_alloc ?_ _) | (with_reducible refine Kd.C_drewN ?_ _) | (with_reducible refine Kd.C_drew ?_))); (case side2 => exact HC2.out); rintro e w23 ⟨rfl, hb⟩; refine ⟨_, rfl, ?_⟩; have n0_ := Aside0.mk (below_step (by repeat (first | (with_reducible first | exact HB.out | apply below_alloc | apply pw_below_drewN | apply below_drew1) | exact HB.out)) hb); clear HB; have HB := n0_; clear n0_; (try clear hb); (try clear hb2); (try clear hk); (try clear hi)) | ((with_reducible refine gate_callee (f := 46) rfl ?_); refine goesL_ (some 63) rfl rfl Try.func46 (by kernel_rfl) rfl #[.slice A3 l3.length c3] rfl (by (try simp only [List.map_toArray, List.map_cons, List.map_nil]); first | done | rfl | (simp only [List.length_drop, List.length_take]; rfl)) ?_; (with_reducible refine (code_Texts.calls k2 _ _ l3 t600 t601 _ ?side1 ?side2 A19.out).mono ?_); (case side1 => repeat (first | exact (Kd.C_below HR3.out HB.out) | (with_reducible refine Kd.C_alloc ?_ _) | (with_reducible refine Kd.C_drewN ?_ _) | (with_reducible refine Kd.C_drew ?_))); (case side2 => exact HC3.out); rintro e w24 ⟨rfl, hb⟩; refine ⟨_, rfl, ?_⟩; have n0_ := Aside0.mk (below_step (by repeat (first | (with_reducible first | exact HB.out | apply below_alloc | apply pw_below_drewN | apply below_drew1) | exact HB.out)) hb); clear HB; have HB := n0_; clear n0_; (try clear hb); (try clear hb2); (try clear hk); (try clear hi)))
              (try simp only [Act.put, List.setIfInBounds_toArray, List.set_cons_zero, List.set_cons_succ])
              go_cut [79] (fun v79 wc => ∃ (kq : Nat) (x79_19 : Bool), v79 = .bool x79_19 ∧ Aside0 (barquelaw01_CodeBack.j2 kq a0 a1 l2 l3 t594 t596 t598 t600 x79_19 = some r) ∧ Aside0 (kq ≤ k2) ∧ Aside0 (Below w.heap.size w wc))
              case first =>
                have H := HC20.out
                clear HC20
                by_cases c25 : t595 = 0
                · rw [if_pos c25] at H
                  have c25b0 : (t595 == 0) = true := beq_iff_eq.mpr c25
                  have c25b1 : (t595 != 0) = false := bne_eq_false_iff_eq.mpr c25
                  clear c25
                  (first | rw [c25b0] | (simp only [i64_w, i32_w]; rw [c25b0]) | skip)
                  by_cases c26 : t597 = 0
                  · rw [if_pos c26] at H
                    have c26b0 : (t597 == 0) = true := beq_iff_eq.mpr c26
                    have c26b1 : (t597 != 0) = false := bne_eq_false_iff_eq.mpr c26
                    clear c26
                    by_cases c27 : t599 = 0
                    · rw [if_pos c27] at H
                      have c27b0 : (t599 == 0) = true := beq_iff_eq.mpr c27
                      have c27b1 : (t599 != 0) = false := bne_eq_false_iff_eq.mpr c27
                      clear c27
                      have H' := Aside0.mk H
                      clear H
                      go_wp2
                      go_meet
                      case rel => exact ⟨_, ((t601 != 0)), (by first | rfl | (simp; done) | (simp [*]; done)), H', ⟨by have := HJ4.out; have := HK2.out; first | omega | exact Nat.le_refl _⟩, ⟨by repeat (first | (with_reducible first | exact HB.out | apply below_alloc | apply pw_below_drewN | apply below_drew1) | exact HB.out)⟩⟩
                    · rw [if_neg c27] at H
                      have c27b0 : (t599 == 0) = false := beq_eq_false_iff_ne.mpr c27
                      have c27b1 : (t599 != 0) = true := bne_iff_ne.mpr c27
                      have H' := Aside0.mk H
                      clear H
                      go_wp2
                      go_meet
                      case rel => exact ⟨_, (true), (by first | rfl | (simp; done) | (simp [*]; done)), H', ⟨by have := HJ4.out; have := HK2.out; first | omega | exact Nat.le_refl _⟩, ⟨by repeat (first | (with_reducible first | exact HB.out | apply below_alloc | apply pw_below_drewN | apply below_drew1) | exact HB.out)⟩⟩
                  · rw [if_neg c26] at H
                    have c26b0 : (t597 == 0) = false := beq_eq_false_iff_ne.mpr c26
                    have c26b1 : (t597 != 0) = true := bne_iff_ne.mpr c26
                    have H' := Aside0.mk H
                    clear H
                    go_wp2
                    go_meet
                    case rel => exact ⟨_, (true), (by first | rfl | (simp; done) | (simp [*]; done)), H', ⟨by have := HJ4.out; have := HK2.out; first | omega | exact Nat.le_refl _⟩, ⟨by repeat (first | (with_reducible first | exact HB.out | apply below_alloc | apply pw_below_drewN | apply below_drew1) | exact HB.out)⟩⟩
                · rw [if_neg c25] at H
                  have c25b0 : (t595 == 0) = false := beq_eq_false_iff_ne.mpr c25
                  have c25b1 : (t595 != 0) = true := bne_iff_ne.mpr c25
                  (first | rw [c25b0] | (simp only [i64_w, i32_w]; rw [c25b0]) | skip)
                  have H' := Aside0.mk H
                  clear H
                  go_wp2
                  go_meet
                  case rel => exact ⟨_, (true), (by first | rfl | (simp; done) | (simp [*]; done)), H', ⟨by have := HJ4.out; have := HK2.out; first | omega | exact Nat.le_refl _⟩, ⟨by repeat (first | (with_reducible first | exact HB.out | apply below_alloc | apply pw_below_drewN | apply below_drew1) | exact HB.out)⟩⟩
              case rest =>
                clear HC20
                try clear c1
                try clear c2
                try clear p2
                try clear c3
                try clear c4
                try clear p5
                try clear q5
                try clear hx5
                try clear c6
                try clear c6b0
                try clear c6b1
                try clear p6
                try clear c7
                try clear c7b0
                try clear c7b1
                try clear c8
                try clear c11
                try clear c11b0
                try clear c12
                try clear c12b0
                try clear c13
                try clear c13b0
                try clear c13b1
                try clear c16
                try clear c21
                try clear c23
                try clear c25
                try clear c25b0
                try clear c25b1
                try clear c26
                try clear c26b0
                try clear c26b1
                try clear c27
                try clear c27b0
                try clear c27b1
                try clear hx592_0
                try clear p2
                try clear p592
                try clear q592
                obtain ⟨kq, x79_19, rfl, HA, HJ19, HB⟩ := hcut
                cases kq with
                | zero => exact absurd HA.out (by simp [barquelaw01_CodeBack.j2])
                | succ kj19 =>
                  have H := HA.out
                  clear HA
                  simp only [barquelaw01_CodeBack.j2] at H
                  by_cases c28 : x79_19 = true
                  · subst c28
                    have H1 : ((barquelaw01_awake.f kj19).bind fun t602 => (some t602)) = some r := by rw [if_pos rfl] at H; exact H
                    clear H
                    have H := H1
                    clear H1
                    replace H := Option.bind_eq_some_iff.mp H
                    obtain ⟨t602, A290, H⟩ := H
                    replace H : (some t602) = some r := H
                    have A29 := Aside0.mk A290
                    clear A290
                    obtain rfl := Option.some.inj H
                    go_wp2_with (first | ((with_reducible refine gate_callee (f := 23) rfl ?_); refine goesL_ (some 80) rfl rfl Try.func23 (by kernel_rfl) rfl #[] rfl (by (try simp only [List.map_toArray, List.map_cons, List.map_nil]); first | done | rfl | (simp only [List.length_drop, List.length_take]; rfl)) ?_; (with_reducible refine (barquelaw01_awake.calls kj19  t602 _ A29.out).mono ?_); rintro e w30 ⟨rfl, hb⟩; refine ⟨_, rfl, ?_⟩; have n0_ := Aside0.mk (below_step (by repeat (first | (with_reducible first | exact HB.out | apply below_alloc | apply pw_below_drewN | apply below_drew1) | exact HB.out)) hb); clear HB; have HB := n0_; clear n0_; (try clear hb); (try clear hb2); (try clear hk); (try clear hi)))
                    go_ret
                    exact ⟨by first | rfl | (simp [errW_none, errW_some] <;> rfl) | (simp [*, errW_none, errW_some] <;> rfl), by repeat (first | (with_reducible first | exact HB.out | apply below_alloc | apply pw_below_drewN | apply below_drew1) | exact HB.out)⟩
                  · replace c28 := Bool.eq_false_iff.mpr c28
                    subst c28
                    have H1 : (if t594.size + t596.size ≤ 9223372036854775807 then (if (t594 ++ t596).size + t598.size ≤ 9223372036854775807 then (if ((t594 ++ t596) ++ t598).size + t600.size ≤ 9223372036854775807 then ((code_Read.f (((t594 ++ t596) ++ t598) ++ t600)).bind fun bt603 => ((code_Reader_Num.f kj19 bt603.1 bt603.2.1 bt603.2.2).bind fun bt607 => (if bt607.1 = a0 then ((code_Reader_Text.f kj19 bt607.2.1 bt607.2.2.1 bt607.2.2.2 500).bind fun bt611 => (if bt611.1.toList = a1.toList then ((code_Reader_Nums.f kj19 bt611.2.1 bt611.2.2.1 bt611.2.2.2 500).bind fun bt615 => ((barquelaw01_ints.f kj19 bt615.1 l2).bind fun t621 => (if t621 = true then ((code_Reader_Texts.f kj19 bt615.2.1 bt615.2.2.1 bt615.2.2.2 500 500).bind fun bt622 => ((barquelaw01_texts.f kj19 bt622.1 l3).bind fun t628 => (if t628 = true then ((code_Reader_End.f kj19 bt622.2.1 bt622.2.2.1 bt622.2.2.2).bind fun bt629 => (if bt629.1 = 0 then ((barquelaw01_awake.f kj19).bind fun t633 => (some t633)) else (some false))) else (some false)))) else (some false)))) else (some false))) else (some false)))) else (none)) else (none)) else (none)) = some r := by rw [if_neg (show ¬ (false = true) by decide)] at H; exact H
                    clear H
                    have H := H1
                    clear H1
                    by_cases c31 : t594.size + t596.size ≤ 9223372036854775807
                    · rw [if_pos c31] at H
                      have c31b0 := eq_true c31
                      have c31b1 : decide (t594.size + t596.size ≤ 9223372036854775807) = true := decide_eq_true c31
                      try have c31b2 : (9223372036854775807 < t594.size + t596.size) = False := eq_false (Nat.not_lt.2 c31)
                      by_cases c32 : (t594 ++ t596).size + t598.size ≤ 9223372036854775807
                      · rw [if_pos c32] at H
                        have c32b0 := eq_true c32
                        have c32b1 : decide ((t594 ++ t596).size + t598.size ≤ 9223372036854775807) = true := decide_eq_true c32
                        try have c32b2 : (9223372036854775807 < (t594 ++ t596).size + t598.size) = False := eq_false (Nat.not_lt.2 c32)
                        have c32b3 := c32
                        simp only [ByteArray.size_append] at c32b3
                        have c32b4 := eq_true c32b3
                        have c32b5 := decide_eq_true c32b3
                        have c32b6 := eq_false (Nat.not_lt.2 c32b3)
                        by_cases c33 : ((t594 ++ t596) ++ t598).size + t600.size ≤ 9223372036854775807
                        · rw [if_pos c33] at H
                          have c33b0 := eq_true c33
                          have c33b1 : decide (((t594 ++ t596) ++ t598).size + t600.size ≤ 9223372036854775807) = true := decide_eq_true c33
                          try have c33b2 : (9223372036854775807 < ((t594 ++ t596) ++ t598).size + t600.size) = False := eq_false (Nat.not_lt.2 c33)
                          have c33b3 := c33
                          simp only [ByteArray.size_append] at c33b3
                          have c33b4 := eq_true c33b3
                          have c33b5 := decide_eq_true c33b3
                          have c33b6 := eq_false (Nat.not_lt.2 c33b3)
                          replace H := Option.bind_eq_some_iff.mp H
                          obtain ⟨⟨t603, t604, t605⟩, A340, H⟩ := H
                          replace H : ((code_Reader_Num.f kj19 t603 t604 t605).bind fun bt607 => (if bt607.1 = a0 then ((code_Reader_Text.f kj19 bt607.2.1 bt607.2.2.1 bt607.2.2.2 500).bind fun bt611 => (if bt611.1.toList = a1.toList then ((code_Reader_Nums.f kj19 bt611.2.1 bt611.2.2.1 bt611.2.2.2 500).bind fun bt615 => ((barquelaw01_ints.f kj19 bt615.1 l2).bind fun t621 => (if t621 = true then ((code_Reader_Texts.f kj19 bt615.2.1 bt615.2.2.1 bt615.2.2.2 500 500).bind fun bt622 => ((barquelaw01_texts.f kj19 bt622.1 l3).bind fun t628 => (if t628 = true then ((code_Reader_End.f kj19 bt622.2.1 bt622.2.2.1 bt622.2.2.2).bind fun bt629 => (if bt629.1 = 0 then ((barquelaw01_awake.f kj19).bind fun t633 => (some t633)) else (some false))) else (some false)))) else (some false)))) else (some false))) else (some false))) = some r := H
                          have A34 := Aside0.mk A340
                          clear A340
                          replace H := Option.bind_eq_some_iff.mp H
                          obtain ⟨⟨t607, t608, t609, t610⟩, A350, H⟩ := H
                          replace H : (if t607 = a0 then ((code_Reader_Text.f kj19 t608 t609 t610 500).bind fun bt611 => (if bt611.1.toList = a1.toList then ((code_Reader_Nums.f kj19 bt611.2.1 bt611.2.2.1 bt611.2.2.2 500).bind fun bt615 => ((barquelaw01_ints.f kj19 bt615.1 l2).bind fun t621 => (if t621 = true then ((code_Reader_Texts.f kj19 bt615.2.1 bt615.2.2.1 bt615.2.2.2 500 500).bind fun bt622 => ((barquelaw01_texts.f kj19 bt622.1 l3).bind fun t628 => (if t628 = true then ((code_Reader_End.f kj19 bt622.2.1 bt622.2.2.1 bt622.2.2.2).bind fun bt629 => (if bt629.1 = 0 then ((barquelaw01_awake.f kj19).bind fun t633 => (some t633)) else (some false))) else (some false)))) else (some false)))) else (some false))) else (some false)) = some r := H
                          have A35 := Aside0.mk A350
                          clear A350
                          by_cases c36 : t607 = a0
                          · rw [if_pos c36] at H
                            have c36b0 : (t607 == a0) = true := beq_iff_eq.mpr c36
                            have c36b1 : (t607 != a0) = false := bne_eq_false_iff_eq.mpr c36
                            clear c36
                            replace H := Option.bind_eq_some_iff.mp H
                            obtain ⟨⟨t611, t612, t613, t614⟩, A370, H⟩ := H
                            replace H : (if t611.toList = a1.toList then ((code_Reader_Nums.f kj19 t612 t613 t614 500).bind fun bt615 => ((barquelaw01_ints.f kj19 bt615.1 l2).bind fun t621 => (if t621 = true then ((code_Reader_Texts.f kj19 bt615.2.1 bt615.2.2.1 bt615.2.2.2 500 500).bind fun bt622 => ((barquelaw01_texts.f kj19 bt622.1 l3).bind fun t628 => (if t628 = true then ((code_Reader_End.f kj19 bt622.2.1 bt622.2.2.1 bt622.2.2.2).bind fun bt629 => (if bt629.1 = 0 then ((barquelaw01_awake.f kj19).bind fun t633 => (some t633)) else (some false))) else (some false)))) else (some false)))) else (some false)) = some r := H
                            have A37 := Aside0.mk A370
                            clear A370
                            by_cases c38 : t611.toList = a1.toList
                            · rw [if_pos c38] at H
                              have c38b0 : (t611.toList == a1.toList) = true := beq_iff_eq.mpr c38
                              have c38b1 : (t611.toList != a1.toList) = false := bne_eq_false_iff_eq.mpr c38
                              clear c38
                              replace H := Option.bind_eq_some_iff.mp H
                              obtain ⟨⟨t615, t618, t619, t620⟩, A390, H⟩ := H
                              replace H : ((barquelaw01_ints.f kj19 t615 l2).bind fun t621 => (if t621 = true then ((code_Reader_Texts.f kj19 t618 t619 t620 500 500).bind fun bt622 => ((barquelaw01_texts.f kj19 bt622.1 l3).bind fun t628 => (if t628 = true then ((code_Reader_End.f kj19 bt622.2.1 bt622.2.2.1 bt622.2.2.2).bind fun bt629 => (if bt629.1 = 0 then ((barquelaw01_awake.f kj19).bind fun t633 => (some t633)) else (some false))) else (some false)))) else (some false))) = some r := H
                              have A39 := Aside0.mk A390
                              clear A390
                              replace H := Option.bind_eq_some_iff.mp H
                              obtain ⟨t621, A400, H⟩ := H
                              replace H : (if t621 = true then ((code_Reader_Texts.f kj19 t618 t619 t620 500 500).bind fun bt622 => ((barquelaw01_texts.f kj19 bt622.1 l3).bind fun t628 => (if t628 = true then ((code_Reader_End.f kj19 bt622.2.1 bt622.2.2.1 bt622.2.2.2).bind fun bt629 => (if bt629.1 = 0 then ((barquelaw01_awake.f kj19).bind fun t633 => (some t633)) else (some false))) else (some false)))) else (some false)) = some r := H
                              have A40 := Aside0.mk A400
                              clear A400
                              by_cases c41 : t621 = true
                              · subst c41
                                have H1 : ((code_Reader_Texts.f kj19 t618 t619 t620 500 500).bind fun bt622 => ((barquelaw01_texts.f kj19 bt622.1 l3).bind fun t628 => (if t628 = true then ((code_Reader_End.f kj19 bt622.2.1 bt622.2.2.1 bt622.2.2.2).bind fun bt629 => (if bt629.1 = 0 then ((barquelaw01_awake.f kj19).bind fun t633 => (some t633)) else (some false))) else (some false)))) = some r := by rw [if_pos rfl] at H; exact H
                                clear H
                                have H := H1
                                clear H1
                                replace H := Option.bind_eq_some_iff.mp H
                                obtain ⟨⟨t622, t625, t626, t627⟩, A420, H⟩ := H
                                replace H : ((barquelaw01_texts.f kj19 t622 l3).bind fun t628 => (if t628 = true then ((code_Reader_End.f kj19 t625 t626 t627).bind fun bt629 => (if bt629.1 = 0 then ((barquelaw01_awake.f kj19).bind fun t633 => (some t633)) else (some false))) else (some false))) = some r := H
                                have A42 := Aside0.mk A420
                                clear A420
                                replace H := Option.bind_eq_some_iff.mp H
                                obtain ⟨t628, A430, H⟩ := H
                                replace H : (if t628 = true then ((code_Reader_End.f kj19 t625 t626 t627).bind fun bt629 => (if bt629.1 = 0 then ((barquelaw01_awake.f kj19).bind fun t633 => (some t633)) else (some false))) else (some false)) = some r := H
                                have A43 := Aside0.mk A430
                                clear A430
                                by_cases c44 : t628 = true
                                · subst c44
                                  have H1 : ((code_Reader_End.f kj19 t625 t626 t627).bind fun bt629 => (if bt629.1 = 0 then ((barquelaw01_awake.f kj19).bind fun t633 => (some t633)) else (some false))) = some r := by rw [if_pos rfl] at H; exact H
                                  clear H
                                  have H := H1
                                  clear H1
                                  replace H := Option.bind_eq_some_iff.mp H
                                  obtain ⟨⟨t629, t630, t631, t632⟩, A450, H⟩ := H
                                  replace H : (if t629 = 0 then ((barquelaw01_awake.f kj19).bind fun t633 => (some t633)) else (some false)) = some r := H
                                  have A45 := Aside0.mk A450
                                  clear A450
                                  by_cases c46 : t629 = 0
                                  · rw [if_pos c46] at H
                                    have c46b0 : (t629 == 0) = true := beq_iff_eq.mpr c46
                                    have c46b1 : (t629 != 0) = false := bne_eq_false_iff_eq.mpr c46
                                    clear c46
                                    replace H := Option.bind_eq_some_iff.mp H
                                    obtain ⟨t633, A470, H⟩ := H
                                    replace H : (some t633) = some r := H
                                    have A47 := Aside0.mk A470
                                    clear A470
                                    obtain rfl := Option.some.inj H
                                    go_wp2_with (first | ((with_reducible refine gate_callee (f := 26) rfl ?_); refine goesL_ (some 88) rfl rfl Try.func26 (by kernel_rfl) rfl #[.string (((t594 ++ t596) ++ t598) ++ t600)] rfl (by (try simp only [List.map_toArray, List.map_cons, List.map_nil]); first | done | rfl | (simp only [List.length_drop, List.length_take]; rfl)) ?_; (with_reducible refine (code_Read.calls (((t594 ++ t596) ++ t598) ++ t600) t603 t604 t605 w _ ?side1 A34.out).mono ?_); (case side1 => repeat (first | (with_reducible first | exact HB.out | apply below_alloc | apply pw_below_drewN | apply below_drew1) | exact HB.out)); rintro e w48 ⟨g606, rfl, hi, hb, hb2⟩; refine ⟨_, rfl, ?_⟩; have n0_ := Aside0.mk (hb); have n1_ := Aside0.mk (hi); clear HB; have HB := n0_; have HI606 := n1_; clear n0_ n1_; (try clear hb); (try clear hb2); (try clear hk); (try clear hi)) | ((with_reducible refine gate_callee (f := 35) rfl ?_); refine goesL_ (some 90) rfl rfl Try.func35 (by kernel_rfl) rfl #[.pointer (some ⟨g606, 0, none⟩)] rfl (by (try simp only [List.map_toArray, List.map_cons, List.map_nil]); first | done | rfl | (simp only [List.length_drop, List.length_take]; rfl)) ?_; (with_reducible refine (code_Reader_Num.calls kj19 g606 t603 t604 t605 t607 t608 t609 t610 w _ ?side1 ?side2 A35.out).mono ?_); (case side1 => repeat (first | (with_reducible first | exact HI606.out | apply IsS59.alloc | apply IsS59.drewN | apply IsS59.drew | apply IsS59.set_0 | apply IsS59.set_1 | apply IsS59.set_2) | exact HI606.out)); (case side2 => repeat (first | (with_reducible first | exact HB.out | apply below_alloc | apply pw_below_drewN | apply below_drew1 | refine below_set ?_ (IsS59.ge HI606.out)) | exact HB.out)); rintro e w49 ⟨rfl, hi, hb, hk⟩; refine ⟨_, rfl, ?_⟩; have n0_ := Aside0.mk (hb); have n1_ := Aside0.mk (hi); clear HB; clear HI606; have HB := n0_; have HI606 := n1_; clear n0_ n1_; (try clear hb); (try clear hb2); (try clear hk); (try clear hi)) | (go_at_call 31; (with_reducible refine (code_Reader_Text.calls kj19 g606 t608 t609 t610 500 t611 t612 t613 t614 w _ ?side1 ?side2 A37.out).mono ?_); (case side1 => repeat (first | (with_reducible first | exact HI606.out | apply IsS59.alloc | apply IsS59.drewN | apply IsS59.drew | apply IsS59.set_0 | apply IsS59.set_1 | apply IsS59.set_2) | exact HI606.out)); (case side2 => repeat (first | (with_reducible first | exact HB.out | apply below_alloc | apply pw_below_drewN | apply below_drew1 | refine below_set ?_ (IsS59.ge HI606.out)) | exact HB.out)); rintro e w50 ⟨rfl, hi, hb, hk⟩; have n0_ := Aside0.mk (hb); have n1_ := Aside0.mk (hi); clear HB; clear HI606; have HB := n0_; have HI606 := n1_; clear n0_ n1_; (try clear hb); (try clear hb2); (try clear hk); (try clear hi)) | (go_at_call 37; (with_reducible refine (code_Reader_Nums.calls kj19 g606 t612 t613 t614 500 t615 t618 t619 t620 w _ ?side1 ?side2 A39.out).mono ?_); (case side1 => repeat (first | (with_reducible first | exact HI606.out | apply IsS59.alloc | apply IsS59.drewN | apply IsS59.drew | apply IsS59.set_0 | apply IsS59.set_1 | apply IsS59.set_2) | exact HI606.out)); (case side2 => repeat (first | (with_reducible first | exact HB.out | apply below_alloc | apply pw_below_drewN | apply below_drew1 | refine below_set ?_ (IsS59.ge HI606.out)) | exact HB.out)); rintro e w51 ⟨v616, rfl, ho0, hi, hb, hk⟩; have n0_ := Aside0.mk (Kd.R_lower ho0 (below_size (by repeat (first | (with_reducible first | exact HB.out | apply below_alloc | apply pw_below_drewN | apply below_drew1 | refine below_set ?_ (IsS59.ge HI606.out)) | exact HB.out)))); have n1_ := Aside0.mk (hb); have n2_ := Aside0.mk (hi); clear HB; clear HI606; have HO617 := n0_; have HB := n1_; have HI606 := n2_; clear n0_ n1_ n2_; (try clear hb); (try clear hb2); (try clear hk); (try clear hi); (try clear ho0); obtain ⟨Ao52, co52, eo52⟩ := Kd.R_slice HO617.out; subst eo52) | (go_at_call 49; (with_reducible refine (barquelaw01_ints.calls kj19 _ _ t615 _ _ l2 true _ ?side1 ?side2 ?side3 ?side4 A40.out).mono ?_); (case side1 => repeat (first | exact (Kd.R_reads' HO617.out).2.2 | (with_reducible refine Kd.C_alloc ?_ _) | (with_reducible refine Kd.C_drewN ?_ _) | (with_reducible refine Kd.C_drew ?_))); (case side2 => exact (Kd.R_reads' HO617.out).2.1); (case side3 => repeat (first | exact (Kd.C_below HR2.out HB.out) | (with_reducible refine Kd.C_alloc ?_ _) | (with_reducible refine Kd.C_drewN ?_ _) | (with_reducible refine Kd.C_drew ?_))); (case side4 => exact HC2.out); rintro e w' ⟨rfl, ⟨nd, rfl⟩⟩) | (go_at_call 48; (with_reducible refine (code_Reader_Texts.calls kj19 g606 t618 t619 t620 500 500 t622 t625 t626 t627 w _ ?side1 ?side2 A42.out).mono ?_); (case side1 => repeat (first | (with_reducible first | exact HI606.out | apply IsS59.alloc | apply IsS59.drewN | apply IsS59.drew | apply IsS59.set_0 | apply IsS59.set_1 | apply IsS59.set_2) | exact HI606.out)); (case side2 => repeat (first | (with_reducible first | exact HB.out | apply below_alloc | apply pw_below_drewN | apply below_drew1 | refine below_set ?_ (IsS59.ge HI606.out)) | exact HB.out)); rintro e w53 ⟨v623, rfl, ho0, hi, hb, hk⟩; have n0_ := Aside0.mk (Kd.R_mono (Kd.R_keep (IsS59.apart (show IsS59 w _ g606 t618 t619 t620 from by repeat (first | (with_reducible first | exact HI606.out | apply IsS59.alloc | apply IsS59.drewN | apply IsS59.drew | apply IsS59.set_0 | apply IsS59.set_1 | apply IsS59.set_2) | exact HI606.out)) (by (with_reducible repeat (first | apply Kd.R_alloc | apply Kd.R_drewN | apply Kd.R_drew)); exact HO617.out) (by decide)) hk (fun _ h => h.2)) (fun _ h => h.1)); have n1_ := Aside0.mk (Kd.R_lower ho0 (below_size (by repeat (first | (with_reducible first | exact HB.out | apply below_alloc | apply pw_below_drewN | apply below_drew1 | refine below_set ?_ (IsS59.ge HI606.out)) | exact HB.out)))); have n2_ := Aside0.mk (hb); have n3_ := Aside0.mk (hi); clear HO617; clear HB; clear HI606; have HO617 := n0_; have HO624 := n1_; have HB := n2_; have HI606 := n3_; clear n0_ n1_ n2_ n3_; (try clear hb); (try clear hb2); (try clear hk); (try clear hi); (try clear ho0); obtain ⟨Ao54, co54, eo54⟩ := Kd.R_slice HO624.out; subst eo54) | (go_at_call 50; (with_reducible refine (barquelaw01_texts.calls kj19 _ _ t622 _ _ l3 true _ ?side1 ?side2 ?side3 ?side4 A43.out).mono ?_); (case side1 => repeat (first | exact (Kd.R_reads' HO624.out).2.2 | (with_reducible refine Kd.C_alloc ?_ _) | (with_reducible refine Kd.C_drewN ?_ _) | (with_reducible refine Kd.C_drew ?_))); (case side2 => exact (Kd.R_reads' HO624.out).2.1); (case side3 => repeat (first | exact (Kd.C_below HR3.out HB.out) | (with_reducible refine Kd.C_alloc ?_ _) | (with_reducible refine Kd.C_drewN ?_ _) | (with_reducible refine Kd.C_drew ?_))); (case side4 => exact HC3.out); rintro e w' ⟨rfl, ⟨nd, rfl⟩⟩) | (go_at_call 28; (with_reducible refine (code_Reader_End.calls kj19 g606 t625 t626 t627 t629 t630 t631 t632 w _ ?side1 ?side2 A45.out).mono ?_); (case side1 => repeat (first | (with_reducible first | exact HI606.out | apply IsS59.alloc | apply IsS59.drewN | apply IsS59.drew | apply IsS59.set_0 | apply IsS59.set_1 | apply IsS59.set_2) | exact HI606.out)); (case side2 => repeat (first | (with_reducible first | exact HB.out | apply below_alloc | apply pw_below_drewN | apply below_drew1 | refine below_set ?_ (IsS59.ge HI606.out)) | exact HB.out)); rintro e w55 ⟨rfl, hi, hb, hk⟩; have n0_ := Aside0.mk (Kd.R_mono (Kd.R_keep (IsS59.apart (show IsS59 w _ g606 t625 t626 t627 from by repeat (first | (with_reducible first | exact HI606.out | apply IsS59.alloc | apply IsS59.drewN | apply IsS59.drew | apply IsS59.set_0 | apply IsS59.set_1 | apply IsS59.set_2) | exact HI606.out)) (by (with_reducible repeat (first | apply Kd.R_alloc | apply Kd.R_drewN | apply Kd.R_drew)); exact HO617.out) (by decide)) hk (fun _ h => h.2)) (fun _ h => h.1)); have n1_ := Aside0.mk (Kd.R_mono (Kd.R_keep (IsS59.apart (show IsS59 w _ g606 t625 t626 t627 from by repeat (first | (with_reducible first | exact HI606.out | apply IsS59.alloc | apply IsS59.drewN | apply IsS59.drew | apply IsS59.set_0 | apply IsS59.set_1 | apply IsS59.set_2) | exact HI606.out)) (by (with_reducible repeat (first | apply Kd.R_alloc | apply Kd.R_drewN | apply Kd.R_drew)); exact HO624.out) (by decide)) hk (fun _ h => h.2)) (fun _ h => h.1)); have n2_ := Aside0.mk (hb); have n3_ := Aside0.mk (hi); clear HO617; clear HO624; clear HB; clear HI606; have HO617 := n0_; have HO624 := n1_; have HB := n2_; have HI606 := n3_; clear n0_ n1_ n2_ n3_; (try clear hb); (try clear hb2); (try clear hk); (try clear hi)) | (go_at_call 23; (with_reducible refine (barquelaw01_awake.calls kj19  t633 _ A47.out).mono ?_); rintro e w56 ⟨rfl, hb⟩; have n0_ := Aside0.mk (Kd.R_below (by (with_reducible repeat (first | apply Kd.R_alloc | apply Kd.R_drewN | apply Kd.R_drew)); exact HO617.out) hb); have n1_ := Aside0.mk (Kd.R_below (by (with_reducible repeat (first | apply Kd.R_alloc | apply Kd.R_drewN | apply Kd.R_drew)); exact HO624.out) hb); have n2_ := Aside0.mk (IsS59.below (by repeat (first | (with_reducible first | exact HI606.out | apply IsS59.alloc | apply IsS59.drewN | apply IsS59.drew | apply IsS59.set_0 | apply IsS59.set_1 | apply IsS59.set_2) | exact HI606.out)) hb); have n3_ := Aside0.mk (below_step (by repeat (first | (with_reducible first | exact HB.out | apply below_alloc | apply pw_below_drewN | apply below_drew1 | refine below_set ?_ (IsS59.ge HI606.out)) | exact HB.out)) hb); clear HO617; clear HO624; clear HI606; clear HB; have HO617 := n0_; have HO624 := n1_; have HI606 := n2_; have HB := n3_; clear n0_ n1_ n2_ n3_; (try clear hb); (try clear hb2); (try clear hk); (try clear hi)))
                                    go_ret
                                    exact ⟨by first | rfl | (simp [errW_none, errW_some] <;> rfl) | (simp [*, errW_none, errW_some] <;> rfl), by repeat (first | (with_reducible first | exact HB.out | apply below_alloc | apply pw_below_drewN | apply below_drew1 | refine below_set ?_ (IsS59.ge HI606.out)) | exact HB.out)⟩
                                  · rw [if_neg c46] at H
                                    have c46b0 : (t629 == 0) = false := beq_eq_false_iff_ne.mpr c46
                                    have c46b1 : (t629 != 0) = true := bne_iff_ne.mpr c46
                                    obtain rfl := Option.some.inj H
                                    go_wp2_with (first | ((with_reducible refine gate_callee (f := 26) rfl ?_); refine goesL_ (some 88) rfl rfl Try.func26 (by kernel_rfl) rfl #[.string (((t594 ++ t596) ++ t598) ++ t600)] rfl (by (try simp only [List.map_toArray, List.map_cons, List.map_nil]); first | done | rfl | (simp only [List.length_drop, List.length_take]; rfl)) ?_; (with_reducible refine (code_Read.calls (((t594 ++ t596) ++ t598) ++ t600) t603 t604 t605 w _ ?side1 A34.out).mono ?_); (case side1 => repeat (first | (with_reducible first | exact HB.out | apply below_alloc | apply pw_below_drewN | apply below_drew1) | exact HB.out)); rintro e w57 ⟨g606, rfl, hi, hb, hb2⟩; refine ⟨_, rfl, ?_⟩; have n0_ := Aside0.mk (hb); have n1_ := Aside0.mk (hi); clear HB; have HB := n0_; have HI606 := n1_; clear n0_ n1_; (try clear hb); (try clear hb2); (try clear hk); (try clear hi)) | ((with_reducible refine gate_callee (f := 35) rfl ?_); refine goesL_ (some 90) rfl rfl Try.func35 (by kernel_rfl) rfl #[.pointer (some ⟨g606, 0, none⟩)] rfl (by (try simp only [List.map_toArray, List.map_cons, List.map_nil]); first | done | rfl | (simp only [List.length_drop, List.length_take]; rfl)) ?_; (with_reducible refine (code_Reader_Num.calls kj19 g606 t603 t604 t605 t607 t608 t609 t610 w _ ?side1 ?side2 A35.out).mono ?_); (case side1 => repeat (first | (with_reducible first | exact HI606.out | apply IsS59.alloc | apply IsS59.drewN | apply IsS59.drew | apply IsS59.set_0 | apply IsS59.set_1 | apply IsS59.set_2) | exact HI606.out)); (case side2 => repeat (first | (with_reducible first | exact HB.out | apply below_alloc | apply pw_below_drewN | apply below_drew1 | refine below_set ?_ (IsS59.ge HI606.out)) | exact HB.out)); rintro e w58 ⟨rfl, hi, hb, hk⟩; refine ⟨_, rfl, ?_⟩; have n0_ := Aside0.mk (hb); have n1_ := Aside0.mk (hi); clear HB; clear HI606; have HB := n0_; have HI606 := n1_; clear n0_ n1_; (try clear hb); (try clear hb2); (try clear hk); (try clear hi)) | (go_at_call 31; (with_reducible refine (code_Reader_Text.calls kj19 g606 t608 t609 t610 500 t611 t612 t613 t614 w _ ?side1 ?side2 A37.out).mono ?_); (case side1 => repeat (first | (with_reducible first | exact HI606.out | apply IsS59.alloc | apply IsS59.drewN | apply IsS59.drew | apply IsS59.set_0 | apply IsS59.set_1 | apply IsS59.set_2) | exact HI606.out)); (case side2 => repeat (first | (with_reducible first | exact HB.out | apply below_alloc | apply pw_below_drewN | apply below_drew1 | refine below_set ?_ (IsS59.ge HI606.out)) | exact HB.out)); rintro e w59 ⟨rfl, hi, hb, hk⟩; have n0_ := Aside0.mk (hb); have n1_ := Aside0.mk (hi); clear HB; clear HI606; have HB := n0_; have HI606 := n1_; clear n0_ n1_; (try clear hb); (try clear hb2); (try clear hk); (try clear hi)) | (go_at_call 37; (with_reducible refine (code_Reader_Nums.calls kj19 g606 t612 t613 t614 500 t615 t618 t619 t620 w _ ?side1 ?side2 A39.out).mono ?_); (case side1 => repeat (first | (with_reducible first | exact HI606.out | apply IsS59.alloc | apply IsS59.drewN | apply IsS59.drew | apply IsS59.set_0 | apply IsS59.set_1 | apply IsS59.set_2) | exact HI606.out)); (case side2 => repeat (first | (with_reducible first | exact HB.out | apply below_alloc | apply pw_below_drewN | apply below_drew1 | refine below_set ?_ (IsS59.ge HI606.out)) | exact HB.out)); rintro e w60 ⟨v616, rfl, ho0, hi, hb, hk⟩; have n0_ := Aside0.mk (Kd.R_lower ho0 (below_size (by repeat (first | (with_reducible first | exact HB.out | apply below_alloc | apply pw_below_drewN | apply below_drew1 | refine below_set ?_ (IsS59.ge HI606.out)) | exact HB.out)))); have n1_ := Aside0.mk (hb); have n2_ := Aside0.mk (hi); clear HB; clear HI606; have HO617 := n0_; have HB := n1_; have HI606 := n2_; clear n0_ n1_ n2_; (try clear hb); (try clear hb2); (try clear hk); (try clear hi); (try clear ho0); obtain ⟨Ao61, co61, eo61⟩ := Kd.R_slice HO617.out; subst eo61) | (go_at_call 49; (with_reducible refine (barquelaw01_ints.calls kj19 _ _ t615 _ _ l2 true _ ?side1 ?side2 ?side3 ?side4 A40.out).mono ?_); (case side1 => repeat (first | exact (Kd.R_reads' HO617.out).2.2 | (with_reducible refine Kd.C_alloc ?_ _) | (with_reducible refine Kd.C_drewN ?_ _) | (with_reducible refine Kd.C_drew ?_))); (case side2 => exact (Kd.R_reads' HO617.out).2.1); (case side3 => repeat (first | exact (Kd.C_below HR2.out HB.out) | (with_reducible refine Kd.C_alloc ?_ _) | (with_reducible refine Kd.C_drewN ?_ _) | (with_reducible refine Kd.C_drew ?_))); (case side4 => exact HC2.out); rintro e w' ⟨rfl, ⟨nd, rfl⟩⟩) | (go_at_call 48; (with_reducible refine (code_Reader_Texts.calls kj19 g606 t618 t619 t620 500 500 t622 t625 t626 t627 w _ ?side1 ?side2 A42.out).mono ?_); (case side1 => repeat (first | (with_reducible first | exact HI606.out | apply IsS59.alloc | apply IsS59.drewN | apply IsS59.drew | apply IsS59.set_0 | apply IsS59.set_1 | apply IsS59.set_2) | exact HI606.out)); (case side2 => repeat (first | (with_reducible first | exact HB.out | apply below_alloc | apply pw_below_drewN | apply below_drew1 | refine below_set ?_ (IsS59.ge HI606.out)) | exact HB.out)); rintro e w62 ⟨v623, rfl, ho0, hi, hb, hk⟩; have n0_ := Aside0.mk (Kd.R_mono (Kd.R_keep (IsS59.apart (show IsS59 w _ g606 t618 t619 t620 from by repeat (first | (with_reducible first | exact HI606.out | apply IsS59.alloc | apply IsS59.drewN | apply IsS59.drew | apply IsS59.set_0 | apply IsS59.set_1 | apply IsS59.set_2) | exact HI606.out)) (by (with_reducible repeat (first | apply Kd.R_alloc | apply Kd.R_drewN | apply Kd.R_drew)); exact HO617.out) (by decide)) hk (fun _ h => h.2)) (fun _ h => h.1)); have n1_ := Aside0.mk (Kd.R_lower ho0 (below_size (by repeat (first | (with_reducible first | exact HB.out | apply below_alloc | apply pw_below_drewN | apply below_drew1 | refine below_set ?_ (IsS59.ge HI606.out)) | exact HB.out)))); have n2_ := Aside0.mk (hb); have n3_ := Aside0.mk (hi); clear HO617; clear HB; clear HI606; have HO617 := n0_; have HO624 := n1_; have HB := n2_; have HI606 := n3_; clear n0_ n1_ n2_ n3_; (try clear hb); (try clear hb2); (try clear hk); (try clear hi); (try clear ho0); obtain ⟨Ao63, co63, eo63⟩ := Kd.R_slice HO624.out; subst eo63) | (go_at_call 50; (with_reducible refine (barquelaw01_texts.calls kj19 _ _ t622 _ _ l3 true _ ?side1 ?side2 ?side3 ?side4 A43.out).mono ?_); (case side1 => repeat (first | exact (Kd.R_reads' HO624.out).2.2 | (with_reducible refine Kd.C_alloc ?_ _) | (with_reducible refine Kd.C_drewN ?_ _) | (with_reducible refine Kd.C_drew ?_))); (case side2 => exact (Kd.R_reads' HO624.out).2.1); (case side3 => repeat (first | exact (Kd.C_below HR3.out HB.out) | (with_reducible refine Kd.C_alloc ?_ _) | (with_reducible refine Kd.C_drewN ?_ _) | (with_reducible refine Kd.C_drew ?_))); (case side4 => exact HC3.out); rintro e w' ⟨rfl, ⟨nd, rfl⟩⟩) | (go_at_call 28; (with_reducible refine (code_Reader_End.calls kj19 g606 t625 t626 t627 t629 t630 t631 t632 w _ ?side1 ?side2 A45.out).mono ?_); (case side1 => repeat (first | (with_reducible first | exact HI606.out | apply IsS59.alloc | apply IsS59.drewN | apply IsS59.drew | apply IsS59.set_0 | apply IsS59.set_1 | apply IsS59.set_2) | exact HI606.out)); (case side2 => repeat (first | (with_reducible first | exact HB.out | apply below_alloc | apply pw_below_drewN | apply below_drew1 | refine below_set ?_ (IsS59.ge HI606.out)) | exact HB.out)); rintro e w64 ⟨rfl, hi, hb, hk⟩; have n0_ := Aside0.mk (Kd.R_mono (Kd.R_keep (IsS59.apart (show IsS59 w _ g606 t625 t626 t627 from by repeat (first | (with_reducible first | exact HI606.out | apply IsS59.alloc | apply IsS59.drewN | apply IsS59.drew | apply IsS59.set_0 | apply IsS59.set_1 | apply IsS59.set_2) | exact HI606.out)) (by (with_reducible repeat (first | apply Kd.R_alloc | apply Kd.R_drewN | apply Kd.R_drew)); exact HO617.out) (by decide)) hk (fun _ h => h.2)) (fun _ h => h.1)); have n1_ := Aside0.mk (Kd.R_mono (Kd.R_keep (IsS59.apart (show IsS59 w _ g606 t625 t626 t627 from by repeat (first | (with_reducible first | exact HI606.out | apply IsS59.alloc | apply IsS59.drewN | apply IsS59.drew | apply IsS59.set_0 | apply IsS59.set_1 | apply IsS59.set_2) | exact HI606.out)) (by (with_reducible repeat (first | apply Kd.R_alloc | apply Kd.R_drewN | apply Kd.R_drew)); exact HO624.out) (by decide)) hk (fun _ h => h.2)) (fun _ h => h.1)); have n2_ := Aside0.mk (hb); have n3_ := Aside0.mk (hi); clear HO617; clear HO624; clear HB; clear HI606; have HO617 := n0_; have HO624 := n1_; have HB := n2_; have HI606 := n3_; clear n0_ n1_ n2_ n3_; (try clear hb); (try clear hb2); (try clear hk); (try clear hi)))
                                    go_ret
                                    exact ⟨by first | rfl | (simp [errW_none, errW_some] <;> rfl) | (simp [*, errW_none, errW_some] <;> rfl), by repeat (first | (with_reducible first | exact HB.out | apply below_alloc | apply pw_below_drewN | apply below_drew1 | refine below_set ?_ (IsS59.ge HI606.out)) | exact HB.out)⟩
                                · replace c44 := Bool.eq_false_iff.mpr c44
                                  subst c44
                                  have H1 : (some false) = some r := by rw [if_neg (show ¬ (false = true) by decide)] at H; exact H
                                  clear H
                                  have H := H1
                                  clear H1
                                  obtain rfl := Option.some.inj H
                                  go_wp2_with (first | ((with_reducible refine gate_callee (f := 26) rfl ?_); refine goesL_ (some 88) rfl rfl Try.func26 (by kernel_rfl) rfl #[.string (((t594 ++ t596) ++ t598) ++ t600)] rfl (by (try simp only [List.map_toArray, List.map_cons, List.map_nil]); first | done | rfl | (simp only [List.length_drop, List.length_take]; rfl)) ?_; (with_reducible refine (code_Read.calls (((t594 ++ t596) ++ t598) ++ t600) t603 t604 t605 w _ ?side1 A34.out).mono ?_); (case side1 => repeat (first | (with_reducible first | exact HB.out | apply below_alloc | apply pw_below_drewN | apply below_drew1) | exact HB.out)); rintro e w65 ⟨g606, rfl, hi, hb, hb2⟩; refine ⟨_, rfl, ?_⟩; have n0_ := Aside0.mk (hb); have n1_ := Aside0.mk (hi); clear HB; have HB := n0_; have HI606 := n1_; clear n0_ n1_; (try clear hb); (try clear hb2); (try clear hk); (try clear hi)) | ((with_reducible refine gate_callee (f := 35) rfl ?_); refine goesL_ (some 90) rfl rfl Try.func35 (by kernel_rfl) rfl #[.pointer (some ⟨g606, 0, none⟩)] rfl (by (try simp only [List.map_toArray, List.map_cons, List.map_nil]); first | done | rfl | (simp only [List.length_drop, List.length_take]; rfl)) ?_; (with_reducible refine (code_Reader_Num.calls kj19 g606 t603 t604 t605 t607 t608 t609 t610 w _ ?side1 ?side2 A35.out).mono ?_); (case side1 => repeat (first | (with_reducible first | exact HI606.out | apply IsS59.alloc | apply IsS59.drewN | apply IsS59.drew | apply IsS59.set_0 | apply IsS59.set_1 | apply IsS59.set_2) | exact HI606.out)); (case side2 => repeat (first | (with_reducible first | exact HB.out | apply below_alloc | apply pw_below_drewN | apply below_drew1 | refine below_set ?_ (IsS59.ge HI606.out)) | exact HB.out)); rintro e w66 ⟨rfl, hi, hb, hk⟩; refine ⟨_, rfl, ?_⟩; have n0_ := Aside0.mk (hb); have n1_ := Aside0.mk (hi); clear HB; clear HI606; have HB := n0_; have HI606 := n1_; clear n0_ n1_; (try clear hb); (try clear hb2); (try clear hk); (try clear hi)) | (go_at_call 31; (with_reducible refine (code_Reader_Text.calls kj19 g606 t608 t609 t610 500 t611 t612 t613 t614 w _ ?side1 ?side2 A37.out).mono ?_); (case side1 => repeat (first | (with_reducible first | exact HI606.out | apply IsS59.alloc | apply IsS59.drewN | apply IsS59.drew | apply IsS59.set_0 | apply IsS59.set_1 | apply IsS59.set_2) | exact HI606.out)); (case side2 => repeat (first | (with_reducible first | exact HB.out | apply below_alloc | apply pw_below_drewN | apply below_drew1 | refine below_set ?_ (IsS59.ge HI606.out)) | exact HB.out)); rintro e w67 ⟨rfl, hi, hb, hk⟩; have n0_ := Aside0.mk (hb); have n1_ := Aside0.mk (hi); clear HB; clear HI606; have HB := n0_; have HI606 := n1_; clear n0_ n1_; (try clear hb); (try clear hb2); (try clear hk); (try clear hi)) | (go_at_call 37; (with_reducible refine (code_Reader_Nums.calls kj19 g606 t612 t613 t614 500 t615 t618 t619 t620 w _ ?side1 ?side2 A39.out).mono ?_); (case side1 => repeat (first | (with_reducible first | exact HI606.out | apply IsS59.alloc | apply IsS59.drewN | apply IsS59.drew | apply IsS59.set_0 | apply IsS59.set_1 | apply IsS59.set_2) | exact HI606.out)); (case side2 => repeat (first | (with_reducible first | exact HB.out | apply below_alloc | apply pw_below_drewN | apply below_drew1 | refine below_set ?_ (IsS59.ge HI606.out)) | exact HB.out)); rintro e w68 ⟨v616, rfl, ho0, hi, hb, hk⟩; have n0_ := Aside0.mk (Kd.R_lower ho0 (below_size (by repeat (first | (with_reducible first | exact HB.out | apply below_alloc | apply pw_below_drewN | apply below_drew1 | refine below_set ?_ (IsS59.ge HI606.out)) | exact HB.out)))); have n1_ := Aside0.mk (hb); have n2_ := Aside0.mk (hi); clear HB; clear HI606; have HO617 := n0_; have HB := n1_; have HI606 := n2_; clear n0_ n1_ n2_; (try clear hb); (try clear hb2); (try clear hk); (try clear hi); (try clear ho0); obtain ⟨Ao69, co69, eo69⟩ := Kd.R_slice HO617.out; subst eo69) | (go_at_call 49; (with_reducible refine (barquelaw01_ints.calls kj19 _ _ t615 _ _ l2 true _ ?side1 ?side2 ?side3 ?side4 A40.out).mono ?_); (case side1 => repeat (first | exact (Kd.R_reads' HO617.out).2.2 | (with_reducible refine Kd.C_alloc ?_ _) | (with_reducible refine Kd.C_drewN ?_ _) | (with_reducible refine Kd.C_drew ?_))); (case side2 => exact (Kd.R_reads' HO617.out).2.1); (case side3 => repeat (first | exact (Kd.C_below HR2.out HB.out) | (with_reducible refine Kd.C_alloc ?_ _) | (with_reducible refine Kd.C_drewN ?_ _) | (with_reducible refine Kd.C_drew ?_))); (case side4 => exact HC2.out); rintro e w' ⟨rfl, ⟨nd, rfl⟩⟩) | (go_at_call 48; (with_reducible refine (code_Reader_Texts.calls kj19 g606 t618 t619 t620 500 500 t622 t625 t626 t627 w _ ?side1 ?side2 A42.out).mono ?_); (case side1 => repeat (first | (with_reducible first | exact HI606.out | apply IsS59.alloc | apply IsS59.drewN | apply IsS59.drew | apply IsS59.set_0 | apply IsS59.set_1 | apply IsS59.set_2) | exact HI606.out)); (case side2 => repeat (first | (with_reducible first | exact HB.out | apply below_alloc | apply pw_below_drewN | apply below_drew1 | refine below_set ?_ (IsS59.ge HI606.out)) | exact HB.out)); rintro e w70 ⟨v623, rfl, ho0, hi, hb, hk⟩; have n0_ := Aside0.mk (Kd.R_mono (Kd.R_keep (IsS59.apart (show IsS59 w _ g606 t618 t619 t620 from by repeat (first | (with_reducible first | exact HI606.out | apply IsS59.alloc | apply IsS59.drewN | apply IsS59.drew | apply IsS59.set_0 | apply IsS59.set_1 | apply IsS59.set_2) | exact HI606.out)) (by (with_reducible repeat (first | apply Kd.R_alloc | apply Kd.R_drewN | apply Kd.R_drew)); exact HO617.out) (by decide)) hk (fun _ h => h.2)) (fun _ h => h.1)); have n1_ := Aside0.mk (Kd.R_lower ho0 (below_size (by repeat (first | (with_reducible first | exact HB.out | apply below_alloc | apply pw_below_drewN | apply below_drew1 | refine below_set ?_ (IsS59.ge HI606.out)) | exact HB.out)))); have n2_ := Aside0.mk (hb); have n3_ := Aside0.mk (hi); clear HO617; clear HB; clear HI606; have HO617 := n0_; have HO624 := n1_; have HB := n2_; have HI606 := n3_; clear n0_ n1_ n2_ n3_; (try clear hb); (try clear hb2); (try clear hk); (try clear hi); (try clear ho0); obtain ⟨Ao71, co71, eo71⟩ := Kd.R_slice HO624.out; subst eo71) | (go_at_call 50; (with_reducible refine (barquelaw01_texts.calls kj19 _ _ t622 _ _ l3 false _ ?side1 ?side2 ?side3 ?side4 A43.out).mono ?_); (case side1 => repeat (first | exact (Kd.R_reads' HO624.out).2.2 | (with_reducible refine Kd.C_alloc ?_ _) | (with_reducible refine Kd.C_drewN ?_ _) | (with_reducible refine Kd.C_drew ?_))); (case side2 => exact (Kd.R_reads' HO624.out).2.1); (case side3 => repeat (first | exact (Kd.C_below HR3.out HB.out) | (with_reducible refine Kd.C_alloc ?_ _) | (with_reducible refine Kd.C_drewN ?_ _) | (with_reducible refine Kd.C_drew ?_))); (case side4 => exact HC3.out); rintro e w' ⟨rfl, ⟨nd, rfl⟩⟩))
                                  go_ret
                                  exact ⟨by first | rfl | (simp [errW_none, errW_some] <;> rfl) | (simp [*, errW_none, errW_some] <;> rfl), by repeat (first | (with_reducible first | exact HB.out | apply below_alloc | apply pw_below_drewN | apply below_drew1 | refine below_set ?_ (IsS59.ge HI606.out)) | exact HB.out)⟩
                              · replace c41 := Bool.eq_false_iff.mpr c41
                                subst c41
                                have H1 : (some false) = some r := by rw [if_neg (show ¬ (false = true) by decide)] at H; exact H
                                clear H
                                have H := H1
                                clear H1
                                obtain rfl := Option.some.inj H
                                go_wp2_with (first | ((with_reducible refine gate_callee (f := 26) rfl ?_); refine goesL_ (some 88) rfl rfl Try.func26 (by kernel_rfl) rfl #[.string (((t594 ++ t596) ++ t598) ++ t600)] rfl (by (try simp only [List.map_toArray, List.map_cons, List.map_nil]); first | done | rfl | (simp only [List.length_drop, List.length_take]; rfl)) ?_; (with_reducible refine (code_Read.calls (((t594 ++ t596) ++ t598) ++ t600) t603 t604 t605 w _ ?side1 A34.out).mono ?_); (case side1 => repeat (first | (with_reducible first | exact HB.out | apply below_alloc | apply pw_below_drewN | apply below_drew1) | exact HB.out)); rintro e w72 ⟨g606, rfl, hi, hb, hb2⟩; refine ⟨_, rfl, ?_⟩; have n0_ := Aside0.mk (hb); have n1_ := Aside0.mk (hi); clear HB; have HB := n0_; have HI606 := n1_; clear n0_ n1_; (try clear hb); (try clear hb2); (try clear hk); (try clear hi)) | ((with_reducible refine gate_callee (f := 35) rfl ?_); refine goesL_ (some 90) rfl rfl Try.func35 (by kernel_rfl) rfl #[.pointer (some ⟨g606, 0, none⟩)] rfl (by (try simp only [List.map_toArray, List.map_cons, List.map_nil]); first | done | rfl | (simp only [List.length_drop, List.length_take]; rfl)) ?_; (with_reducible refine (code_Reader_Num.calls kj19 g606 t603 t604 t605 t607 t608 t609 t610 w _ ?side1 ?side2 A35.out).mono ?_); (case side1 => repeat (first | (with_reducible first | exact HI606.out | apply IsS59.alloc | apply IsS59.drewN | apply IsS59.drew | apply IsS59.set_0 | apply IsS59.set_1 | apply IsS59.set_2) | exact HI606.out)); (case side2 => repeat (first | (with_reducible first | exact HB.out | apply below_alloc | apply pw_below_drewN | apply below_drew1 | refine below_set ?_ (IsS59.ge HI606.out)) | exact HB.out)); rintro e w73 ⟨rfl, hi, hb, hk⟩; refine ⟨_, rfl, ?_⟩; have n0_ := Aside0.mk (hb); have n1_ := Aside0.mk (hi); clear HB; clear HI606; have HB := n0_; have HI606 := n1_; clear n0_ n1_; (try clear hb); (try clear hb2); (try clear hk); (try clear hi)) | (go_at_call 31; (with_reducible refine (code_Reader_Text.calls kj19 g606 t608 t609 t610 500 t611 t612 t613 t614 w _ ?side1 ?side2 A37.out).mono ?_); (case side1 => repeat (first | (with_reducible first | exact HI606.out | apply IsS59.alloc | apply IsS59.drewN | apply IsS59.drew | apply IsS59.set_0 | apply IsS59.set_1 | apply IsS59.set_2) | exact HI606.out)); (case side2 => repeat (first | (with_reducible first | exact HB.out | apply below_alloc | apply pw_below_drewN | apply below_drew1 | refine below_set ?_ (IsS59.ge HI606.out)) | exact HB.out)); rintro e w74 ⟨rfl, hi, hb, hk⟩; have n0_ := Aside0.mk (hb); have n1_ := Aside0.mk (hi); clear HB; clear HI606; have HB := n0_; have HI606 := n1_; clear n0_ n1_; (try clear hb); (try clear hb2); (try clear hk); (try clear hi)) | (go_at_call 37; (with_reducible refine (code_Reader_Nums.calls kj19 g606 t612 t613 t614 500 t615 t618 t619 t620 w _ ?side1 ?side2 A39.out).mono ?_); (case side1 => repeat (first | (with_reducible first | exact HI606.out | apply IsS59.alloc | apply IsS59.drewN | apply IsS59.drew | apply IsS59.set_0 | apply IsS59.set_1 | apply IsS59.set_2) | exact HI606.out)); (case side2 => repeat (first | (with_reducible first | exact HB.out | apply below_alloc | apply pw_below_drewN | apply below_drew1 | refine below_set ?_ (IsS59.ge HI606.out)) | exact HB.out)); rintro e w75 ⟨v616, rfl, ho0, hi, hb, hk⟩; have n0_ := Aside0.mk (Kd.R_lower ho0 (below_size (by repeat (first | (with_reducible first | exact HB.out | apply below_alloc | apply pw_below_drewN | apply below_drew1 | refine below_set ?_ (IsS59.ge HI606.out)) | exact HB.out)))); have n1_ := Aside0.mk (hb); have n2_ := Aside0.mk (hi); clear HB; clear HI606; have HO617 := n0_; have HB := n1_; have HI606 := n2_; clear n0_ n1_ n2_; (try clear hb); (try clear hb2); (try clear hk); (try clear hi); (try clear ho0); obtain ⟨Ao76, co76, eo76⟩ := Kd.R_slice HO617.out; subst eo76) | (go_at_call 49; (with_reducible refine (barquelaw01_ints.calls kj19 _ _ t615 _ _ l2 false _ ?side1 ?side2 ?side3 ?side4 A40.out).mono ?_); (case side1 => repeat (first | exact (Kd.R_reads' HO617.out).2.2 | (with_reducible refine Kd.C_alloc ?_ _) | (with_reducible refine Kd.C_drewN ?_ _) | (with_reducible refine Kd.C_drew ?_))); (case side2 => exact (Kd.R_reads' HO617.out).2.1); (case side3 => repeat (first | exact (Kd.C_below HR2.out HB.out) | (with_reducible refine Kd.C_alloc ?_ _) | (with_reducible refine Kd.C_drewN ?_ _) | (with_reducible refine Kd.C_drew ?_))); (case side4 => exact HC2.out); rintro e w' ⟨rfl, ⟨nd, rfl⟩⟩))
                                go_ret
                                exact ⟨by first | rfl | (simp [errW_none, errW_some] <;> rfl) | (simp [*, errW_none, errW_some] <;> rfl), by repeat (first | (with_reducible first | exact HB.out | apply below_alloc | apply pw_below_drewN | apply below_drew1 | refine below_set ?_ (IsS59.ge HI606.out)) | exact HB.out)⟩
                            · rw [if_neg c38] at H
                              have c38b0 : (t611.toList == a1.toList) = false := beq_eq_false_iff_ne.mpr c38
                              have c38b1 : (t611.toList != a1.toList) = true := bne_iff_ne.mpr c38
                              obtain rfl := Option.some.inj H
                              go_wp2_with (first | ((with_reducible refine gate_callee (f := 26) rfl ?_); refine goesL_ (some 88) rfl rfl Try.func26 (by kernel_rfl) rfl #[.string (((t594 ++ t596) ++ t598) ++ t600)] rfl (by (try simp only [List.map_toArray, List.map_cons, List.map_nil]); first | done | rfl | (simp only [List.length_drop, List.length_take]; rfl)) ?_; (with_reducible refine (code_Read.calls (((t594 ++ t596) ++ t598) ++ t600) t603 t604 t605 w _ ?side1 A34.out).mono ?_); (case side1 => repeat (first | (with_reducible first | exact HB.out | apply below_alloc | apply pw_below_drewN | apply below_drew1) | exact HB.out)); rintro e w77 ⟨g606, rfl, hi, hb, hb2⟩; refine ⟨_, rfl, ?_⟩; have n0_ := Aside0.mk (hb); have n1_ := Aside0.mk (hi); clear HB; have HB := n0_; have HI606 := n1_; clear n0_ n1_; (try clear hb); (try clear hb2); (try clear hk); (try clear hi)) | ((with_reducible refine gate_callee (f := 35) rfl ?_); refine goesL_ (some 90) rfl rfl Try.func35 (by kernel_rfl) rfl #[.pointer (some ⟨g606, 0, none⟩)] rfl (by (try simp only [List.map_toArray, List.map_cons, List.map_nil]); first | done | rfl | (simp only [List.length_drop, List.length_take]; rfl)) ?_; (with_reducible refine (code_Reader_Num.calls kj19 g606 t603 t604 t605 t607 t608 t609 t610 w _ ?side1 ?side2 A35.out).mono ?_); (case side1 => repeat (first | (with_reducible first | exact HI606.out | apply IsS59.alloc | apply IsS59.drewN | apply IsS59.drew | apply IsS59.set_0 | apply IsS59.set_1 | apply IsS59.set_2) | exact HI606.out)); (case side2 => repeat (first | (with_reducible first | exact HB.out | apply below_alloc | apply pw_below_drewN | apply below_drew1 | refine below_set ?_ (IsS59.ge HI606.out)) | exact HB.out)); rintro e w78 ⟨rfl, hi, hb, hk⟩; refine ⟨_, rfl, ?_⟩; have n0_ := Aside0.mk (hb); have n1_ := Aside0.mk (hi); clear HB; clear HI606; have HB := n0_; have HI606 := n1_; clear n0_ n1_; (try clear hb); (try clear hb2); (try clear hk); (try clear hi)) | (go_at_call 31; (with_reducible refine (code_Reader_Text.calls kj19 g606 t608 t609 t610 500 t611 t612 t613 t614 w _ ?side1 ?side2 A37.out).mono ?_); (case side1 => repeat (first | (with_reducible first | exact HI606.out | apply IsS59.alloc | apply IsS59.drewN | apply IsS59.drew | apply IsS59.set_0 | apply IsS59.set_1 | apply IsS59.set_2) | exact HI606.out)); (case side2 => repeat (first | (with_reducible first | exact HB.out | apply below_alloc | apply pw_below_drewN | apply below_drew1 | refine below_set ?_ (IsS59.ge HI606.out)) | exact HB.out)); rintro e w79 ⟨rfl, hi, hb, hk⟩; have n0_ := Aside0.mk (hb); have n1_ := Aside0.mk (hi); clear HB; clear HI606; have HB := n0_; have HI606 := n1_; clear n0_ n1_; (try clear hb); (try clear hb2); (try clear hk); (try clear hi)))
                              go_ret
                              exact ⟨by first | rfl | (simp [errW_none, errW_some] <;> rfl) | (simp [*, errW_none, errW_some] <;> rfl), by repeat (first | (with_reducible first | exact HB.out | apply below_alloc | apply pw_below_drewN | apply below_drew1 | refine below_set ?_ (IsS59.ge HI606.out)) | exact HB.out)⟩
                          · rw [if_neg c36] at H
                            have c36b0 : (t607 == a0) = false := beq_eq_false_iff_ne.mpr c36
                            have c36b1 : (t607 != a0) = true := bne_iff_ne.mpr c36
                            obtain rfl := Option.some.inj H
                            go_wp2_with (first | ((with_reducible refine gate_callee (f := 26) rfl ?_); refine goesL_ (some 88) rfl rfl Try.func26 (by kernel_rfl) rfl #[.string (((t594 ++ t596) ++ t598) ++ t600)] rfl (by (try simp only [List.map_toArray, List.map_cons, List.map_nil]); first | done | rfl | (simp only [List.length_drop, List.length_take]; rfl)) ?_; (with_reducible refine (code_Read.calls (((t594 ++ t596) ++ t598) ++ t600) t603 t604 t605 w _ ?side1 A34.out).mono ?_); (case side1 => repeat (first | (with_reducible first | exact HB.out | apply below_alloc | apply pw_below_drewN | apply below_drew1) | exact HB.out)); rintro e w80 ⟨g606, rfl, hi, hb, hb2⟩; refine ⟨_, rfl, ?_⟩; have n0_ := Aside0.mk (hb); have n1_ := Aside0.mk (hi); clear HB; have HB := n0_; have HI606 := n1_; clear n0_ n1_; (try clear hb); (try clear hb2); (try clear hk); (try clear hi)) | ((with_reducible refine gate_callee (f := 35) rfl ?_); refine goesL_ (some 90) rfl rfl Try.func35 (by kernel_rfl) rfl #[.pointer (some ⟨g606, 0, none⟩)] rfl (by (try simp only [List.map_toArray, List.map_cons, List.map_nil]); first | done | rfl | (simp only [List.length_drop, List.length_take]; rfl)) ?_; (with_reducible refine (code_Reader_Num.calls kj19 g606 t603 t604 t605 t607 t608 t609 t610 w _ ?side1 ?side2 A35.out).mono ?_); (case side1 => repeat (first | (with_reducible first | exact HI606.out | apply IsS59.alloc | apply IsS59.drewN | apply IsS59.drew | apply IsS59.set_0 | apply IsS59.set_1 | apply IsS59.set_2) | exact HI606.out)); (case side2 => repeat (first | (with_reducible first | exact HB.out | apply below_alloc | apply pw_below_drewN | apply below_drew1 | refine below_set ?_ (IsS59.ge HI606.out)) | exact HB.out)); rintro e w81 ⟨rfl, hi, hb, hk⟩; refine ⟨_, rfl, ?_⟩; have n0_ := Aside0.mk (hb); have n1_ := Aside0.mk (hi); clear HB; clear HI606; have HB := n0_; have HI606 := n1_; clear n0_ n1_; (try clear hb); (try clear hb2); (try clear hk); (try clear hi)))
                            go_ret
                            exact ⟨by first | rfl | (simp [errW_none, errW_some] <;> rfl) | (simp [*, errW_none, errW_some] <;> rfl), by repeat (first | (with_reducible first | exact HB.out | apply below_alloc | apply pw_below_drewN | apply below_drew1 | refine below_set ?_ (IsS59.ge HI606.out)) | exact HB.out)⟩
                        · rw [if_neg c33] at H
                          exact absurd H (by simp)
                      · rw [if_neg c32] at H
                        exact absurd H (by simp)
                    · rw [if_neg c31] at H
                      exact absurd H (by simp)

end Go.Proofs.Ytocjhpjljlcboaa.Q
