-- Written by a program of this session (wip/mkprint.py, over the kit's printer). Lean checks it.
import Derived.Test.YtocjhpjljlcboaaQ13
import Derived.Test.YtocjhpjljlcboaaQ0
import Derived.Test.YtocjhpjljlcboaaQ1
import Derived.Test.YtocjhpjljlcboaaQ2
import Derived.Test.YtocjhpjljlcboaaQ4
import Derived.Test.YtocjhpjljlcboaaQ5
import Derived.Test.YtocjhpjljlcboaaQ11
import Derived.Test.YtocjhpjljlcboaaQ12
import Derived.Test.YtocjhpjljlcboaaShelf
import Derived.Test.YtocjhpjljlcboaaPressF
namespace Go.Proofs.Ytocjhpjljlcboaa.Q
open Go.RowKit Go.Proofs.YtocjhpjljlcboaaW.PrintWords Go.Proofs.YtocjhpjljlcboaaW.PrintLast Go.Proofs.YtocjhpjljlcboaaW.PrintMore
attribute [local go_sem] max2_int min2_int max_two min_two max_three min_three max_four min_four   -- for this text's walks alone
set_option linter.unusedVariables false
set_option linter.unusedSimpArgs false

-- behind what is given
/-! ### barquelaw01_CodeCanon: function 15 -/
mutual
def barquelaw01_CodeCanon.j0 : Nat → ByteArray → Option (Bool)
  | 0, _ => none
  | k + 1, x0 => (code_Read.f x0).bind fun bt531 => ((code_Reader_Num.f k bt531.1 bt531.2.1 bt531.2.2).bind fun bt535 => ((code_Num.f k bt535.1).bind fun bt539 => ((code_Reader_Err.f bt535.2.1 bt535.2.2.1 bt535.2.2.2).bind fun bt541 => (if bt541.1 = 0 then ((code_Reader_Left.f bt541.2.1 bt541.2.2.1 bt541.2.2.2).bind fun bt545 => (if 0 ≤ (wrap64 ((x0.size : Int) - bt545.1)) then (if (wrap64 ((x0.size : Int) - bt545.1)) ≤ (x0.size : Int) then (barquelaw01_CodeCanon.j1 k x0 (bt539.1.toList != (x0.extract 0 ((wrap64 ((x0.size : Int) - bt545.1)) : Int).toNat).toList)) else (none)) else (none))) else (barquelaw01_CodeCanon.j1 k x0 false)))))
def barquelaw01_CodeCanon.j1 : Nat → ByteArray → Bool → Option (Bool)
  | 0, _, _ => none
  | k + 1, x0, x40 => if x40 = true then (some false) else ((code_Read.f x0).bind fun bt549 => ((code_Reader_Nums.f k bt549.1 bt549.2.1 bt549.2.2 4000).bind fun bt553 => ((code_Nums.f k bt553.1).bind fun bt559 => ((code_Reader_Err.f bt553.2.1 bt553.2.2.1 bt553.2.2.2).bind fun bt561 => (if bt561.1 = 0 then ((code_Reader_Left.f bt561.2.1 bt561.2.2.1 bt561.2.2.2).bind fun bt565 => (if 0 ≤ (wrap64 ((x0.size : Int) - bt565.1)) then (if (wrap64 ((x0.size : Int) - bt565.1)) ≤ (x0.size : Int) then (barquelaw01_CodeCanon.j2 k x0 (bt559.1.toList != (x0.extract 0 ((wrap64 ((x0.size : Int) - bt565.1)) : Int).toNat).toList)) else (none)) else (none))) else (barquelaw01_CodeCanon.j2 k x0 false))))))
def barquelaw01_CodeCanon.j2 : Nat → ByteArray → Bool → Option (Bool)
  | 0, _, _ => none
  | k + 1, x0, x63 => if x63 = true then (some false) else ((code_Read.f x0).bind fun bt569 => ((code_Reader_Texts.f k bt569.1 bt569.2.1 bt569.2.2 4000 4000).bind fun bt573 => ((code_Texts.f k bt573.1).bind fun bt579 => ((code_Reader_Err.f bt573.2.1 bt573.2.2.1 bt573.2.2.2).bind fun bt581 => (if bt581.1 = 0 then ((code_Reader_Left.f bt581.2.1 bt581.2.2.1 bt581.2.2.2).bind fun bt585 => (if 0 ≤ (wrap64 ((x0.size : Int) - bt585.1)) then (if (wrap64 ((x0.size : Int) - bt585.1)) ≤ (x0.size : Int) then (if bt579.1.toList = (x0.extract 0 ((wrap64 ((x0.size : Int) - bt585.1)) : Int).toNat).toList then ((barquelaw01_awake.f k).bind fun t589 => (some t589)) else (some false)) else (none)) else (none))) else ((barquelaw01_awake.f k).bind fun t590 => (some t590)))))))
end
def barquelaw01_CodeCanon.f (k : Nat) (a0 : ByteArray) : Option (Bool) := if (a0.size : Int) > 4000 then (if 0 ≤ 4000 then (if 4000 ≤ (a0.size : Int) then (barquelaw01_CodeCanon.j0 k (a0.extract 0 4000)) else (none)) else (none)) else (barquelaw01_CodeCanon.j0 k a0)
theorem barquelaw01_CodeCanon.mono_l : ∀ k, (∀ y0, LeO (barquelaw01_CodeCanon.j0 k y0) (barquelaw01_CodeCanon.j0 (k + 1) y0)) ∧ (∀ y0 y1, LeO (barquelaw01_CodeCanon.j1 k y0 y1) (barquelaw01_CodeCanon.j1 (k + 1) y0 y1)) ∧ (∀ y0 y1, LeO (barquelaw01_CodeCanon.j2 k y0 y1) (barquelaw01_CodeCanon.j2 (k + 1) y0 y1))
  | 0 => ⟨fun _ r h => by simp [barquelaw01_CodeCanon.j0] at h, fun _ _ r h => by simp [barquelaw01_CodeCanon.j1] at h, fun _ _ r h => by simp [barquelaw01_CodeCanon.j2] at h⟩
  | k + 1 => by
    obtain ⟨ih0, ih1, ih2⟩ := barquelaw01_CodeCanon.mono_l k
    refine ⟨?_, ?_, ?_⟩
    · intro y0
      unfold barquelaw01_CodeCanon.j0
      repeat' first
      | (with_reducible exact ih0 _)
      | (with_reducible exact ih1 _ _)
      | (with_reducible exact ih2 _ _)
      | (with_reducible exact barquelaw01_awake.mono _)
      | (with_reducible exact code_Num.mono _ _)
      | (with_reducible exact code_Nums.mono _ _)
      | (with_reducible exact code_Reader_Num.mono _ _ _ _)
      | (with_reducible exact code_Reader_Nums.mono _ _ _ _ _)
      | (with_reducible exact code_Reader_Texts.mono _ _ _ _ _ _)
      | (with_reducible exact code_Texts.mono _ _)
      | (with_reducible exact LeO.refl _)
      | (with_reducible exact LeO.none _)
      | (with_reducible refine LeO.ite ?_ ?_)
      | (with_reducible refine LeO.bind ?_ (fun _ => ?_))
      | exact ih0 _
      | exact ih1 _ _
      | exact ih2 _ _
      | exact barquelaw01_awake.mono _
      | exact code_Num.mono _ _
      | exact code_Nums.mono _ _
      | exact code_Reader_Num.mono _ _ _ _
      | exact code_Reader_Nums.mono _ _ _ _ _
      | exact code_Reader_Texts.mono _ _ _ _ _ _
      | exact code_Texts.mono _ _
      | exact LeO.none _
      | refine LeO.ite ?_ ?_
      | refine LeO.bind ?_ (fun _ => ?_)
    · intro y0 y1
      unfold barquelaw01_CodeCanon.j1
      repeat' first
      | (with_reducible exact ih0 _)
      | (with_reducible exact ih1 _ _)
      | (with_reducible exact ih2 _ _)
      | (with_reducible exact barquelaw01_awake.mono _)
      | (with_reducible exact code_Num.mono _ _)
      | (with_reducible exact code_Nums.mono _ _)
      | (with_reducible exact code_Reader_Num.mono _ _ _ _)
      | (with_reducible exact code_Reader_Nums.mono _ _ _ _ _)
      | (with_reducible exact code_Reader_Texts.mono _ _ _ _ _ _)
      | (with_reducible exact code_Texts.mono _ _)
      | (with_reducible exact LeO.refl _)
      | (with_reducible exact LeO.none _)
      | (with_reducible refine LeO.ite ?_ ?_)
      | (with_reducible refine LeO.bind ?_ (fun _ => ?_))
      | exact ih0 _
      | exact ih1 _ _
      | exact ih2 _ _
      | exact barquelaw01_awake.mono _
      | exact code_Num.mono _ _
      | exact code_Nums.mono _ _
      | exact code_Reader_Num.mono _ _ _ _
      | exact code_Reader_Nums.mono _ _ _ _ _
      | exact code_Reader_Texts.mono _ _ _ _ _ _
      | exact code_Texts.mono _ _
      | exact LeO.none _
      | refine LeO.ite ?_ ?_
      | refine LeO.bind ?_ (fun _ => ?_)
    · intro y0 y1
      unfold barquelaw01_CodeCanon.j2
      repeat' first
      | (with_reducible exact ih0 _)
      | (with_reducible exact ih1 _ _)
      | (with_reducible exact ih2 _ _)
      | (with_reducible exact barquelaw01_awake.mono _)
      | (with_reducible exact code_Num.mono _ _)
      | (with_reducible exact code_Nums.mono _ _)
      | (with_reducible exact code_Reader_Num.mono _ _ _ _)
      | (with_reducible exact code_Reader_Nums.mono _ _ _ _ _)
      | (with_reducible exact code_Reader_Texts.mono _ _ _ _ _ _)
      | (with_reducible exact code_Texts.mono _ _)
      | (with_reducible exact LeO.refl _)
      | (with_reducible exact LeO.none _)
      | (with_reducible refine LeO.ite ?_ ?_)
      | (with_reducible refine LeO.bind ?_ (fun _ => ?_))
      | exact ih0 _
      | exact ih1 _ _
      | exact ih2 _ _
      | exact barquelaw01_awake.mono _
      | exact code_Num.mono _ _
      | exact code_Nums.mono _ _
      | exact code_Reader_Num.mono _ _ _ _
      | exact code_Reader_Nums.mono _ _ _ _ _
      | exact code_Reader_Texts.mono _ _ _ _ _ _
      | exact code_Texts.mono _ _
      | exact LeO.none _
      | refine LeO.ite ?_ ?_
      | refine LeO.bind ?_ (fun _ => ?_)
theorem barquelaw01_CodeCanon.mono : ∀ a0 k, LeO (barquelaw01_CodeCanon.f k a0) (barquelaw01_CodeCanon.f (k + 1) a0) := by
  intro a0 k
  obtain ⟨ih0, ih1, ih2⟩ := barquelaw01_CodeCanon.mono_l k
  unfold barquelaw01_CodeCanon.f
  repeat' first
      | (with_reducible exact ih0 _)
      | (with_reducible exact ih1 _ _)
      | (with_reducible exact ih2 _ _)
      | (with_reducible exact barquelaw01_awake.mono _)
      | (with_reducible exact code_Num.mono _ _)
      | (with_reducible exact code_Nums.mono _ _)
      | (with_reducible exact code_Reader_Num.mono _ _ _ _)
      | (with_reducible exact code_Reader_Nums.mono _ _ _ _ _)
      | (with_reducible exact code_Reader_Texts.mono _ _ _ _ _ _)
      | (with_reducible exact code_Texts.mono _ _)
      | (with_reducible exact LeO.refl _)
      | (with_reducible exact LeO.none _)
      | (with_reducible refine LeO.ite ?_ ?_)
      | (with_reducible refine LeO.bind ?_ (fun _ => ?_))
      | exact ih0 _
      | exact ih1 _ _
      | exact ih2 _ _
      | exact barquelaw01_awake.mono _
      | exact code_Num.mono _ _
      | exact code_Nums.mono _ _
      | exact code_Reader_Num.mono _ _ _ _
      | exact code_Reader_Nums.mono _ _ _ _ _
      | exact code_Reader_Texts.mono _ _ _ _ _ _
      | exact code_Texts.mono _ _
      | exact LeO.none _
      | refine LeO.ite ?_ ?_
      | refine LeO.bind ?_ (fun _ => ?_)
set_option maxHeartbeats 8000000 in
set_option maxRecDepth 100000 in
theorem barquelaw01_CodeCanon.calls (k : Nat) (a0 : ByteArray) (r : Bool) (w : World) (h : barquelaw01_CodeCanon.f k a0 = some r) :
    Calls Try.prog 15 #[.string a0] w fun e w' => e = .returned (.bool r) ∧ Below w.heap.size w w' := by
  have HB := Aside0.mk (Below.refl w.heap.size w)
  have H : (if (a0.size : Int) > 4000 then (if 0 ≤ 4000 then (if 4000 ≤ (a0.size : Int) then (barquelaw01_CodeCanon.j0 k (a0.extract 0 4000)) else (none)) else (none)) else (barquelaw01_CodeCanon.j0 k a0)) = some r := h
  clear h
  have HC2 := Aside0.mk H
  clear H
  go_enter Try.func15, Try.ntmps15
  go_upto_if 15 with (fail)
  go_cut [0] (fun v0 wc => ∃ (kq : Nat) (x0_1 : ByteArray), v0 = .string x0_1 ∧ Aside0 (barquelaw01_CodeCanon.j0 kq x0_1 = some r) ∧ Aside0 (kq ≤ k) ∧ Aside0 (Below w.heap.size w wc))
  case first =>
    have H := HC2.out
    clear HC2
    by_cases c3 : (a0.size : Int) > 4000
    · rw [if_pos c3] at H
      have c3b0 : decide (4000 < (a0.size : Int)) = true := decide_eq_true c3
      have c3b1 : decide (4000 < a0.size) = true := decide_eq_true (by omega)
      clear c3
      (first | rw [c3b0] | (simp only [i64_w, i32_w]; rw [c3b0]) | skip)
      by_cases c4 : 0 ≤ 4000
      · rw [if_pos c4] at H
        have c4b0 := eq_true c4
        have c4b1 : decide (0 ≤ 4000) = true := decide_eq_true c4
        clear c4
        by_cases c5 : 4000 ≤ (a0.size : Int)
        · rw [if_pos c5] at H
          have c5b0 := eq_true c5
          have c5b1 : decide (4000 ≤ (a0.size : Int)) = true := decide_eq_true c5
          clear c5
          have H' := Aside0.mk H
          clear H
          go_wp2
          go_meet
          case rel => exact ⟨_, (a0.extract 0 4000), (by first | rfl | (simp; done) | (simp [*]; done)), H', ⟨by first | omega | exact Nat.le_refl _⟩, ⟨by repeat (first | (with_reducible first | exact HB.out | apply below_alloc | apply pw_below_drewN | apply below_drew1) | exact HB.out)⟩⟩
        · rw [if_neg c5] at H
          exact absurd H (by simp)
      · rw [if_neg c4] at H
        exact absurd H (by simp)
    · rw [if_neg c3] at H
      have c3b0 : decide (4000 < (a0.size : Int)) = false := decide_eq_false c3
      have c3b1 : decide (4000 < a0.size) = false := decide_eq_false (by omega)
      clear c3
      (first | rw [c3b0] | (simp only [i64_w, i32_w]; rw [c3b0]) | skip)
      have H' := Aside0.mk H
      clear H
      go_wp2
      go_meet
      case rel => exact ⟨_, (a0), (by first | rfl | (simp; done) | (simp [*]; done)), H', ⟨by first | omega | exact Nat.le_refl _⟩, ⟨by repeat (first | (with_reducible first | exact HB.out | apply below_alloc | apply pw_below_drewN | apply below_drew1) | exact HB.out)⟩⟩
  case rest =>
    clear HC2
    try clear c1
    try clear p2
    try clear c3
    try clear c3b0
    try clear c3b1
    try clear c4
    try clear c4b0
    try clear c4b1
    try clear c5
    try clear c5b0
    try clear c5b1
    obtain ⟨kq, x0_1, rfl, HA, HJ1, HB⟩ := hcut
    cases kq with
    | zero => exact absurd HA.out (by simp [barquelaw01_CodeCanon.j0])
    | succ kj1 =>
      have H := HA.out
      clear HA
      simp only [barquelaw01_CodeCanon.j0] at H
      replace H := Option.bind_eq_some_iff.mp H
      obtain ⟨⟨t531, t532, t533⟩, A60, H⟩ := H
      replace H : ((code_Reader_Num.f kj1 t531 t532 t533).bind fun bt535 => ((code_Num.f kj1 bt535.1).bind fun bt539 => ((code_Reader_Err.f bt535.2.1 bt535.2.2.1 bt535.2.2.2).bind fun bt541 => (if bt541.1 = 0 then ((code_Reader_Left.f bt541.2.1 bt541.2.2.1 bt541.2.2.2).bind fun bt545 => (if 0 ≤ (wrap64 ((x0_1.size : Int) - bt545.1)) then (if (wrap64 ((x0_1.size : Int) - bt545.1)) ≤ (x0_1.size : Int) then (barquelaw01_CodeCanon.j1 kj1 x0_1 (bt539.1.toList != (x0_1.extract 0 ((wrap64 ((x0_1.size : Int) - bt545.1)) : Int).toNat).toList)) else (none)) else (none))) else (barquelaw01_CodeCanon.j1 kj1 x0_1 false))))) = some r := H
      have A6 := Aside0.mk A60
      clear A60
      replace H := Option.bind_eq_some_iff.mp H
      obtain ⟨⟨t535, t536, t537, t538⟩, A70, H⟩ := H
      replace H : ((code_Num.f kj1 t535).bind fun bt539 => ((code_Reader_Err.f t536 t537 t538).bind fun bt541 => (if bt541.1 = 0 then ((code_Reader_Left.f bt541.2.1 bt541.2.2.1 bt541.2.2.2).bind fun bt545 => (if 0 ≤ (wrap64 ((x0_1.size : Int) - bt545.1)) then (if (wrap64 ((x0_1.size : Int) - bt545.1)) ≤ (x0_1.size : Int) then (barquelaw01_CodeCanon.j1 kj1 x0_1 (bt539.1.toList != (x0_1.extract 0 ((wrap64 ((x0_1.size : Int) - bt545.1)) : Int).toNat).toList)) else (none)) else (none))) else (barquelaw01_CodeCanon.j1 kj1 x0_1 false)))) = some r := H
      have A7 := Aside0.mk A70
      clear A70
      replace H := Option.bind_eq_some_iff.mp H
      obtain ⟨⟨t539, t540⟩, A80, H⟩ := H
      replace H : ((code_Reader_Err.f t536 t537 t538).bind fun bt541 => (if bt541.1 = 0 then ((code_Reader_Left.f bt541.2.1 bt541.2.2.1 bt541.2.2.2).bind fun bt545 => (if 0 ≤ (wrap64 ((x0_1.size : Int) - bt545.1)) then (if (wrap64 ((x0_1.size : Int) - bt545.1)) ≤ (x0_1.size : Int) then (barquelaw01_CodeCanon.j1 kj1 x0_1 (t539.toList != (x0_1.extract 0 ((wrap64 ((x0_1.size : Int) - bt545.1)) : Int).toNat).toList)) else (none)) else (none))) else (barquelaw01_CodeCanon.j1 kj1 x0_1 false))) = some r := H
      have A8 := Aside0.mk A80
      clear A80
      have HC9 := Aside0.mk H
      clear H
      go_upto_region 6 with (first | ((with_reducible refine gate_callee (f := 26) rfl ?_); refine goesL_ (some 19) rfl rfl Try.func26 (by kernel_rfl) rfl #[.string x0_1] rfl (by (try simp only [List.map_toArray, List.map_cons, List.map_nil]); first | done | rfl | (simp only [List.length_drop, List.length_take]; rfl)) ?_; (with_reducible refine (code_Read.calls x0_1 t531 t532 t533 w _ ?side1 A6.out).mono ?_); (case side1 => repeat (first | (with_reducible first | exact HB.out | apply below_alloc | apply pw_below_drewN | apply below_drew1) | exact HB.out)); rintro e w10 ⟨g534, rfl, hi, hb, hb2⟩; refine ⟨_, rfl, ?_⟩; have n0_ := Aside0.mk (hb); have n1_ := Aside0.mk (hi); clear HB; have HB := n0_; have HI534 := n1_; clear n0_ n1_; (try clear hb); (try clear hb2); (try clear hk); (try clear hi)) | ((with_reducible refine gate_callee (f := 35) rfl ?_); refine goesL_ (some 21) rfl rfl Try.func35 (by kernel_rfl) rfl #[.pointer (some ⟨g534, 0, none⟩)] rfl (by (try simp only [List.map_toArray, List.map_cons, List.map_nil]); first | done | rfl | (simp only [List.length_drop, List.length_take]; rfl)) ?_; (with_reducible refine (code_Reader_Num.calls kj1 g534 t531 t532 t533 t535 t536 t537 t538 w _ ?side1 ?side2 A7.out).mono ?_); (case side1 => repeat (first | (with_reducible first | exact HI534.out | apply IsS59.alloc | apply IsS59.drewN | apply IsS59.drew | apply IsS59.set_0 | apply IsS59.set_1 | apply IsS59.set_2) | exact HI534.out)); (case side2 => repeat (first | (with_reducible first | exact HB.out | apply below_alloc | apply pw_below_drewN | apply below_drew1 | refine below_set ?_ (IsS59.ge HI534.out)) | exact HB.out)); rintro e w11 ⟨rfl, hi, hb, hk⟩; refine ⟨_, rfl, ?_⟩; have n0_ := Aside0.mk (hb); have n1_ := Aside0.mk (hi); clear HB; clear HI534; have HB := n0_; have HI534 := n1_; clear n0_ n1_; (try clear hb); (try clear hb2); (try clear hk); (try clear hi)) | ((with_reducible refine gate_callee (f := 21) rfl ?_); refine goesL_ (some 24) rfl rfl Try.func21 (by kernel_rfl) rfl #[.int .i64 t535] rfl (by (try simp only [List.map_toArray, List.map_cons, List.map_nil]); first | done | rfl | (simp only [List.length_drop, List.length_take]; rfl)) ?_; (with_reducible refine (code_Num.calls kj1 t535 t539 t540 _ A8.out).mono ?_); rintro e w12 ⟨rfl, hb⟩; refine ⟨_, rfl, ?_⟩; have n0_ := Aside0.mk (IsS59.below (by repeat (first | (with_reducible first | exact HI534.out | apply IsS59.alloc | apply IsS59.drewN | apply IsS59.drew | apply IsS59.set_0 | apply IsS59.set_1 | apply IsS59.set_2) | exact HI534.out)) hb); have n1_ := Aside0.mk (below_step (by repeat (first | (with_reducible first | exact HB.out | apply below_alloc | apply pw_below_drewN | apply below_drew1 | refine below_set ?_ (IsS59.ge HI534.out)) | exact HB.out)) hb); clear HI534; clear HB; have HI534 := n0_; have HB := n1_; clear n0_ n1_; (try clear hb); (try clear hb2); (try clear hk); (try clear hi)))
      (try simp only [Act.put, List.setIfInBounds_toArray, List.set_cons_zero, List.set_cons_succ])
      go_cut [40] (fun v40 wc => ∃ (kq : Nat) (x40_8 : Bool), v40 = .bool x40_8 ∧ Aside0 (barquelaw01_CodeCanon.j1 kq x0_1 x40_8 = some r) ∧ Aside0 (kq ≤ kj1) ∧ Aside0 (Below w.heap.size w wc))
      case first =>
        have H := HC9.out
        clear HC9
        replace H := Option.bind_eq_some_iff.mp H
        obtain ⟨⟨t541, t542, t543, t544⟩, A130, H⟩ := H
        replace H : (if t541 = 0 then ((code_Reader_Left.f t542 t543 t544).bind fun bt545 => (if 0 ≤ (wrap64 ((x0_1.size : Int) - bt545.1)) then (if (wrap64 ((x0_1.size : Int) - bt545.1)) ≤ (x0_1.size : Int) then (barquelaw01_CodeCanon.j1 kj1 x0_1 (t539.toList != (x0_1.extract 0 ((wrap64 ((x0_1.size : Int) - bt545.1)) : Int).toNat).toList)) else (none)) else (none))) else (barquelaw01_CodeCanon.j1 kj1 x0_1 false)) = some r := H
        have A13 := Aside0.mk A130
        clear A130
        by_cases c14 : t541 = 0
        · rw [if_pos c14] at H
          have c14b0 : (t541 == 0) = true := beq_iff_eq.mpr c14
          have c14b1 : (t541 != 0) = false := bne_eq_false_iff_eq.mpr c14
          clear c14
          (first | rw [c14b0] | (simp only [i64_w, i32_w]; rw [c14b0]) | skip)
          replace H := Option.bind_eq_some_iff.mp H
          obtain ⟨⟨t545, t546, t547, t548⟩, A150, H⟩ := H
          replace H : (if 0 ≤ (wrap64 ((x0_1.size : Int) - t545)) then (if (wrap64 ((x0_1.size : Int) - t545)) ≤ (x0_1.size : Int) then (barquelaw01_CodeCanon.j1 kj1 x0_1 (t539.toList != (x0_1.extract 0 ((wrap64 ((x0_1.size : Int) - t545)) : Int).toNat).toList)) else (none)) else (none)) = some r := H
          have A15 := Aside0.mk A150
          clear A150
          obtain ⟨ji16, hji16⟩ : ∃ j_ : Int, (wrap64 ((x0_1.size : Int) - t545)) = j_ := ⟨_, rfl⟩
          replace H : (if 0 ≤ (ji16) then (if (ji16) ≤ (x0_1.size : Int) then (barquelaw01_CodeCanon.j1 kj1 x0_1 (t539.toList != (x0_1.extract 0 ((ji16) : Int).toNat).toList)) else (none)) else (none)) = some r := by first | (rw [hji16] at H; exact H) | (simp only [hji16] at H ⊢; exact H)
          (try rw [hji16] at A13)
          (try rw [hji16] at A15)
          have hji16w : (IntKind.i64.wrap ((x0_1.size : Int) - t545)) = ji16 := (i64_w _).trans hji16
          by_cases c17 : 0 ≤ (ji16)
          · rw [if_pos c17] at H
            have c17b0 := eq_true c17
            have c17b1 : decide (0 ≤ (ji16)) = true := decide_eq_true c17
            clear c17
            by_cases c18 : (ji16) ≤ (x0_1.size : Int)
            · rw [if_pos c18] at H
              have c18b0 := eq_true c18
              have c18b1 : decide ((ji16) ≤ (x0_1.size : Int)) = true := decide_eq_true c18
              clear c18
              have H' := Aside0.mk H
              clear H
              go_wp2_with (first | ((with_reducible refine gate_callee (f := 33) rfl ?_); refine goesL_ (some 28) rfl rfl Try.func33 (by kernel_rfl) rfl #[.pointer (some ⟨g534, 0, none⟩)] rfl (by (try simp only [List.map_toArray, List.map_cons, List.map_nil]); first | done | rfl | (simp only [List.length_drop, List.length_take]; rfl)) ?_; (with_reducible refine (code_Reader_Err.calls g534 t536 t537 t538 t541 t542 t543 t544 w _ ?side1 ?side2 A13.out).mono ?_); (case side1 => repeat (first | (with_reducible first | exact HI534.out | apply IsS59.alloc | apply IsS59.drewN | apply IsS59.drew | apply IsS59.set_0 | apply IsS59.set_1 | apply IsS59.set_2) | exact HI534.out)); (case side2 => repeat (first | (with_reducible first | exact HB.out | apply below_alloc | apply pw_below_drewN | apply below_drew1 | refine below_set ?_ (IsS59.ge HI534.out)) | exact HB.out)); rintro e w19 ⟨rfl, hi, hb, hk⟩; refine ⟨_, rfl, ?_⟩; have n0_ := Aside0.mk (hb); have n1_ := Aside0.mk (hi); clear HB; clear HI534; have HB := n0_; have HI534 := n1_; clear n0_ n1_; (try clear hb); (try clear hb2); (try clear hk); (try clear hi)) | (go_at_call 32; (with_reducible refine (code_Reader_Left.calls g534 t542 t543 t544 t545 t546 t547 t548 w _ ?side1 ?side2 A15.out).mono ?_); (case side1 => repeat (first | (with_reducible first | exact HI534.out | apply IsS59.alloc | apply IsS59.drewN | apply IsS59.drew | apply IsS59.set_0 | apply IsS59.set_1 | apply IsS59.set_2) | exact HI534.out)); (case side2 => repeat (first | (with_reducible first | exact HB.out | apply below_alloc | apply pw_below_drewN | apply below_drew1 | refine below_set ?_ (IsS59.ge HI534.out)) | exact HB.out)); rintro e w20 ⟨rfl, hi, hb, hk⟩; have n0_ := Aside0.mk (hb); have n1_ := Aside0.mk (hi); clear HB; clear HI534; have HB := n0_; have HI534 := n1_; clear n0_ n1_; (try clear hb); (try clear hb2); (try clear hk); (try clear hi)))
              go_meet
              case rel => exact ⟨_, ((t539.toList != (x0_1.extract 0 ((ji16) : Int).toNat).toList)), (by first | rfl | (simp; done) | (simp only [← hji16] <;> (first | rfl | simp)) | (simp [*]; done)), H', ⟨by have := HJ1.out; first | omega | exact Nat.le_refl _⟩, ⟨by repeat (first | (with_reducible first | exact HB.out | apply below_alloc | apply pw_below_drewN | apply below_drew1 | refine below_set ?_ (IsS59.ge HI534.out)) | exact HB.out)⟩⟩
            · rw [if_neg c18] at H
              exact absurd H (by simp)
          · rw [if_neg c17] at H
            exact absurd H (by simp)
        · rw [if_neg c14] at H
          have c14b0 : (t541 == 0) = false := beq_eq_false_iff_ne.mpr c14
          have c14b1 : (t541 != 0) = true := bne_iff_ne.mpr c14
          (first | rw [c14b0] | (simp only [i64_w, i32_w]; rw [c14b0]) | skip)
          have H' := Aside0.mk H
          clear H
          go_wp2_with (first | ((with_reducible refine gate_callee (f := 33) rfl ?_); refine goesL_ (some 28) rfl rfl Try.func33 (by kernel_rfl) rfl #[.pointer (some ⟨g534, 0, none⟩)] rfl (by (try simp only [List.map_toArray, List.map_cons, List.map_nil]); first | done | rfl | (simp only [List.length_drop, List.length_take]; rfl)) ?_; (with_reducible refine (code_Reader_Err.calls g534 t536 t537 t538 t541 t542 t543 t544 w _ ?side1 ?side2 A13.out).mono ?_); (case side1 => repeat (first | (with_reducible first | exact HI534.out | apply IsS59.alloc | apply IsS59.drewN | apply IsS59.drew | apply IsS59.set_0 | apply IsS59.set_1 | apply IsS59.set_2) | exact HI534.out)); (case side2 => repeat (first | (with_reducible first | exact HB.out | apply below_alloc | apply pw_below_drewN | apply below_drew1 | refine below_set ?_ (IsS59.ge HI534.out)) | exact HB.out)); rintro e w21 ⟨rfl, hi, hb, hk⟩; refine ⟨_, rfl, ?_⟩; have n0_ := Aside0.mk (hb); have n1_ := Aside0.mk (hi); clear HB; clear HI534; have HB := n0_; have HI534 := n1_; clear n0_ n1_; (try clear hb); (try clear hb2); (try clear hk); (try clear hi)))
          go_meet
          case rel => exact ⟨_, (false), (by first | rfl | (simp; done) | (simp [*]; done)), H', ⟨by have := HJ1.out; first | omega | exact Nat.le_refl _⟩, ⟨by repeat (first | (with_reducible first | exact HB.out | apply below_alloc | apply pw_below_drewN | apply below_drew1 | refine below_set ?_ (IsS59.ge HI534.out)) | exact HB.out)⟩⟩
      case rest =>
        clear HC9
        try clear c1
        try clear c2
        try clear p2
        try clear c3
        try clear c3b0
        try clear c3b1
        try clear c4
        try clear c4b0
        try clear c4b1
        try clear c5
        try clear c5b0
        try clear c5b1
        try clear p6
        try clear c14
        try clear c14b0
        try clear c14b1
        try clear c15
        try clear c17
        try clear c17b0
        try clear c17b1
        try clear c18
        try clear c18b0
        try clear c18b1
        try clear c21
        try clear p2
        obtain ⟨kq, x40_8, rfl, HA, HJ8, HB⟩ := hcut
        cases kq with
        | zero => exact absurd HA.out (by simp [barquelaw01_CodeCanon.j1])
        | succ kj8 =>
          have H := HA.out
          clear HA
          simp only [barquelaw01_CodeCanon.j1] at H
          by_cases c22 : x40_8 = true
          · subst c22
            have H1 : (some false) = some r := by rw [if_pos rfl] at H; exact H
            clear H
            have H := H1
            clear H1
            obtain rfl := Option.some.inj H
            go_wp2
            go_ret
            exact ⟨by first | rfl | (simp [errW_none, errW_some] <;> rfl) | (simp [*, errW_none, errW_some] <;> rfl), by repeat (first | (with_reducible first | exact HB.out | apply below_alloc | apply pw_below_drewN | apply below_drew1) | exact HB.out)⟩
          · replace c22 := Bool.eq_false_iff.mpr c22
            subst c22
            have H1 : ((code_Read.f x0_1).bind fun bt549 => ((code_Reader_Nums.f kj8 bt549.1 bt549.2.1 bt549.2.2 4000).bind fun bt553 => ((code_Nums.f kj8 bt553.1).bind fun bt559 => ((code_Reader_Err.f bt553.2.1 bt553.2.2.1 bt553.2.2.2).bind fun bt561 => (if bt561.1 = 0 then ((code_Reader_Left.f bt561.2.1 bt561.2.2.1 bt561.2.2.2).bind fun bt565 => (if 0 ≤ (wrap64 ((x0_1.size : Int) - bt565.1)) then (if (wrap64 ((x0_1.size : Int) - bt565.1)) ≤ (x0_1.size : Int) then (barquelaw01_CodeCanon.j2 kj8 x0_1 (bt559.1.toList != (x0_1.extract 0 ((wrap64 ((x0_1.size : Int) - bt565.1)) : Int).toNat).toList)) else (none)) else (none))) else (barquelaw01_CodeCanon.j2 kj8 x0_1 false)))))) = some r := by rw [if_neg (show ¬ (false = true) by decide)] at H; exact H
            clear H
            have H := H1
            clear H1
            replace H := Option.bind_eq_some_iff.mp H
            obtain ⟨⟨t549, t550, t551⟩, A230, H⟩ := H
            replace H : ((code_Reader_Nums.f kj8 t549 t550 t551 4000).bind fun bt553 => ((code_Nums.f kj8 bt553.1).bind fun bt559 => ((code_Reader_Err.f bt553.2.1 bt553.2.2.1 bt553.2.2.2).bind fun bt561 => (if bt561.1 = 0 then ((code_Reader_Left.f bt561.2.1 bt561.2.2.1 bt561.2.2.2).bind fun bt565 => (if 0 ≤ (wrap64 ((x0_1.size : Int) - bt565.1)) then (if (wrap64 ((x0_1.size : Int) - bt565.1)) ≤ (x0_1.size : Int) then (barquelaw01_CodeCanon.j2 kj8 x0_1 (bt559.1.toList != (x0_1.extract 0 ((wrap64 ((x0_1.size : Int) - bt565.1)) : Int).toNat).toList)) else (none)) else (none))) else (barquelaw01_CodeCanon.j2 kj8 x0_1 false))))) = some r := H
            have A23 := Aside0.mk A230
            clear A230
            replace H := Option.bind_eq_some_iff.mp H
            obtain ⟨⟨t553, t556, t557, t558⟩, A240, H⟩ := H
            replace H : ((code_Nums.f kj8 t553).bind fun bt559 => ((code_Reader_Err.f t556 t557 t558).bind fun bt561 => (if bt561.1 = 0 then ((code_Reader_Left.f bt561.2.1 bt561.2.2.1 bt561.2.2.2).bind fun bt565 => (if 0 ≤ (wrap64 ((x0_1.size : Int) - bt565.1)) then (if (wrap64 ((x0_1.size : Int) - bt565.1)) ≤ (x0_1.size : Int) then (barquelaw01_CodeCanon.j2 kj8 x0_1 (bt559.1.toList != (x0_1.extract 0 ((wrap64 ((x0_1.size : Int) - bt565.1)) : Int).toNat).toList)) else (none)) else (none))) else (barquelaw01_CodeCanon.j2 kj8 x0_1 false)))) = some r := H
            have A24 := Aside0.mk A240
            clear A240
            replace H := Option.bind_eq_some_iff.mp H
            obtain ⟨⟨t559, t560⟩, A250, H⟩ := H
            replace H : ((code_Reader_Err.f t556 t557 t558).bind fun bt561 => (if bt561.1 = 0 then ((code_Reader_Left.f bt561.2.1 bt561.2.2.1 bt561.2.2.2).bind fun bt565 => (if 0 ≤ (wrap64 ((x0_1.size : Int) - bt565.1)) then (if (wrap64 ((x0_1.size : Int) - bt565.1)) ≤ (x0_1.size : Int) then (barquelaw01_CodeCanon.j2 kj8 x0_1 (t559.toList != (x0_1.extract 0 ((wrap64 ((x0_1.size : Int) - bt565.1)) : Int).toNat).toList)) else (none)) else (none))) else (barquelaw01_CodeCanon.j2 kj8 x0_1 false))) = some r := H
            have A25 := Aside0.mk A250
            clear A250
            have HC26 := Aside0.mk H
            clear H
            go_upto_region 11 with (first | ((with_reducible refine gate_callee (f := 26) rfl ?_); refine goesL_ (some 42) rfl rfl Try.func26 (by kernel_rfl) rfl #[.string x0_1] rfl (by (try simp only [List.map_toArray, List.map_cons, List.map_nil]); first | done | rfl | (simp only [List.length_drop, List.length_take]; rfl)) ?_; (with_reducible refine (code_Read.calls x0_1 t549 t550 t551 w _ ?side1 A23.out).mono ?_); (case side1 => repeat (first | (with_reducible first | exact HB.out | apply below_alloc | apply pw_below_drewN | apply below_drew1) | exact HB.out)); rintro e w27 ⟨g552, rfl, hi, hb, hb2⟩; refine ⟨_, rfl, ?_⟩; have n0_ := Aside0.mk (hb); have n1_ := Aside0.mk (hi); clear HB; have HB := n0_; have HI552 := n1_; clear n0_ n1_; (try clear hb); (try clear hb2); (try clear hk); (try clear hi)) | ((with_reducible refine gate_callee (f := 37) rfl ?_); refine goesL_ (some 44) rfl rfl Try.func37 (by kernel_rfl) rfl #[.pointer (some ⟨g552, 0, none⟩), .int .i64 4000] rfl (by (try simp only [List.map_toArray, List.map_cons, List.map_nil]); first | done | rfl | (simp only [List.length_drop, List.length_take]; rfl)) ?_; (with_reducible refine (code_Reader_Nums.calls kj8 g552 t549 t550 t551 4000 t553 t556 t557 t558 w _ ?side1 ?side2 A24.out).mono ?_); (case side1 => repeat (first | (with_reducible first | exact HI552.out | apply IsS59.alloc | apply IsS59.drewN | apply IsS59.drew | apply IsS59.set_0 | apply IsS59.set_1 | apply IsS59.set_2) | exact HI552.out)); (case side2 => repeat (first | (with_reducible first | exact HB.out | apply below_alloc | apply pw_below_drewN | apply below_drew1 | refine below_set ?_ (IsS59.ge HI552.out)) | exact HB.out)); rintro e w28 ⟨v554, rfl, ho0, hi, hb, hk⟩; refine ⟨_, rfl, ?_⟩; have n0_ := Aside0.mk (Kd.R_lower ho0 (below_size (by repeat (first | (with_reducible first | exact HB.out | apply below_alloc | apply pw_below_drewN | apply below_drew1 | refine below_set ?_ (IsS59.ge HI552.out)) | exact HB.out)))); have n1_ := Aside0.mk (hb); have n2_ := Aside0.mk (hi); clear HB; clear HI552; have HO555 := n0_; have HB := n1_; have HI552 := n2_; clear n0_ n1_ n2_; (try clear hb); (try clear hb2); (try clear hk); (try clear hi); (try clear ho0); obtain ⟨Ao29, co29, eo29⟩ := Kd.R_slice HO555.out; subst eo29) | ((with_reducible refine gate_callee (f := 44) rfl ?_); refine goesL_ (some 47) rfl rfl Try.func44 (by kernel_rfl) rfl #[.slice Ao29 t553.length co29] rfl (by (try simp only [List.map_toArray, List.map_cons, List.map_nil]); first | done | rfl | (simp only [List.length_drop, List.length_take]; rfl)) ?_; (with_reducible refine (code_Nums.calls kj8 _ _ t553 t559 t560 _ ?side1 ?side2 A25.out).mono ?_); (case side1 => repeat (first | exact (Kd.R_reads' HO555.out).2.2 | (with_reducible refine Kd.C_alloc ?_ _) | (with_reducible refine Kd.C_drewN ?_ _) | (with_reducible refine Kd.C_drew ?_))); (case side2 => exact (Kd.R_reads' HO555.out).2.1); rintro e w30 ⟨rfl, hb⟩; refine ⟨_, rfl, ?_⟩; have n0_ := Aside0.mk (Kd.R_below (by (with_reducible repeat (first | apply Kd.R_alloc | apply Kd.R_drewN | apply Kd.R_drew)); exact HO555.out) hb); have n1_ := Aside0.mk (IsS59.below (by repeat (first | (with_reducible first | exact HI552.out | apply IsS59.alloc | apply IsS59.drewN | apply IsS59.drew | apply IsS59.set_0 | apply IsS59.set_1 | apply IsS59.set_2) | exact HI552.out)) hb); have n2_ := Aside0.mk (below_step (by repeat (first | (with_reducible first | exact HB.out | apply below_alloc | apply pw_below_drewN | apply below_drew1 | refine below_set ?_ (IsS59.ge HI552.out)) | exact HB.out)) hb); clear HO555; clear HI552; clear HB; have HO555 := n0_; have HI552 := n1_; have HB := n2_; clear n0_ n1_ n2_; (try clear hb); (try clear hb2); (try clear hk); (try clear hi)))
            (try simp only [Act.put, List.setIfInBounds_toArray, List.set_cons_zero, List.set_cons_succ])
            go_cut [63] (fun v63 wc => ∃ (kq : Nat) (x63_25 : Bool), v63 = .bool x63_25 ∧ Aside0 (barquelaw01_CodeCanon.j2 kq x0_1 x63_25 = some r) ∧ Aside0 (kq ≤ kj8) ∧ Aside0 (Below w.heap.size w wc))
            case first =>
              have H := HC26.out
              clear HC26
              replace H := Option.bind_eq_some_iff.mp H
              obtain ⟨⟨t561, t562, t563, t564⟩, A310, H⟩ := H
              replace H : (if t561 = 0 then ((code_Reader_Left.f t562 t563 t564).bind fun bt565 => (if 0 ≤ (wrap64 ((x0_1.size : Int) - bt565.1)) then (if (wrap64 ((x0_1.size : Int) - bt565.1)) ≤ (x0_1.size : Int) then (barquelaw01_CodeCanon.j2 kj8 x0_1 (t559.toList != (x0_1.extract 0 ((wrap64 ((x0_1.size : Int) - bt565.1)) : Int).toNat).toList)) else (none)) else (none))) else (barquelaw01_CodeCanon.j2 kj8 x0_1 false)) = some r := H
              have A31 := Aside0.mk A310
              clear A310
              by_cases c32 : t561 = 0
              · rw [if_pos c32] at H
                have c32b0 : (t561 == 0) = true := beq_iff_eq.mpr c32
                have c32b1 : (t561 != 0) = false := bne_eq_false_iff_eq.mpr c32
                clear c32
                (first | rw [c32b0] | (simp only [i64_w, i32_w]; rw [c32b0]) | skip)
                replace H := Option.bind_eq_some_iff.mp H
                obtain ⟨⟨t565, t566, t567, t568⟩, A330, H⟩ := H
                replace H : (if 0 ≤ (wrap64 ((x0_1.size : Int) - t565)) then (if (wrap64 ((x0_1.size : Int) - t565)) ≤ (x0_1.size : Int) then (barquelaw01_CodeCanon.j2 kj8 x0_1 (t559.toList != (x0_1.extract 0 ((wrap64 ((x0_1.size : Int) - t565)) : Int).toNat).toList)) else (none)) else (none)) = some r := H
                have A33 := Aside0.mk A330
                clear A330
                obtain ⟨ji34, hji34⟩ : ∃ j_ : Int, (wrap64 ((x0_1.size : Int) - t565)) = j_ := ⟨_, rfl⟩
                replace H : (if 0 ≤ (ji34) then (if (ji34) ≤ (x0_1.size : Int) then (barquelaw01_CodeCanon.j2 kj8 x0_1 (t559.toList != (x0_1.extract 0 ((ji34) : Int).toNat).toList)) else (none)) else (none)) = some r := by first | (rw [hji34] at H; exact H) | (simp only [hji34] at H ⊢; exact H)
                (try rw [hji34] at A31)
                (try rw [hji34] at A33)
                have hji34w : (IntKind.i64.wrap ((x0_1.size : Int) - t565)) = ji34 := (i64_w _).trans hji34
                by_cases c35 : 0 ≤ (ji34)
                · rw [if_pos c35] at H
                  have c35b0 := eq_true c35
                  have c35b1 : decide (0 ≤ (ji34)) = true := decide_eq_true c35
                  clear c35
                  by_cases c36 : (ji34) ≤ (x0_1.size : Int)
                  · rw [if_pos c36] at H
                    have c36b0 := eq_true c36
                    have c36b1 : decide ((ji34) ≤ (x0_1.size : Int)) = true := decide_eq_true c36
                    clear c36
                    have H' := Aside0.mk H
                    clear H
                    go_wp2_with (first | ((with_reducible refine gate_callee (f := 33) rfl ?_); refine goesL_ (some 51) rfl rfl Try.func33 (by kernel_rfl) rfl #[.pointer (some ⟨g552, 0, none⟩)] rfl (by (try simp only [List.map_toArray, List.map_cons, List.map_nil]); first | done | rfl | (simp only [List.length_drop, List.length_take]; rfl)) ?_; (with_reducible refine (code_Reader_Err.calls g552 t556 t557 t558 t561 t562 t563 t564 w _ ?side1 ?side2 A31.out).mono ?_); (case side1 => repeat (first | (with_reducible first | exact HI552.out | apply IsS59.alloc | apply IsS59.drewN | apply IsS59.drew | apply IsS59.set_0 | apply IsS59.set_1 | apply IsS59.set_2) | exact HI552.out)); (case side2 => repeat (first | (with_reducible first | exact HB.out | apply below_alloc | apply pw_below_drewN | apply below_drew1 | refine below_set ?_ (IsS59.ge HI552.out)) | exact HB.out)); rintro e w37 ⟨rfl, hi, hb, hk⟩; refine ⟨_, rfl, ?_⟩; have n0_ := Aside0.mk (Kd.R_mono (Kd.R_keep (IsS59.apart (show IsS59 w _ g552 t556 t557 t558 from by repeat (first | (with_reducible first | exact HI552.out | apply IsS59.alloc | apply IsS59.drewN | apply IsS59.drew | apply IsS59.set_0 | apply IsS59.set_1 | apply IsS59.set_2) | exact HI552.out)) (by (with_reducible repeat (first | apply Kd.R_alloc | apply Kd.R_drewN | apply Kd.R_drew)); exact HO555.out) (by decide)) hk (fun _ h => h.2)) (fun _ h => h.1)); have n1_ := Aside0.mk (hb); have n2_ := Aside0.mk (hi); clear HO555; clear HB; clear HI552; have HO555 := n0_; have HB := n1_; have HI552 := n2_; clear n0_ n1_ n2_; (try clear hb); (try clear hb2); (try clear hk); (try clear hi)) | (go_at_call 32; (with_reducible refine (code_Reader_Left.calls g552 t562 t563 t564 t565 t566 t567 t568 w _ ?side1 ?side2 A33.out).mono ?_); (case side1 => repeat (first | (with_reducible first | exact HI552.out | apply IsS59.alloc | apply IsS59.drewN | apply IsS59.drew | apply IsS59.set_0 | apply IsS59.set_1 | apply IsS59.set_2) | exact HI552.out)); (case side2 => repeat (first | (with_reducible first | exact HB.out | apply below_alloc | apply pw_below_drewN | apply below_drew1 | refine below_set ?_ (IsS59.ge HI552.out)) | exact HB.out)); rintro e w38 ⟨rfl, hi, hb, hk⟩; have n0_ := Aside0.mk (Kd.R_mono (Kd.R_keep (IsS59.apart (show IsS59 w _ g552 t562 t563 t564 from by repeat (first | (with_reducible first | exact HI552.out | apply IsS59.alloc | apply IsS59.drewN | apply IsS59.drew | apply IsS59.set_0 | apply IsS59.set_1 | apply IsS59.set_2) | exact HI552.out)) (by (with_reducible repeat (first | apply Kd.R_alloc | apply Kd.R_drewN | apply Kd.R_drew)); exact HO555.out) (by decide)) hk (fun _ h => h.2)) (fun _ h => h.1)); have n1_ := Aside0.mk (hb); have n2_ := Aside0.mk (hi); clear HO555; clear HB; clear HI552; have HO555 := n0_; have HB := n1_; have HI552 := n2_; clear n0_ n1_ n2_; (try clear hb); (try clear hb2); (try clear hk); (try clear hi)))
                    go_meet
                    case rel => exact ⟨_, ((t559.toList != (x0_1.extract 0 ((ji34) : Int).toNat).toList)), (by first | rfl | (simp; done) | (simp only [← hji34] <;> (first | rfl | simp)) | (simp [*]; done)), H', ⟨by have := HJ1.out; have := HJ8.out; first | omega | exact Nat.le_refl _⟩, ⟨by repeat (first | (with_reducible first | exact HB.out | apply below_alloc | apply pw_below_drewN | apply below_drew1 | refine below_set ?_ (IsS59.ge HI552.out)) | exact HB.out)⟩⟩
                  · rw [if_neg c36] at H
                    exact absurd H (by simp)
                · rw [if_neg c35] at H
                  exact absurd H (by simp)
              · rw [if_neg c32] at H
                have c32b0 : (t561 == 0) = false := beq_eq_false_iff_ne.mpr c32
                have c32b1 : (t561 != 0) = true := bne_iff_ne.mpr c32
                (first | rw [c32b0] | (simp only [i64_w, i32_w]; rw [c32b0]) | skip)
                have H' := Aside0.mk H
                clear H
                go_wp2_with (first | ((with_reducible refine gate_callee (f := 33) rfl ?_); refine goesL_ (some 51) rfl rfl Try.func33 (by kernel_rfl) rfl #[.pointer (some ⟨g552, 0, none⟩)] rfl (by (try simp only [List.map_toArray, List.map_cons, List.map_nil]); first | done | rfl | (simp only [List.length_drop, List.length_take]; rfl)) ?_; (with_reducible refine (code_Reader_Err.calls g552 t556 t557 t558 t561 t562 t563 t564 w _ ?side1 ?side2 A31.out).mono ?_); (case side1 => repeat (first | (with_reducible first | exact HI552.out | apply IsS59.alloc | apply IsS59.drewN | apply IsS59.drew | apply IsS59.set_0 | apply IsS59.set_1 | apply IsS59.set_2) | exact HI552.out)); (case side2 => repeat (first | (with_reducible first | exact HB.out | apply below_alloc | apply pw_below_drewN | apply below_drew1 | refine below_set ?_ (IsS59.ge HI552.out)) | exact HB.out)); rintro e w39 ⟨rfl, hi, hb, hk⟩; refine ⟨_, rfl, ?_⟩; have n0_ := Aside0.mk (Kd.R_mono (Kd.R_keep (IsS59.apart (show IsS59 w _ g552 t556 t557 t558 from by repeat (first | (with_reducible first | exact HI552.out | apply IsS59.alloc | apply IsS59.drewN | apply IsS59.drew | apply IsS59.set_0 | apply IsS59.set_1 | apply IsS59.set_2) | exact HI552.out)) (by (with_reducible repeat (first | apply Kd.R_alloc | apply Kd.R_drewN | apply Kd.R_drew)); exact HO555.out) (by decide)) hk (fun _ h => h.2)) (fun _ h => h.1)); have n1_ := Aside0.mk (hb); have n2_ := Aside0.mk (hi); clear HO555; clear HB; clear HI552; have HO555 := n0_; have HB := n1_; have HI552 := n2_; clear n0_ n1_ n2_; (try clear hb); (try clear hb2); (try clear hk); (try clear hi)))
                go_meet
                case rel => exact ⟨_, (false), (by first | rfl | (simp; done) | (simp [*]; done)), H', ⟨by have := HJ1.out; have := HJ8.out; first | omega | exact Nat.le_refl _⟩, ⟨by repeat (first | (with_reducible first | exact HB.out | apply below_alloc | apply pw_below_drewN | apply below_drew1 | refine below_set ?_ (IsS59.ge HI552.out)) | exact HB.out)⟩⟩
            case rest =>
              clear HC26
              try clear c1
              try clear c2
              try clear p2
              try clear c3
              try clear c3b0
              try clear c3b1
              try clear c4
              try clear c4b0
              try clear c4b1
              try clear c5
              try clear c5b0
              try clear c5b1
              try clear p6
              try clear c14
              try clear c14b0
              try clear c14b1
              try clear c15
              try clear c17
              try clear c17b0
              try clear c17b1
              try clear c18
              try clear c18b0
              try clear c18b1
              try clear c21
              try clear c22
              try clear c26
              try clear c32
              try clear c32b0
              try clear c32b1
              try clear c33
              try clear c35
              try clear c35b0
              try clear c35b1
              try clear c36
              try clear c36b0
              try clear c36b1
              try clear c37
              try clear p2
              try clear p6
              obtain ⟨kq, x63_25, rfl, HA, HJ25, HB⟩ := hcut
              cases kq with
              | zero => exact absurd HA.out (by simp [barquelaw01_CodeCanon.j2])
              | succ kj25 =>
                have H := HA.out
                clear HA
                simp only [barquelaw01_CodeCanon.j2] at H
                by_cases c40 : x63_25 = true
                · subst c40
                  have H1 : (some false) = some r := by rw [if_pos rfl] at H; exact H
                  clear H
                  have H := H1
                  clear H1
                  obtain rfl := Option.some.inj H
                  go_wp2
                  go_ret
                  exact ⟨by first | rfl | (simp [errW_none, errW_some] <;> rfl) | (simp [*, errW_none, errW_some] <;> rfl), by repeat (first | (with_reducible first | exact HB.out | apply below_alloc | apply pw_below_drewN | apply below_drew1) | exact HB.out)⟩
                · replace c40 := Bool.eq_false_iff.mpr c40
                  subst c40
                  have H1 : ((code_Read.f x0_1).bind fun bt569 => ((code_Reader_Texts.f kj25 bt569.1 bt569.2.1 bt569.2.2 4000 4000).bind fun bt573 => ((code_Texts.f kj25 bt573.1).bind fun bt579 => ((code_Reader_Err.f bt573.2.1 bt573.2.2.1 bt573.2.2.2).bind fun bt581 => (if bt581.1 = 0 then ((code_Reader_Left.f bt581.2.1 bt581.2.2.1 bt581.2.2.2).bind fun bt585 => (if 0 ≤ (wrap64 ((x0_1.size : Int) - bt585.1)) then (if (wrap64 ((x0_1.size : Int) - bt585.1)) ≤ (x0_1.size : Int) then (if bt579.1.toList = (x0_1.extract 0 ((wrap64 ((x0_1.size : Int) - bt585.1)) : Int).toNat).toList then ((barquelaw01_awake.f kj25).bind fun t589 => (some t589)) else (some false)) else (none)) else (none))) else ((barquelaw01_awake.f kj25).bind fun t590 => (some t590))))))) = some r := by rw [if_neg (show ¬ (false = true) by decide)] at H; exact H
                  clear H
                  have H := H1
                  clear H1
                  replace H := Option.bind_eq_some_iff.mp H
                  obtain ⟨⟨t569, t570, t571⟩, A410, H⟩ := H
                  replace H : ((code_Reader_Texts.f kj25 t569 t570 t571 4000 4000).bind fun bt573 => ((code_Texts.f kj25 bt573.1).bind fun bt579 => ((code_Reader_Err.f bt573.2.1 bt573.2.2.1 bt573.2.2.2).bind fun bt581 => (if bt581.1 = 0 then ((code_Reader_Left.f bt581.2.1 bt581.2.2.1 bt581.2.2.2).bind fun bt585 => (if 0 ≤ (wrap64 ((x0_1.size : Int) - bt585.1)) then (if (wrap64 ((x0_1.size : Int) - bt585.1)) ≤ (x0_1.size : Int) then (if bt579.1.toList = (x0_1.extract 0 ((wrap64 ((x0_1.size : Int) - bt585.1)) : Int).toNat).toList then ((barquelaw01_awake.f kj25).bind fun t589 => (some t589)) else (some false)) else (none)) else (none))) else ((barquelaw01_awake.f kj25).bind fun t590 => (some t590)))))) = some r := H
                  have A41 := Aside0.mk A410
                  clear A410
                  replace H := Option.bind_eq_some_iff.mp H
                  obtain ⟨⟨t573, t576, t577, t578⟩, A420, H⟩ := H
                  replace H : ((code_Texts.f kj25 t573).bind fun bt579 => ((code_Reader_Err.f t576 t577 t578).bind fun bt581 => (if bt581.1 = 0 then ((code_Reader_Left.f bt581.2.1 bt581.2.2.1 bt581.2.2.2).bind fun bt585 => (if 0 ≤ (wrap64 ((x0_1.size : Int) - bt585.1)) then (if (wrap64 ((x0_1.size : Int) - bt585.1)) ≤ (x0_1.size : Int) then (if bt579.1.toList = (x0_1.extract 0 ((wrap64 ((x0_1.size : Int) - bt585.1)) : Int).toNat).toList then ((barquelaw01_awake.f kj25).bind fun t589 => (some t589)) else (some false)) else (none)) else (none))) else ((barquelaw01_awake.f kj25).bind fun t590 => (some t590))))) = some r := H
                  have A42 := Aside0.mk A420
                  clear A420
                  replace H := Option.bind_eq_some_iff.mp H
                  obtain ⟨⟨t579, t580⟩, A430, H⟩ := H
                  replace H : ((code_Reader_Err.f t576 t577 t578).bind fun bt581 => (if bt581.1 = 0 then ((code_Reader_Left.f bt581.2.1 bt581.2.2.1 bt581.2.2.2).bind fun bt585 => (if 0 ≤ (wrap64 ((x0_1.size : Int) - bt585.1)) then (if (wrap64 ((x0_1.size : Int) - bt585.1)) ≤ (x0_1.size : Int) then (if t579.toList = (x0_1.extract 0 ((wrap64 ((x0_1.size : Int) - bt585.1)) : Int).toNat).toList then ((barquelaw01_awake.f kj25).bind fun t589 => (some t589)) else (some false)) else (none)) else (none))) else ((barquelaw01_awake.f kj25).bind fun t590 => (some t590)))) = some r := H
                  have A43 := Aside0.mk A430
                  clear A430
                  replace H := Option.bind_eq_some_iff.mp H
                  obtain ⟨⟨t581, t582, t583, t584⟩, A440, H⟩ := H
                  replace H : (if t581 = 0 then ((code_Reader_Left.f t582 t583 t584).bind fun bt585 => (if 0 ≤ (wrap64 ((x0_1.size : Int) - bt585.1)) then (if (wrap64 ((x0_1.size : Int) - bt585.1)) ≤ (x0_1.size : Int) then (if t579.toList = (x0_1.extract 0 ((wrap64 ((x0_1.size : Int) - bt585.1)) : Int).toNat).toList then ((barquelaw01_awake.f kj25).bind fun t589 => (some t589)) else (some false)) else (none)) else (none))) else ((barquelaw01_awake.f kj25).bind fun t590 => (some t590))) = some r := H
                  have A44 := Aside0.mk A440
                  clear A440
                  by_cases c45 : t581 = 0
                  · rw [if_pos c45] at H
                    have c45b0 : (t581 == 0) = true := beq_iff_eq.mpr c45
                    have c45b1 : (t581 != 0) = false := bne_eq_false_iff_eq.mpr c45
                    clear c45
                    replace H := Option.bind_eq_some_iff.mp H
                    obtain ⟨⟨t585, t586, t587, t588⟩, A460, H⟩ := H
                    replace H : (if 0 ≤ (wrap64 ((x0_1.size : Int) - t585)) then (if (wrap64 ((x0_1.size : Int) - t585)) ≤ (x0_1.size : Int) then (if t579.toList = (x0_1.extract 0 ((wrap64 ((x0_1.size : Int) - t585)) : Int).toNat).toList then ((barquelaw01_awake.f kj25).bind fun t589 => (some t589)) else (some false)) else (none)) else (none)) = some r := H
                    have A46 := Aside0.mk A460
                    clear A460
                    obtain ⟨ji47, hji47⟩ : ∃ j_ : Int, (wrap64 ((x0_1.size : Int) - t585)) = j_ := ⟨_, rfl⟩
                    replace H : (if 0 ≤ (ji47) then (if (ji47) ≤ (x0_1.size : Int) then (if t579.toList = (x0_1.extract 0 ((ji47) : Int).toNat).toList then ((barquelaw01_awake.f kj25).bind fun t589 => (some t589)) else (some false)) else (none)) else (none)) = some r := by first | (rw [hji47] at H; exact H) | (simp only [hji47] at H ⊢; exact H)
                    (try rw [hji47] at A41)
                    (try rw [hji47] at A42)
                    (try rw [hji47] at A43)
                    (try rw [hji47] at A44)
                    (try rw [hji47] at A46)
                    have hji47w : (IntKind.i64.wrap ((x0_1.size : Int) - t585)) = ji47 := (i64_w _).trans hji47
                    by_cases c48 : 0 ≤ (ji47)
                    · rw [if_pos c48] at H
                      have c48b0 := eq_true c48
                      have c48b1 : decide (0 ≤ (ji47)) = true := decide_eq_true c48
                      clear c48
                      by_cases c49 : (ji47) ≤ (x0_1.size : Int)
                      · rw [if_pos c49] at H
                        have c49b0 := eq_true c49
                        have c49b1 : decide ((ji47) ≤ (x0_1.size : Int)) = true := decide_eq_true c49
                        clear c49
                        by_cases c50 : t579.toList = (x0_1.extract 0 ((ji47) : Int).toNat).toList
                        · rw [if_pos c50] at H
                          have c50b0 : (t579.toList == (x0_1.extract 0 ((ji47) : Int).toNat).toList) = true := beq_iff_eq.mpr c50
                          have c50b1 : (t579.toList != (x0_1.extract 0 ((ji47) : Int).toNat).toList) = false := bne_eq_false_iff_eq.mpr c50
                          clear c50
                          replace H := Option.bind_eq_some_iff.mp H
                          obtain ⟨t589, A510, H⟩ := H
                          replace H : (some t589) = some r := H
                          have A51 := Aside0.mk A510
                          clear A510
                          obtain rfl := Option.some.inj H
                          go_wp2_with (first | ((with_reducible refine gate_callee (f := 26) rfl ?_); refine goesL_ (some 65) rfl rfl Try.func26 (by kernel_rfl) rfl #[.string x0_1] rfl (by (try simp only [List.map_toArray, List.map_cons, List.map_nil]); first | done | rfl | (simp only [List.length_drop, List.length_take]; rfl)) ?_; (with_reducible refine (code_Read.calls x0_1 t569 t570 t571 w _ ?side1 A41.out).mono ?_); (case side1 => repeat (first | (with_reducible first | exact HB.out | apply below_alloc | apply pw_below_drewN | apply below_drew1) | exact HB.out)); rintro e w52 ⟨g572, rfl, hi, hb, hb2⟩; refine ⟨_, rfl, ?_⟩; have n0_ := Aside0.mk (hb); have n1_ := Aside0.mk (hi); clear HB; have HB := n0_; have HI572 := n1_; clear n0_ n1_; (try clear hb); (try clear hb2); (try clear hk); (try clear hi)) | ((with_reducible refine gate_callee (f := 48) rfl ?_); refine goesL_ (some 67) rfl rfl Try.func48 (by kernel_rfl) rfl #[.pointer (some ⟨g572, 0, none⟩), .int .i64 4000, .int .i64 4000] rfl (by (try simp only [List.map_toArray, List.map_cons, List.map_nil]); first | done | rfl | (simp only [List.length_drop, List.length_take]; rfl)) ?_; (with_reducible refine (code_Reader_Texts.calls kj25 g572 t569 t570 t571 4000 4000 t573 t576 t577 t578 w _ ?side1 ?side2 A42.out).mono ?_); (case side1 => repeat (first | (with_reducible first | exact HI572.out | apply IsS59.alloc | apply IsS59.drewN | apply IsS59.drew | apply IsS59.set_0 | apply IsS59.set_1 | apply IsS59.set_2) | exact HI572.out)); (case side2 => repeat (first | (with_reducible first | exact HB.out | apply below_alloc | apply pw_below_drewN | apply below_drew1 | refine below_set ?_ (IsS59.ge HI572.out)) | exact HB.out)); rintro e w53 ⟨v574, rfl, ho0, hi, hb, hk⟩; refine ⟨_, rfl, ?_⟩; have n0_ := Aside0.mk (Kd.R_lower ho0 (below_size (by repeat (first | (with_reducible first | exact HB.out | apply below_alloc | apply pw_below_drewN | apply below_drew1 | refine below_set ?_ (IsS59.ge HI572.out)) | exact HB.out)))); have n1_ := Aside0.mk (hb); have n2_ := Aside0.mk (hi); clear HB; clear HI572; have HO575 := n0_; have HB := n1_; have HI572 := n2_; clear n0_ n1_ n2_; (try clear hb); (try clear hb2); (try clear hk); (try clear hi); (try clear ho0); obtain ⟨Ao54, co54, eo54⟩ := Kd.R_slice HO575.out; subst eo54) | ((with_reducible refine gate_callee (f := 46) rfl ?_); refine goesL_ (some 70) rfl rfl Try.func46 (by kernel_rfl) rfl #[.slice Ao54 t573.length co54] rfl (by (try simp only [List.map_toArray, List.map_cons, List.map_nil]); first | done | rfl | (simp only [List.length_drop, List.length_take]; rfl)) ?_; (with_reducible refine (code_Texts.calls kj25 _ _ t573 t579 t580 _ ?side1 ?side2 A43.out).mono ?_); (case side1 => repeat (first | exact (Kd.R_reads' HO575.out).2.2 | (with_reducible refine Kd.C_alloc ?_ _) | (with_reducible refine Kd.C_drewN ?_ _) | (with_reducible refine Kd.C_drew ?_))); (case side2 => exact (Kd.R_reads' HO575.out).2.1); rintro e w55 ⟨rfl, hb⟩; refine ⟨_, rfl, ?_⟩; have n0_ := Aside0.mk (Kd.R_below (by (with_reducible repeat (first | apply Kd.R_alloc | apply Kd.R_drewN | apply Kd.R_drew)); exact HO575.out) hb); have n1_ := Aside0.mk (IsS59.below (by repeat (first | (with_reducible first | exact HI572.out | apply IsS59.alloc | apply IsS59.drewN | apply IsS59.drew | apply IsS59.set_0 | apply IsS59.set_1 | apply IsS59.set_2) | exact HI572.out)) hb); have n2_ := Aside0.mk (below_step (by repeat (first | (with_reducible first | exact HB.out | apply below_alloc | apply pw_below_drewN | apply below_drew1 | refine below_set ?_ (IsS59.ge HI572.out)) | exact HB.out)) hb); clear HO575; clear HI572; clear HB; have HO575 := n0_; have HI572 := n1_; have HB := n2_; clear n0_ n1_ n2_; (try clear hb); (try clear hb2); (try clear hk); (try clear hi)) | ((with_reducible refine gate_callee (f := 33) rfl ?_); refine goesL_ (some 74) rfl rfl Try.func33 (by kernel_rfl) rfl #[.pointer (some ⟨g572, 0, none⟩)] rfl (by (try simp only [List.map_toArray, List.map_cons, List.map_nil]); first | done | rfl | (simp only [List.length_drop, List.length_take]; rfl)) ?_; (with_reducible refine (code_Reader_Err.calls g572 t576 t577 t578 t581 t582 t583 t584 w _ ?side1 ?side2 A44.out).mono ?_); (case side1 => repeat (first | (with_reducible first | exact HI572.out | apply IsS59.alloc | apply IsS59.drewN | apply IsS59.drew | apply IsS59.set_0 | apply IsS59.set_1 | apply IsS59.set_2) | exact HI572.out)); (case side2 => repeat (first | (with_reducible first | exact HB.out | apply below_alloc | apply pw_below_drewN | apply below_drew1 | refine below_set ?_ (IsS59.ge HI572.out)) | exact HB.out)); rintro e w56 ⟨rfl, hi, hb, hk⟩; refine ⟨_, rfl, ?_⟩; have n0_ := Aside0.mk (Kd.R_mono (Kd.R_keep (IsS59.apart (show IsS59 w _ g572 t576 t577 t578 from by repeat (first | (with_reducible first | exact HI572.out | apply IsS59.alloc | apply IsS59.drewN | apply IsS59.drew | apply IsS59.set_0 | apply IsS59.set_1 | apply IsS59.set_2) | exact HI572.out)) (by (with_reducible repeat (first | apply Kd.R_alloc | apply Kd.R_drewN | apply Kd.R_drew)); exact HO575.out) (by decide)) hk (fun _ h => h.2)) (fun _ h => h.1)); have n1_ := Aside0.mk (hb); have n2_ := Aside0.mk (hi); clear HO575; clear HB; clear HI572; have HO575 := n0_; have HB := n1_; have HI572 := n2_; clear n0_ n1_ n2_; (try clear hb); (try clear hb2); (try clear hk); (try clear hi)) | (go_at_call 32; (with_reducible refine (code_Reader_Left.calls g572 t582 t583 t584 t585 t586 t587 t588 w _ ?side1 ?side2 A46.out).mono ?_); (case side1 => repeat (first | (with_reducible first | exact HI572.out | apply IsS59.alloc | apply IsS59.drewN | apply IsS59.drew | apply IsS59.set_0 | apply IsS59.set_1 | apply IsS59.set_2) | exact HI572.out)); (case side2 => repeat (first | (with_reducible first | exact HB.out | apply below_alloc | apply pw_below_drewN | apply below_drew1 | refine below_set ?_ (IsS59.ge HI572.out)) | exact HB.out)); rintro e w57 ⟨rfl, hi, hb, hk⟩; have n0_ := Aside0.mk (Kd.R_mono (Kd.R_keep (IsS59.apart (show IsS59 w _ g572 t582 t583 t584 from by repeat (first | (with_reducible first | exact HI572.out | apply IsS59.alloc | apply IsS59.drewN | apply IsS59.drew | apply IsS59.set_0 | apply IsS59.set_1 | apply IsS59.set_2) | exact HI572.out)) (by (with_reducible repeat (first | apply Kd.R_alloc | apply Kd.R_drewN | apply Kd.R_drew)); exact HO575.out) (by decide)) hk (fun _ h => h.2)) (fun _ h => h.1)); have n1_ := Aside0.mk (hb); have n2_ := Aside0.mk (hi); clear HO575; clear HB; clear HI572; have HO575 := n0_; have HB := n1_; have HI572 := n2_; clear n0_ n1_ n2_; (try clear hb); (try clear hb2); (try clear hk); (try clear hi)) | (go_at_call 23; (with_reducible refine (barquelaw01_awake.calls kj25  t589 _ A51.out).mono ?_); rintro e w58 ⟨rfl, hb⟩; have n0_ := Aside0.mk (Kd.R_below (by (with_reducible repeat (first | apply Kd.R_alloc | apply Kd.R_drewN | apply Kd.R_drew)); exact HO575.out) hb); have n1_ := Aside0.mk (IsS59.below (by repeat (first | (with_reducible first | exact HI572.out | apply IsS59.alloc | apply IsS59.drewN | apply IsS59.drew | apply IsS59.set_0 | apply IsS59.set_1 | apply IsS59.set_2) | exact HI572.out)) hb); have n2_ := Aside0.mk (below_step (by repeat (first | (with_reducible first | exact HB.out | apply below_alloc | apply pw_below_drewN | apply below_drew1 | refine below_set ?_ (IsS59.ge HI572.out)) | exact HB.out)) hb); clear HO575; clear HI572; clear HB; have HO575 := n0_; have HI572 := n1_; have HB := n2_; clear n0_ n1_ n2_; (try clear hb); (try clear hb2); (try clear hk); (try clear hi)))
                          go_ret
                          exact ⟨by first | rfl | (simp [errW_none, errW_some] <;> rfl) | (simp only [← hji47]; first | rfl | (simp [errW_none, errW_some] <;> rfl)) | (simp [*, errW_none, errW_some] <;> rfl), by repeat (first | (with_reducible first | exact HB.out | apply below_alloc | apply pw_below_drewN | apply below_drew1 | refine below_set ?_ (IsS59.ge HI572.out)) | exact HB.out)⟩
                        · rw [if_neg c50] at H
                          have c50b0 : (t579.toList == (x0_1.extract 0 ((ji47) : Int).toNat).toList) = false := beq_eq_false_iff_ne.mpr c50
                          have c50b1 : (t579.toList != (x0_1.extract 0 ((ji47) : Int).toNat).toList) = true := bne_iff_ne.mpr c50
                          obtain rfl := Option.some.inj H
                          go_wp2_with (first | ((with_reducible refine gate_callee (f := 26) rfl ?_); refine goesL_ (some 65) rfl rfl Try.func26 (by kernel_rfl) rfl #[.string x0_1] rfl (by (try simp only [List.map_toArray, List.map_cons, List.map_nil]); first | done | rfl | (simp only [List.length_drop, List.length_take]; rfl)) ?_; (with_reducible refine (code_Read.calls x0_1 t569 t570 t571 w _ ?side1 A41.out).mono ?_); (case side1 => repeat (first | (with_reducible first | exact HB.out | apply below_alloc | apply pw_below_drewN | apply below_drew1) | exact HB.out)); rintro e w59 ⟨g572, rfl, hi, hb, hb2⟩; refine ⟨_, rfl, ?_⟩; have n0_ := Aside0.mk (hb); have n1_ := Aside0.mk (hi); clear HB; have HB := n0_; have HI572 := n1_; clear n0_ n1_; (try clear hb); (try clear hb2); (try clear hk); (try clear hi)) | ((with_reducible refine gate_callee (f := 48) rfl ?_); refine goesL_ (some 67) rfl rfl Try.func48 (by kernel_rfl) rfl #[.pointer (some ⟨g572, 0, none⟩), .int .i64 4000, .int .i64 4000] rfl (by (try simp only [List.map_toArray, List.map_cons, List.map_nil]); first | done | rfl | (simp only [List.length_drop, List.length_take]; rfl)) ?_; (with_reducible refine (code_Reader_Texts.calls kj25 g572 t569 t570 t571 4000 4000 t573 t576 t577 t578 w _ ?side1 ?side2 A42.out).mono ?_); (case side1 => repeat (first | (with_reducible first | exact HI572.out | apply IsS59.alloc | apply IsS59.drewN | apply IsS59.drew | apply IsS59.set_0 | apply IsS59.set_1 | apply IsS59.set_2) | exact HI572.out)); (case side2 => repeat (first | (with_reducible first | exact HB.out | apply below_alloc | apply pw_below_drewN | apply below_drew1 | refine below_set ?_ (IsS59.ge HI572.out)) | exact HB.out)); rintro e w60 ⟨v574, rfl, ho0, hi, hb, hk⟩; refine ⟨_, rfl, ?_⟩; have n0_ := Aside0.mk (Kd.R_lower ho0 (below_size (by repeat (first | (with_reducible first | exact HB.out | apply below_alloc | apply pw_below_drewN | apply below_drew1 | refine below_set ?_ (IsS59.ge HI572.out)) | exact HB.out)))); have n1_ := Aside0.mk (hb); have n2_ := Aside0.mk (hi); clear HB; clear HI572; have HO575 := n0_; have HB := n1_; have HI572 := n2_; clear n0_ n1_ n2_; (try clear hb); (try clear hb2); (try clear hk); (try clear hi); (try clear ho0); obtain ⟨Ao61, co61, eo61⟩ := Kd.R_slice HO575.out; subst eo61) | ((with_reducible refine gate_callee (f := 46) rfl ?_); refine goesL_ (some 70) rfl rfl Try.func46 (by kernel_rfl) rfl #[.slice Ao61 t573.length co61] rfl (by (try simp only [List.map_toArray, List.map_cons, List.map_nil]); first | done | rfl | (simp only [List.length_drop, List.length_take]; rfl)) ?_; (with_reducible refine (code_Texts.calls kj25 _ _ t573 t579 t580 _ ?side1 ?side2 A43.out).mono ?_); (case side1 => repeat (first | exact (Kd.R_reads' HO575.out).2.2 | (with_reducible refine Kd.C_alloc ?_ _) | (with_reducible refine Kd.C_drewN ?_ _) | (with_reducible refine Kd.C_drew ?_))); (case side2 => exact (Kd.R_reads' HO575.out).2.1); rintro e w62 ⟨rfl, hb⟩; refine ⟨_, rfl, ?_⟩; have n0_ := Aside0.mk (Kd.R_below (by (with_reducible repeat (first | apply Kd.R_alloc | apply Kd.R_drewN | apply Kd.R_drew)); exact HO575.out) hb); have n1_ := Aside0.mk (IsS59.below (by repeat (first | (with_reducible first | exact HI572.out | apply IsS59.alloc | apply IsS59.drewN | apply IsS59.drew | apply IsS59.set_0 | apply IsS59.set_1 | apply IsS59.set_2) | exact HI572.out)) hb); have n2_ := Aside0.mk (below_step (by repeat (first | (with_reducible first | exact HB.out | apply below_alloc | apply pw_below_drewN | apply below_drew1 | refine below_set ?_ (IsS59.ge HI572.out)) | exact HB.out)) hb); clear HO575; clear HI572; clear HB; have HO575 := n0_; have HI572 := n1_; have HB := n2_; clear n0_ n1_ n2_; (try clear hb); (try clear hb2); (try clear hk); (try clear hi)) | ((with_reducible refine gate_callee (f := 33) rfl ?_); refine goesL_ (some 74) rfl rfl Try.func33 (by kernel_rfl) rfl #[.pointer (some ⟨g572, 0, none⟩)] rfl (by (try simp only [List.map_toArray, List.map_cons, List.map_nil]); first | done | rfl | (simp only [List.length_drop, List.length_take]; rfl)) ?_; (with_reducible refine (code_Reader_Err.calls g572 t576 t577 t578 t581 t582 t583 t584 w _ ?side1 ?side2 A44.out).mono ?_); (case side1 => repeat (first | (with_reducible first | exact HI572.out | apply IsS59.alloc | apply IsS59.drewN | apply IsS59.drew | apply IsS59.set_0 | apply IsS59.set_1 | apply IsS59.set_2) | exact HI572.out)); (case side2 => repeat (first | (with_reducible first | exact HB.out | apply below_alloc | apply pw_below_drewN | apply below_drew1 | refine below_set ?_ (IsS59.ge HI572.out)) | exact HB.out)); rintro e w63 ⟨rfl, hi, hb, hk⟩; refine ⟨_, rfl, ?_⟩; have n0_ := Aside0.mk (Kd.R_mono (Kd.R_keep (IsS59.apart (show IsS59 w _ g572 t576 t577 t578 from by repeat (first | (with_reducible first | exact HI572.out | apply IsS59.alloc | apply IsS59.drewN | apply IsS59.drew | apply IsS59.set_0 | apply IsS59.set_1 | apply IsS59.set_2) | exact HI572.out)) (by (with_reducible repeat (first | apply Kd.R_alloc | apply Kd.R_drewN | apply Kd.R_drew)); exact HO575.out) (by decide)) hk (fun _ h => h.2)) (fun _ h => h.1)); have n1_ := Aside0.mk (hb); have n2_ := Aside0.mk (hi); clear HO575; clear HB; clear HI572; have HO575 := n0_; have HB := n1_; have HI572 := n2_; clear n0_ n1_ n2_; (try clear hb); (try clear hb2); (try clear hk); (try clear hi)) | (go_at_call 32; (with_reducible refine (code_Reader_Left.calls g572 t582 t583 t584 t585 t586 t587 t588 w _ ?side1 ?side2 A46.out).mono ?_); (case side1 => repeat (first | (with_reducible first | exact HI572.out | apply IsS59.alloc | apply IsS59.drewN | apply IsS59.drew | apply IsS59.set_0 | apply IsS59.set_1 | apply IsS59.set_2) | exact HI572.out)); (case side2 => repeat (first | (with_reducible first | exact HB.out | apply below_alloc | apply pw_below_drewN | apply below_drew1 | refine below_set ?_ (IsS59.ge HI572.out)) | exact HB.out)); rintro e w64 ⟨rfl, hi, hb, hk⟩; have n0_ := Aside0.mk (Kd.R_mono (Kd.R_keep (IsS59.apart (show IsS59 w _ g572 t582 t583 t584 from by repeat (first | (with_reducible first | exact HI572.out | apply IsS59.alloc | apply IsS59.drewN | apply IsS59.drew | apply IsS59.set_0 | apply IsS59.set_1 | apply IsS59.set_2) | exact HI572.out)) (by (with_reducible repeat (first | apply Kd.R_alloc | apply Kd.R_drewN | apply Kd.R_drew)); exact HO575.out) (by decide)) hk (fun _ h => h.2)) (fun _ h => h.1)); have n1_ := Aside0.mk (hb); have n2_ := Aside0.mk (hi); clear HO575; clear HB; clear HI572; have HO575 := n0_; have HB := n1_; have HI572 := n2_; clear n0_ n1_ n2_; (try clear hb); (try clear hb2); (try clear hk); (try clear hi)))
                          go_ret
                          exact ⟨by first | rfl | (simp [errW_none, errW_some] <;> rfl) | (simp only [← hji47]; first | rfl | (simp [errW_none, errW_some] <;> rfl)) | (simp [*, errW_none, errW_some] <;> rfl), by repeat (first | (with_reducible first | exact HB.out | apply below_alloc | apply pw_below_drewN | apply below_drew1 | refine below_set ?_ (IsS59.ge HI572.out)) | exact HB.out)⟩
                      · rw [if_neg c49] at H
                        exact absurd H (by simp)
                    · rw [if_neg c48] at H
                      exact absurd H (by simp)
                  · rw [if_neg c45] at H
                    have c45b0 : (t581 == 0) = false := beq_eq_false_iff_ne.mpr c45
                    have c45b1 : (t581 != 0) = true := bne_iff_ne.mpr c45
                    replace H := Option.bind_eq_some_iff.mp H
                    obtain ⟨t590, A650, H⟩ := H
                    replace H : (some t590) = some r := H
                    have A65 := Aside0.mk A650
                    clear A650
                    obtain rfl := Option.some.inj H
                    go_wp2_with (first | ((with_reducible refine gate_callee (f := 26) rfl ?_); refine goesL_ (some 65) rfl rfl Try.func26 (by kernel_rfl) rfl #[.string x0_1] rfl (by (try simp only [List.map_toArray, List.map_cons, List.map_nil]); first | done | rfl | (simp only [List.length_drop, List.length_take]; rfl)) ?_; (with_reducible refine (code_Read.calls x0_1 t569 t570 t571 w _ ?side1 A41.out).mono ?_); (case side1 => repeat (first | (with_reducible first | exact HB.out | apply below_alloc | apply pw_below_drewN | apply below_drew1) | exact HB.out)); rintro e w66 ⟨g572, rfl, hi, hb, hb2⟩; refine ⟨_, rfl, ?_⟩; have n0_ := Aside0.mk (hb); have n1_ := Aside0.mk (hi); clear HB; have HB := n0_; have HI572 := n1_; clear n0_ n1_; (try clear hb); (try clear hb2); (try clear hk); (try clear hi)) | ((with_reducible refine gate_callee (f := 48) rfl ?_); refine goesL_ (some 67) rfl rfl Try.func48 (by kernel_rfl) rfl #[.pointer (some ⟨g572, 0, none⟩), .int .i64 4000, .int .i64 4000] rfl (by (try simp only [List.map_toArray, List.map_cons, List.map_nil]); first | done | rfl | (simp only [List.length_drop, List.length_take]; rfl)) ?_; (with_reducible refine (code_Reader_Texts.calls kj25 g572 t569 t570 t571 4000 4000 t573 t576 t577 t578 w _ ?side1 ?side2 A42.out).mono ?_); (case side1 => repeat (first | (with_reducible first | exact HI572.out | apply IsS59.alloc | apply IsS59.drewN | apply IsS59.drew | apply IsS59.set_0 | apply IsS59.set_1 | apply IsS59.set_2) | exact HI572.out)); (case side2 => repeat (first | (with_reducible first | exact HB.out | apply below_alloc | apply pw_below_drewN | apply below_drew1 | refine below_set ?_ (IsS59.ge HI572.out)) | exact HB.out)); rintro e w67 ⟨v574, rfl, ho0, hi, hb, hk⟩; refine ⟨_, rfl, ?_⟩; have n0_ := Aside0.mk (Kd.R_lower ho0 (below_size (by repeat (first | (with_reducible first | exact HB.out | apply below_alloc | apply pw_below_drewN | apply below_drew1 | refine below_set ?_ (IsS59.ge HI572.out)) | exact HB.out)))); have n1_ := Aside0.mk (hb); have n2_ := Aside0.mk (hi); clear HB; clear HI572; have HO575 := n0_; have HB := n1_; have HI572 := n2_; clear n0_ n1_ n2_; (try clear hb); (try clear hb2); (try clear hk); (try clear hi); (try clear ho0); obtain ⟨Ao68, co68, eo68⟩ := Kd.R_slice HO575.out; subst eo68) | ((with_reducible refine gate_callee (f := 46) rfl ?_); refine goesL_ (some 70) rfl rfl Try.func46 (by kernel_rfl) rfl #[.slice Ao68 t573.length co68] rfl (by (try simp only [List.map_toArray, List.map_cons, List.map_nil]); first | done | rfl | (simp only [List.length_drop, List.length_take]; rfl)) ?_; (with_reducible refine (code_Texts.calls kj25 _ _ t573 t579 t580 _ ?side1 ?side2 A43.out).mono ?_); (case side1 => repeat (first | exact (Kd.R_reads' HO575.out).2.2 | (with_reducible refine Kd.C_alloc ?_ _) | (with_reducible refine Kd.C_drewN ?_ _) | (with_reducible refine Kd.C_drew ?_))); (case side2 => exact (Kd.R_reads' HO575.out).2.1); rintro e w69 ⟨rfl, hb⟩; refine ⟨_, rfl, ?_⟩; have n0_ := Aside0.mk (Kd.R_below (by (with_reducible repeat (first | apply Kd.R_alloc | apply Kd.R_drewN | apply Kd.R_drew)); exact HO575.out) hb); have n1_ := Aside0.mk (IsS59.below (by repeat (first | (with_reducible first | exact HI572.out | apply IsS59.alloc | apply IsS59.drewN | apply IsS59.drew | apply IsS59.set_0 | apply IsS59.set_1 | apply IsS59.set_2) | exact HI572.out)) hb); have n2_ := Aside0.mk (below_step (by repeat (first | (with_reducible first | exact HB.out | apply below_alloc | apply pw_below_drewN | apply below_drew1 | refine below_set ?_ (IsS59.ge HI572.out)) | exact HB.out)) hb); clear HO575; clear HI572; clear HB; have HO575 := n0_; have HI572 := n1_; have HB := n2_; clear n0_ n1_ n2_; (try clear hb); (try clear hb2); (try clear hk); (try clear hi)) | ((with_reducible refine gate_callee (f := 33) rfl ?_); refine goesL_ (some 74) rfl rfl Try.func33 (by kernel_rfl) rfl #[.pointer (some ⟨g572, 0, none⟩)] rfl (by (try simp only [List.map_toArray, List.map_cons, List.map_nil]); first | done | rfl | (simp only [List.length_drop, List.length_take]; rfl)) ?_; (with_reducible refine (code_Reader_Err.calls g572 t576 t577 t578 t581 t582 t583 t584 w _ ?side1 ?side2 A44.out).mono ?_); (case side1 => repeat (first | (with_reducible first | exact HI572.out | apply IsS59.alloc | apply IsS59.drewN | apply IsS59.drew | apply IsS59.set_0 | apply IsS59.set_1 | apply IsS59.set_2) | exact HI572.out)); (case side2 => repeat (first | (with_reducible first | exact HB.out | apply below_alloc | apply pw_below_drewN | apply below_drew1 | refine below_set ?_ (IsS59.ge HI572.out)) | exact HB.out)); rintro e w70 ⟨rfl, hi, hb, hk⟩; refine ⟨_, rfl, ?_⟩; have n0_ := Aside0.mk (Kd.R_mono (Kd.R_keep (IsS59.apart (show IsS59 w _ g572 t576 t577 t578 from by repeat (first | (with_reducible first | exact HI572.out | apply IsS59.alloc | apply IsS59.drewN | apply IsS59.drew | apply IsS59.set_0 | apply IsS59.set_1 | apply IsS59.set_2) | exact HI572.out)) (by (with_reducible repeat (first | apply Kd.R_alloc | apply Kd.R_drewN | apply Kd.R_drew)); exact HO575.out) (by decide)) hk (fun _ h => h.2)) (fun _ h => h.1)); have n1_ := Aside0.mk (hb); have n2_ := Aside0.mk (hi); clear HO575; clear HB; clear HI572; have HO575 := n0_; have HB := n1_; have HI572 := n2_; clear n0_ n1_ n2_; (try clear hb); (try clear hb2); (try clear hk); (try clear hi)) | (go_at_call 23; (with_reducible refine (barquelaw01_awake.calls kj25  t590 _ A65.out).mono ?_); rintro e w71 ⟨rfl, hb⟩; have n0_ := Aside0.mk (Kd.R_below (by (with_reducible repeat (first | apply Kd.R_alloc | apply Kd.R_drewN | apply Kd.R_drew)); exact HO575.out) hb); have n1_ := Aside0.mk (IsS59.below (by repeat (first | (with_reducible first | exact HI572.out | apply IsS59.alloc | apply IsS59.drewN | apply IsS59.drew | apply IsS59.set_0 | apply IsS59.set_1 | apply IsS59.set_2) | exact HI572.out)) hb); have n2_ := Aside0.mk (below_step (by repeat (first | (with_reducible first | exact HB.out | apply below_alloc | apply pw_below_drewN | apply below_drew1 | refine below_set ?_ (IsS59.ge HI572.out)) | exact HB.out)) hb); clear HO575; clear HI572; clear HB; have HO575 := n0_; have HI572 := n1_; have HB := n2_; clear n0_ n1_ n2_; (try clear hb); (try clear hb2); (try clear hk); (try clear hi)))
                    go_ret
                    exact ⟨by first | rfl | (simp [errW_none, errW_some] <;> rfl) | (simp [*, errW_none, errW_some] <;> rfl), by repeat (first | (with_reducible first | exact HB.out | apply below_alloc | apply pw_below_drewN | apply below_drew1 | refine below_set ?_ (IsS59.ge HI572.out)) | exact HB.out)⟩

/-- THE ONE PURE STATEMENT of barquelaw01_CodeCanon: yours. -/
def barquelaw01_CodeCanon.Pure : Prop := ∀ (a0 : ByteArray), a0.size ≤ 140737488351232 → ∃ k, barquelaw01_CodeCanon.f k a0 = some true
theorem barquelaw01_CodeCanon.walk (P : barquelaw01_CodeCanon.Pure) (a0 : ByteArray) (w : World) (w0 : a0.size ≤ 140737488351232) :
    Calls Try.prog 15 #[.string a0] w fun e w' => e = .returned (.bool true) ∧ Below w.heap.size w w' := by
  obtain ⟨k, h⟩ := P a0 w0
  refine (barquelaw01_CodeCanon.calls k a0 true w h).mono ?_
  rintro e w' ⟨rfl, hd⟩
  exact ⟨rfl, hd⟩

end Go.Proofs.Ytocjhpjljlcboaa.Q
