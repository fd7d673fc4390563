-- Written by a program of this session (wip/mkprint.py, over the kit's printer). Lean checks it.
import Derived.Test.YtocjhpjljlcboaaQ0
import Derived.Test.YtocjhpjljlcboaaQ6
import Derived.Test.YtocjhpjljlcboaaQ7
namespace Go.Proofs.Ytocjhpjljlcboaa.Q
open Go.RowKit Go.Proofs.YtocjhpjljlcboaaW.PrintWords Go.Proofs.YtocjhpjljlcboaaW.PrintLast Go.Proofs.YtocjhpjljlcboaaW.PrintMore
attribute [local go_sem] max2_int min2_int max_two min_two max_three min_three max_four min_four   -- for this text's walks alone
set_option linter.unusedVariables false
set_option linter.unusedSimpArgs false

/-! ### barqueref08_Loose: function 52 -/
mutual
def barqueref08_Loose.l0 : Nat → Int → List Int → ByteArray → Int → Int → Option (ByteArray × Int)
  | 0, _, _, _, _, _ => none
  | k + 1, x5, x6, x436000, x436001, x436002 => if x436002 = 0 then (barqueref08_Loose.j1 k x5 x6 (decide ((x6.length : Int) < x5)) x436000 x436001 x436002) else (barqueref08_Loose.j1 k x5 x6 false x436000 x436001 x436002)
def barqueref08_Loose.j1 : Nat → Int → List Int → Bool → ByteArray → Int → Int → Option (ByteArray × Int)
  | 0, _, _, _, _, _, _ => none
  | k + 1, x5, x6, x27, x436000, x436001, x436002 => if x27 = true then ((barqueref01_Reader_Num.f k x436000 x436001 x436002).bind fun bt444 => (if (Int.tmod bt444.1 2) = 0 then (if bt444.2.2.2 = 0 then (if bt444.1 = 0 then ((barqueref01_Reader_Raw.f bt444.2.1 bt444.2.2.1 5 (wrap64 (Int.tdiv bt444.1 2))).bind fun bt448 => (if x6.length + bt448.1.size < 140737488355328 then (barqueref08_Loose.l0 k x5 (x6 ++ bytesOf bt448.1) bt448.2.1 bt448.2.2.1 bt448.2.2.2) else (none))) else (if (wrap64 (Int.tdiv bt444.1 2)) > (wrap64 (x5 - (x6.length : Int))) then ((barqueref01_Reader_Raw.f bt444.2.1 bt444.2.2.1 5 (wrap64 (Int.tdiv bt444.1 2))).bind fun bt455 => (if x6.length + bt455.1.size < 140737488355328 then (barqueref08_Loose.l0 k x5 (x6 ++ bytesOf bt455.1) bt455.2.1 bt455.2.2.1 bt455.2.2.2) else (none))) else ((barqueref01_Reader_Raw.f bt444.2.1 bt444.2.2.1 bt444.2.2.2 (wrap64 (Int.tdiv bt444.1 2))).bind fun bt462 => (if x6.length + bt462.1.size < 140737488355328 then (barqueref08_Loose.l0 k x5 (x6 ++ bytesOf bt462.1) bt462.2.1 bt462.2.2.1 bt462.2.2.2) else (none))))) else ((barqueref01_Reader_Raw.f bt444.2.1 bt444.2.2.1 bt444.2.2.2 (wrap64 (Int.tdiv bt444.1 2))).bind fun bt469 => (if x6.length + bt469.1.size < 140737488355328 then (barqueref08_Loose.l0 k x5 (x6 ++ bytesOf bt469.1) bt469.2.1 bt469.2.2.1 bt469.2.2.2) else (none)))) else ((barqueref01_Reader_Num.f k bt444.2.1 bt444.2.2.1 bt444.2.2.2).bind fun bt476 => (if bt476.2.2.2 = 0 then (if (wrap64 (bt476.1 + 1)) > (x6.length : Int) then (barqueref08_Loose.j2 k x5 x6 bt444.1 (wrap64 (bt476.1 + 1)) true bt476.2.1 bt476.2.2.1 bt476.2.2.2) else (if (wrap64 (bt476.1 + 1)) > 4096 then (barqueref08_Loose.j2 k x5 x6 bt444.1 (wrap64 (bt476.1 + 1)) true bt476.2.1 bt476.2.2.1 bt476.2.2.2) else (if (wrap64 (Int.tdiv bt444.1 2)) > 255 then (barqueref08_Loose.j2 k x5 x6 bt444.1 (wrap64 (bt476.1 + 1)) true bt476.2.1 bt476.2.2.1 bt476.2.2.2) else (barqueref08_Loose.j2 k x5 x6 bt444.1 (wrap64 (bt476.1 + 1)) (decide ((wrap64 ((wrap64 (Int.tdiv bt444.1 2)) + 4)) > (wrap64 (x5 - (x6.length : Int))))) bt476.2.1 bt476.2.2.1 bt476.2.2.2)))) else (barqueref08_Loose.j2 k x5 x6 bt444.1 (wrap64 (bt476.1 + 1)) false bt476.2.1 bt476.2.2.1 bt476.2.2.2))))) else ((barqueref01_Reader_End.f x436000 x436001 x436002).bind fun bt440 => (if bt440.1 = 0 then (some (strOfNums x6, 0)) else (some ((⟨#[]⟩ : ByteArray), bt440.1))))
def barqueref08_Loose.j2 : Nat → Int → List Int → Int → Int → Bool → ByteArray → Int → Int → Option (ByteArray × Int)
  | 0, _, _, _, _, _, _, _, _ => none
  | k + 1, x5, x6, x7, x9, x90, x436000, x436001, x436002 => if x90 = true then (barqueref08_Loose.j3 k x5 x6 x7 x9 x436000 x436001 5) else (barqueref08_Loose.j3 k x5 x6 x7 x9 x436000 x436001 x436002)
def barqueref08_Loose.j3 : Nat → Int → List Int → Int → Int → ByteArray → Int → Int → Option (ByteArray × Int)
  | 0, _, _, _, _, _, _, _ => none
  | k + 1, x5, x6, x7, x9, x436000, x436001, x436002 => barqueref08_Loose.l1 k x5 x6 x7 x9 0 x436000 x436001 x436002
def barqueref08_Loose.l1 : Nat → Int → List Int → Int → Int → Int → ByteArray → Int → Int → Option (ByteArray × Int)
  | 0, _, _, _, _, _, _, _, _ => none
  | k + 1, x5, x6, x7, x9, x10, x436000, x436001, x436002 => if x10 < (wrap64 ((wrap64 (Int.tdiv x7 2)) + 4)) then (if x436002 = 0 then (if 0 ≤ (wrap64 ((x6.length : Int) - x9)) then (if (wrap64 ((x6.length : Int) - x9)) < (x6.length : Int) then (if x6.length < 140737488355328 then (barqueref08_Loose.l1 k x5 (x6 ++ [rd x6 (wrap64 ((x6.length : Int) - x9))]) x7 x9 (wrap64 (x10 + 1)) x436000 x436001 x436002) else (none)) else (none)) else (none)) else (barqueref08_Loose.l0 k x5 x6 x436000 x436001 x436002)) else (barqueref08_Loose.l0 k x5 x6 x436000 x436001 x436002)
end
def barqueref08_Loose.f (k : Nat) (a0 : ByteArray) : Option (ByteArray × Int) := (barqueref01_Reader_Count.f k a0 0 0 1048576).bind fun bt436 => (barqueref08_Loose.l0 k bt436.1 ([] : List Int) bt436.2.1 bt436.2.2.1 bt436.2.2.2)
theorem barqueref08_Loose.mono_l : ∀ k, (∀ y0 y1 y2 y3 y4, LeO (barqueref08_Loose.l0 k y0 y1 y2 y3 y4) (barqueref08_Loose.l0 (k + 1) y0 y1 y2 y3 y4)) ∧ (∀ y0 y1 y2 y3 y4 y5, LeO (barqueref08_Loose.j1 k y0 y1 y2 y3 y4 y5) (barqueref08_Loose.j1 (k + 1) y0 y1 y2 y3 y4 y5)) ∧ (∀ y0 y1 y2 y3 y4 y5 y6 y7, LeO (barqueref08_Loose.j2 k y0 y1 y2 y3 y4 y5 y6 y7) (barqueref08_Loose.j2 (k + 1) y0 y1 y2 y3 y4 y5 y6 y7)) ∧ (∀ y0 y1 y2 y3 y4 y5 y6, LeO (barqueref08_Loose.j3 k y0 y1 y2 y3 y4 y5 y6) (barqueref08_Loose.j3 (k + 1) y0 y1 y2 y3 y4 y5 y6)) ∧ (∀ y0 y1 y2 y3 y4 y5 y6 y7, LeO (barqueref08_Loose.l1 k y0 y1 y2 y3 y4 y5 y6 y7) (barqueref08_Loose.l1 (k + 1) y0 y1 y2 y3 y4 y5 y6 y7))
  | 0 => ⟨fun _ _ _ _ _ r h => by simp [barqueref08_Loose.l0] at h, fun _ _ _ _ _ _ r h => by simp [barqueref08_Loose.j1] at h, fun _ _ _ _ _ _ _ _ r h => by simp [barqueref08_Loose.j2] at h, fun _ _ _ _ _ _ _ r h => by simp [barqueref08_Loose.j3] at h, fun _ _ _ _ _ _ _ _ r h => by simp [barqueref08_Loose.l1] at h⟩
  | k + 1 => by
    obtain ⟨ih0, ih1, ih2, ih3, ih4⟩ := barqueref08_Loose.mono_l k
    refine ⟨?_, ?_, ?_, ?_, ?_⟩
    · intro y0 y1 y2 y3 y4
      unfold barqueref08_Loose.l0
      repeat' first
      | (with_reducible exact ih0 _ _ _ _ _)
      | (with_reducible exact ih1 _ _ _ _ _ _)
      | (with_reducible exact ih2 _ _ _ _ _ _ _ _)
      | (with_reducible exact ih3 _ _ _ _ _ _ _)
      | (with_reducible exact ih4 _ _ _ _ _ _ _ _)
      | (with_reducible exact barqueref01_Reader_Count.mono _ _ _ _ _)
      | (with_reducible exact barqueref01_Reader_Num.mono _ _ _ _)
      | (with_reducible exact LeO.refl _)
      | (with_reducible exact LeO.none _)
      | (with_reducible refine LeO.ite ?_ ?_)
      | (with_reducible refine LeO.bind ?_ (fun _ => ?_))
      | exact ih0 _ _ _ _ _
      | exact ih1 _ _ _ _ _ _
      | exact ih2 _ _ _ _ _ _ _ _
      | exact ih3 _ _ _ _ _ _ _
      | exact ih4 _ _ _ _ _ _ _ _
      | exact barqueref01_Reader_Count.mono _ _ _ _ _
      | exact barqueref01_Reader_Num.mono _ _ _ _
      | exact LeO.none _
      | refine LeO.ite ?_ ?_
      | refine LeO.bind ?_ (fun _ => ?_)
    · intro y0 y1 y2 y3 y4 y5
      unfold barqueref08_Loose.j1
      repeat' first
      | (with_reducible exact ih0 _ _ _ _ _)
      | (with_reducible exact ih1 _ _ _ _ _ _)
      | (with_reducible exact ih2 _ _ _ _ _ _ _ _)
      | (with_reducible exact ih3 _ _ _ _ _ _ _)
      | (with_reducible exact ih4 _ _ _ _ _ _ _ _)
      | (with_reducible exact barqueref01_Reader_Count.mono _ _ _ _ _)
      | (with_reducible exact barqueref01_Reader_Num.mono _ _ _ _)
      | (with_reducible exact LeO.refl _)
      | (with_reducible exact LeO.none _)
      | (with_reducible refine LeO.ite ?_ ?_)
      | (with_reducible refine LeO.bind ?_ (fun _ => ?_))
      | exact ih0 _ _ _ _ _
      | exact ih1 _ _ _ _ _ _
      | exact ih2 _ _ _ _ _ _ _ _
      | exact ih3 _ _ _ _ _ _ _
      | exact ih4 _ _ _ _ _ _ _ _
      | exact barqueref01_Reader_Count.mono _ _ _ _ _
      | exact barqueref01_Reader_Num.mono _ _ _ _
      | exact LeO.none _
      | refine LeO.ite ?_ ?_
      | refine LeO.bind ?_ (fun _ => ?_)
    · intro y0 y1 y2 y3 y4 y5 y6 y7
      unfold barqueref08_Loose.j2
      repeat' first
      | (with_reducible exact ih0 _ _ _ _ _)
      | (with_reducible exact ih1 _ _ _ _ _ _)
      | (with_reducible exact ih2 _ _ _ _ _ _ _ _)
      | (with_reducible exact ih3 _ _ _ _ _ _ _)
      | (with_reducible exact ih4 _ _ _ _ _ _ _ _)
      | (with_reducible exact barqueref01_Reader_Count.mono _ _ _ _ _)
      | (with_reducible exact barqueref01_Reader_Num.mono _ _ _ _)
      | (with_reducible exact LeO.refl _)
      | (with_reducible exact LeO.none _)
      | (with_reducible refine LeO.ite ?_ ?_)
      | (with_reducible refine LeO.bind ?_ (fun _ => ?_))
      | exact ih0 _ _ _ _ _
      | exact ih1 _ _ _ _ _ _
      | exact ih2 _ _ _ _ _ _ _ _
      | exact ih3 _ _ _ _ _ _ _
      | exact ih4 _ _ _ _ _ _ _ _
      | exact barqueref01_Reader_Count.mono _ _ _ _ _
      | exact barqueref01_Reader_Num.mono _ _ _ _
      | exact LeO.none _
      | refine LeO.ite ?_ ?_
      | refine LeO.bind ?_ (fun _ => ?_)
    · intro y0 y1 y2 y3 y4 y5 y6
      unfold barqueref08_Loose.j3
      repeat' first
      | (with_reducible exact ih0 _ _ _ _ _)
      | (with_reducible exact ih1 _ _ _ _ _ _)
      | (with_reducible exact ih2 _ _ _ _ _ _ _ _)
      | (with_reducible exact ih3 _ _ _ _ _ _ _)
      | (with_reducible exact ih4 _ _ _ _ _ _ _ _)
      | (with_reducible exact barqueref01_Reader_Count.mono _ _ _ _ _)
      | (with_reducible exact barqueref01_Reader_Num.mono _ _ _ _)
      | (with_reducible exact LeO.refl _)
      | (with_reducible exact LeO.none _)
      | (with_reducible refine LeO.ite ?_ ?_)
      | (with_reducible refine LeO.bind ?_ (fun _ => ?_))
      | exact ih0 _ _ _ _ _
      | exact ih1 _ _ _ _ _ _
      | exact ih2 _ _ _ _ _ _ _ _
      | exact ih3 _ _ _ _ _ _ _
      | exact ih4 _ _ _ _ _ _ _ _
      | exact barqueref01_Reader_Count.mono _ _ _ _ _
      | exact barqueref01_Reader_Num.mono _ _ _ _
      | exact LeO.none _
      | refine LeO.ite ?_ ?_
      | refine LeO.bind ?_ (fun _ => ?_)
    · intro y0 y1 y2 y3 y4 y5 y6 y7
      unfold barqueref08_Loose.l1
      repeat' first
      | (with_reducible exact ih0 _ _ _ _ _)
      | (with_reducible exact ih1 _ _ _ _ _ _)
      | (with_reducible exact ih2 _ _ _ _ _ _ _ _)
      | (with_reducible exact ih3 _ _ _ _ _ _ _)
      | (with_reducible exact ih4 _ _ _ _ _ _ _ _)
      | (with_reducible exact barqueref01_Reader_Count.mono _ _ _ _ _)
      | (with_reducible exact barqueref01_Reader_Num.mono _ _ _ _)
      | (with_reducible exact LeO.refl _)
      | (with_reducible exact LeO.none _)
      | (with_reducible refine LeO.ite ?_ ?_)
      | (with_reducible refine LeO.bind ?_ (fun _ => ?_))
      | exact ih0 _ _ _ _ _
      | exact ih1 _ _ _ _ _ _
      | exact ih2 _ _ _ _ _ _ _ _
      | exact ih3 _ _ _ _ _ _ _
      | exact ih4 _ _ _ _ _ _ _ _
      | exact barqueref01_Reader_Count.mono _ _ _ _ _
      | exact barqueref01_Reader_Num.mono _ _ _ _
      | exact LeO.none _
      | refine LeO.ite ?_ ?_
      | refine LeO.bind ?_ (fun _ => ?_)
theorem barqueref08_Loose.mono : ∀ a0 k, LeO (barqueref08_Loose.f k a0) (barqueref08_Loose.f (k + 1) a0) := by
  intro a0 k
  obtain ⟨ih0, ih1, ih2, ih3, ih4⟩ := barqueref08_Loose.mono_l k
  unfold barqueref08_Loose.f
  repeat' first
      | (with_reducible exact ih0 _ _ _ _ _)
      | (with_reducible exact ih1 _ _ _ _ _ _)
      | (with_reducible exact ih2 _ _ _ _ _ _ _ _)
      | (with_reducible exact ih3 _ _ _ _ _ _ _)
      | (with_reducible exact ih4 _ _ _ _ _ _ _ _)
      | (with_reducible exact barqueref01_Reader_Count.mono _ _ _ _ _)
      | (with_reducible exact barqueref01_Reader_Num.mono _ _ _ _)
      | (with_reducible exact LeO.refl _)
      | (with_reducible exact LeO.none _)
      | (with_reducible refine LeO.ite ?_ ?_)
      | (with_reducible refine LeO.bind ?_ (fun _ => ?_))
      | exact ih0 _ _ _ _ _
      | exact ih1 _ _ _ _ _ _
      | exact ih2 _ _ _ _ _ _ _ _
      | exact ih3 _ _ _ _ _ _ _
      | exact ih4 _ _ _ _ _ _ _ _
      | exact barqueref01_Reader_Count.mono _ _ _ _ _
      | exact barqueref01_Reader_Num.mono _ _ _ _
      | exact LeO.none _
      | refine LeO.ite ?_ ?_
      | refine LeO.bind ?_ (fun _ => ?_)
set_option maxHeartbeats 8000000 in
set_option maxRecDepth 100000 in
theorem barqueref08_Loose.calls (k : Nat) (a0 : ByteArray) (r1 : ByteArray) (r2 : Int) (w : World) (h : barqueref08_Loose.f k a0 = some (r1, r2)) :
    Calls Try.prog 52 #[.string a0] w fun e w' => e = .returned (.tuple #[.string r1, .int .i64 r2]) ∧ Below w.heap.size w w' := by
  have hu43 := Try.underlying43
  have HB := Aside0.mk (Below.refl w.heap.size w)
  have H : ((barqueref01_Reader_Count.f k a0 0 0 1048576).bind fun bt436 => (barqueref08_Loose.l0 k bt436.1 ([] : List Int) bt436.2.1 bt436.2.2.1 bt436.2.2.2)) = some (r1, r2) := h
  clear h
  replace H := Option.bind_eq_some_iff.mp H
  obtain ⟨⟨t436, t437, t438, t439⟩, A20, H⟩ := H
  replace H : (barqueref08_Loose.l0 k t436 ([] : List Int) t437 t438 t439) = some (r1, r2) := H
  have A2 := Aside0.mk A20
  clear A20
  have H' := Aside0.mk H
  clear H
  go_enter Try.func52, Try.ntmps52
  go_wp2_with (first | ((with_reducible refine gate_dst (N := 14) rfl ?_); (try (refine gate_guard (by rfl) ?_; dsimp only)); refine box_event ?hg (N := 14) ?hd (cs := #[.string a0, .int .i64 0, .int .i64 0]) (t := 43) ?hr ?_; (case hd => rfl); (case hg => rfl); (case hr => first | (go_simp; done) | (go_simp; rfl)); intro gb435 hg w3 hbox hb; have n0_ := Aside0.mk (below_step (by repeat (first | (with_reducible first | exact HB.out | apply below_alloc | apply pw_below_drewN | apply below_drew1) | exact HB.out)) hb); have n1_ := Aside0.mk (hbox); have n2_ := Aside0.mk ((by rw [hg]; exact (below_size (by repeat (first | (with_reducible first | exact HB.out | apply below_alloc | apply pw_below_drewN | apply below_drew1) | exact HB.out))) : w.heap.size ≤ gb435)); have n3_ := Aside0.mk ((by rw [hg]; exact (below_size (by repeat (first | (with_reducible first | exact HB.out | apply below_alloc | apply pw_below_drewN | apply below_drew1) | exact HB.out))) : w.heap.size ≤ gb435)); clear HB; have HB := n0_; have BK435 := n1_; have GW435 := n2_; have GE435 := n3_; clear n0_ n1_ n2_ n3_; clear hb hbox hg; have HI435 := Aside0.mk (show IsS43 w w3 gb435 a0 0 0 from ⟨by (with_reducible repeat (first | refine blk_drewN ?_ _ | refine blk_drew ?_ | refine blk_alloc ?_ _)); exact BK435.out, GE435.out⟩); clear BK435) | ((with_reducible refine gate_callee (f := 69) rfl ?_); refine goesL_ (some 16) rfl rfl Try.func69 (by kernel_rfl) rfl #[.pointer (some ⟨gb435, 0, none⟩), .int .i64 1048576] rfl (by (try simp only [List.map_toArray, List.map_cons, List.map_nil]); first | done | rfl | (simp only [List.length_drop, List.length_take]; rfl)) ?_; (with_reducible refine (barqueref01_Reader_Count.calls k gb435 a0 0 0 1048576 t436 t437 t438 t439 w _ ?side1 ?side2 A2.out).mono ?_); (case side1 => repeat (first | (with_reducible first | exact HI435.out | apply IsS43.alloc | apply IsS43.drewN | apply IsS43.drew | apply IsS43.set_0 | apply IsS43.set_1 | apply IsS43.set_2) | exact HI435.out)); (case side2 => repeat (first | (with_reducible first | exact HB.out | apply below_alloc | apply pw_below_drewN | apply below_drew1 | refine below_set ?_ (IsS43.ge HI435.out)) | exact HB.out)); rintro e w4 ⟨rfl, hi, hb, hk⟩; refine ⟨_, rfl, ?_⟩; have n0_ := Aside0.mk (hb); have n1_ := Aside0.mk (hi); clear HB; clear HI435; have HB := n0_; have HI435 := n1_; clear n0_ n1_; (try clear hb); (try clear hb2); (try clear hk); (try clear hi)))
  go_loopg [6] k (fun kq v6 w' => ∃ (x6_1 : List Int) (x436000_1 : ByteArray) (x436001_1 : Int) (x436002_1 : Int), Aside0 (barqueref08_Loose.l0 kq t436 x6_1 x436000_1 x436001_1 x436002_1 = some (r1, r2)) ∧ Aside0 (kq ≤ k) ∧ Aside0 (Kd.R (Kd.int .u8) 5 w' w.heap.size (fun _ => True) v6 x6_1) ∧ Aside0 (IsS43 w w' gb435 x436000_1 x436001_1 x436002_1) ∧ Aside0 (Below w.heap.size w w'))
  case atStart => exact ⟨(([] : List Int)), (t437), (t438), (t439), H', ⟨Nat.le_refl _⟩, ⟨by first | exact Kd.R_nil _ _ _ _ _ | exact Kd.N_nil _ _ _ _ _ | exact Kd.V_nil _ _ _ _ _ | exact Kd.Q_nil _ _ _ _ _ | exact Kd.S_nil _ _ _ _ _⟩, ⟨by repeat (first | (with_reducible first | exact HI435.out | apply IsS43.alloc | apply IsS43.drewN | apply IsS43.drew | apply IsS43.set_0 | apply IsS43.set_1 | apply IsS43.set_2) | exact HI435.out)⟩, ⟨by repeat (first | (with_reducible first | exact HB.out | apply below_alloc | apply pw_below_drewN | apply below_drew1 | refine below_set ?_ (IsS43.ge HI435.out)) | exact HB.out)⟩⟩
  case round =>
    clear H'
    try clear p2
    obtain ⟨x6_1, x436000_1, x436001_1, x436002_1, HA, HK1, HO_6, HI435, HB⟩ := hrel
    cases gk with
    | zero => exact absurd HA.out (by simp [barqueref08_Loose.l0])
    | succ k1 =>
      have H := HA.out
      clear HA
      simp only [barqueref08_Loose.l0] at H
      have HC5 := Aside0.mk H
      clear H
      go_upto_region 4 with (fail)
      go_cut [27] (fun v27 wc => ∃ (kq : Nat) (x27_4 : Bool), v27 = .bool x27_4 ∧ Aside0 (barqueref08_Loose.j1 kq t436 x6_1 x27_4 x436000_1 x436001_1 x436002_1 = some (r1, r2)) ∧ Aside0 (kq ≤ k1) ∧ Aside0 (Kd.R (Kd.int .u8) 5 wc w.heap.size (fun _ => True) u6 x6_1) ∧ Aside0 (IsS43 w wc gb435 x436000_1 x436001_1 x436002_1) ∧ Aside0 (Below w.heap.size w wc))
      case first =>
        have H := HC5.out
        clear HC5
        by_cases c6 : x436002_1 = 0
        · rw [if_pos c6] at H
          have c6b0 : (x436002_1 == 0) = true := beq_iff_eq.mpr c6
          have c6b1 : (x436002_1 != 0) = false := bne_eq_false_iff_eq.mpr c6
          clear c6
          (first | rw [c6b0] | (simp only [i64_w, i32_w]; rw [c6b0]) | skip)
          have H' := Aside0.mk H
          clear H
          obtain ⟨HGz7, hgz7⟩ := HI435.out
          have hcz7_0 := cellS43_0 HGz7
          have hcz7_1 := cellS43_1 HGz7
          have hcz7_2 := cellS43_2 HGz7
          have hfz7_0 := blk_frozen HGz7 0
          have hfz7_1 := blk_frozen HGz7 1
          have hfz7_2 := blk_frozen HGz7 2
          clear HGz7 hgz7
          obtain ⟨Ao8, co8, eo8⟩ := Kd.R_slice HO_6.out
          subst eo8
          go_wp2
          go_meet
          case rel => exact ⟨_, (decide ((x6_1.length : Int) < t436)), (by first | rfl | (simp; done) | (simp [*]; done)), H', ⟨by have := HK1.out; first | omega | exact Nat.le_refl _⟩, ⟨by (with_reducible repeat (first | apply Kd.R_alloc | apply Kd.R_drewN | apply Kd.R_drew)); exact HO_6.out⟩, ⟨by repeat (first | (with_reducible first | exact HI435.out | apply IsS43.alloc | apply IsS43.drewN | apply IsS43.drew | apply IsS43.set_0 | apply IsS43.set_1 | apply IsS43.set_2) | exact HI435.out)⟩, ⟨by repeat (first | (with_reducible first | exact HB.out | apply below_alloc | apply pw_below_drewN | apply below_drew1 | refine below_set ?_ (IsS43.ge HI435.out)) | exact HB.out)⟩⟩
        · rw [if_neg c6] at H
          have c6b0 : (x436002_1 == 0) = false := beq_eq_false_iff_ne.mpr c6
          have c6b1 : (x436002_1 != 0) = true := bne_iff_ne.mpr c6
          (first | rw [c6b0] | (simp only [i64_w, i32_w]; rw [c6b0]) | skip)
          have H' := Aside0.mk H
          clear H
          obtain ⟨HGz9, hgz9⟩ := HI435.out
          have hcz9_0 := cellS43_0 HGz9
          have hcz9_1 := cellS43_1 HGz9
          have hcz9_2 := cellS43_2 HGz9
          have hfz9_0 := blk_frozen HGz9 0
          have hfz9_1 := blk_frozen HGz9 1
          have hfz9_2 := blk_frozen HGz9 2
          clear HGz9 hgz9
          go_wp2
          go_meet
          case rel => exact ⟨_, (false), (by first | rfl | (simp; done) | (simp [*]; done)), H', ⟨by have := HK1.out; first | omega | exact Nat.le_refl _⟩, ⟨by (with_reducible repeat (first | apply Kd.R_alloc | apply Kd.R_drewN | apply Kd.R_drew)); exact HO_6.out⟩, ⟨by repeat (first | (with_reducible first | exact HI435.out | apply IsS43.alloc | apply IsS43.drewN | apply IsS43.drew | apply IsS43.set_0 | apply IsS43.set_1 | apply IsS43.set_2) | exact HI435.out)⟩, ⟨by repeat (first | (with_reducible first | exact HB.out | apply below_alloc | apply pw_below_drewN | apply below_drew1 | refine below_set ?_ (IsS43.ge HI435.out)) | exact HB.out)⟩⟩
      case rest =>
        clear HC5
        try clear p2
        try clear c5
        try clear c6
        try clear c6b0
        try clear c6b1
        try clear hcz7_0
        try clear hcz7_1
        try clear hcz7_2
        try clear hcz9_0
        try clear hcz9_1
        try clear hcz9_2
        try clear hfz7_0
        try clear hfz7_1
        try clear hfz7_2
        try clear hfz9_0
        try clear hfz9_1
        try clear hfz9_2
        try clear p2
        obtain ⟨kq, x27_4, rfl, HA, HJ4, HO_6, HI435, HB⟩ := hcut
        cases kq with
        | zero => exact absurd HA.out (by simp [barqueref08_Loose.j1])
        | succ kj4 =>
          have H := HA.out
          clear HA
          simp only [barqueref08_Loose.j1] at H
          by_cases c10 : x27_4 = true
          · subst c10
            have H1 : ((barqueref01_Reader_Num.f kj4 x436000_1 x436001_1 x436002_1).bind fun bt444 => (if (Int.tmod bt444.1 2) = 0 then (if bt444.2.2.2 = 0 then (if bt444.1 = 0 then ((barqueref01_Reader_Raw.f bt444.2.1 bt444.2.2.1 5 (wrap64 (Int.tdiv bt444.1 2))).bind fun bt448 => (if x6_1.length + bt448.1.size < 140737488355328 then (barqueref08_Loose.l0 kj4 t436 (x6_1 ++ bytesOf bt448.1) bt448.2.1 bt448.2.2.1 bt448.2.2.2) else (none))) else (if (wrap64 (Int.tdiv bt444.1 2)) > (wrap64 (t436 - (x6_1.length : Int))) then ((barqueref01_Reader_Raw.f bt444.2.1 bt444.2.2.1 5 (wrap64 (Int.tdiv bt444.1 2))).bind fun bt455 => (if x6_1.length + bt455.1.size < 140737488355328 then (barqueref08_Loose.l0 kj4 t436 (x6_1 ++ bytesOf bt455.1) bt455.2.1 bt455.2.2.1 bt455.2.2.2) else (none))) else ((barqueref01_Reader_Raw.f bt444.2.1 bt444.2.2.1 bt444.2.2.2 (wrap64 (Int.tdiv bt444.1 2))).bind fun bt462 => (if x6_1.length + bt462.1.size < 140737488355328 then (barqueref08_Loose.l0 kj4 t436 (x6_1 ++ bytesOf bt462.1) bt462.2.1 bt462.2.2.1 bt462.2.2.2) else (none))))) else ((barqueref01_Reader_Raw.f bt444.2.1 bt444.2.2.1 bt444.2.2.2 (wrap64 (Int.tdiv bt444.1 2))).bind fun bt469 => (if x6_1.length + bt469.1.size < 140737488355328 then (barqueref08_Loose.l0 kj4 t436 (x6_1 ++ bytesOf bt469.1) bt469.2.1 bt469.2.2.1 bt469.2.2.2) else (none)))) else ((barqueref01_Reader_Num.f kj4 bt444.2.1 bt444.2.2.1 bt444.2.2.2).bind fun bt476 => (if bt476.2.2.2 = 0 then (if (wrap64 (bt476.1 + 1)) > (x6_1.length : Int) then (barqueref08_Loose.j2 kj4 t436 x6_1 bt444.1 (wrap64 (bt476.1 + 1)) true bt476.2.1 bt476.2.2.1 bt476.2.2.2) else (if (wrap64 (bt476.1 + 1)) > 4096 then (barqueref08_Loose.j2 kj4 t436 x6_1 bt444.1 (wrap64 (bt476.1 + 1)) true bt476.2.1 bt476.2.2.1 bt476.2.2.2) else (if (wrap64 (Int.tdiv bt444.1 2)) > 255 then (barqueref08_Loose.j2 kj4 t436 x6_1 bt444.1 (wrap64 (bt476.1 + 1)) true bt476.2.1 bt476.2.2.1 bt476.2.2.2) else (barqueref08_Loose.j2 kj4 t436 x6_1 bt444.1 (wrap64 (bt476.1 + 1)) (decide ((wrap64 ((wrap64 (Int.tdiv bt444.1 2)) + 4)) > (wrap64 (t436 - (x6_1.length : Int))))) bt476.2.1 bt476.2.2.1 bt476.2.2.2)))) else (barqueref08_Loose.j2 kj4 t436 x6_1 bt444.1 (wrap64 (bt476.1 + 1)) false bt476.2.1 bt476.2.2.1 bt476.2.2.2))))) = some (r1, r2) := by rw [if_pos rfl] at H; exact H
            clear H
            have H := H1
            clear H1
            replace H := Option.bind_eq_some_iff.mp H
            obtain ⟨⟨t444, t445, t446, t447⟩, A110, H⟩ := H
            replace H : (if (Int.tmod t444 2) = 0 then (if t447 = 0 then (if t444 = 0 then ((barqueref01_Reader_Raw.f t445 t446 5 (wrap64 (Int.tdiv t444 2))).bind fun bt448 => (if x6_1.length + bt448.1.size < 140737488355328 then (barqueref08_Loose.l0 kj4 t436 (x6_1 ++ bytesOf bt448.1) bt448.2.1 bt448.2.2.1 bt448.2.2.2) else (none))) else (if (wrap64 (Int.tdiv t444 2)) > (wrap64 (t436 - (x6_1.length : Int))) then ((barqueref01_Reader_Raw.f t445 t446 5 (wrap64 (Int.tdiv t444 2))).bind fun bt455 => (if x6_1.length + bt455.1.size < 140737488355328 then (barqueref08_Loose.l0 kj4 t436 (x6_1 ++ bytesOf bt455.1) bt455.2.1 bt455.2.2.1 bt455.2.2.2) else (none))) else ((barqueref01_Reader_Raw.f t445 t446 t447 (wrap64 (Int.tdiv t444 2))).bind fun bt462 => (if x6_1.length + bt462.1.size < 140737488355328 then (barqueref08_Loose.l0 kj4 t436 (x6_1 ++ bytesOf bt462.1) bt462.2.1 bt462.2.2.1 bt462.2.2.2) else (none))))) else ((barqueref01_Reader_Raw.f t445 t446 t447 (wrap64 (Int.tdiv t444 2))).bind fun bt469 => (if x6_1.length + bt469.1.size < 140737488355328 then (barqueref08_Loose.l0 kj4 t436 (x6_1 ++ bytesOf bt469.1) bt469.2.1 bt469.2.2.1 bt469.2.2.2) else (none)))) else ((barqueref01_Reader_Num.f kj4 t445 t446 t447).bind fun bt476 => (if bt476.2.2.2 = 0 then (if (wrap64 (bt476.1 + 1)) > (x6_1.length : Int) then (barqueref08_Loose.j2 kj4 t436 x6_1 t444 (wrap64 (bt476.1 + 1)) true bt476.2.1 bt476.2.2.1 bt476.2.2.2) else (if (wrap64 (bt476.1 + 1)) > 4096 then (barqueref08_Loose.j2 kj4 t436 x6_1 t444 (wrap64 (bt476.1 + 1)) true bt476.2.1 bt476.2.2.1 bt476.2.2.2) else (if (wrap64 (Int.tdiv t444 2)) > 255 then (barqueref08_Loose.j2 kj4 t436 x6_1 t444 (wrap64 (bt476.1 + 1)) true bt476.2.1 bt476.2.2.1 bt476.2.2.2) else (barqueref08_Loose.j2 kj4 t436 x6_1 t444 (wrap64 (bt476.1 + 1)) (decide ((wrap64 ((wrap64 (Int.tdiv t444 2)) + 4)) > (wrap64 (t436 - (x6_1.length : Int))))) bt476.2.1 bt476.2.2.1 bt476.2.2.2)))) else (barqueref08_Loose.j2 kj4 t436 x6_1 t444 (wrap64 (bt476.1 + 1)) false bt476.2.1 bt476.2.2.1 bt476.2.2.2)))) = some (r1, r2) := H
            have A11 := Aside0.mk A110
            clear A110
            by_cases c12 : (Int.tmod t444 2) = 0
            · rw [if_pos c12] at H
              have c12b0 : ((Int.tmod t444 2) == 0) = true := beq_iff_eq.mpr c12
              have c12b1 : ((Int.tmod t444 2) != 0) = false := bne_eq_false_iff_eq.mpr c12
              clear c12
              by_cases c13 : t447 = 0
              · rw [if_pos c13] at H
                have c13b0 : (t447 == 0) = true := beq_iff_eq.mpr c13
                have c13b1 : (t447 != 0) = false := bne_eq_false_iff_eq.mpr c13
                clear c13
                by_cases c14 : t444 = 0
                · rw [if_pos c14] at H
                  have c14b0 : (t444 == 0) = true := beq_iff_eq.mpr c14
                  have c14b1 : (t444 != 0) = false := bne_eq_false_iff_eq.mpr c14
                  clear c14
                  replace H := Option.bind_eq_some_iff.mp H
                  obtain ⟨⟨t448, t449, t450, t451⟩, A150, H⟩ := H
                  replace H : (if x6_1.length + t448.size < 140737488355328 then (barqueref08_Loose.l0 kj4 t436 (x6_1 ++ bytesOf t448) t449 t450 t451) else (none)) = some (r1, r2) := H
                  have A15 := Aside0.mk A150
                  clear A150
                  by_cases c16 : x6_1.length + t448.size < 140737488355328
                  · rw [if_pos c16] at H
                    have LMc16 := Aside0.mk c16
                    clear c16
                    obtain ⟨y452, hy452⟩ : ∃ y_ : List Int, y_ = (x6_1 ++ bytesOf t448) := ⟨_, rfl⟩
                    replace H : (barqueref08_Loose.l0 kj4 t436 y452 t449 t450 t451) = some (r1, r2) := by first | (rw [hy452]; with_reducible exact H) | (have H2_ := (Option.bind_some _ _).symm.trans H; rw [hy452]; with_reducible exact H2_) | (have H2_ := (Option.bind_some _ _).symm.trans H; with_reducible exact H2_) | with_reducible exact H | (rw [hy452]; exact H) | exact H
                    have Ny452 := Aside0.mk hy452
                    clear hy452
                    have H' := Aside0.mk H
                    clear H
                    go_wp2_with (first | ((with_reducible refine gate_callee (f := 66) rfl ?_); refine goesL_ (some 29) rfl rfl Try.func66 (by kernel_rfl) rfl #[.pointer (some ⟨gb435, 0, none⟩)] rfl (by (try simp only [List.map_toArray, List.map_cons, List.map_nil]); first | done | rfl | (simp only [List.length_drop, List.length_take]; rfl)) ?_; (with_reducible refine (barqueref01_Reader_Num.calls kj4 gb435 x436000_1 x436001_1 x436002_1 t444 t445 t446 t447 w _ ?side1 ?side2 A11.out).mono ?_); (case side1 => repeat (first | (with_reducible first | exact HI435.out | apply IsS43.alloc | apply IsS43.drewN | apply IsS43.drew | apply IsS43.set_0 | apply IsS43.set_1 | apply IsS43.set_2) | exact HI435.out)); (case side2 => repeat (first | (with_reducible first | exact HB.out | apply below_alloc | apply pw_below_drewN | apply below_drew1 | refine below_set ?_ (IsS43.ge HI435.out)) | exact HB.out)); rintro e w17 ⟨rfl, hi, hb, hk⟩; refine ⟨_, rfl, ?_⟩; have n0_ := Aside0.mk (Kd.R_mono (Kd.R_keep (IsS43.apart (show IsS43 w _ gb435 x436000_1 x436001_1 x436002_1 from by repeat (first | (with_reducible first | exact HI435.out | apply IsS43.alloc | apply IsS43.drewN | apply IsS43.drew | apply IsS43.set_0 | apply IsS43.set_1 | apply IsS43.set_2) | exact HI435.out)) (by (with_reducible repeat (first | apply Kd.R_alloc | apply Kd.R_drewN | apply Kd.R_drew)); exact HO_6.out) (by decide)) hk (fun _ h => h.2)) (fun _ h => h.1)); have n1_ := Aside0.mk (hb); have n2_ := Aside0.mk (hi); clear HO_6; clear HB; clear HI435; have HO_6 := n0_; have HB := n1_; have HI435 := n2_; clear n0_ n1_ n2_; (try clear hb); (try clear hb2); (try clear hk); (try clear hi); obtain ⟨Ao18, co18, eo18⟩ := Kd.R_slice HO_6.out; subst eo18; obtain ⟨HGz19, hgz19⟩ := HI435.out; have hcz19_0 := cellS43_0 HGz19; have hcz19_1 := cellS43_1 HGz19; have hcz19_2 := cellS43_2 HGz19; have hfz19_0 := blk_frozen HGz19 0; have hfz19_1 := blk_frozen HGz19 1; have hfz19_2 := blk_frozen HGz19 2; clear HGz19 hgz19) | ((with_reducible refine gate_callee (f := 68) rfl ?_); refine goesL_ (some 59) rfl rfl Try.func68 (by kernel_rfl) rfl #[.pointer (some ⟨gb435, 0, none⟩), .int .i64 (wrap64 (Int.tdiv t444 2))] rfl (by (try simp only [List.map_toArray, List.map_cons, List.map_nil]); first | done | rfl | (simp only [List.length_drop, List.length_take]; rfl)) ?_; (with_reducible refine (barqueref01_Reader_Raw.calls gb435 t445 t446 5 (wrap64 (Int.tdiv t444 2)) t448 t449 t450 t451 w _ ?side1 ?side2 A15.out).mono ?_); (case side1 => repeat (first | (with_reducible first | exact HI435.out | apply IsS43.alloc | apply IsS43.drewN | apply IsS43.drew | apply IsS43.set_0 | apply IsS43.set_1 | apply IsS43.set_2) | exact HI435.out)); (case side2 => repeat (first | (with_reducible first | exact HB.out | apply below_alloc | apply pw_below_drewN | apply below_drew1 | refine below_set ?_ (IsS43.ge HI435.out)) | exact HB.out)); rintro e w20 ⟨rfl, hi, hb, hk⟩; refine ⟨_, rfl, ?_⟩; have n0_ := Aside0.mk (Kd.R_mono (Kd.R_keep (IsS43.apart (show IsS43 w _ gb435 t445 t446 5 from by repeat (first | (with_reducible first | exact HI435.out | apply IsS43.alloc | apply IsS43.drewN | apply IsS43.drew | apply IsS43.set_0 | apply IsS43.set_1 | apply IsS43.set_2) | exact HI435.out)) (by (with_reducible repeat (first | apply Kd.R_alloc | apply Kd.R_drewN | apply Kd.R_drew)); exact (Kd.R_mono (Kd.R_far (p := ⟨gb435, 2, none⟩) (IsS43.apart HI435.out HO_6.out (by decide)) (fun _ hk => hk.2) (.int .i64 5)) (fun _ h_ => h_.1))) (by decide)) hk (fun _ h => h.2)) (fun _ h => h.1)); have n1_ := Aside0.mk (hb); have n2_ := Aside0.mk (hi); clear HO_6; clear HB; clear HI435; have HO_6 := n0_; have HB := n1_; have HI435 := n2_; clear n0_ n1_ n2_; (try clear hb); (try clear hb2); (try clear hk); (try clear hi)) | (at_builtin; refine print_append_str (w0 := w) w.heap.size rfl (.tmp 55) _ 38 9 5 rfl Try.underlying38 Try.underlying9 info5 (.slice Ao18 x6_1.length co18) x6_1 t448 rfl rfl ?aO ?aB ?aS ?aL ?_; (case aB => exact (by repeat (first | (with_reducible first | exact HB.out | apply below_alloc | apply pw_below_drewN | apply below_drew1 | refine below_set ?_ (IsS43.ge HI435.out)) | exact HB.out))); (case aO => exact (Kd.own_of_R (by (with_reducible repeat (first | apply Kd.R_alloc | apply Kd.R_drewN | apply Kd.R_drew)); exact HO_6.out))); (case aS => exact (below_size (by repeat (first | (with_reducible first | exact HB.out | apply below_alloc | apply pw_below_drewN | apply below_drew1 | refine below_set ?_ (IsS43.ge HI435.out)) | exact HB.out)))); (case aL => have := LMc16.out; omega); intro v453 w21 ho0 hb hg; have ho := Kd.R_of_own (h1 := fun _ => rfl) (ok := fun _ => True) ho0 (fun _ _ => trivial); clear ho0; have hat := True.intro; rw [← Ny452.out] at ho; change Kd.R (Kd.int .u8) 5 w21 w.heap.size (fun _ => True) v453 y452 at ho; have n0_ := Aside0.mk (IsS43.grown (by repeat (first | (with_reducible first | exact HI435.out | apply IsS43.alloc | apply IsS43.drewN | apply IsS43.drew | apply IsS43.set_0 | apply IsS43.set_1 | apply IsS43.set_2) | exact HI435.out)) hg (IsS43.own_ne HI435.out HO_6.out (by decide))); have n1_ := Aside0.mk (hb); have n2_ := Aside0.mk (ho); clear HI435; clear HB; clear HO_6; have HI435 := n0_; have HB := n1_; have HO454 := n2_; clear n0_ n1_ n2_; clear ho hb hg hat))
                    go_roundg kj4
                    case measure => have := HK1.out; have := HJ4.out; omega
                    case rel => exact ⟨(y452), (t449), (t450), (t451), H', ⟨by have := HK1.out; have := HJ4.out; omega⟩, ⟨by (with_reducible repeat (first | apply Kd.R_alloc | apply Kd.R_drewN | apply Kd.R_drew)); exact HO454.out⟩, ⟨by repeat (first | (with_reducible first | exact HI435.out | apply IsS43.alloc | apply IsS43.drewN | apply IsS43.drew | apply IsS43.set_0 | apply IsS43.set_1 | apply IsS43.set_2) | exact HI435.out)⟩, ⟨by repeat (first | (with_reducible first | exact HB.out | apply below_alloc | apply pw_below_drewN | apply below_drew1 | refine below_set ?_ (IsS43.ge HI435.out)) | exact HB.out)⟩⟩
                  · rw [if_neg c16] at H
                    exact absurd H (by simp)
                · rw [if_neg c14] at H
                  have c14b0 : (t444 == 0) = false := beq_eq_false_iff_ne.mpr c14
                  have c14b1 : (t444 != 0) = true := bne_iff_ne.mpr c14
                  by_cases c22 : (wrap64 (Int.tdiv t444 2)) > (wrap64 (t436 - (x6_1.length : Int)))
                  · rw [if_pos c22] at H
                    have c22b0 : decide ((wrap64 (t436 - (x6_1.length : Int))) < (wrap64 (Int.tdiv t444 2))) = true := decide_eq_true c22
                    clear c22
                    replace H := Option.bind_eq_some_iff.mp H
                    obtain ⟨⟨t455, t456, t457, t458⟩, A230, H⟩ := H
                    replace H : (if x6_1.length + t455.size < 140737488355328 then (barqueref08_Loose.l0 kj4 t436 (x6_1 ++ bytesOf t455) t456 t457 t458) else (none)) = some (r1, r2) := H
                    have A23 := Aside0.mk A230
                    clear A230
                    by_cases c24 : x6_1.length + t455.size < 140737488355328
                    · rw [if_pos c24] at H
                      have LMc24 := Aside0.mk c24
                      clear c24
                      obtain ⟨y459, hy459⟩ : ∃ y_ : List Int, y_ = (x6_1 ++ bytesOf t455) := ⟨_, rfl⟩
                      replace H : (barqueref08_Loose.l0 kj4 t436 y459 t456 t457 t458) = some (r1, r2) := by first | (rw [hy459]; with_reducible exact H) | (have H2_ := (Option.bind_some _ _).symm.trans H; rw [hy459]; with_reducible exact H2_) | (have H2_ := (Option.bind_some _ _).symm.trans H; with_reducible exact H2_) | with_reducible exact H | (rw [hy459]; exact H) | exact H
                      have Ny459 := Aside0.mk hy459
                      clear hy459
                      have H' := Aside0.mk H
                      clear H
                      go_wp2_with (first | ((with_reducible refine gate_callee (f := 66) rfl ?_); refine goesL_ (some 29) rfl rfl Try.func66 (by kernel_rfl) rfl #[.pointer (some ⟨gb435, 0, none⟩)] rfl (by (try simp only [List.map_toArray, List.map_cons, List.map_nil]); first | done | rfl | (simp only [List.length_drop, List.length_take]; rfl)) ?_; (with_reducible refine (barqueref01_Reader_Num.calls kj4 gb435 x436000_1 x436001_1 x436002_1 t444 t445 t446 t447 w _ ?side1 ?side2 A11.out).mono ?_); (case side1 => repeat (first | (with_reducible first | exact HI435.out | apply IsS43.alloc | apply IsS43.drewN | apply IsS43.drew | apply IsS43.set_0 | apply IsS43.set_1 | apply IsS43.set_2) | exact HI435.out)); (case side2 => repeat (first | (with_reducible first | exact HB.out | apply below_alloc | apply pw_below_drewN | apply below_drew1 | refine below_set ?_ (IsS43.ge HI435.out)) | exact HB.out)); rintro e w25 ⟨rfl, hi, hb, hk⟩; refine ⟨_, rfl, ?_⟩; have n0_ := Aside0.mk (Kd.R_mono (Kd.R_keep (IsS43.apart (show IsS43 w _ gb435 x436000_1 x436001_1 x436002_1 from by repeat (first | (with_reducible first | exact HI435.out | apply IsS43.alloc | apply IsS43.drewN | apply IsS43.drew | apply IsS43.set_0 | apply IsS43.set_1 | apply IsS43.set_2) | exact HI435.out)) (by (with_reducible repeat (first | apply Kd.R_alloc | apply Kd.R_drewN | apply Kd.R_drew)); exact HO_6.out) (by decide)) hk (fun _ h => h.2)) (fun _ h => h.1)); have n1_ := Aside0.mk (hb); have n2_ := Aside0.mk (hi); clear HO_6; clear HB; clear HI435; have HO_6 := n0_; have HB := n1_; have HI435 := n2_; clear n0_ n1_ n2_; (try clear hb); (try clear hb2); (try clear hk); (try clear hi); obtain ⟨Ao26, co26, eo26⟩ := Kd.R_slice HO_6.out; subst eo26; obtain ⟨HGz27, hgz27⟩ := HI435.out; have hcz27_0 := cellS43_0 HGz27; have hcz27_1 := cellS43_1 HGz27; have hcz27_2 := cellS43_2 HGz27; have hfz27_0 := blk_frozen HGz27 0; have hfz27_1 := blk_frozen HGz27 1; have hfz27_2 := blk_frozen HGz27 2; clear HGz27 hgz27) | ((with_reducible refine gate_callee (f := 68) rfl ?_); refine goesL_ (some 59) rfl rfl Try.func68 (by kernel_rfl) rfl #[.pointer (some ⟨gb435, 0, none⟩), .int .i64 (wrap64 (Int.tdiv t444 2))] rfl (by (try simp only [List.map_toArray, List.map_cons, List.map_nil]); first | done | rfl | (simp only [List.length_drop, List.length_take]; rfl)) ?_; (with_reducible refine (barqueref01_Reader_Raw.calls gb435 t445 t446 5 (wrap64 (Int.tdiv t444 2)) t455 t456 t457 t458 w _ ?side1 ?side2 A23.out).mono ?_); (case side1 => repeat (first | (with_reducible first | exact HI435.out | apply IsS43.alloc | apply IsS43.drewN | apply IsS43.drew | apply IsS43.set_0 | apply IsS43.set_1 | apply IsS43.set_2) | exact HI435.out)); (case side2 => repeat (first | (with_reducible first | exact HB.out | apply below_alloc | apply pw_below_drewN | apply below_drew1 | refine below_set ?_ (IsS43.ge HI435.out)) | exact HB.out)); rintro e w28 ⟨rfl, hi, hb, hk⟩; refine ⟨_, rfl, ?_⟩; have n0_ := Aside0.mk (Kd.R_mono (Kd.R_keep (IsS43.apart (show IsS43 w _ gb435 t445 t446 5 from by repeat (first | (with_reducible first | exact HI435.out | apply IsS43.alloc | apply IsS43.drewN | apply IsS43.drew | apply IsS43.set_0 | apply IsS43.set_1 | apply IsS43.set_2) | exact HI435.out)) (by (with_reducible repeat (first | apply Kd.R_alloc | apply Kd.R_drewN | apply Kd.R_drew)); exact (Kd.R_mono (Kd.R_far (p := ⟨gb435, 2, none⟩) (IsS43.apart HI435.out HO_6.out (by decide)) (fun _ hk => hk.2) (.int .i64 5)) (fun _ h_ => h_.1))) (by decide)) hk (fun _ h => h.2)) (fun _ h => h.1)); have n1_ := Aside0.mk (hb); have n2_ := Aside0.mk (hi); clear HO_6; clear HB; clear HI435; have HO_6 := n0_; have HB := n1_; have HI435 := n2_; clear n0_ n1_ n2_; (try clear hb); (try clear hb2); (try clear hk); (try clear hi)) | (at_builtin; refine print_append_str (w0 := w) w.heap.size rfl (.tmp 55) _ 38 9 5 rfl Try.underlying38 Try.underlying9 info5 (.slice Ao26 x6_1.length co26) x6_1 t455 rfl rfl ?aO ?aB ?aS ?aL ?_; (case aB => exact (by repeat (first | (with_reducible first | exact HB.out | apply below_alloc | apply pw_below_drewN | apply below_drew1 | refine below_set ?_ (IsS43.ge HI435.out)) | exact HB.out))); (case aO => exact (Kd.own_of_R (by (with_reducible repeat (first | apply Kd.R_alloc | apply Kd.R_drewN | apply Kd.R_drew)); exact HO_6.out))); (case aS => exact (below_size (by repeat (first | (with_reducible first | exact HB.out | apply below_alloc | apply pw_below_drewN | apply below_drew1 | refine below_set ?_ (IsS43.ge HI435.out)) | exact HB.out)))); (case aL => have := LMc24.out; omega); intro v460 w29 ho0 hb hg; have ho := Kd.R_of_own (h1 := fun _ => rfl) (ok := fun _ => True) ho0 (fun _ _ => trivial); clear ho0; have hat := True.intro; rw [← Ny459.out] at ho; change Kd.R (Kd.int .u8) 5 w29 w.heap.size (fun _ => True) v460 y459 at ho; have n0_ := Aside0.mk (IsS43.grown (by repeat (first | (with_reducible first | exact HI435.out | apply IsS43.alloc | apply IsS43.drewN | apply IsS43.drew | apply IsS43.set_0 | apply IsS43.set_1 | apply IsS43.set_2) | exact HI435.out)) hg (IsS43.own_ne HI435.out HO_6.out (by decide))); have n1_ := Aside0.mk (hb); have n2_ := Aside0.mk (ho); clear HI435; clear HB; clear HO_6; have HI435 := n0_; have HB := n1_; have HO461 := n2_; clear n0_ n1_ n2_; clear ho hb hg hat))
                      go_roundg kj4
                      case measure => have := HK1.out; have := HJ4.out; omega
                      case rel => exact ⟨(y459), (t456), (t457), (t458), H', ⟨by have := HK1.out; have := HJ4.out; omega⟩, ⟨by (with_reducible repeat (first | apply Kd.R_alloc | apply Kd.R_drewN | apply Kd.R_drew)); exact HO461.out⟩, ⟨by repeat (first | (with_reducible first | exact HI435.out | apply IsS43.alloc | apply IsS43.drewN | apply IsS43.drew | apply IsS43.set_0 | apply IsS43.set_1 | apply IsS43.set_2) | exact HI435.out)⟩, ⟨by repeat (first | (with_reducible first | exact HB.out | apply below_alloc | apply pw_below_drewN | apply below_drew1 | refine below_set ?_ (IsS43.ge HI435.out)) | exact HB.out)⟩⟩
                    · rw [if_neg c24] at H
                      exact absurd H (by simp)
                  · rw [if_neg c22] at H
                    have c22b0 : decide ((wrap64 (t436 - (x6_1.length : Int))) < (wrap64 (Int.tdiv t444 2))) = false := decide_eq_false c22
                    clear c22
                    replace H := Option.bind_eq_some_iff.mp H
                    obtain ⟨⟨t462, t463, t464, t465⟩, A300, H⟩ := H
                    replace H : (if x6_1.length + t462.size < 140737488355328 then (barqueref08_Loose.l0 kj4 t436 (x6_1 ++ bytesOf t462) t463 t464 t465) else (none)) = some (r1, r2) := H
                    have A30 := Aside0.mk A300
                    clear A300
                    by_cases c31 : x6_1.length + t462.size < 140737488355328
                    · rw [if_pos c31] at H
                      have LMc31 := Aside0.mk c31
                      clear c31
                      obtain ⟨y466, hy466⟩ : ∃ y_ : List Int, y_ = (x6_1 ++ bytesOf t462) := ⟨_, rfl⟩
                      replace H : (barqueref08_Loose.l0 kj4 t436 y466 t463 t464 t465) = some (r1, r2) := by first | (rw [hy466]; with_reducible exact H) | (have H2_ := (Option.bind_some _ _).symm.trans H; rw [hy466]; with_reducible exact H2_) | (have H2_ := (Option.bind_some _ _).symm.trans H; with_reducible exact H2_) | with_reducible exact H | (rw [hy466]; exact H) | exact H
                      have Ny466 := Aside0.mk hy466
                      clear hy466
                      have H' := Aside0.mk H
                      clear H
                      go_wp2_with (first | ((with_reducible refine gate_callee (f := 66) rfl ?_); refine goesL_ (some 29) rfl rfl Try.func66 (by kernel_rfl) rfl #[.pointer (some ⟨gb435, 0, none⟩)] rfl (by (try simp only [List.map_toArray, List.map_cons, List.map_nil]); first | done | rfl | (simp only [List.length_drop, List.length_take]; rfl)) ?_; (with_reducible refine (barqueref01_Reader_Num.calls kj4 gb435 x436000_1 x436001_1 x436002_1 t444 t445 t446 t447 w _ ?side1 ?side2 A11.out).mono ?_); (case side1 => repeat (first | (with_reducible first | exact HI435.out | apply IsS43.alloc | apply IsS43.drewN | apply IsS43.drew | apply IsS43.set_0 | apply IsS43.set_1 | apply IsS43.set_2) | exact HI435.out)); (case side2 => repeat (first | (with_reducible first | exact HB.out | apply below_alloc | apply pw_below_drewN | apply below_drew1 | refine below_set ?_ (IsS43.ge HI435.out)) | exact HB.out)); rintro e w32 ⟨rfl, hi, hb, hk⟩; refine ⟨_, rfl, ?_⟩; have n0_ := Aside0.mk (Kd.R_mono (Kd.R_keep (IsS43.apart (show IsS43 w _ gb435 x436000_1 x436001_1 x436002_1 from by repeat (first | (with_reducible first | exact HI435.out | apply IsS43.alloc | apply IsS43.drewN | apply IsS43.drew | apply IsS43.set_0 | apply IsS43.set_1 | apply IsS43.set_2) | exact HI435.out)) (by (with_reducible repeat (first | apply Kd.R_alloc | apply Kd.R_drewN | apply Kd.R_drew)); exact HO_6.out) (by decide)) hk (fun _ h => h.2)) (fun _ h => h.1)); have n1_ := Aside0.mk (hb); have n2_ := Aside0.mk (hi); clear HO_6; clear HB; clear HI435; have HO_6 := n0_; have HB := n1_; have HI435 := n2_; clear n0_ n1_ n2_; (try clear hb); (try clear hb2); (try clear hk); (try clear hi); obtain ⟨Ao33, co33, eo33⟩ := Kd.R_slice HO_6.out; subst eo33; obtain ⟨HGz34, hgz34⟩ := HI435.out; have hcz34_0 := cellS43_0 HGz34; have hcz34_1 := cellS43_1 HGz34; have hcz34_2 := cellS43_2 HGz34; have hfz34_0 := blk_frozen HGz34 0; have hfz34_1 := blk_frozen HGz34 1; have hfz34_2 := blk_frozen HGz34 2; clear HGz34 hgz34) | ((with_reducible refine gate_callee (f := 68) rfl ?_); refine goesL_ (some 59) rfl rfl Try.func68 (by kernel_rfl) rfl #[.pointer (some ⟨gb435, 0, none⟩), .int .i64 (wrap64 (Int.tdiv t444 2))] rfl (by (try simp only [List.map_toArray, List.map_cons, List.map_nil]); first | done | rfl | (simp only [List.length_drop, List.length_take]; rfl)) ?_; (with_reducible refine (barqueref01_Reader_Raw.calls gb435 t445 t446 t447 (wrap64 (Int.tdiv t444 2)) t462 t463 t464 t465 w _ ?side1 ?side2 A30.out).mono ?_); (case side1 => repeat (first | (with_reducible first | exact HI435.out | apply IsS43.alloc | apply IsS43.drewN | apply IsS43.drew | apply IsS43.set_0 | apply IsS43.set_1 | apply IsS43.set_2) | exact HI435.out)); (case side2 => repeat (first | (with_reducible first | exact HB.out | apply below_alloc | apply pw_below_drewN | apply below_drew1 | refine below_set ?_ (IsS43.ge HI435.out)) | exact HB.out)); rintro e w35 ⟨rfl, hi, hb, hk⟩; refine ⟨_, rfl, ?_⟩; have n0_ := Aside0.mk (Kd.R_mono (Kd.R_keep (IsS43.apart (show IsS43 w _ gb435 t445 t446 t447 from by repeat (first | (with_reducible first | exact HI435.out | apply IsS43.alloc | apply IsS43.drewN | apply IsS43.drew | apply IsS43.set_0 | apply IsS43.set_1 | apply IsS43.set_2) | exact HI435.out)) (by (with_reducible repeat (first | apply Kd.R_alloc | apply Kd.R_drewN | apply Kd.R_drew)); exact HO_6.out) (by decide)) hk (fun _ h => h.2)) (fun _ h => h.1)); have n1_ := Aside0.mk (hb); have n2_ := Aside0.mk (hi); clear HO_6; clear HB; clear HI435; have HO_6 := n0_; have HB := n1_; have HI435 := n2_; clear n0_ n1_ n2_; (try clear hb); (try clear hb2); (try clear hk); (try clear hi)) | (at_builtin; refine print_append_str (w0 := w) w.heap.size rfl (.tmp 55) _ 38 9 5 rfl Try.underlying38 Try.underlying9 info5 (.slice Ao33 x6_1.length co33) x6_1 t462 rfl rfl ?aO ?aB ?aS ?aL ?_; (case aB => exact (by repeat (first | (with_reducible first | exact HB.out | apply below_alloc | apply pw_below_drewN | apply below_drew1 | refine below_set ?_ (IsS43.ge HI435.out)) | exact HB.out))); (case aO => exact (Kd.own_of_R (by (with_reducible repeat (first | apply Kd.R_alloc | apply Kd.R_drewN | apply Kd.R_drew)); exact HO_6.out))); (case aS => exact (below_size (by repeat (first | (with_reducible first | exact HB.out | apply below_alloc | apply pw_below_drewN | apply below_drew1 | refine below_set ?_ (IsS43.ge HI435.out)) | exact HB.out)))); (case aL => have := LMc31.out; omega); intro v467 w36 ho0 hb hg; have ho := Kd.R_of_own (h1 := fun _ => rfl) (ok := fun _ => True) ho0 (fun _ _ => trivial); clear ho0; have hat := True.intro; rw [← Ny466.out] at ho; change Kd.R (Kd.int .u8) 5 w36 w.heap.size (fun _ => True) v467 y466 at ho; have n0_ := Aside0.mk (IsS43.grown (by repeat (first | (with_reducible first | exact HI435.out | apply IsS43.alloc | apply IsS43.drewN | apply IsS43.drew | apply IsS43.set_0 | apply IsS43.set_1 | apply IsS43.set_2) | exact HI435.out)) hg (IsS43.own_ne HI435.out HO_6.out (by decide))); have n1_ := Aside0.mk (hb); have n2_ := Aside0.mk (ho); clear HI435; clear HB; clear HO_6; have HI435 := n0_; have HB := n1_; have HO468 := n2_; clear n0_ n1_ n2_; clear ho hb hg hat))
                      go_roundg kj4
                      case measure => have := HK1.out; have := HJ4.out; omega
                      case rel => exact ⟨(y466), (t463), (t464), (t465), H', ⟨by have := HK1.out; have := HJ4.out; omega⟩, ⟨by (with_reducible repeat (first | apply Kd.R_alloc | apply Kd.R_drewN | apply Kd.R_drew)); exact HO468.out⟩, ⟨by repeat (first | (with_reducible first | exact HI435.out | apply IsS43.alloc | apply IsS43.drewN | apply IsS43.drew | apply IsS43.set_0 | apply IsS43.set_1 | apply IsS43.set_2) | exact HI435.out)⟩, ⟨by repeat (first | (with_reducible first | exact HB.out | apply below_alloc | apply pw_below_drewN | apply below_drew1 | refine below_set ?_ (IsS43.ge HI435.out)) | exact HB.out)⟩⟩
                    · rw [if_neg c31] at H
                      exact absurd H (by simp)
              · rw [if_neg c13] at H
                have c13b0 : (t447 == 0) = false := beq_eq_false_iff_ne.mpr c13
                have c13b1 : (t447 != 0) = true := bne_iff_ne.mpr c13
                replace H := Option.bind_eq_some_iff.mp H
                obtain ⟨⟨t469, t470, t471, t472⟩, A370, H⟩ := H
                replace H : (if x6_1.length + t469.size < 140737488355328 then (barqueref08_Loose.l0 kj4 t436 (x6_1 ++ bytesOf t469) t470 t471 t472) else (none)) = some (r1, r2) := H
                have A37 := Aside0.mk A370
                clear A370
                by_cases c38 : x6_1.length + t469.size < 140737488355328
                · rw [if_pos c38] at H
                  have LMc38 := Aside0.mk c38
                  clear c38
                  obtain ⟨y473, hy473⟩ : ∃ y_ : List Int, y_ = (x6_1 ++ bytesOf t469) := ⟨_, rfl⟩
                  replace H : (barqueref08_Loose.l0 kj4 t436 y473 t470 t471 t472) = some (r1, r2) := by first | (rw [hy473]; with_reducible exact H) | (have H2_ := (Option.bind_some _ _).symm.trans H; rw [hy473]; with_reducible exact H2_) | (have H2_ := (Option.bind_some _ _).symm.trans H; with_reducible exact H2_) | with_reducible exact H | (rw [hy473]; exact H) | exact H
                  have Ny473 := Aside0.mk hy473
                  clear hy473
                  have H' := Aside0.mk H
                  clear H
                  go_wp2_with (first | ((with_reducible refine gate_callee (f := 66) rfl ?_); refine goesL_ (some 29) rfl rfl Try.func66 (by kernel_rfl) rfl #[.pointer (some ⟨gb435, 0, none⟩)] rfl (by (try simp only [List.map_toArray, List.map_cons, List.map_nil]); first | done | rfl | (simp only [List.length_drop, List.length_take]; rfl)) ?_; (with_reducible refine (barqueref01_Reader_Num.calls kj4 gb435 x436000_1 x436001_1 x436002_1 t444 t445 t446 t447 w _ ?side1 ?side2 A11.out).mono ?_); (case side1 => repeat (first | (with_reducible first | exact HI435.out | apply IsS43.alloc | apply IsS43.drewN | apply IsS43.drew | apply IsS43.set_0 | apply IsS43.set_1 | apply IsS43.set_2) | exact HI435.out)); (case side2 => repeat (first | (with_reducible first | exact HB.out | apply below_alloc | apply pw_below_drewN | apply below_drew1 | refine below_set ?_ (IsS43.ge HI435.out)) | exact HB.out)); rintro e w39 ⟨rfl, hi, hb, hk⟩; refine ⟨_, rfl, ?_⟩; have n0_ := Aside0.mk (Kd.R_mono (Kd.R_keep (IsS43.apart (show IsS43 w _ gb435 x436000_1 x436001_1 x436002_1 from by repeat (first | (with_reducible first | exact HI435.out | apply IsS43.alloc | apply IsS43.drewN | apply IsS43.drew | apply IsS43.set_0 | apply IsS43.set_1 | apply IsS43.set_2) | exact HI435.out)) (by (with_reducible repeat (first | apply Kd.R_alloc | apply Kd.R_drewN | apply Kd.R_drew)); exact HO_6.out) (by decide)) hk (fun _ h => h.2)) (fun _ h => h.1)); have n1_ := Aside0.mk (hb); have n2_ := Aside0.mk (hi); clear HO_6; clear HB; clear HI435; have HO_6 := n0_; have HB := n1_; have HI435 := n2_; clear n0_ n1_ n2_; (try clear hb); (try clear hb2); (try clear hk); (try clear hi); obtain ⟨Ao40, co40, eo40⟩ := Kd.R_slice HO_6.out; subst eo40; obtain ⟨HGz41, hgz41⟩ := HI435.out; have hcz41_0 := cellS43_0 HGz41; have hcz41_1 := cellS43_1 HGz41; have hcz41_2 := cellS43_2 HGz41; have hfz41_0 := blk_frozen HGz41 0; have hfz41_1 := blk_frozen HGz41 1; have hfz41_2 := blk_frozen HGz41 2; clear HGz41 hgz41) | ((with_reducible refine gate_callee (f := 68) rfl ?_); refine goesL_ (some 59) rfl rfl Try.func68 (by kernel_rfl) rfl #[.pointer (some ⟨gb435, 0, none⟩), .int .i64 (wrap64 (Int.tdiv t444 2))] rfl (by (try simp only [List.map_toArray, List.map_cons, List.map_nil]); first | done | rfl | (simp only [List.length_drop, List.length_take]; rfl)) ?_; (with_reducible refine (barqueref01_Reader_Raw.calls gb435 t445 t446 t447 (wrap64 (Int.tdiv t444 2)) t469 t470 t471 t472 w _ ?side1 ?side2 A37.out).mono ?_); (case side1 => repeat (first | (with_reducible first | exact HI435.out | apply IsS43.alloc | apply IsS43.drewN | apply IsS43.drew | apply IsS43.set_0 | apply IsS43.set_1 | apply IsS43.set_2) | exact HI435.out)); (case side2 => repeat (first | (with_reducible first | exact HB.out | apply below_alloc | apply pw_below_drewN | apply below_drew1 | refine below_set ?_ (IsS43.ge HI435.out)) | exact HB.out)); rintro e w42 ⟨rfl, hi, hb, hk⟩; refine ⟨_, rfl, ?_⟩; have n0_ := Aside0.mk (Kd.R_mono (Kd.R_keep (IsS43.apart (show IsS43 w _ gb435 t445 t446 t447 from by repeat (first | (with_reducible first | exact HI435.out | apply IsS43.alloc | apply IsS43.drewN | apply IsS43.drew | apply IsS43.set_0 | apply IsS43.set_1 | apply IsS43.set_2) | exact HI435.out)) (by (with_reducible repeat (first | apply Kd.R_alloc | apply Kd.R_drewN | apply Kd.R_drew)); exact HO_6.out) (by decide)) hk (fun _ h => h.2)) (fun _ h => h.1)); have n1_ := Aside0.mk (hb); have n2_ := Aside0.mk (hi); clear HO_6; clear HB; clear HI435; have HO_6 := n0_; have HB := n1_; have HI435 := n2_; clear n0_ n1_ n2_; (try clear hb); (try clear hb2); (try clear hk); (try clear hi)) | (at_builtin; refine print_append_str (w0 := w) w.heap.size rfl (.tmp 55) _ 38 9 5 rfl Try.underlying38 Try.underlying9 info5 (.slice Ao40 x6_1.length co40) x6_1 t469 rfl rfl ?aO ?aB ?aS ?aL ?_; (case aB => exact (by repeat (first | (with_reducible first | exact HB.out | apply below_alloc | apply pw_below_drewN | apply below_drew1 | refine below_set ?_ (IsS43.ge HI435.out)) | exact HB.out))); (case aO => exact (Kd.own_of_R (by (with_reducible repeat (first | apply Kd.R_alloc | apply Kd.R_drewN | apply Kd.R_drew)); exact HO_6.out))); (case aS => exact (below_size (by repeat (first | (with_reducible first | exact HB.out | apply below_alloc | apply pw_below_drewN | apply below_drew1 | refine below_set ?_ (IsS43.ge HI435.out)) | exact HB.out)))); (case aL => have := LMc38.out; omega); intro v474 w43 ho0 hb hg; have ho := Kd.R_of_own (h1 := fun _ => rfl) (ok := fun _ => True) ho0 (fun _ _ => trivial); clear ho0; have hat := True.intro; rw [← Ny473.out] at ho; change Kd.R (Kd.int .u8) 5 w43 w.heap.size (fun _ => True) v474 y473 at ho; have n0_ := Aside0.mk (IsS43.grown (by repeat (first | (with_reducible first | exact HI435.out | apply IsS43.alloc | apply IsS43.drewN | apply IsS43.drew | apply IsS43.set_0 | apply IsS43.set_1 | apply IsS43.set_2) | exact HI435.out)) hg (IsS43.own_ne HI435.out HO_6.out (by decide))); have n1_ := Aside0.mk (hb); have n2_ := Aside0.mk (ho); clear HI435; clear HB; clear HO_6; have HI435 := n0_; have HB := n1_; have HO475 := n2_; clear n0_ n1_ n2_; clear ho hb hg hat))
                  go_roundg kj4
                  case measure => have := HK1.out; have := HJ4.out; omega
                  case rel => exact ⟨(y473), (t470), (t471), (t472), H', ⟨by have := HK1.out; have := HJ4.out; omega⟩, ⟨by (with_reducible repeat (first | apply Kd.R_alloc | apply Kd.R_drewN | apply Kd.R_drew)); exact HO475.out⟩, ⟨by repeat (first | (with_reducible first | exact HI435.out | apply IsS43.alloc | apply IsS43.drewN | apply IsS43.drew | apply IsS43.set_0 | apply IsS43.set_1 | apply IsS43.set_2) | exact HI435.out)⟩, ⟨by repeat (first | (with_reducible first | exact HB.out | apply below_alloc | apply pw_below_drewN | apply below_drew1 | refine below_set ?_ (IsS43.ge HI435.out)) | exact HB.out)⟩⟩
                · rw [if_neg c38] at H
                  exact absurd H (by simp)
            · rw [if_neg c12] at H
              have c12b0 : ((Int.tmod t444 2) == 0) = false := beq_eq_false_iff_ne.mpr c12
              have c12b1 : ((Int.tmod t444 2) != 0) = true := bne_iff_ne.mpr c12
              replace H := Option.bind_eq_some_iff.mp H
              obtain ⟨⟨t476, t477, t478, t479⟩, A440, H⟩ := H
              replace H : (if t479 = 0 then (if (wrap64 (t476 + 1)) > (x6_1.length : Int) then (barqueref08_Loose.j2 kj4 t436 x6_1 t444 (wrap64 (t476 + 1)) true t477 t478 t479) else (if (wrap64 (t476 + 1)) > 4096 then (barqueref08_Loose.j2 kj4 t436 x6_1 t444 (wrap64 (t476 + 1)) true t477 t478 t479) else (if (wrap64 (Int.tdiv t444 2)) > 255 then (barqueref08_Loose.j2 kj4 t436 x6_1 t444 (wrap64 (t476 + 1)) true t477 t478 t479) else (barqueref08_Loose.j2 kj4 t436 x6_1 t444 (wrap64 (t476 + 1)) (decide ((wrap64 ((wrap64 (Int.tdiv t444 2)) + 4)) > (wrap64 (t436 - (x6_1.length : Int))))) t477 t478 t479)))) else (barqueref08_Loose.j2 kj4 t436 x6_1 t444 (wrap64 (t476 + 1)) false t477 t478 t479)) = some (r1, r2) := H
              have A44 := Aside0.mk A440
              clear A440
              have HC45 := Aside0.mk H
              clear H
              go_upto_region 12 with (first | ((with_reducible refine gate_callee (f := 66) rfl ?_); refine goesL_ (some 29) rfl rfl Try.func66 (by kernel_rfl) rfl #[.pointer (some ⟨gb435, 0, none⟩)] rfl (by (try simp only [List.map_toArray, List.map_cons, List.map_nil]); first | done | rfl | (simp only [List.length_drop, List.length_take]; rfl)) ?_; (with_reducible refine (barqueref01_Reader_Num.calls kj4 gb435 x436000_1 x436001_1 x436002_1 t444 t445 t446 t447 w _ ?side1 ?side2 A11.out).mono ?_); (case side1 => repeat (first | (with_reducible first | exact HI435.out | apply IsS43.alloc | apply IsS43.drewN | apply IsS43.drew | apply IsS43.set_0 | apply IsS43.set_1 | apply IsS43.set_2) | exact HI435.out)); (case side2 => repeat (first | (with_reducible first | exact HB.out | apply below_alloc | apply pw_below_drewN | apply below_drew1 | refine below_set ?_ (IsS43.ge HI435.out)) | exact HB.out)); rintro e w46 ⟨rfl, hi, hb, hk⟩; refine ⟨_, rfl, ?_⟩; have n0_ := Aside0.mk (Kd.R_mono (Kd.R_keep (IsS43.apart (show IsS43 w _ gb435 x436000_1 x436001_1 x436002_1 from by repeat (first | (with_reducible first | exact HI435.out | apply IsS43.alloc | apply IsS43.drewN | apply IsS43.drew | apply IsS43.set_0 | apply IsS43.set_1 | apply IsS43.set_2) | exact HI435.out)) (by (with_reducible repeat (first | apply Kd.R_alloc | apply Kd.R_drewN | apply Kd.R_drew)); exact HO_6.out) (by decide)) hk (fun _ h => h.2)) (fun _ h => h.1)); have n1_ := Aside0.mk (hb); have n2_ := Aside0.mk (hi); clear HO_6; clear HB; clear HI435; have HO_6 := n0_; have HB := n1_; have HI435 := n2_; clear n0_ n1_ n2_; (try clear hb); (try clear hb2); (try clear hk); (try clear hi); obtain ⟨Ao47, co47, eo47⟩ := Kd.R_slice HO_6.out; subst eo47) | ((with_reducible refine gate_callee (f := 66) rfl ?_); refine goesL_ (some 62) rfl rfl Try.func66 (by kernel_rfl) rfl #[.pointer (some ⟨gb435, 0, none⟩)] rfl (by (try simp only [List.map_toArray, List.map_cons, List.map_nil]); first | done | rfl | (simp only [List.length_drop, List.length_take]; rfl)) ?_; (with_reducible refine (barqueref01_Reader_Num.calls kj4 gb435 t445 t446 t447 t476 t477 t478 t479 w _ ?side1 ?side2 A44.out).mono ?_); (case side1 => repeat (first | (with_reducible first | exact HI435.out | apply IsS43.alloc | apply IsS43.drewN | apply IsS43.drew | apply IsS43.set_0 | apply IsS43.set_1 | apply IsS43.set_2) | exact HI435.out)); (case side2 => repeat (first | (with_reducible first | exact HB.out | apply below_alloc | apply pw_below_drewN | apply below_drew1 | refine below_set ?_ (IsS43.ge HI435.out)) | exact HB.out)); rintro e w48 ⟨rfl, hi, hb, hk⟩; refine ⟨_, rfl, ?_⟩; have n0_ := Aside0.mk (Kd.R_mono (Kd.R_keep (IsS43.apart (show IsS43 w _ gb435 t445 t446 t447 from by repeat (first | (with_reducible first | exact HI435.out | apply IsS43.alloc | apply IsS43.drewN | apply IsS43.drew | apply IsS43.set_0 | apply IsS43.set_1 | apply IsS43.set_2) | exact HI435.out)) (by (with_reducible repeat (first | apply Kd.R_alloc | apply Kd.R_drewN | apply Kd.R_drew)); exact HO_6.out) (by decide)) hk (fun _ h => h.2)) (fun _ h => h.1)); have n1_ := Aside0.mk (hb); have n2_ := Aside0.mk (hi); clear HO_6; clear HB; clear HI435; have HO_6 := n0_; have HB := n1_; have HI435 := n2_; clear n0_ n1_ n2_; (try clear hb); (try clear hb2); (try clear hk); (try clear hi)))
              (try simp only [Act.put, List.setIfInBounds_toArray, List.set_cons_zero, List.set_cons_succ])
              go_cut [90] (fun v90 wc => ∃ (kq : Nat) (x90_44 : Bool), v90 = .bool x90_44 ∧ Aside0 (barqueref08_Loose.j2 kq t436 x6_1 t444 (wrap64 (t476 + 1)) x90_44 t477 t478 t479 = some (r1, r2)) ∧ Aside0 (kq ≤ kj4) ∧ Aside0 (Kd.R (Kd.int .u8) 5 wc w.heap.size (fun _ => True) (.slice Ao47 x6_1.length co47) x6_1) ∧ Aside0 (IsS43 w wc gb435 t477 t478 t479) ∧ Aside0 (Below w.heap.size w wc))
              case first =>
                have H := HC45.out
                clear HC45
                by_cases c49 : t479 = 0
                · rw [if_pos c49] at H
                  have c49b0 : (t479 == 0) = true := beq_iff_eq.mpr c49
                  have c49b1 : (t479 != 0) = false := bne_eq_false_iff_eq.mpr c49
                  clear c49
                  (first | rw [c49b0] | (simp only [i64_w, i32_w]; rw [c49b0]) | skip)
                  by_cases c50 : (wrap64 (t476 + 1)) > (x6_1.length : Int)
                  · rw [if_pos c50] at H
                    have c50b0 : decide ((x6_1.length : Int) < (wrap64 (t476 + 1))) = true := decide_eq_true c50
                    clear c50
                    have H' := Aside0.mk H
                    clear H
                    obtain ⟨HGz51, hgz51⟩ := HI435.out
                    have hcz51_0 := cellS43_0 HGz51
                    have hcz51_1 := cellS43_1 HGz51
                    have hcz51_2 := cellS43_2 HGz51
                    have hfz51_0 := blk_frozen HGz51 0
                    have hfz51_1 := blk_frozen HGz51 1
                    have hfz51_2 := blk_frozen HGz51 2
                    clear HGz51 hgz51
                    go_wp2
                    go_meet
                    case rel => exact ⟨_, (true), (by first | rfl | (simp; done) | (simp [*]; done)), H', ⟨by have := HK1.out; have := HJ4.out; first | omega | exact Nat.le_refl _⟩, ⟨by (with_reducible repeat (first | apply Kd.R_alloc | apply Kd.R_drewN | apply Kd.R_drew)); exact HO_6.out⟩, ⟨by repeat (first | (with_reducible first | exact HI435.out | apply IsS43.alloc | apply IsS43.drewN | apply IsS43.drew | apply IsS43.set_0 | apply IsS43.set_1 | apply IsS43.set_2) | exact HI435.out)⟩, ⟨by repeat (first | (with_reducible first | exact HB.out | apply below_alloc | apply pw_below_drewN | apply below_drew1 | refine below_set ?_ (IsS43.ge HI435.out)) | exact HB.out)⟩⟩
                  · rw [if_neg c50] at H
                    have c50b0 : decide ((x6_1.length : Int) < (wrap64 (t476 + 1))) = false := decide_eq_false c50
                    clear c50
                    by_cases c52 : (wrap64 (t476 + 1)) > 4096
                    · rw [if_pos c52] at H
                      have c52b0 : decide (4096 < (wrap64 (t476 + 1))) = true := decide_eq_true c52
                      clear c52
                      have H' := Aside0.mk H
                      clear H
                      obtain ⟨HGz53, hgz53⟩ := HI435.out
                      have hcz53_0 := cellS43_0 HGz53
                      have hcz53_1 := cellS43_1 HGz53
                      have hcz53_2 := cellS43_2 HGz53
                      have hfz53_0 := blk_frozen HGz53 0
                      have hfz53_1 := blk_frozen HGz53 1
                      have hfz53_2 := blk_frozen HGz53 2
                      clear HGz53 hgz53
                      go_wp2
                      go_meet
                      case rel => exact ⟨_, (true), (by first | rfl | (simp; done) | (simp [*]; done)), H', ⟨by have := HK1.out; have := HJ4.out; first | omega | exact Nat.le_refl _⟩, ⟨by (with_reducible repeat (first | apply Kd.R_alloc | apply Kd.R_drewN | apply Kd.R_drew)); exact HO_6.out⟩, ⟨by repeat (first | (with_reducible first | exact HI435.out | apply IsS43.alloc | apply IsS43.drewN | apply IsS43.drew | apply IsS43.set_0 | apply IsS43.set_1 | apply IsS43.set_2) | exact HI435.out)⟩, ⟨by repeat (first | (with_reducible first | exact HB.out | apply below_alloc | apply pw_below_drewN | apply below_drew1 | refine below_set ?_ (IsS43.ge HI435.out)) | exact HB.out)⟩⟩
                    · rw [if_neg c52] at H
                      have c52b0 : decide (4096 < (wrap64 (t476 + 1))) = false := decide_eq_false c52
                      clear c52
                      by_cases c54 : (wrap64 (Int.tdiv t444 2)) > 255
                      · rw [if_pos c54] at H
                        have c54b0 : decide (255 < (wrap64 (Int.tdiv t444 2))) = true := decide_eq_true c54
                        clear c54
                        have H' := Aside0.mk H
                        clear H
                        obtain ⟨HGz55, hgz55⟩ := HI435.out
                        have hcz55_0 := cellS43_0 HGz55
                        have hcz55_1 := cellS43_1 HGz55
                        have hcz55_2 := cellS43_2 HGz55
                        have hfz55_0 := blk_frozen HGz55 0
                        have hfz55_1 := blk_frozen HGz55 1
                        have hfz55_2 := blk_frozen HGz55 2
                        clear HGz55 hgz55
                        go_wp2
                        go_meet
                        case rel => exact ⟨_, (true), (by first | rfl | (simp; done) | (simp [*]; done)), H', ⟨by have := HK1.out; have := HJ4.out; first | omega | exact Nat.le_refl _⟩, ⟨by (with_reducible repeat (first | apply Kd.R_alloc | apply Kd.R_drewN | apply Kd.R_drew)); exact HO_6.out⟩, ⟨by repeat (first | (with_reducible first | exact HI435.out | apply IsS43.alloc | apply IsS43.drewN | apply IsS43.drew | apply IsS43.set_0 | apply IsS43.set_1 | apply IsS43.set_2) | exact HI435.out)⟩, ⟨by repeat (first | (with_reducible first | exact HB.out | apply below_alloc | apply pw_below_drewN | apply below_drew1 | refine below_set ?_ (IsS43.ge HI435.out)) | exact HB.out)⟩⟩
                      · rw [if_neg c54] at H
                        have c54b0 : decide (255 < (wrap64 (Int.tdiv t444 2))) = false := decide_eq_false c54
                        clear c54
                        have H' := Aside0.mk H
                        clear H
                        obtain ⟨HGz56, hgz56⟩ := HI435.out
                        have hcz56_0 := cellS43_0 HGz56
                        have hcz56_1 := cellS43_1 HGz56
                        have hcz56_2 := cellS43_2 HGz56
                        have hfz56_0 := blk_frozen HGz56 0
                        have hfz56_1 := blk_frozen HGz56 1
                        have hfz56_2 := blk_frozen HGz56 2
                        clear HGz56 hgz56
                        go_wp2
                        go_meet
                        case rel => exact ⟨_, (decide ((wrap64 ((wrap64 (Int.tdiv t444 2)) + 4)) > (wrap64 (t436 - (x6_1.length : Int))))), (by first | rfl | (simp; done) | (simp [*]; done)), H', ⟨by have := HK1.out; have := HJ4.out; first | omega | exact Nat.le_refl _⟩, ⟨by (with_reducible repeat (first | apply Kd.R_alloc | apply Kd.R_drewN | apply Kd.R_drew)); exact HO_6.out⟩, ⟨by repeat (first | (with_reducible first | exact HI435.out | apply IsS43.alloc | apply IsS43.drewN | apply IsS43.drew | apply IsS43.set_0 | apply IsS43.set_1 | apply IsS43.set_2) | exact HI435.out)⟩, ⟨by repeat (first | (with_reducible first | exact HB.out | apply below_alloc | apply pw_below_drewN | apply below_drew1 | refine below_set ?_ (IsS43.ge HI435.out)) | exact HB.out)⟩⟩
                · rw [if_neg c49] at H
                  have c49b0 : (t479 == 0) = false := beq_eq_false_iff_ne.mpr c49
                  have c49b1 : (t479 != 0) = true := bne_iff_ne.mpr c49
                  (first | rw [c49b0] | (simp only [i64_w, i32_w]; rw [c49b0]) | skip)
                  have H' := Aside0.mk H
                  clear H
                  obtain ⟨HGz57, hgz57⟩ := HI435.out
                  have hcz57_0 := cellS43_0 HGz57
                  have hcz57_1 := cellS43_1 HGz57
                  have hcz57_2 := cellS43_2 HGz57
                  have hfz57_0 := blk_frozen HGz57 0
                  have hfz57_1 := blk_frozen HGz57 1
                  have hfz57_2 := blk_frozen HGz57 2
                  clear HGz57 hgz57
                  go_wp2
                  go_meet
                  case rel => exact ⟨_, (false), (by first | rfl | (simp; done) | (simp [*]; done)), H', ⟨by have := HK1.out; have := HJ4.out; first | omega | exact Nat.le_refl _⟩, ⟨by (with_reducible repeat (first | apply Kd.R_alloc | apply Kd.R_drewN | apply Kd.R_drew)); exact HO_6.out⟩, ⟨by repeat (first | (with_reducible first | exact HI435.out | apply IsS43.alloc | apply IsS43.drewN | apply IsS43.drew | apply IsS43.set_0 | apply IsS43.set_1 | apply IsS43.set_2) | exact HI435.out)⟩, ⟨by repeat (first | (with_reducible first | exact HB.out | apply below_alloc | apply pw_below_drewN | apply below_drew1 | refine below_set ?_ (IsS43.ge HI435.out)) | exact HB.out)⟩⟩
              case rest =>
                clear HC45
                try clear c1
                try clear c2
                try clear p2
                try clear c3
                try clear c4
                try clear c5
                try clear c6
                try clear c6b0
                try clear c6b1
                try clear p6
                try clear c10
                try clear c12
                try clear c12b0
                try clear c12b1
                try clear c13
                try clear c13b0
                try clear c13b1
                try clear c14
                try clear c14b0
                try clear c14b1
                try clear c16
                try clear c22
                try clear c22b0
                try clear c24
                try clear c31
                try clear c38
                try clear c49
                try clear c49b0
                try clear c49b1
                try clear c50
                try clear c50b0
                try clear c52
                try clear c52b0
                try clear c54
                try clear c54b0
                try clear hcz19_0
                try clear hcz19_1
                try clear hcz19_2
                try clear hcz27_0
                try clear hcz27_1
                try clear hcz27_2
                try clear hcz34_0
                try clear hcz34_1
                try clear hcz34_2
                try clear hcz41_0
                try clear hcz41_1
                try clear hcz41_2
                try clear hcz51_0
                try clear hcz51_1
                try clear hcz51_2
                try clear hcz53_0
                try clear hcz53_1
                try clear hcz53_2
                try clear hcz55_0
                try clear hcz55_1
                try clear hcz55_2
                try clear hcz56_0
                try clear hcz56_1
                try clear hcz56_2
                try clear hcz57_0
                try clear hcz57_1
                try clear hcz57_2
                try clear hcz7_0
                try clear hcz7_1
                try clear hcz7_2
                try clear hcz9_0
                try clear hcz9_1
                try clear hcz9_2
                try clear hfz19_0
                try clear hfz19_1
                try clear hfz19_2
                try clear hfz27_0
                try clear hfz27_1
                try clear hfz27_2
                try clear hfz34_0
                try clear hfz34_1
                try clear hfz34_2
                try clear hfz41_0
                try clear hfz41_1
                try clear hfz41_2
                try clear hfz51_0
                try clear hfz51_1
                try clear hfz51_2
                try clear hfz53_0
                try clear hfz53_1
                try clear hfz53_2
                try clear hfz55_0
                try clear hfz55_1
                try clear hfz55_2
                try clear hfz56_0
                try clear hfz56_1
                try clear hfz56_2
                try clear hfz57_0
                try clear hfz57_1
                try clear hfz57_2
                try clear hfz7_0
                try clear hfz7_1
                try clear hfz7_2
                try clear hfz9_0
                try clear hfz9_1
                try clear hfz9_2
                try clear p2
                obtain ⟨kq, x90_44, rfl, HA, HJ44, HO_6, HI435, HB⟩ := hcut
                cases kq with
                | zero => exact absurd HA.out (by simp [barqueref08_Loose.j2])
                | succ kj44 =>
                  have H := HA.out
                  clear HA
                  simp only [barqueref08_Loose.j2] at H
                  have HC58 := Aside0.mk H
                  clear H
                  go_upto_if 90 with (fail)
                  go_cut [] (fun wc => ∃ (kq : Nat) (x436002_57 : Int), Aside0 (barqueref08_Loose.j3 kq t436 x6_1 t444 (wrap64 (t476 + 1)) t477 t478 x436002_57 = some (r1, r2)) ∧ Aside0 (kq ≤ kj44) ∧ Aside0 (Kd.R (Kd.int .u8) 5 wc w.heap.size (fun _ => True) (.slice Ao47 x6_1.length co47) x6_1) ∧ Aside0 (IsS43 w wc gb435 t477 t478 x436002_57) ∧ Aside0 (Below w.heap.size w wc))
                  case first =>
                    have H := HC58.out
                    clear HC58
                    by_cases c59 : x90_44 = true
                    · subst c59
                      have H1 : (barqueref08_Loose.j3 kj44 t436 x6_1 t444 (wrap64 (t476 + 1)) t477 t478 5) = some (r1, r2) := by rw [if_pos rfl] at H; exact H
                      clear H
                      have H := H1
                      clear H1
                      have H' := Aside0.mk H
                      clear H
                      obtain ⟨HGz60, hgz60⟩ := HI435.out
                      have hcz60_0 := cellS43_0 HGz60
                      have hcz60_1 := cellS43_1 HGz60
                      have hcz60_2 := cellS43_2 HGz60
                      have hfz60_0 := blk_frozen HGz60 0
                      have hfz60_1 := blk_frozen HGz60 1
                      have hfz60_2 := blk_frozen HGz60 2
                      clear HGz60 hgz60
                      go_wp2
                      go_meet
                      case rel => exact ⟨_, (5), H', ⟨by have := HK1.out; have := HJ4.out; have := HJ44.out; first | omega | exact Nat.le_refl _⟩, ⟨by (with_reducible repeat (first | apply Kd.R_alloc | apply Kd.R_drewN | apply Kd.R_drew)); exact Kd.R_mono (Kd.R_far (p := ⟨gb435, 2, none⟩) (IsS43.apart HI435.out HO_6.out (by decide)) (fun _ hk => hk.2) (.int .i64 5)) (fun _ hk => trivial)⟩, ⟨by repeat (first | (with_reducible first | exact HI435.out | apply IsS43.alloc | apply IsS43.drewN | apply IsS43.drew | apply IsS43.set_0 | apply IsS43.set_1 | apply IsS43.set_2) | exact HI435.out)⟩, ⟨by repeat (first | (with_reducible first | exact HB.out | apply below_alloc | apply pw_below_drewN | apply below_drew1 | refine below_set ?_ (IsS43.ge HI435.out)) | exact HB.out)⟩⟩
                    · replace c59 := Bool.eq_false_iff.mpr c59
                      subst c59
                      have H1 : (barqueref08_Loose.j3 kj44 t436 x6_1 t444 (wrap64 (t476 + 1)) t477 t478 t479) = some (r1, r2) := by rw [if_neg (show ¬ (false = true) by decide)] at H; exact H
                      clear H
                      have H := H1
                      clear H1
                      have H' := Aside0.mk H
                      clear H
                      go_wp2
                      go_meet
                      case rel => exact ⟨_, (t479), H', ⟨by have := HK1.out; have := HJ4.out; have := HJ44.out; first | omega | exact Nat.le_refl _⟩, ⟨by (with_reducible repeat (first | apply Kd.R_alloc | apply Kd.R_drewN | apply Kd.R_drew)); exact HO_6.out⟩, ⟨by repeat (first | (with_reducible first | exact HI435.out | apply IsS43.alloc | apply IsS43.drewN | apply IsS43.drew | apply IsS43.set_0 | apply IsS43.set_1 | apply IsS43.set_2) | exact HI435.out)⟩, ⟨by repeat (first | (with_reducible first | exact HB.out | apply below_alloc | apply pw_below_drewN | apply below_drew1 | refine below_set ?_ (IsS43.ge HI435.out)) | exact HB.out)⟩⟩
                  case rest =>
                    clear HC58
                    try clear c1
                    try clear c2
                    try clear p2
                    try clear c3
                    try clear c4
                    try clear c5
                    try clear c6
                    try clear c6b0
                    try clear c6b1
                    try clear p6
                    try clear c10
                    try clear c12
                    try clear c12b0
                    try clear c12b1
                    try clear c13
                    try clear c13b0
                    try clear c13b1
                    try clear c14
                    try clear c14b0
                    try clear c14b1
                    try clear c16
                    try clear c22
                    try clear c22b0
                    try clear c24
                    try clear c31
                    try clear c38
                    try clear c49
                    try clear c49b0
                    try clear c49b1
                    try clear c50
                    try clear c50b0
                    try clear c52
                    try clear c52b0
                    try clear c54
                    try clear c54b0
                    try clear c59
                    try clear hcz19_0
                    try clear hcz19_1
                    try clear hcz19_2
                    try clear hcz27_0
                    try clear hcz27_1
                    try clear hcz27_2
                    try clear hcz34_0
                    try clear hcz34_1
                    try clear hcz34_2
                    try clear hcz41_0
                    try clear hcz41_1
                    try clear hcz41_2
                    try clear hcz51_0
                    try clear hcz51_1
                    try clear hcz51_2
                    try clear hcz53_0
                    try clear hcz53_1
                    try clear hcz53_2
                    try clear hcz55_0
                    try clear hcz55_1
                    try clear hcz55_2
                    try clear hcz56_0
                    try clear hcz56_1
                    try clear hcz56_2
                    try clear hcz57_0
                    try clear hcz57_1
                    try clear hcz57_2
                    try clear hcz60_0
                    try clear hcz60_1
                    try clear hcz60_2
                    try clear hcz7_0
                    try clear hcz7_1
                    try clear hcz7_2
                    try clear hcz9_0
                    try clear hcz9_1
                    try clear hcz9_2
                    try clear hfz19_0
                    try clear hfz19_1
                    try clear hfz19_2
                    try clear hfz27_0
                    try clear hfz27_1
                    try clear hfz27_2
                    try clear hfz34_0
                    try clear hfz34_1
                    try clear hfz34_2
                    try clear hfz41_0
                    try clear hfz41_1
                    try clear hfz41_2
                    try clear hfz51_0
                    try clear hfz51_1
                    try clear hfz51_2
                    try clear hfz53_0
                    try clear hfz53_1
                    try clear hfz53_2
                    try clear hfz55_0
                    try clear hfz55_1
                    try clear hfz55_2
                    try clear hfz56_0
                    try clear hfz56_1
                    try clear hfz56_2
                    try clear hfz57_0
                    try clear hfz57_1
                    try clear hfz57_2
                    try clear hfz60_0
                    try clear hfz60_1
                    try clear hfz60_2
                    try clear hfz7_0
                    try clear hfz7_1
                    try clear hfz7_2
                    try clear hfz9_0
                    try clear hfz9_1
                    try clear hfz9_2
                    try clear p2
                    try clear p6
                    obtain ⟨kq, x436002_57, HA, HJ57, HO_6, HI435, HB⟩ := hcut
                    cases kq with
                    | zero => exact absurd HA.out (by simp [barqueref08_Loose.j3])
                    | succ kj57 =>
                      have H := HA.out
                      clear HA
                      simp only [barqueref08_Loose.j3] at H
                      have H' := Aside0.mk H
                      clear H
                      go_wp2
                      go_loopg [6, 10] kj57 (fun kq v6 v10 w' => ∃ (x6_5 : List Int) (x10_5 : Int), v10 = .int .i64 x10_5 ∧ Aside0 (barqueref08_Loose.l1 kq t436 x6_5 t444 (wrap64 (t476 + 1)) x10_5 t477 t478 x436002_57 = some (r1, r2)) ∧ Aside0 (kq ≤ kj57) ∧ Aside0 (Kd.R (Kd.int .u8) 5 w' w.heap.size (fun _ => True) v6 x6_5) ∧ Aside0 (IsS43 w w' gb435 t477 t478 x436002_57) ∧ Aside0 (Below w.heap.size w w'))
                      case atStart => exact ⟨(x6_1), (0), (by first | rfl | (simp; done) | (simp [*]; done)), H', ⟨Nat.le_refl _⟩, ⟨by (with_reducible repeat (first | apply Kd.R_alloc | apply Kd.R_drewN | apply Kd.R_drew)); exact HO_6.out⟩, ⟨by repeat (first | (with_reducible first | exact HI435.out | apply IsS43.alloc | apply IsS43.drewN | apply IsS43.drew | apply IsS43.set_0 | apply IsS43.set_1 | apply IsS43.set_2) | exact HI435.out)⟩, ⟨by repeat (first | (with_reducible first | exact HB.out | apply below_alloc | apply pw_below_drewN | apply below_drew1 | refine below_set ?_ (IsS43.ge HI435.out)) | exact HB.out)⟩⟩
                      case round =>
                        clear H'
                        try clear c1
                        try clear c2
                        try clear p2
                        try clear c3
                        try clear c4
                        try clear c5
                        try clear c6
                        try clear c6b0
                        try clear c6b1
                        try clear p6
                        try clear c10
                        try clear c12
                        try clear c12b0
                        try clear c12b1
                        try clear c13
                        try clear c13b0
                        try clear c13b1
                        try clear c14
                        try clear c14b0
                        try clear c14b1
                        try clear c16
                        try clear c22
                        try clear c22b0
                        try clear c24
                        try clear c31
                        try clear c38
                        try clear c49
                        try clear c49b0
                        try clear c49b1
                        try clear c50
                        try clear c50b0
                        try clear c52
                        try clear c52b0
                        try clear c54
                        try clear c54b0
                        try clear c59
                        try clear hcz19_0
                        try clear hcz19_1
                        try clear hcz19_2
                        try clear hcz27_0
                        try clear hcz27_1
                        try clear hcz27_2
                        try clear hcz34_0
                        try clear hcz34_1
                        try clear hcz34_2
                        try clear hcz41_0
                        try clear hcz41_1
                        try clear hcz41_2
                        try clear hcz51_0
                        try clear hcz51_1
                        try clear hcz51_2
                        try clear hcz53_0
                        try clear hcz53_1
                        try clear hcz53_2
                        try clear hcz55_0
                        try clear hcz55_1
                        try clear hcz55_2
                        try clear hcz56_0
                        try clear hcz56_1
                        try clear hcz56_2
                        try clear hcz57_0
                        try clear hcz57_1
                        try clear hcz57_2
                        try clear hcz60_0
                        try clear hcz60_1
                        try clear hcz60_2
                        try clear hcz7_0
                        try clear hcz7_1
                        try clear hcz7_2
                        try clear hcz9_0
                        try clear hcz9_1
                        try clear hcz9_2
                        try clear hfz19_0
                        try clear hfz19_1
                        try clear hfz19_2
                        try clear hfz27_0
                        try clear hfz27_1
                        try clear hfz27_2
                        try clear hfz34_0
                        try clear hfz34_1
                        try clear hfz34_2
                        try clear hfz41_0
                        try clear hfz41_1
                        try clear hfz41_2
                        try clear hfz51_0
                        try clear hfz51_1
                        try clear hfz51_2
                        try clear hfz53_0
                        try clear hfz53_1
                        try clear hfz53_2
                        try clear hfz55_0
                        try clear hfz55_1
                        try clear hfz55_2
                        try clear hfz56_0
                        try clear hfz56_1
                        try clear hfz56_2
                        try clear hfz57_0
                        try clear hfz57_1
                        try clear hfz57_2
                        try clear hfz60_0
                        try clear hfz60_1
                        try clear hfz60_2
                        try clear hfz7_0
                        try clear hfz7_1
                        try clear hfz7_2
                        try clear hfz9_0
                        try clear hfz9_1
                        try clear hfz9_2
                        try clear p2
                        try clear p6
                        obtain ⟨x6_5, x10_5, rfl, HA, HK5, HO_6, HI435, HB⟩ := hrel
                        cases gk with
                        | zero => exact absurd HA.out (by simp [barqueref08_Loose.l1])
                        | succ k5 =>
                          have H := HA.out
                          clear HA
                          simp only [barqueref08_Loose.l1] at H
                          by_cases c61 : x10_5 < (wrap64 ((wrap64 (Int.tdiv t444 2)) + 4))
                          · rw [if_pos c61] at H
                            have c61b0 : decide (x10_5 < (wrap64 ((wrap64 (Int.tdiv t444 2)) + 4))) = true := decide_eq_true c61
                            clear c61
                            by_cases c62 : x436002_57 = 0
                            · rw [if_pos c62] at H
                              have c62b0 : (x436002_57 == 0) = true := beq_iff_eq.mpr c62
                              have c62b1 : (x436002_57 != 0) = false := bne_eq_false_iff_eq.mpr c62
                              clear c62
                              obtain ⟨ji63, hji63⟩ : ∃ j_ : Int, (wrap64 ((x6_5.length : Int) - (wrap64 (t476 + 1)))) = j_ := ⟨_, rfl⟩
                              replace H : (if 0 ≤ (ji63) then (if (ji63) < (x6_5.length : Int) then (if x6_5.length < 140737488355328 then (barqueref08_Loose.l1 k5 t436 (x6_5 ++ [rd x6_5 (ji63)]) t444 (wrap64 (t476 + 1)) (wrap64 (x10_5 + 1)) t477 t478 x436002_57) else (none)) else (none)) else (none)) = some (r1, r2) := by first | (rw [hji63] at H; exact H) | (simp only [hji63] at H ⊢; exact H)
                              have hji63w : (IntKind.i64.wrap ((x6_5.length : Int) - (wrap64 (t476 + 1)))) = ji63 := (i64_w _).trans hji63
                              by_cases c64 : 0 ≤ (ji63)
                              · rw [if_pos c64] at H
                                have c64b0 : decide (0 ≤ (ji63)) = true := decide_eq_true c64
                                clear c64
                                by_cases c65 : (ji63) < (x6_5.length : Int)
                                · rw [if_pos c65] at H
                                  have c65b0 : decide ((ji63) < (x6_5.length : Int)) = true := decide_eq_true c65
                                  clear c65
                                  by_cases c66 : x6_5.length < 140737488355328
                                  · rw [if_pos c66] at H
                                    have LMc66 := Aside0.mk c66
                                    clear c66
                                    obtain ⟨y481, hy481⟩ : ∃ y_ : List Int, y_ = (x6_5 ++ [rd x6_5 (ji63)]) := ⟨_, rfl⟩
                                    replace H : (barqueref08_Loose.l1 k5 t436 y481 t444 (wrap64 (t476 + 1)) (wrap64 (x10_5 + 1)) t477 t478 x436002_57) = some (r1, r2) := by first | (rw [hy481]; with_reducible exact H) | (have H2_ := (Option.bind_some _ _).symm.trans H; rw [hy481]; with_reducible exact H2_) | (have H2_ := (Option.bind_some _ _).symm.trans H; with_reducible exact H2_) | with_reducible exact H | (rw [hy481]; exact H) | exact H
                                    have Ny481 := Aside0.mk hy481
                                    clear hy481
                                    have H' := Aside0.mk H
                                    clear H
                                    obtain ⟨HGz67, hgz67⟩ := HI435.out
                                    have hcz67_0 := cellS43_0 HGz67
                                    have hcz67_1 := cellS43_1 HGz67
                                    have hcz67_2 := cellS43_2 HGz67
                                    have hfz67_0 := blk_frozen HGz67 0
                                    have hfz67_1 := blk_frozen HGz67 1
                                    have hfz67_2 := blk_frozen HGz67 2
                                    clear HGz67 hgz67
                                    obtain ⟨Ao68, co68, eo68⟩ := Kd.R_slice HO_6.out
                                    subst eo68
                                    have p480 : 0 ≤ ((ji63) : Int) := of_decide_eq_true (by first | (with_reducible assumption) | assumption)
                                    have q480 : (ji63) < (x6_5.length : Int) := of_decide_eq_true (by first | (with_reducible assumption) | assumption)
                                    obtain ⟨ad480, e480, hx480_0⟩ := Kd.at_int (Kd.R_reads' HO_6.out).2.2 (ji63) p480 q480
                                    cases e480
                                    replace p480 := eq_true p480
                                    replace q480 := eq_true q480
                                    go_wp2_with (first | ((with_reducible refine gate_builtin (b := .append) (xs := #[.tmp 108, .tmp 116]) rfl ?_); (try (refine gate_guard (by rfl) ?_; dsimp only)); at_builtin; refine Kd.R_append (Kd.int .u8) (w0 := w) w.heap.size rfl (.tmp 108) (.tmp 116) 38 5 (.int .u8 0) 1 rfl Try.underlying38 info5 rfl (by decide) (by omega) (.slice (some ad480) x6_5.length co68) x6_5 (rd x6_5 (ji63)) [.int .u8 (rd x6_5 (ji63))] (fun _ => True) (fun _ => False) rfl rfl ?aP (fun _ hk => hk.elim) ?aF ?aO ?aB ?aS ?aL ?_; (case aP => exact rfl); (case aB => exact (by repeat (first | (with_reducible first | exact HB.out | apply below_alloc | apply pw_below_drewN | apply below_drew1 | refine below_set ?_ (IsS43.ge HI435.out)) | exact HB.out))); (case aF => exact (fun _ _ => trivial)); (case aO => exact (by (with_reducible repeat (first | apply Kd.R_alloc | apply Kd.R_drewN | apply Kd.R_drew)); exact HO_6.out)); (case aS => exact (below_size (by repeat (first | (with_reducible first | exact HB.out | apply below_alloc | apply pw_below_drewN | apply below_drew1 | refine below_set ?_ (IsS43.ge HI435.out)) | exact HB.out)))); (case aL => have := LMc66.out; omega); intro v482 w69 ho hb hg hat; rw [← Ny481.out] at ho; have n0_ := Aside0.mk (IsS43.grown (by repeat (first | (with_reducible first | exact HI435.out | apply IsS43.alloc | apply IsS43.drewN | apply IsS43.drew | apply IsS43.set_0 | apply IsS43.set_1 | apply IsS43.set_2) | exact HI435.out)) hg (IsS43.own_ne HI435.out HO_6.out (by decide))); have n1_ := Aside0.mk (hb); have n2_ := Aside0.mk (ho); clear HI435; clear HB; clear HO_6; have HI435 := n0_; have HB := n1_; have HO483 := n2_; clear n0_ n1_ n2_; clear ho hb hg hat))
                                    go_roundg k5
                                    case measure => have := HK1.out; have := HJ4.out; have := HJ44.out; have := HJ57.out; have := HK5.out; omega
                                    case rel => exact ⟨(y481), (wrap64 (x10_5 + 1)), (by first | rfl | (simp; done) | (simp [*]; done)), H', ⟨by have := HK1.out; have := HJ4.out; have := HJ44.out; have := HJ57.out; have := HK5.out; omega⟩, ⟨by (with_reducible repeat (first | apply Kd.R_alloc | apply Kd.R_drewN | apply Kd.R_drew)); exact HO483.out⟩, ⟨by repeat (first | (with_reducible first | exact HI435.out | apply IsS43.alloc | apply IsS43.drewN | apply IsS43.drew | apply IsS43.set_0 | apply IsS43.set_1 | apply IsS43.set_2) | exact HI435.out)⟩, ⟨by repeat (first | (with_reducible first | exact HB.out | apply below_alloc | apply pw_below_drewN | apply below_drew1 | refine below_set ?_ (IsS43.ge HI435.out)) | exact HB.out)⟩⟩
                                  · rw [if_neg c66] at H
                                    exact absurd H (by simp)
                                · rw [if_neg c65] at H
                                  exact absurd H (by simp)
                              · rw [if_neg c64] at H
                                exact absurd H (by simp)
                            · rw [if_neg c62] at H
                              have c62b0 : (x436002_57 == 0) = false := beq_eq_false_iff_ne.mpr c62
                              have c62b1 : (x436002_57 != 0) = true := bne_iff_ne.mpr c62
                              have H' := Aside0.mk H
                              clear H
                              obtain ⟨HGz70, hgz70⟩ := HI435.out
                              have hcz70_0 := cellS43_0 HGz70
                              have hcz70_1 := cellS43_1 HGz70
                              have hcz70_2 := cellS43_2 HGz70
                              have hfz70_0 := blk_frozen HGz70 0
                              have hfz70_1 := blk_frozen HGz70 1
                              have hfz70_2 := blk_frozen HGz70 2
                              clear HGz70 hgz70
                              go_wp2
                              go_roundg k5
                              case measure => have := HK1.out; have := HJ4.out; have := HJ44.out; have := HJ57.out; have := HK5.out; omega
                              case rel => exact ⟨(x6_5), (t477), (t478), (x436002_57), H', ⟨by have := HK1.out; have := HJ4.out; have := HJ44.out; have := HJ57.out; have := HK5.out; omega⟩, ⟨by (with_reducible repeat (first | apply Kd.R_alloc | apply Kd.R_drewN | apply Kd.R_drew)); exact HO_6.out⟩, ⟨by repeat (first | (with_reducible first | exact HI435.out | apply IsS43.alloc | apply IsS43.drewN | apply IsS43.drew | apply IsS43.set_0 | apply IsS43.set_1 | apply IsS43.set_2) | exact HI435.out)⟩, ⟨by repeat (first | (with_reducible first | exact HB.out | apply below_alloc | apply pw_below_drewN | apply below_drew1 | refine below_set ?_ (IsS43.ge HI435.out)) | exact HB.out)⟩⟩
                          · rw [if_neg c61] at H
                            have c61b0 : decide (x10_5 < (wrap64 ((wrap64 (Int.tdiv t444 2)) + 4))) = false := decide_eq_false c61
                            clear c61
                            have H' := Aside0.mk H
                            clear H
                            go_wp2
                            go_roundg k5
                            case measure => have := HK1.out; have := HJ4.out; have := HJ44.out; have := HJ57.out; have := HK5.out; omega
                            case rel => exact ⟨(x6_5), (t477), (t478), (x436002_57), H', ⟨by have := HK1.out; have := HJ4.out; have := HJ44.out; have := HJ57.out; have := HK5.out; omega⟩, ⟨by (with_reducible repeat (first | apply Kd.R_alloc | apply Kd.R_drewN | apply Kd.R_drew)); exact HO_6.out⟩, ⟨by repeat (first | (with_reducible first | exact HI435.out | apply IsS43.alloc | apply IsS43.drewN | apply IsS43.drew | apply IsS43.set_0 | apply IsS43.set_1 | apply IsS43.set_2) | exact HI435.out)⟩, ⟨by repeat (first | (with_reducible first | exact HB.out | apply below_alloc | apply pw_below_drewN | apply below_drew1 | refine below_set ?_ (IsS43.ge HI435.out)) | exact HB.out)⟩⟩
          · replace c10 := Bool.eq_false_iff.mpr c10
            subst c10
            have H1 : ((barqueref01_Reader_End.f x436000_1 x436001_1 x436002_1).bind fun bt440 => (if bt440.1 = 0 then (some (strOfNums x6_1, 0)) else (some ((⟨#[]⟩ : ByteArray), bt440.1)))) = some (r1, r2) := by rw [if_neg (show ¬ (false = true) by decide)] at H; exact H
            clear H
            have H := H1
            clear H1
            replace H := Option.bind_eq_some_iff.mp H
            obtain ⟨⟨t440, t441, t442, t443⟩, A710, H⟩ := H
            replace H : (if t440 = 0 then (some (strOfNums x6_1, 0)) else (some ((⟨#[]⟩ : ByteArray), t440))) = some (r1, r2) := H
            have A71 := Aside0.mk A710
            clear A710
            by_cases c72 : t440 = 0
            · rw [if_pos c72] at H
              have c72b0 : (t440 == 0) = true := beq_iff_eq.mpr c72
              have c72b1 : (t440 != 0) = false := bne_eq_false_iff_eq.mpr c72
              clear c72
              simp only [Option.some.injEq, Prod.mk.injEq] at H
              obtain ⟨rfl, rfl⟩ := H
              go_wp2_with (first | ((with_reducible refine gate_callee (f := 73) rfl ?_); refine goesL_ (some 119) rfl rfl Try.func73 (by kernel_rfl) rfl #[.pointer (some ⟨gb435, 0, none⟩)] rfl (by (try simp only [List.map_toArray, List.map_cons, List.map_nil]); first | done | rfl | (simp only [List.length_drop, List.length_take]; rfl)) ?_; (with_reducible refine (barqueref01_Reader_End.calls gb435 x436000_1 x436001_1 x436002_1 t440 t441 t442 t443 w _ ?side1 ?side2 A71.out).mono ?_); (case side1 => repeat (first | (with_reducible first | exact HI435.out | apply IsS43.alloc | apply IsS43.drewN | apply IsS43.drew | apply IsS43.set_0 | apply IsS43.set_1 | apply IsS43.set_2) | exact HI435.out)); (case side2 => repeat (first | (with_reducible first | exact HB.out | apply below_alloc | apply pw_below_drewN | apply below_drew1 | refine below_set ?_ (IsS43.ge HI435.out)) | exact HB.out)); rintro e w73 ⟨rfl, hi, hb, hk⟩; refine ⟨_, rfl, ?_⟩; have n0_ := Aside0.mk (Kd.R_mono (Kd.R_keep (IsS43.apart (show IsS43 w _ gb435 x436000_1 x436001_1 x436002_1 from by repeat (first | (with_reducible first | exact HI435.out | apply IsS43.alloc | apply IsS43.drewN | apply IsS43.drew | apply IsS43.set_0 | apply IsS43.set_1 | apply IsS43.set_2) | exact HI435.out)) (by (with_reducible repeat (first | apply Kd.R_alloc | apply Kd.R_drewN | apply Kd.R_drew)); exact HO_6.out) (by decide)) hk (fun _ h => h.2)) (fun _ h => h.1)); have n1_ := Aside0.mk (hb); have n2_ := Aside0.mk (hi); clear HO_6; clear HB; clear HI435; have HO_6 := n0_; have HB := n1_; have HI435 := n2_; clear n0_ n1_ n2_; (try clear hb); (try clear hb2); (try clear hk); (try clear hi); have hcv74 := own_string (P := Try.prog) Try.underlying38 Try.underlying5 Try.underlying9 (Kd.own_of_R HO_6.out)))
              go_ret2
              exact ⟨by first | rfl | (simp [errW_none, errW_some] <;> rfl) | (simp [*, errW_none, errW_some] <;> rfl), by repeat (first | (with_reducible first | exact HB.out | apply below_alloc | apply pw_below_drewN | apply below_drew1 | refine below_set ?_ (IsS43.ge HI435.out)) | exact HB.out)⟩
            · rw [if_neg c72] at H
              have c72b0 : (t440 == 0) = false := beq_eq_false_iff_ne.mpr c72
              have c72b1 : (t440 != 0) = true := bne_iff_ne.mpr c72
              simp only [Option.some.injEq, Prod.mk.injEq] at H
              obtain ⟨rfl, rfl⟩ := H
              go_wp2_with (first | ((with_reducible refine gate_callee (f := 73) rfl ?_); refine goesL_ (some 119) rfl rfl Try.func73 (by kernel_rfl) rfl #[.pointer (some ⟨gb435, 0, none⟩)] rfl (by (try simp only [List.map_toArray, List.map_cons, List.map_nil]); first | done | rfl | (simp only [List.length_drop, List.length_take]; rfl)) ?_; (with_reducible refine (barqueref01_Reader_End.calls gb435 x436000_1 x436001_1 x436002_1 t440 t441 t442 t443 w _ ?side1 ?side2 A71.out).mono ?_); (case side1 => repeat (first | (with_reducible first | exact HI435.out | apply IsS43.alloc | apply IsS43.drewN | apply IsS43.drew | apply IsS43.set_0 | apply IsS43.set_1 | apply IsS43.set_2) | exact HI435.out)); (case side2 => repeat (first | (with_reducible first | exact HB.out | apply below_alloc | apply pw_below_drewN | apply below_drew1 | refine below_set ?_ (IsS43.ge HI435.out)) | exact HB.out)); rintro e w75 ⟨rfl, hi, hb, hk⟩; refine ⟨_, rfl, ?_⟩; have n0_ := Aside0.mk (Kd.R_mono (Kd.R_keep (IsS43.apart (show IsS43 w _ gb435 x436000_1 x436001_1 x436002_1 from by repeat (first | (with_reducible first | exact HI435.out | apply IsS43.alloc | apply IsS43.drewN | apply IsS43.drew | apply IsS43.set_0 | apply IsS43.set_1 | apply IsS43.set_2) | exact HI435.out)) (by (with_reducible repeat (first | apply Kd.R_alloc | apply Kd.R_drewN | apply Kd.R_drew)); exact HO_6.out) (by decide)) hk (fun _ h => h.2)) (fun _ h => h.1)); have n1_ := Aside0.mk (hb); have n2_ := Aside0.mk (hi); clear HO_6; clear HB; clear HI435; have HO_6 := n0_; have HB := n1_; have HI435 := n2_; clear n0_ n1_ n2_; (try clear hb); (try clear hb2); (try clear hk); (try clear hi)))
              go_ret2
              exact ⟨by first | rfl | (simp [errW_none, errW_some] <;> rfl) | (simp [*, errW_none, errW_some] <;> rfl), by repeat (first | (with_reducible first | exact HB.out | apply below_alloc | apply pw_below_drewN | apply below_drew1 | refine below_set ?_ (IsS43.ge HI435.out)) | exact HB.out)⟩

end Go.Proofs.Ytocjhpjljlcboaa.Q
