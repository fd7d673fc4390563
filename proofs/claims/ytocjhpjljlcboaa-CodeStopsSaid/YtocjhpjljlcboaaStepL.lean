/- step: the kinds of call that read lists. -/
import Derived.Test.YtocjhpjljlcboaaStepD
import Derived.Test.YtocjhpjljlcboaaQ5
namespace Go.Proofs.Ytocjhpjljlcboaa.Q
open Go.RowKit Go.Proofs.YtocjhpjljlcboaaW.PrintWords Go.Proofs.YtocjhpjljlcboaaW.PrintLast Go.Proofs.YtocjhpjljlcboaaW.PrintMore
set_option linter.unusedVariables false
set_option linter.unusedSimpArgs false
/-- A list that the call has made stays where the other reader is written. -/
theorem keepR {α : Type} {d : Kd α} {ty : Nat} {w0 w w' : World} {q base : Nat} {t : ByteArray} {u f : Int} {v : Value} {xs : List α} (h : Kd.R d ty w base (fun _ => True) v xs) (hq : IsS43 w0 w q t u f) (hk : KeepBut w w' q none) (hE : 43 ∉ ty :: d.E) :
    ∃ ok, Kd.R d ty w' base ok v xs := by
  refine ⟨_, Kd.R_move (Kd.R_bound h) (fun k hk2 => ?_)⟩
  obtain ⟨_, _, hlt, ty', hm, cells, hc⟩ := hk2
  refine hk.2 k hlt (fun hh => ?_) (by simp)
  have h2 := hq.1
  rw [← hh, hc] at h2
  injection h2 with h2
  injection h2 with _ h3
  exact hE (h3 ▸ hm)
set_option maxHeartbeats 8000000 in
set_option maxRecDepth 100000 in
theorem step_6 (k : Nat) (w0 w : World) (g q : Nat) (s t : ByteArray) (p u e N M : Int) (l : List Int) (p1 u1 e1 : Int) (h : Two w0 w g q s p t u e) (hR : code_Reader_Nums.f k s p e N = some (l, s, p1, e1)) (hQ : barqueref01_Reader_Nums.f k t u e N = some (l, t, u1, e1)) (hE : barquelaw01_ints.f k l l = some true) :
    Calls Try.prog 43 #[.pointer (some ⟨g, 0, none⟩), .pointer (some ⟨q, 0, none⟩), .agg #[.int .i64 6, .int .i64 N, .int .i64 M]] w fun en w' => en = .returned (.bool true) ∧ Two w0 w' g q s p1 t u1 e1 := by
  have HR := Aside0.mk hR
  have HQ := Aside0.mk hQ
  have HE := Aside0.mk hE
  obtain ⟨hI, hJ, hB⟩ := h
  have HI := Aside0.mk hI
  have HJ := Aside0.mk hJ
  have HB := Aside0.mk hB
  have HX := Aside0.mk (heap_alloc_new w (.cells #[.int .i64 6, .int .i64 N, .int .i64 M] 46))
  clear hI hJ hB hR hQ hE
  go_enter Try.func43, Try.ntmps43
  go_wp2_with fail
  refine start_ (n := 10) (S := fun w' => w'.cell? ⟨w.heap.size, 1, none⟩ = some (.int .i64 N)) (ds := []) #[false, false, false, false, false, false, false, false, false, false] (by kernel_rfl) rfl rfl ((blk_cell HX.out 1).trans rfl) (fun hHeld => ?_)
  refine pure_ (i := 0) (N := some 70) (v := ?_) (a' := ?_) #[true, false, false, false, false, false, false, false, false, false] rfl rfl (by kernel_rfl) (fun _ _ _ h => h) (Or.inl ⟨by rfl, ?_⟩) ?_ ?_
  rotate_left
  · intro w'
    go_simp
    with_reducible rfl
  rotate_left
  · simp only [Act.put, List.setIfInBounds_toArray, List.set_cons_zero, List.set_cons_succ, i64_w, i32_w]
    rfl
  refine pure_ (i := 1) (N := some 71) (v := ?_) (a' := ?_) #[true, true, false, false, false, false, false, false, false, false] rfl rfl (by kernel_rfl) (fun _ _ _ h => h) (Or.inl ⟨by rfl, ?_⟩) ?_ ?_
  rotate_left
  · intro w'
    go_simp
    with_reducible rfl
  rotate_left
  · simp only [Act.put, List.setIfInBounds_toArray, List.set_cons_zero, List.set_cons_succ, i64_w, i32_w]
    rfl
  refine pure_ (i := 4) (N := some 74) (v := ?_) (a' := ?_) #[true, true, false, false, true, false, false, false, false, false] rfl rfl (by kernel_rfl) (fun _ _ _ h => h) (Or.inl ⟨by rfl, ?_⟩) ?_ ?_
  rotate_left
  · intro w'
    go_simp
    with_reducible rfl
  rotate_left
  · simp only [Act.put, List.setIfInBounds_toArray, List.set_cons_zero, List.set_cons_succ, i64_w, i32_w]
    rfl
  refine pure_ (i := 5) (N := some 75) (v := ?_) (a' := ?_) #[true, true, false, false, true, true, false, false, false, false] rfl rfl (by kernel_rfl) (fun _ _ _ h => h) (Or.inl ⟨by rfl, ?_⟩) ?_ ?_
  rotate_left
  · intro w'
    go_simp
    with_reducible rfl
  rotate_left
  · simp only [Act.put, List.setIfInBounds_toArray, List.set_cons_zero, List.set_cons_succ, i64_w, i32_w]
    rfl
  refine take_ (i := 2) (N := some 72) (v := ?_) (a' := ?_) #[true, true, true, false, true, true, false, false, false, false] rfl rfl (by kernel_rfl) (fun _ _ _ h => h) (Or.inl ⟨by rfl, ?_⟩) hHeld ?_ ?_
  rotate_left
  · intro w' s0
    go_simp
    with_reducible rfl
  rotate_left
  · simp only [Act.put, List.setIfInBounds_toArray, List.set_cons_zero, List.set_cons_succ, i64_w, i32_w]
    rfl
  refine take_ (i := 6) (N := some 76) (v := ?_) (a' := ?_) #[true, true, true, false, true, true, true, false, false, false] rfl rfl (by kernel_rfl) (fun _ _ _ h => h) (Or.inl ⟨by rfl, ?_⟩) hHeld ?_ ?_
  rotate_left
  · intro w' s0
    go_simp
    with_reducible rfl
  rotate_left
  · simp only [Act.put, List.setIfInBounds_toArray, List.set_cons_zero, List.set_cons_succ, i64_w, i32_w]
    rfl
  refine one_ (i := 3) (N := some 73) #[true, true, true, true, true, true, true, false, false, false] rfl rfl (by kernel_rfl) (by decide) (fun K hK => ?_)
  refine goes_ Try.func37 (by kernel_rfl) rfl #[.pointer (some ⟨g, 0, none⟩), .int .i64 N] (by rfl) rfl rfl (by simp only [List.map_toArray, List.map_cons, List.map_nil]; rfl) ?_
  with_reducible refine (code_Reader_Nums.calls k g s p e N _ _ _ _ w0 _ (by repeat (first | (with_reducible first | exact HI.out | apply IsS59.alloc | apply IsS59.drewN | apply IsS59.drew) | exact HI.out)) (by repeat (first | (with_reducible first | exact HB.out | apply below_alloc | apply pw_below_drewN | apply below_drew1) | exact HB.out)) HR.out).mono ?_
  rintro e7 w7 ⟨v7, rfl, o7, i7, b7, k7⟩
  refine ⟨_, rfl, ?_⟩
  have n0_ := Aside0.mk (keep43 (by repeat (first | (with_reducible first | exact HI.out | apply IsS59.alloc | apply IsS59.drewN | apply IsS59.drew) | exact HI.out)) (by repeat (first | (with_reducible first | exact HJ.out | apply IsS43.alloc | apply IsS43.drewN | apply IsS43.drew) | exact HJ.out)) k7)
  have n3_ := Aside0.mk (box59 HX.out (by repeat (first | (with_reducible first | exact HI.out | apply IsS59.alloc | apply IsS59.drewN | apply IsS59.drew) | exact HI.out)) k7)
  have n1_ := Aside0.mk i7
  have n2_ := Aside0.mk b7
  have HO7 := Aside0.mk o7
  clear HI HJ HB HX
  have HI := n1_
  have HJ := n0_
  have HB := n2_
  have HX := n3_
  clear n0_ n1_ n2_ n3_ i7 b7 k7 o7
  refine hK.out _ _ ((blk_cell HX.out 1).trans rfl) (fun hHeld => ?_)
  clear hK K
  refine norm_ (a' := ?_) ?_ ?_
  rotate_left
  · show Act.put _ (some 73) _ = _
    simp only [Act.put, List.setIfInBounds_toArray, List.set_cons_zero, List.set_cons_succ, i64_w, i32_w]
    rfl
  refine one_ (i := 7) (N := some 77) #[true, true, true, true, true, true, true, true, false, false] rfl rfl (by kernel_rfl) (by decide) (fun K hK => ?_)
  refine goes_ Try.func71 (by kernel_rfl) rfl #[.pointer (some ⟨q, 0, none⟩), .int .i64 N] (by rfl) rfl rfl (by simp only [List.map_toArray, List.map_cons, List.map_nil]; rfl) ?_
  with_reducible refine (barqueref01_Reader_Nums.calls k q t u e N _ _ _ _ w0 _ (by repeat (first | (with_reducible first | exact HJ.out | apply IsS43.alloc | apply IsS43.drewN | apply IsS43.drew) | exact HJ.out)) (by repeat (first | (with_reducible first | exact HB.out | apply below_alloc | apply pw_below_drewN | apply below_drew1) | exact HB.out)) HQ.out).mono ?_
  rintro e8 w8 ⟨v8, rfl, o8, i8, b8, k8⟩
  refine ⟨_, rfl, ?_⟩
  have n0_ := Aside0.mk (keep59 (by repeat (first | (with_reducible first | exact HI.out | apply IsS59.alloc | apply IsS59.drewN | apply IsS59.drew) | exact HI.out)) (by repeat (first | (with_reducible first | exact HJ.out | apply IsS43.alloc | apply IsS43.drewN | apply IsS43.drew) | exact HJ.out)) k8)
  have n3_ := Aside0.mk (box43 HX.out (by repeat (first | (with_reducible first | exact HJ.out | apply IsS43.alloc | apply IsS43.drewN | apply IsS43.drew) | exact HJ.out)) k8)
  have n4_ := Aside0.mk (keepR (w' := w8) HO7.out (by repeat (first | (with_reducible first | exact HJ.out | apply IsS43.alloc | apply IsS43.drewN | apply IsS43.drew) | exact HJ.out)) k8 (by decide))
  have n1_ := Aside0.mk i8
  have n2_ := Aside0.mk b8
  have HO8 := Aside0.mk o8
  clear HI HJ HB HX HO7
  have HI := n0_
  have HJ := n1_
  have HB := n2_
  have HX := n3_
  have HO7 := n4_
  clear n0_ n1_ n2_ n3_ n4_ i8 b8 k8 o8
  refine hK.out _ _ ((blk_cell HX.out 1).trans rfl) (fun hHeld => ?_)
  clear hK K
  refine norm_ (a' := ?_) ?_ ?_
  rotate_left
  · show Act.put _ (some 77) _ = _
    simp only [Act.put, List.setIfInBounds_toArray, List.set_cons_zero, List.set_cons_succ, i64_w, i32_w]
    rfl
  refine one_ (i := 8) (N := some 78) #[true, true, true, true, true, true, true, true, true, false] rfl rfl (by kernel_rfl) (by decide) (fun K hK => ?_)
  obtain ⟨ok7, hO7⟩ := HO7.out
  obtain ⟨A7, c7, eo7⟩ := Kd.R_slice hO7
  subst eo7
  obtain ⟨A8, c8, eo8⟩ := Kd.R_slice HO8.out
  subst eo8
  have hc7 := (Kd.R_reads' hO7).2.1
  have hr7 := (Kd.R_reads' hO7).2.2
  have hc8 := (Kd.R_reads' HO8.out).2.1
  have hr8 := (Kd.R_reads' HO8.out).2.2
  refine goes_ Try.func49 (by kernel_rfl) rfl #[.slice A7 l.length c7, .slice A8 l.length c8] (by rfl) rfl rfl (by simp only [List.map_toArray, List.map_cons, List.map_nil]; rfl) ?_
  with_reducible refine (barquelaw01_ints.calls k A7 c7 l A8 c8 l true _ hr7 hc7 hr8 hc8 HE.out).mono ?_
  rintro e9 w9 ⟨rfl, d9⟩
  refine ⟨_, rfl, ?_⟩
  obtain ⟨n9, rfl⟩ := d9
  refine hK.out _ _ ((blk_cell HX.out 1).trans rfl) (fun hHeld => ?_)
  clear hK K
  refine norm_ (a' := ?_) ?_ ?_
  rotate_left
  · show Act.put _ (some 78) _ = _
    simp only [Act.put, List.setIfInBounds_toArray, List.set_cons_zero, List.set_cons_succ, i64_w, i32_w]
    rfl
  refine pure_ (i := 9) (N := some 6) (v := ?_) (a' := ?_) #[true, true, true, true, true, true, true, true, true, true] rfl rfl (by kernel_rfl) (fun _ _ _ h => h) (Or.inl ⟨by rfl, ?_⟩) ?_ ?_
  rotate_left
  · intro w'
    go_simp
    with_reducible rfl
  rotate_left
  · simp only [Act.put, List.setIfInBounds_toArray, List.set_cons_zero, List.set_cons_succ, i64_w, i32_w]
    rfl
  refine done_ (by kernel_rfl) ?_

  go_wp2_with fail
  go_ret
  exact ⟨by first | rfl | (simp; done), by repeat (first | (with_reducible first | exact HI.out | apply IsS59.alloc | apply IsS59.drewN | apply IsS59.drew) | exact HI.out), by repeat (first | (with_reducible first | exact HJ.out | apply IsS43.alloc | apply IsS43.drewN | apply IsS43.drew) | exact HJ.out), by repeat (first | (with_reducible first | exact HB.out | apply below_alloc | apply pw_below_drewN | apply below_drew1) | exact HB.out)⟩
set_option maxHeartbeats 8000000 in
set_option maxRecDepth 100000 in
theorem step_7 (k : Nat) (w0 w : World) (g q : Nat) (s t : ByteArray) (p u e N M : Int) (l : List ByteArray) (p1 u1 e1 : Int) (h : Two w0 w g q s p t u e) (hR : code_Reader_Texts.f k s p e N M = some (l, s, p1, e1)) (hQ : barqueref01_Reader_Texts.f k t u e N M = some (l, t, u1, e1)) (hE : barquelaw01_texts.f k l l = some true) :
    Calls Try.prog 43 #[.pointer (some ⟨g, 0, none⟩), .pointer (some ⟨q, 0, none⟩), .agg #[.int .i64 7, .int .i64 N, .int .i64 M]] w fun en w' => en = .returned (.bool true) ∧ Two w0 w' g q s p1 t u1 e1 := by
  have HR := Aside0.mk hR
  have HQ := Aside0.mk hQ
  have HE := Aside0.mk hE
  obtain ⟨hI, hJ, hB⟩ := h
  have HI := Aside0.mk hI
  have HJ := Aside0.mk hJ
  have HB := Aside0.mk hB
  have HX := Aside0.mk (heap_alloc_new w (.cells #[.int .i64 7, .int .i64 N, .int .i64 M] 46))
  clear hI hJ hB hR hQ hE
  go_enter Try.func43, Try.ntmps43
  go_wp2_with fail
  refine start_ (n := 14) (S := fun w' => w'.cell? ⟨w.heap.size, 1, none⟩ = some (.int .i64 N) ∧ w'.cell? ⟨w.heap.size, 2, none⟩ = some (.int .i64 M)) (ds := []) #[false, false, false, false, false, false, false, false, false, false, false, false, false, false] (by kernel_rfl) rfl rfl ⟨(blk_cell HX.out 1).trans rfl, (blk_cell HX.out 2).trans rfl⟩ (fun hHeld => ?_)
  refine pure_ (i := 0) (N := some 81) (v := ?_) (a' := ?_) #[true, false, false, false, false, false, false, false, false, false, false, false, false, false] rfl rfl (by kernel_rfl) (fun _ _ _ h => h) (Or.inl ⟨by rfl, ?_⟩) ?_ ?_
  rotate_left
  · intro w'
    go_simp
    with_reducible rfl
  rotate_left
  · simp only [Act.put, List.setIfInBounds_toArray, List.set_cons_zero, List.set_cons_succ, i64_w, i32_w]
    rfl
  refine pure_ (i := 1) (N := some 82) (v := ?_) (a' := ?_) #[true, true, false, false, false, false, false, false, false, false, false, false, false, false] rfl rfl (by kernel_rfl) (fun _ _ _ h => h) (Or.inl ⟨by rfl, ?_⟩) ?_ ?_
  rotate_left
  · intro w'
    go_simp
    with_reducible rfl
  rotate_left
  · simp only [Act.put, List.setIfInBounds_toArray, List.set_cons_zero, List.set_cons_succ, i64_w, i32_w]
    rfl
  refine pure_ (i := 3) (N := some 84) (v := ?_) (a' := ?_) #[true, true, false, true, false, false, false, false, false, false, false, false, false, false] rfl rfl (by kernel_rfl) (fun _ _ _ h => h) (Or.inl ⟨by rfl, ?_⟩) ?_ ?_
  rotate_left
  · intro w'
    go_simp
    with_reducible rfl
  rotate_left
  · simp only [Act.put, List.setIfInBounds_toArray, List.set_cons_zero, List.set_cons_succ, i64_w, i32_w]
    rfl
  refine pure_ (i := 6) (N := some 87) (v := ?_) (a' := ?_) #[true, true, false, true, false, false, true, false, false, false, false, false, false, false] rfl rfl (by kernel_rfl) (fun _ _ _ h => h) (Or.inl ⟨by rfl, ?_⟩) ?_ ?_
  rotate_left
  · intro w'
    go_simp
    with_reducible rfl
  rotate_left
  · simp only [Act.put, List.setIfInBounds_toArray, List.set_cons_zero, List.set_cons_succ, i64_w, i32_w]
    rfl
  refine pure_ (i := 7) (N := some 88) (v := ?_) (a' := ?_) #[true, true, false, true, false, false, true, true, false, false, false, false, false, false] rfl rfl (by kernel_rfl) (fun _ _ _ h => h) (Or.inl ⟨by rfl, ?_⟩) ?_ ?_
  rotate_left
  · intro w'
    go_simp
    with_reducible rfl
  rotate_left
  · simp only [Act.put, List.setIfInBounds_toArray, List.set_cons_zero, List.set_cons_succ, i64_w, i32_w]
    rfl
  refine pure_ (i := 9) (N := some 90) (v := ?_) (a' := ?_) #[true, true, false, true, false, false, true, true, false, true, false, false, false, false] rfl rfl (by kernel_rfl) (fun _ _ _ h => h) (Or.inl ⟨by rfl, ?_⟩) ?_ ?_
  rotate_left
  · intro w'
    go_simp
    with_reducible rfl
  rotate_left
  · simp only [Act.put, List.setIfInBounds_toArray, List.set_cons_zero, List.set_cons_succ, i64_w, i32_w]
    rfl
  refine take_ (i := 2) (N := some 83) (v := ?_) (a' := ?_) #[true, true, true, true, false, false, true, true, false, true, false, false, false, false] rfl rfl (by kernel_rfl) (fun _ _ _ h => h) (Or.inl ⟨by rfl, ?_⟩) hHeld ?_ ?_
  rotate_left
  · rintro w' ⟨s0, s1⟩
    go_simp
    with_reducible rfl
  rotate_left
  · simp only [Act.put, List.setIfInBounds_toArray, List.set_cons_zero, List.set_cons_succ, i64_w, i32_w]
    rfl
  refine take_ (i := 4) (N := some 85) (v := ?_) (a' := ?_) #[true, true, true, true, true, false, true, true, false, true, false, false, false, false] rfl rfl (by kernel_rfl) (fun _ _ _ h => h) (Or.inl ⟨by rfl, ?_⟩) hHeld ?_ ?_
  rotate_left
  · rintro w' ⟨s0, s1⟩
    go_simp
    with_reducible rfl
  rotate_left
  · simp only [Act.put, List.setIfInBounds_toArray, List.set_cons_zero, List.set_cons_succ, i64_w, i32_w]
    rfl
  refine take_ (i := 8) (N := some 89) (v := ?_) (a' := ?_) #[true, true, true, true, true, false, true, true, true, true, false, false, false, false] rfl rfl (by kernel_rfl) (fun _ _ _ h => h) (Or.inl ⟨by rfl, ?_⟩) hHeld ?_ ?_
  rotate_left
  · rintro w' ⟨s0, s1⟩
    go_simp
    with_reducible rfl
  rotate_left
  · simp only [Act.put, List.setIfInBounds_toArray, List.set_cons_zero, List.set_cons_succ, i64_w, i32_w]
    rfl
  refine take_ (i := 10) (N := some 91) (v := ?_) (a' := ?_) #[true, true, true, true, true, false, true, true, true, true, true, false, false, false] rfl rfl (by kernel_rfl) (fun _ _ _ h => h) (Or.inl ⟨by rfl, ?_⟩) hHeld ?_ ?_
  rotate_left
  · rintro w' ⟨s0, s1⟩
    go_simp
    with_reducible rfl
  rotate_left
  · simp only [Act.put, List.setIfInBounds_toArray, List.set_cons_zero, List.set_cons_succ, i64_w, i32_w]
    rfl
  refine one_ (i := 5) (N := some 86) #[true, true, true, true, true, true, true, true, true, true, true, false, false, false] rfl rfl (by kernel_rfl) (by decide) (fun K hK => ?_)
  refine goes_ Try.func48 (by kernel_rfl) rfl #[.pointer (some ⟨g, 0, none⟩), .int .i64 N, .int .i64 M] (by rfl) rfl rfl (by simp only [List.map_toArray, List.map_cons, List.map_nil]; rfl) ?_
  with_reducible refine (code_Reader_Texts.calls k g s p e N M _ _ _ _ w0 _ (by repeat (first | (with_reducible first | exact HI.out | apply IsS59.alloc | apply IsS59.drewN | apply IsS59.drew) | exact HI.out)) (by repeat (first | (with_reducible first | exact HB.out | apply below_alloc | apply pw_below_drewN | apply below_drew1) | exact HB.out)) HR.out).mono ?_
  rintro e7 w7 ⟨v7, rfl, o7, i7, b7, k7⟩
  refine ⟨_, rfl, ?_⟩
  have n0_ := Aside0.mk (keep43 (by repeat (first | (with_reducible first | exact HI.out | apply IsS59.alloc | apply IsS59.drewN | apply IsS59.drew) | exact HI.out)) (by repeat (first | (with_reducible first | exact HJ.out | apply IsS43.alloc | apply IsS43.drewN | apply IsS43.drew) | exact HJ.out)) k7)
  have n3_ := Aside0.mk (box59 HX.out (by repeat (first | (with_reducible first | exact HI.out | apply IsS59.alloc | apply IsS59.drewN | apply IsS59.drew) | exact HI.out)) k7)
  have n1_ := Aside0.mk i7
  have n2_ := Aside0.mk b7
  have HO7 := Aside0.mk o7
  clear HI HJ HB HX
  have HI := n1_
  have HJ := n0_
  have HB := n2_
  have HX := n3_
  clear n0_ n1_ n2_ n3_ i7 b7 k7 o7
  refine hK.out _ _ ⟨(blk_cell HX.out 1).trans rfl, (blk_cell HX.out 2).trans rfl⟩ (fun hHeld => ?_)
  clear hK K
  refine norm_ (a' := ?_) ?_ ?_
  rotate_left
  · show Act.put _ (some 86) _ = _
    simp only [Act.put, List.setIfInBounds_toArray, List.set_cons_zero, List.set_cons_succ, i64_w, i32_w]
    rfl
  refine one_ (i := 11) (N := some 92) #[true, true, true, true, true, true, true, true, true, true, true, true, false, false] rfl rfl (by kernel_rfl) (by decide) (fun K hK => ?_)
  refine goes_ Try.func72 (by kernel_rfl) rfl #[.pointer (some ⟨q, 0, none⟩), .int .i64 N, .int .i64 M] (by rfl) rfl rfl (by simp only [List.map_toArray, List.map_cons, List.map_nil]; rfl) ?_
  with_reducible refine (barqueref01_Reader_Texts.calls k q t u e N M _ _ _ _ w0 _ (by repeat (first | (with_reducible first | exact HJ.out | apply IsS43.alloc | apply IsS43.drewN | apply IsS43.drew) | exact HJ.out)) (by repeat (first | (with_reducible first | exact HB.out | apply below_alloc | apply pw_below_drewN | apply below_drew1) | exact HB.out)) HQ.out).mono ?_
  rintro e8 w8 ⟨v8, rfl, o8, i8, b8, k8⟩
  refine ⟨_, rfl, ?_⟩
  have n0_ := Aside0.mk (keep59 (by repeat (first | (with_reducible first | exact HI.out | apply IsS59.alloc | apply IsS59.drewN | apply IsS59.drew) | exact HI.out)) (by repeat (first | (with_reducible first | exact HJ.out | apply IsS43.alloc | apply IsS43.drewN | apply IsS43.drew) | exact HJ.out)) k8)
  have n3_ := Aside0.mk (box43 HX.out (by repeat (first | (with_reducible first | exact HJ.out | apply IsS43.alloc | apply IsS43.drewN | apply IsS43.drew) | exact HJ.out)) k8)
  have n4_ := Aside0.mk (keepR (w' := w8) HO7.out (by repeat (first | (with_reducible first | exact HJ.out | apply IsS43.alloc | apply IsS43.drewN | apply IsS43.drew) | exact HJ.out)) k8 (by decide))
  have n1_ := Aside0.mk i8
  have n2_ := Aside0.mk b8
  have HO8 := Aside0.mk o8
  clear HI HJ HB HX HO7
  have HI := n0_
  have HJ := n1_
  have HB := n2_
  have HX := n3_
  have HO7 := n4_
  clear n0_ n1_ n2_ n3_ n4_ i8 b8 k8 o8
  refine hK.out _ _ ⟨(blk_cell HX.out 1).trans rfl, (blk_cell HX.out 2).trans rfl⟩ (fun hHeld => ?_)
  clear hK K
  refine norm_ (a' := ?_) ?_ ?_
  rotate_left
  · show Act.put _ (some 92) _ = _
    simp only [Act.put, List.setIfInBounds_toArray, List.set_cons_zero, List.set_cons_succ, i64_w, i32_w]
    rfl
  refine one_ (i := 12) (N := some 93) #[true, true, true, true, true, true, true, true, true, true, true, true, true, false] rfl rfl (by kernel_rfl) (by decide) (fun K hK => ?_)
  obtain ⟨ok7, hO7⟩ := HO7.out
  obtain ⟨A7, c7, eo7⟩ := Kd.R_slice hO7
  subst eo7
  obtain ⟨A8, c8, eo8⟩ := Kd.R_slice HO8.out
  subst eo8
  have hc7 := (Kd.R_reads' hO7).2.1
  have hr7 := (Kd.R_reads' hO7).2.2
  have hc8 := (Kd.R_reads' HO8.out).2.1
  have hr8 := (Kd.R_reads' HO8.out).2.2
  refine goes_ Try.func50 (by kernel_rfl) rfl #[.slice A7 l.length c7, .slice A8 l.length c8] (by rfl) rfl rfl (by simp only [List.map_toArray, List.map_cons, List.map_nil]; rfl) ?_
  with_reducible refine (barquelaw01_texts.calls k A7 c7 l A8 c8 l true _ hr7 hc7 hr8 hc8 HE.out).mono ?_
  rintro e9 w9 ⟨rfl, d9⟩
  refine ⟨_, rfl, ?_⟩
  obtain ⟨n9, rfl⟩ := d9
  refine hK.out _ _ ⟨(blk_cell HX.out 1).trans rfl, (blk_cell HX.out 2).trans rfl⟩ (fun hHeld => ?_)
  clear hK K
  refine norm_ (a' := ?_) ?_ ?_
  rotate_left
  · show Act.put _ (some 93) _ = _
    simp only [Act.put, List.setIfInBounds_toArray, List.set_cons_zero, List.set_cons_succ, i64_w, i32_w]
    rfl
  refine pure_ (i := 13) (N := some 6) (v := ?_) (a' := ?_) #[true, true, true, true, true, true, true, true, true, true, true, true, true, true] rfl rfl (by kernel_rfl) (fun _ _ _ h => h) (Or.inl ⟨by rfl, ?_⟩) ?_ ?_
  rotate_left
  · intro w'
    go_simp
    with_reducible rfl
  rotate_left
  · simp only [Act.put, List.setIfInBounds_toArray, List.set_cons_zero, List.set_cons_succ, i64_w, i32_w]
    rfl
  refine done_ (by kernel_rfl) ?_

  go_wp2_with fail
  go_ret
  exact ⟨by first | rfl | (simp; done), by repeat (first | (with_reducible first | exact HI.out | apply IsS59.alloc | apply IsS59.drewN | apply IsS59.drew) | exact HI.out), by repeat (first | (with_reducible first | exact HJ.out | apply IsS43.alloc | apply IsS43.drewN | apply IsS43.drew) | exact HJ.out), by repeat (first | (with_reducible first | exact HB.out | apply below_alloc | apply pw_below_drewN | apply below_drew1) | exact HB.out)⟩
end Go.Proofs.Ytocjhpjljlcboaa.Q
