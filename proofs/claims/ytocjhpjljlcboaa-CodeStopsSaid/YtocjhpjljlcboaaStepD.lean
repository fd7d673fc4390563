/- step: the kinds of call whose order is drawn. -/
import Derived.Test.YtocjhpjljlcboaaStep
namespace Go.Proofs.Ytocjhpjljlcboaa.Q
open Go.RowKit Go.Proofs.YtocjhpjljlcboaaW.PrintWords Go.Proofs.YtocjhpjljlcboaaW.PrintLast Go.Proofs.YtocjhpjljlcboaaW.PrintMore
set_option linter.unusedVariables false
set_option linter.unusedSimpArgs false
theorem box59 {w0 w w' : World} {g b : Nat} {s : ByteArray} {p e : Int} {cs : Array Value} (hx : w.heap[b]? = some (.cells cs 46 (0, 0))) (hr : IsS59 w0 w g s p e) (hk : KeepBut w w' g none) : w'.heap[b]? = some (.cells cs 46 (0, 0)) :=
  hk.blk hx (fun hh => by
    have h1 := hr.1
    rw [← hh, hx] at h1
    injection h1 with h1
    injection h1 with _ h3
    exact absurd h3 (by decide)) (by simp)
theorem box43 {w0 w w' : World} {g b : Nat} {s : ByteArray} {p e : Int} {cs : Array Value} (hx : w.heap[b]? = some (.cells cs 46 (0, 0))) (hr : IsS43 w0 w g s p e) (hk : KeepBut w w' g none) : w'.heap[b]? = some (.cells cs 46 (0, 0)) :=
  hk.blk hx (fun hh => by
    have h1 := hr.1
    rw [← hh, hx] at h1
    injection h1 with h1
    injection h1 with _ h3
    exact absurd h3 (by decide)) (by simp)
set_option maxHeartbeats 8000000 in
set_option maxRecDepth 100000 in
theorem step_3 (k : Nat) (w0 w : World) (g q : Nat) (s t : ByteArray) (p u e N M : Int) (v : ByteArray) (p1 u1 e1 : Int) (h : Two w0 w g q s p t u e) (hR : code_Reader_Raw.f s p e N = some (v, s, p1, e1)) (hQ : barqueref01_Reader_Raw.f t u e N = some (v, t, u1, e1)) :
    Calls Try.prog 43 #[.pointer (some ⟨g, 0, none⟩), .pointer (some ⟨q, 0, none⟩), .agg #[.int .i64 3, .int .i64 N, .int .i64 M]] w fun en w' => en = .returned (.bool true) ∧ Two w0 w' g q s p1 t u1 e1 := by
  have HR := Aside0.mk hR
  have HQ := Aside0.mk hQ
  obtain ⟨hI, hJ, hB⟩ := h
  have HI := Aside0.mk hI
  have HJ := Aside0.mk hJ
  have HB := Aside0.mk hB
  have HX := Aside0.mk (heap_alloc_new w (.cells #[.int .i64 3, .int .i64 N, .int .i64 M] 46))
  clear hI hJ hB hR hQ
  go_enter Try.func43, Try.ntmps43
  go_wp2_with fail
  refine start_ (n := 10) (S := fun w' => w'.cell? ⟨w.heap.size, 1, none⟩ = some (.int .i64 N)) (ds := []) #[false, false, false, false, false, false, false, false, false, false] (by kernel_rfl) rfl rfl ((blk_cell HX.out 1).trans rfl) (fun hHeld => ?_)
  refine pure_ (i := 0) (N := some 37) (v := ?_) (a' := ?_) #[true, false, false, false, false, false, false, false, false, false] rfl rfl (by kernel_rfl) (fun _ _ _ h => h) (Or.inl ⟨by rfl, ?_⟩) ?_ ?_
  rotate_left
  · intro w'
    go_simp
    with_reducible rfl
  rotate_left
  · simp only [Act.put, List.setIfInBounds_toArray, List.set_cons_zero, List.set_cons_succ, i64_w, i32_w]
    rfl
  refine pure_ (i := 1) (N := some 38) (v := ?_) (a' := ?_) #[true, true, false, false, false, false, false, false, false, false] rfl rfl (by kernel_rfl) (fun _ _ _ h => h) (Or.inl ⟨by rfl, ?_⟩) ?_ ?_
  rotate_left
  · intro w'
    go_simp
    with_reducible rfl
  rotate_left
  · simp only [Act.put, List.setIfInBounds_toArray, List.set_cons_zero, List.set_cons_succ, i64_w, i32_w]
    rfl
  refine pure_ (i := 4) (N := some 41) (v := ?_) (a' := ?_) #[true, true, false, false, true, false, false, false, false, false] rfl rfl (by kernel_rfl) (fun _ _ _ h => h) (Or.inl ⟨by rfl, ?_⟩) ?_ ?_
  rotate_left
  · intro w'
    go_simp
    with_reducible rfl
  rotate_left
  · simp only [Act.put, List.setIfInBounds_toArray, List.set_cons_zero, List.set_cons_succ, i64_w, i32_w]
    rfl
  refine pure_ (i := 5) (N := some 42) (v := ?_) (a' := ?_) #[true, true, false, false, true, true, false, false, false, false] rfl rfl (by kernel_rfl) (fun _ _ _ h => h) (Or.inl ⟨by rfl, ?_⟩) ?_ ?_
  rotate_left
  · intro w'
    go_simp
    with_reducible rfl
  rotate_left
  · simp only [Act.put, List.setIfInBounds_toArray, List.set_cons_zero, List.set_cons_succ, i64_w, i32_w]
    rfl
  refine take_ (i := 2) (N := some 39) (v := ?_) (a' := ?_) #[true, true, true, false, true, true, false, false, false, false] rfl rfl (by kernel_rfl) (fun _ _ _ h => h) (Or.inl ⟨by rfl, ?_⟩) hHeld ?_ ?_
  rotate_left
  · intro w' s0
    go_simp
    with_reducible rfl
  rotate_left
  · simp only [Act.put, List.setIfInBounds_toArray, List.set_cons_zero, List.set_cons_succ, i64_w, i32_w]
    rfl
  refine take_ (i := 6) (N := some 43) (v := ?_) (a' := ?_) #[true, true, true, false, true, true, true, false, false, false] rfl rfl (by kernel_rfl) (fun _ _ _ h => h) (Or.inl ⟨by rfl, ?_⟩) hHeld ?_ ?_
  rotate_left
  · intro w' s0
    go_simp
    with_reducible rfl
  rotate_left
  · simp only [Act.put, List.setIfInBounds_toArray, List.set_cons_zero, List.set_cons_succ, i64_w, i32_w]
    rfl
  refine one_ (i := 3) (N := some 40) #[true, true, true, true, true, true, true, false, false, false] rfl rfl (by kernel_rfl) (by decide) (fun K hK => ?_)
  refine goes_ Try.func36 (by kernel_rfl) rfl #[.pointer (some ⟨g, 0, none⟩), .int .i64 N] (by rfl) rfl rfl (by simp only [List.map_toArray, List.map_cons, List.map_nil]; rfl) ?_
  with_reducible refine (code_Reader_Raw.calls  g s p e N _ _ _ _ w0 _ (by repeat (first | (with_reducible first | exact HI.out | apply IsS59.alloc | apply IsS59.drewN | apply IsS59.drew) | exact HI.out)) (by repeat (first | (with_reducible first | exact HB.out | apply below_alloc | apply pw_below_drewN | apply below_drew1) | exact HB.out)) HR.out).mono ?_
  rintro e7 w7 ⟨rfl, i7, b7, k7⟩
  refine ⟨_, rfl, ?_⟩
  have n0_ := Aside0.mk (keep43 (by repeat (first | (with_reducible first | exact HI.out | apply IsS59.alloc | apply IsS59.drewN | apply IsS59.drew) | exact HI.out)) (by repeat (first | (with_reducible first | exact HJ.out | apply IsS43.alloc | apply IsS43.drewN | apply IsS43.drew) | exact HJ.out)) k7)
  have n3_ := Aside0.mk (box59 HX.out (by repeat (first | (with_reducible first | exact HI.out | apply IsS59.alloc | apply IsS59.drewN | apply IsS59.drew) | exact HI.out)) k7)
  have n1_ := Aside0.mk i7
  have n2_ := Aside0.mk b7
  clear HI HJ HB HX
  have HI := n1_
  have HJ := n0_
  have HB := n2_
  have HX := n3_
  clear n0_ n1_ n2_ n3_ i7 b7 k7
  refine hK.out _ _ ((blk_cell HX.out 1).trans rfl) (fun hHeld => ?_)
  clear hK K
  refine norm_ (a' := ?_) ?_ ?_
  rotate_left
  · show Act.put _ (some 40) _ = _
    simp only [Act.put, List.setIfInBounds_toArray, List.set_cons_zero, List.set_cons_succ, i64_w, i32_w]
    rfl
  refine one_ (i := 7) (N := some 44) #[true, true, true, true, true, true, true, true, false, false] rfl rfl (by kernel_rfl) (by decide) (fun K hK => ?_)
  refine goes_ Try.func68 (by kernel_rfl) rfl #[.pointer (some ⟨q, 0, none⟩), .int .i64 N] (by rfl) rfl rfl (by simp only [List.map_toArray, List.map_cons, List.map_nil]; rfl) ?_
  with_reducible refine (barqueref01_Reader_Raw.calls  q t u e N _ _ _ _ w0 _ (by repeat (first | (with_reducible first | exact HJ.out | apply IsS43.alloc | apply IsS43.drewN | apply IsS43.drew) | exact HJ.out)) (by repeat (first | (with_reducible first | exact HB.out | apply below_alloc | apply pw_below_drewN | apply below_drew1) | exact HB.out)) HQ.out).mono ?_
  rintro e8 w8 ⟨rfl, i8, b8, k8⟩
  refine ⟨_, rfl, ?_⟩
  have n0_ := Aside0.mk (keep59 (by repeat (first | (with_reducible first | exact HI.out | apply IsS59.alloc | apply IsS59.drewN | apply IsS59.drew) | exact HI.out)) (by repeat (first | (with_reducible first | exact HJ.out | apply IsS43.alloc | apply IsS43.drewN | apply IsS43.drew) | exact HJ.out)) k8)
  have n3_ := Aside0.mk (box43 HX.out (by repeat (first | (with_reducible first | exact HJ.out | apply IsS43.alloc | apply IsS43.drewN | apply IsS43.drew) | exact HJ.out)) k8)
  have n1_ := Aside0.mk i8
  have n2_ := Aside0.mk b8
  clear HI HJ HB HX
  have HI := n0_
  have HJ := n1_
  have HB := n2_
  have HX := n3_
  clear n0_ n1_ n2_ n3_ i8 b8 k8
  refine hK.out _ _ ((blk_cell HX.out 1).trans rfl) (fun hHeld => ?_)
  clear hK K
  refine norm_ (a' := ?_) ?_ ?_
  rotate_left
  · show Act.put _ (some 44) _ = _
    simp only [Act.put, List.setIfInBounds_toArray, List.set_cons_zero, List.set_cons_succ, i64_w, i32_w]
    rfl
  refine pure_ (i := 8) (N := some 45) (v := ?_) (a' := ?_) #[true, true, true, true, true, true, true, true, true, false] rfl rfl (by kernel_rfl) (fun _ _ _ h => h) (Or.inl ⟨by rfl, ?_⟩) ?_ ?_
  rotate_left
  · intro w'
    go_simp
    with_reducible rfl
  rotate_left
  · simp only [Act.put, List.setIfInBounds_toArray, List.set_cons_zero, List.set_cons_succ, i64_w, i32_w]
    rfl
  refine pure_ (i := 9) (N := some 6) (v := ?_) (a' := ?_) #[true, true, true, true, true, true, true, true, true, true] rfl rfl (by kernel_rfl) (fun _ _ _ h => h) (Or.inl ⟨by rfl, ?_⟩) ?_ ?_
  rotate_left
  · intro w'
    go_simp
    with_reducible rfl
  rotate_left
  · simp only [Act.put, List.setIfInBounds_toArray, List.set_cons_zero, List.set_cons_succ, i64_w, i32_w]
    rfl
  refine done_ (by kernel_rfl) ?_

  go_wp2_with fail
  go_ret
  exact ⟨by first | rfl | (simp; done), by repeat (first | (with_reducible first | exact HI.out | apply IsS59.alloc | apply IsS59.drewN | apply IsS59.drew) | exact HI.out), by repeat (first | (with_reducible first | exact HJ.out | apply IsS43.alloc | apply IsS43.drewN | apply IsS43.drew) | exact HJ.out), by repeat (first | (with_reducible first | exact HB.out | apply below_alloc | apply pw_below_drewN | apply below_drew1) | exact HB.out)⟩
set_option maxHeartbeats 8000000 in
set_option maxRecDepth 100000 in
theorem step_4 (k : Nat) (w0 w : World) (g q : Nat) (s t : ByteArray) (p u e N M : Int) (v : Int) (p1 u1 e1 : Int) (h : Two w0 w g q s p t u e) (hR : code_Reader_Count.f k s p e N = some (v, s, p1, e1)) (hQ : barqueref01_Reader_Count.f k t u e N = some (v, t, u1, e1)) :
    Calls Try.prog 43 #[.pointer (some ⟨g, 0, none⟩), .pointer (some ⟨q, 0, none⟩), .agg #[.int .i64 4, .int .i64 N, .int .i64 M]] w fun en w' => en = .returned (.bool true) ∧ Two w0 w' g q s p1 t u1 e1 := by
  have HR := Aside0.mk hR
  have HQ := Aside0.mk hQ
  obtain ⟨hI, hJ, hB⟩ := h
  have HI := Aside0.mk hI
  have HJ := Aside0.mk hJ
  have HB := Aside0.mk hB
  have HX := Aside0.mk (heap_alloc_new w (.cells #[.int .i64 4, .int .i64 N, .int .i64 M] 46))
  clear hI hJ hB hR hQ
  go_enter Try.func43, Try.ntmps43
  go_wp2_with fail
  refine start_ (n := 10) (S := fun w' => w'.cell? ⟨w.heap.size, 1, none⟩ = some (.int .i64 N)) (ds := []) #[false, false, false, false, false, false, false, false, false, false] (by kernel_rfl) rfl rfl ((blk_cell HX.out 1).trans rfl) (fun hHeld => ?_)
  refine pure_ (i := 0) (N := some 48) (v := ?_) (a' := ?_) #[true, false, false, false, false, false, false, false, false, false] rfl rfl (by kernel_rfl) (fun _ _ _ h => h) (Or.inl ⟨by rfl, ?_⟩) ?_ ?_
  rotate_left
  · intro w'
    go_simp
    with_reducible rfl
  rotate_left
  · simp only [Act.put, List.setIfInBounds_toArray, List.set_cons_zero, List.set_cons_succ, i64_w, i32_w]
    rfl
  refine pure_ (i := 1) (N := some 49) (v := ?_) (a' := ?_) #[true, true, false, false, false, false, false, false, false, false] rfl rfl (by kernel_rfl) (fun _ _ _ h => h) (Or.inl ⟨by rfl, ?_⟩) ?_ ?_
  rotate_left
  · intro w'
    go_simp
    with_reducible rfl
  rotate_left
  · simp only [Act.put, List.setIfInBounds_toArray, List.set_cons_zero, List.set_cons_succ, i64_w, i32_w]
    rfl
  refine pure_ (i := 4) (N := some 52) (v := ?_) (a' := ?_) #[true, true, false, false, true, false, false, false, false, false] rfl rfl (by kernel_rfl) (fun _ _ _ h => h) (Or.inl ⟨by rfl, ?_⟩) ?_ ?_
  rotate_left
  · intro w'
    go_simp
    with_reducible rfl
  rotate_left
  · simp only [Act.put, List.setIfInBounds_toArray, List.set_cons_zero, List.set_cons_succ, i64_w, i32_w]
    rfl
  refine pure_ (i := 5) (N := some 53) (v := ?_) (a' := ?_) #[true, true, false, false, true, true, false, false, false, false] rfl rfl (by kernel_rfl) (fun _ _ _ h => h) (Or.inl ⟨by rfl, ?_⟩) ?_ ?_
  rotate_left
  · intro w'
    go_simp
    with_reducible rfl
  rotate_left
  · simp only [Act.put, List.setIfInBounds_toArray, List.set_cons_zero, List.set_cons_succ, i64_w, i32_w]
    rfl
  refine take_ (i := 2) (N := some 50) (v := ?_) (a' := ?_) #[true, true, true, false, true, true, false, false, false, false] rfl rfl (by kernel_rfl) (fun _ _ _ h => h) (Or.inl ⟨by rfl, ?_⟩) hHeld ?_ ?_
  rotate_left
  · intro w' s0
    go_simp
    with_reducible rfl
  rotate_left
  · simp only [Act.put, List.setIfInBounds_toArray, List.set_cons_zero, List.set_cons_succ, i64_w, i32_w]
    rfl
  refine take_ (i := 6) (N := some 54) (v := ?_) (a' := ?_) #[true, true, true, false, true, true, true, false, false, false] rfl rfl (by kernel_rfl) (fun _ _ _ h => h) (Or.inl ⟨by rfl, ?_⟩) hHeld ?_ ?_
  rotate_left
  · intro w' s0
    go_simp
    with_reducible rfl
  rotate_left
  · simp only [Act.put, List.setIfInBounds_toArray, List.set_cons_zero, List.set_cons_succ, i64_w, i32_w]
    rfl
  refine one_ (i := 3) (N := some 51) #[true, true, true, true, true, true, true, false, false, false] rfl rfl (by kernel_rfl) (by decide) (fun K hK => ?_)
  refine goes_ Try.func57 (by kernel_rfl) rfl #[.pointer (some ⟨g, 0, none⟩), .int .i64 N] (by rfl) rfl rfl (by simp only [List.map_toArray, List.map_cons, List.map_nil]; rfl) ?_
  with_reducible refine (code_Reader_Count.calls k g s p e N _ _ _ _ w0 _ (by repeat (first | (with_reducible first | exact HI.out | apply IsS59.alloc | apply IsS59.drewN | apply IsS59.drew) | exact HI.out)) (by repeat (first | (with_reducible first | exact HB.out | apply below_alloc | apply pw_below_drewN | apply below_drew1) | exact HB.out)) HR.out).mono ?_
  rintro e7 w7 ⟨rfl, i7, b7, k7⟩
  refine ⟨_, rfl, ?_⟩
  have n0_ := Aside0.mk (keep43 (by repeat (first | (with_reducible first | exact HI.out | apply IsS59.alloc | apply IsS59.drewN | apply IsS59.drew) | exact HI.out)) (by repeat (first | (with_reducible first | exact HJ.out | apply IsS43.alloc | apply IsS43.drewN | apply IsS43.drew) | exact HJ.out)) k7)
  have n3_ := Aside0.mk (box59 HX.out (by repeat (first | (with_reducible first | exact HI.out | apply IsS59.alloc | apply IsS59.drewN | apply IsS59.drew) | exact HI.out)) k7)
  have n1_ := Aside0.mk i7
  have n2_ := Aside0.mk b7
  clear HI HJ HB HX
  have HI := n1_
  have HJ := n0_
  have HB := n2_
  have HX := n3_
  clear n0_ n1_ n2_ n3_ i7 b7 k7
  refine hK.out _ _ ((blk_cell HX.out 1).trans rfl) (fun hHeld => ?_)
  clear hK K
  refine norm_ (a' := ?_) ?_ ?_
  rotate_left
  · show Act.put _ (some 51) _ = _
    simp only [Act.put, List.setIfInBounds_toArray, List.set_cons_zero, List.set_cons_succ, i64_w, i32_w]
    rfl
  refine one_ (i := 7) (N := some 55) #[true, true, true, true, true, true, true, true, false, false] rfl rfl (by kernel_rfl) (by decide) (fun K hK => ?_)
  refine goes_ Try.func69 (by kernel_rfl) rfl #[.pointer (some ⟨q, 0, none⟩), .int .i64 N] (by rfl) rfl rfl (by simp only [List.map_toArray, List.map_cons, List.map_nil]; rfl) ?_
  with_reducible refine (barqueref01_Reader_Count.calls k q t u e N _ _ _ _ w0 _ (by repeat (first | (with_reducible first | exact HJ.out | apply IsS43.alloc | apply IsS43.drewN | apply IsS43.drew) | exact HJ.out)) (by repeat (first | (with_reducible first | exact HB.out | apply below_alloc | apply pw_below_drewN | apply below_drew1) | exact HB.out)) HQ.out).mono ?_
  rintro e8 w8 ⟨rfl, i8, b8, k8⟩
  refine ⟨_, rfl, ?_⟩
  have n0_ := Aside0.mk (keep59 (by repeat (first | (with_reducible first | exact HI.out | apply IsS59.alloc | apply IsS59.drewN | apply IsS59.drew) | exact HI.out)) (by repeat (first | (with_reducible first | exact HJ.out | apply IsS43.alloc | apply IsS43.drewN | apply IsS43.drew) | exact HJ.out)) k8)
  have n3_ := Aside0.mk (box43 HX.out (by repeat (first | (with_reducible first | exact HJ.out | apply IsS43.alloc | apply IsS43.drewN | apply IsS43.drew) | exact HJ.out)) k8)
  have n1_ := Aside0.mk i8
  have n2_ := Aside0.mk b8
  clear HI HJ HB HX
  have HI := n0_
  have HJ := n1_
  have HB := n2_
  have HX := n3_
  clear n0_ n1_ n2_ n3_ i8 b8 k8
  refine hK.out _ _ ((blk_cell HX.out 1).trans rfl) (fun hHeld => ?_)
  clear hK K
  refine norm_ (a' := ?_) ?_ ?_
  rotate_left
  · show Act.put _ (some 55) _ = _
    simp only [Act.put, List.setIfInBounds_toArray, List.set_cons_zero, List.set_cons_succ, i64_w, i32_w]
    rfl
  refine pure_ (i := 8) (N := some 56) (v := ?_) (a' := ?_) #[true, true, true, true, true, true, true, true, true, false] rfl rfl (by kernel_rfl) (fun _ _ _ h => h) (Or.inl ⟨by rfl, ?_⟩) ?_ ?_
  rotate_left
  · intro w'
    go_simp
    with_reducible rfl
  rotate_left
  · simp only [Act.put, List.setIfInBounds_toArray, List.set_cons_zero, List.set_cons_succ, i64_w, i32_w]
    rfl
  refine pure_ (i := 9) (N := some 6) (v := ?_) (a' := ?_) #[true, true, true, true, true, true, true, true, true, true] rfl rfl (by kernel_rfl) (fun _ _ _ h => h) (Or.inl ⟨by rfl, ?_⟩) ?_ ?_
  rotate_left
  · intro w'
    go_simp
    with_reducible rfl
  rotate_left
  · simp only [Act.put, List.setIfInBounds_toArray, List.set_cons_zero, List.set_cons_succ, i64_w, i32_w]
    rfl
  refine done_ (by kernel_rfl) ?_

  go_wp2_with fail
  go_ret
  exact ⟨by first | rfl | (simp; done), by repeat (first | (with_reducible first | exact HI.out | apply IsS59.alloc | apply IsS59.drewN | apply IsS59.drew) | exact HI.out), by repeat (first | (with_reducible first | exact HJ.out | apply IsS43.alloc | apply IsS43.drewN | apply IsS43.drew) | exact HJ.out), by repeat (first | (with_reducible first | exact HB.out | apply below_alloc | apply pw_below_drewN | apply below_drew1) | exact HB.out)⟩
set_option maxHeartbeats 8000000 in
set_option maxRecDepth 100000 in
theorem step_5 (k : Nat) (w0 w : World) (g q : Nat) (s t : ByteArray) (p u e N M : Int) (v : ByteArray) (p1 u1 e1 : Int) (h : Two w0 w g q s p t u e) (hR : code_Reader_Text.f k s p e N = some (v, s, p1, e1)) (hQ : barqueref01_Reader_Text.f k t u e N = some (v, t, u1, e1)) :
    Calls Try.prog 43 #[.pointer (some ⟨g, 0, none⟩), .pointer (some ⟨q, 0, none⟩), .agg #[.int .i64 5, .int .i64 N, .int .i64 M]] w fun en w' => en = .returned (.bool true) ∧ Two w0 w' g q s p1 t u1 e1 := by
  have HR := Aside0.mk hR
  have HQ := Aside0.mk hQ
  obtain ⟨hI, hJ, hB⟩ := h
  have HI := Aside0.mk hI
  have HJ := Aside0.mk hJ
  have HB := Aside0.mk hB
  have HX := Aside0.mk (heap_alloc_new w (.cells #[.int .i64 5, .int .i64 N, .int .i64 M] 46))
  clear hI hJ hB hR hQ
  go_enter Try.func43, Try.ntmps43
  go_wp2_with fail
  refine start_ (n := 10) (S := fun w' => w'.cell? ⟨w.heap.size, 1, none⟩ = some (.int .i64 N)) (ds := []) #[false, false, false, false, false, false, false, false, false, false] (by kernel_rfl) rfl rfl ((blk_cell HX.out 1).trans rfl) (fun hHeld => ?_)
  refine pure_ (i := 0) (N := some 59) (v := ?_) (a' := ?_) #[true, false, false, false, false, false, false, false, false, false] rfl rfl (by kernel_rfl) (fun _ _ _ h => h) (Or.inl ⟨by rfl, ?_⟩) ?_ ?_
  rotate_left
  · intro w'
    go_simp
    with_reducible rfl
  rotate_left
  · simp only [Act.put, List.setIfInBounds_toArray, List.set_cons_zero, List.set_cons_succ, i64_w, i32_w]
    rfl
  refine pure_ (i := 1) (N := some 60) (v := ?_) (a' := ?_) #[true, true, false, false, false, false, false, false, false, false] rfl rfl (by kernel_rfl) (fun _ _ _ h => h) (Or.inl ⟨by rfl, ?_⟩) ?_ ?_
  rotate_left
  · intro w'
    go_simp
    with_reducible rfl
  rotate_left
  · simp only [Act.put, List.setIfInBounds_toArray, List.set_cons_zero, List.set_cons_succ, i64_w, i32_w]
    rfl
  refine pure_ (i := 4) (N := some 63) (v := ?_) (a' := ?_) #[true, true, false, false, true, false, false, false, false, false] rfl rfl (by kernel_rfl) (fun _ _ _ h => h) (Or.inl ⟨by rfl, ?_⟩) ?_ ?_
  rotate_left
  · intro w'
    go_simp
    with_reducible rfl
  rotate_left
  · simp only [Act.put, List.setIfInBounds_toArray, List.set_cons_zero, List.set_cons_succ, i64_w, i32_w]
    rfl
  refine pure_ (i := 5) (N := some 64) (v := ?_) (a' := ?_) #[true, true, false, false, true, true, false, false, false, false] rfl rfl (by kernel_rfl) (fun _ _ _ h => h) (Or.inl ⟨by rfl, ?_⟩) ?_ ?_
  rotate_left
  · intro w'
    go_simp
    with_reducible rfl
  rotate_left
  · simp only [Act.put, List.setIfInBounds_toArray, List.set_cons_zero, List.set_cons_succ, i64_w, i32_w]
    rfl
  refine take_ (i := 2) (N := some 61) (v := ?_) (a' := ?_) #[true, true, true, false, true, true, false, false, false, false] rfl rfl (by kernel_rfl) (fun _ _ _ h => h) (Or.inl ⟨by rfl, ?_⟩) hHeld ?_ ?_
  rotate_left
  · intro w' s0
    go_simp
    with_reducible rfl
  rotate_left
  · simp only [Act.put, List.setIfInBounds_toArray, List.set_cons_zero, List.set_cons_succ, i64_w, i32_w]
    rfl
  refine take_ (i := 6) (N := some 65) (v := ?_) (a' := ?_) #[true, true, true, false, true, true, true, false, false, false] rfl rfl (by kernel_rfl) (fun _ _ _ h => h) (Or.inl ⟨by rfl, ?_⟩) hHeld ?_ ?_
  rotate_left
  · intro w' s0
    go_simp
    with_reducible rfl
  rotate_left
  · simp only [Act.put, List.setIfInBounds_toArray, List.set_cons_zero, List.set_cons_succ, i64_w, i32_w]
    rfl
  refine one_ (i := 3) (N := some 62) #[true, true, true, true, true, true, true, false, false, false] rfl rfl (by kernel_rfl) (by decide) (fun K hK => ?_)
  refine goes_ Try.func31 (by kernel_rfl) rfl #[.pointer (some ⟨g, 0, none⟩), .int .i64 N] (by rfl) rfl rfl (by simp only [List.map_toArray, List.map_cons, List.map_nil]; rfl) ?_
  with_reducible refine (code_Reader_Text.calls k g s p e N _ _ _ _ w0 _ (by repeat (first | (with_reducible first | exact HI.out | apply IsS59.alloc | apply IsS59.drewN | apply IsS59.drew) | exact HI.out)) (by repeat (first | (with_reducible first | exact HB.out | apply below_alloc | apply pw_below_drewN | apply below_drew1) | exact HB.out)) HR.out).mono ?_
  rintro e7 w7 ⟨rfl, i7, b7, k7⟩
  refine ⟨_, rfl, ?_⟩
  have n0_ := Aside0.mk (keep43 (by repeat (first | (with_reducible first | exact HI.out | apply IsS59.alloc | apply IsS59.drewN | apply IsS59.drew) | exact HI.out)) (by repeat (first | (with_reducible first | exact HJ.out | apply IsS43.alloc | apply IsS43.drewN | apply IsS43.drew) | exact HJ.out)) k7)
  have n3_ := Aside0.mk (box59 HX.out (by repeat (first | (with_reducible first | exact HI.out | apply IsS59.alloc | apply IsS59.drewN | apply IsS59.drew) | exact HI.out)) k7)
  have n1_ := Aside0.mk i7
  have n2_ := Aside0.mk b7
  clear HI HJ HB HX
  have HI := n1_
  have HJ := n0_
  have HB := n2_
  have HX := n3_
  clear n0_ n1_ n2_ n3_ i7 b7 k7
  refine hK.out _ _ ((blk_cell HX.out 1).trans rfl) (fun hHeld => ?_)
  clear hK K
  refine norm_ (a' := ?_) ?_ ?_
  rotate_left
  · show Act.put _ (some 62) _ = _
    simp only [Act.put, List.setIfInBounds_toArray, List.set_cons_zero, List.set_cons_succ, i64_w, i32_w]
    rfl
  refine one_ (i := 7) (N := some 66) #[true, true, true, true, true, true, true, true, false, false] rfl rfl (by kernel_rfl) (by decide) (fun K hK => ?_)
  refine goes_ Try.func70 (by kernel_rfl) rfl #[.pointer (some ⟨q, 0, none⟩), .int .i64 N] (by rfl) rfl rfl (by simp only [List.map_toArray, List.map_cons, List.map_nil]; rfl) ?_
  with_reducible refine (barqueref01_Reader_Text.calls k q t u e N _ _ _ _ w0 _ (by repeat (first | (with_reducible first | exact HJ.out | apply IsS43.alloc | apply IsS43.drewN | apply IsS43.drew) | exact HJ.out)) (by repeat (first | (with_reducible first | exact HB.out | apply below_alloc | apply pw_below_drewN | apply below_drew1) | exact HB.out)) HQ.out).mono ?_
  rintro e8 w8 ⟨rfl, i8, b8, k8⟩
  refine ⟨_, rfl, ?_⟩
  have n0_ := Aside0.mk (keep59 (by repeat (first | (with_reducible first | exact HI.out | apply IsS59.alloc | apply IsS59.drewN | apply IsS59.drew) | exact HI.out)) (by repeat (first | (with_reducible first | exact HJ.out | apply IsS43.alloc | apply IsS43.drewN | apply IsS43.drew) | exact HJ.out)) k8)
  have n3_ := Aside0.mk (box43 HX.out (by repeat (first | (with_reducible first | exact HJ.out | apply IsS43.alloc | apply IsS43.drewN | apply IsS43.drew) | exact HJ.out)) k8)
  have n1_ := Aside0.mk i8
  have n2_ := Aside0.mk b8
  clear HI HJ HB HX
  have HI := n0_
  have HJ := n1_
  have HB := n2_
  have HX := n3_
  clear n0_ n1_ n2_ n3_ i8 b8 k8
  refine hK.out _ _ ((blk_cell HX.out 1).trans rfl) (fun hHeld => ?_)
  clear hK K
  refine norm_ (a' := ?_) ?_ ?_
  rotate_left
  · show Act.put _ (some 66) _ = _
    simp only [Act.put, List.setIfInBounds_toArray, List.set_cons_zero, List.set_cons_succ, i64_w, i32_w]
    rfl
  refine pure_ (i := 8) (N := some 67) (v := ?_) (a' := ?_) #[true, true, true, true, true, true, true, true, true, false] rfl rfl (by kernel_rfl) (fun _ _ _ h => h) (Or.inl ⟨by rfl, ?_⟩) ?_ ?_
  rotate_left
  · intro w'
    go_simp
    with_reducible rfl
  rotate_left
  · simp only [Act.put, List.setIfInBounds_toArray, List.set_cons_zero, List.set_cons_succ, i64_w, i32_w]
    rfl
  refine pure_ (i := 9) (N := some 6) (v := ?_) (a' := ?_) #[true, true, true, true, true, true, true, true, true, true] rfl rfl (by kernel_rfl) (fun _ _ _ h => h) (Or.inl ⟨by rfl, ?_⟩) ?_ ?_
  rotate_left
  · intro w'
    go_simp
    with_reducible rfl
  rotate_left
  · simp only [Act.put, List.setIfInBounds_toArray, List.set_cons_zero, List.set_cons_succ, i64_w, i32_w]
    rfl
  refine done_ (by kernel_rfl) ?_

  go_wp2_with fail
  go_ret
  exact ⟨by first | rfl | (simp; done), by repeat (first | (with_reducible first | exact HI.out | apply IsS59.alloc | apply IsS59.drewN | apply IsS59.drew) | exact HI.out), by repeat (first | (with_reducible first | exact HJ.out | apply IsS43.alloc | apply IsS43.drewN | apply IsS43.drew) | exact HJ.out), by repeat (first | (with_reducible first | exact HB.out | apply below_alloc | apply pw_below_drewN | apply below_drew1) | exact HB.out)⟩
set_option maxHeartbeats 8000000 in
set_option maxRecDepth 100000 in
theorem step_d (k : Nat) (w0 w : World) (g q : Nat) (s t : ByteArray) (p u e N M v p1 u1 e1 : Int) (x : Int) (h : Two w0 w g q s p t u e) (hx : x < 0 ∨ 7 < x) (hR : code_Reader_End.f k s p e = some (v, s, p1, e1)) (hQ : barqueref01_Reader_End.f t u e = some (v, t, u1, e1)) :
    Calls Try.prog 43 #[.pointer (some ⟨g, 0, none⟩), .pointer (some ⟨q, 0, none⟩), .agg #[.int .i64 x, .int .i64 N, .int .i64 M]] w fun en w' => en = .returned (.bool true) ∧ Two w0 w' g q s p1 t u1 e1 := by
  have HR := Aside0.mk hR
  have HQ := Aside0.mk hQ
  obtain ⟨hI, hJ, hB⟩ := h
  have HI := Aside0.mk hI
  have HJ := Aside0.mk hJ
  have HB := Aside0.mk hB
  clear hI hJ hB hR hQ
  have d0 : (x == 0) = false := beq_eq_false_iff_ne.mpr (by omega)
  have d1 : (x == 1) = false := beq_eq_false_iff_ne.mpr (by omega)
  have d2 : (x == 2) = false := beq_eq_false_iff_ne.mpr (by omega)
  have d3 : (x == 3) = false := beq_eq_false_iff_ne.mpr (by omega)
  have d4 : (x == 4) = false := beq_eq_false_iff_ne.mpr (by omega)
  have d5 : (x == 5) = false := beq_eq_false_iff_ne.mpr (by omega)
  have d6 : (x == 6) = false := beq_eq_false_iff_ne.mpr (by omega)
  have d7 : (x == 7) = false := beq_eq_false_iff_ne.mpr (by omega)
  clear hx
  go_enter Try.func43, Try.ntmps43
  go_wp2_with (first | (go_at_call 28; (with_reducible refine (code_Reader_End.calls k g s p e  _ _ _ _ w0 _ (by repeat (first | (with_reducible first | exact HI.out | apply IsS59.alloc | apply IsS59.drewN | apply IsS59.drew) | exact HI.out)) (by repeat (first | (with_reducible first | exact HB.out | apply below_alloc | apply pw_below_drewN | apply below_drew1) | exact HB.out)) HR.out).mono ?_); rintro e7 w7 ⟨rfl, i7, b7, k7⟩; have n0_ := Aside0.mk (keep43 (by repeat (first | (with_reducible first | exact HI.out | apply IsS59.alloc | apply IsS59.drewN | apply IsS59.drew) | exact HI.out)) (by repeat (first | (with_reducible first | exact HJ.out | apply IsS43.alloc | apply IsS43.drewN | apply IsS43.drew) | exact HJ.out)) k7); have n1_ := Aside0.mk i7; have n2_ := Aside0.mk b7; clear HI HJ HB; have HI := n1_; have HJ := n0_; have HB := n2_; clear n0_ n1_ n2_ i7 b7 k7) | (go_at_call 73; (with_reducible refine (barqueref01_Reader_End.calls  q t u e  _ _ _ _ w0 _ (by repeat (first | (with_reducible first | exact HJ.out | apply IsS43.alloc | apply IsS43.drewN | apply IsS43.drew) | exact HJ.out)) (by repeat (first | (with_reducible first | exact HB.out | apply below_alloc | apply pw_below_drewN | apply below_drew1) | exact HB.out)) HQ.out).mono ?_); rintro e8 w8 ⟨rfl, i8, b8, k8⟩; have n0_ := Aside0.mk (keep59 (by repeat (first | (with_reducible first | exact HI.out | apply IsS59.alloc | apply IsS59.drewN | apply IsS59.drew) | exact HI.out)) (by repeat (first | (with_reducible first | exact HJ.out | apply IsS43.alloc | apply IsS43.drewN | apply IsS43.drew) | exact HJ.out)) k8); have n1_ := Aside0.mk i8; have n2_ := Aside0.mk b8; clear HI HJ HB; have HI := n0_; have HJ := n1_; have HB := n2_; clear n0_ n1_ n2_ i8 b8 k8))
  go_ret
  exact ⟨by first | rfl | (simp; done), by repeat (first | (with_reducible first | exact HI.out | apply IsS59.alloc | apply IsS59.drewN | apply IsS59.drew) | exact HI.out), by repeat (first | (with_reducible first | exact HJ.out | apply IsS43.alloc | apply IsS43.drewN | apply IsS43.drew) | exact HJ.out), by repeat (first | (with_reducible first | exact HB.out | apply below_alloc | apply pw_below_drewN | apply below_drew1) | exact HB.out)⟩
end Go.Proofs.Ytocjhpjljlcboaa.Q
