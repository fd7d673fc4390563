/- CodeReads: whatever is asked of the two readers. -/
import Derived.Test.YtocjhpjljlcboaaStepA
import Derived.Test.YtocjhpjljlcboaaOpRow
namespace Go.Proofs.Ytocjhpjljlcboaa.Q
open Go.RowKit Go.Proofs.YtocjhpjljlcboaaW.PrintWords Go.Proofs.YtocjhpjljlcboaaW.PrintLast Go.Proofs.YtocjhpjljlcboaaW.PrintMore
set_option linter.unusedVariables false
set_option linter.unusedSimpArgs false
theorem two_mk {w0 w : World} {g q : Nat} {s t : ByteArray} {p u e : Int} (h1 : IsS59 w0 w g s p e) (h2 : IsS43 w0 w q t u e) (h3 : Below w0.heap.size w0 w) : Two w0 w g q s p t u e := ⟨h1, h2, h3⟩
set_option maxHeartbeats 8000000 in
set_option maxRecDepth 100000 in
theorem reads_calls (a0 : ByteArray) (A : Option Addr) (len cap : Nat) (w : World) (hO : IsOps w A len) :
    Calls Try.prog 12 #[.string a0, .slice A len cap] w fun e w' => e = .returned (.bool true) ∧ Below w.heap.size w w' := by
  have HO := Aside0.mk hO
  have HAW := Aside0.mk (Spec.awake1 60 (by decide))
  have HB := Aside0.mk (Below.refl w.heap.size w)
  clear hO
  go_enter Try.func12, Try.ntmps12
  go_upto_if 10 with (fail)
  go_cut [0] (fun v0 wc => ∃ t : ByteArray, v0 = .string t ∧ Aside0 (t.size ≤ 4000) ∧ Aside0 (Below w.heap.size w wc))
  case first =>
    by_cases c3 : (a0.size : Int) > 4000
    · have c3b0 : decide (4000 < (a0.size : Int)) = true := decide_eq_true c3
      have c3b1 : decide (4000 < a0.size) = true := decide_eq_true (by omega)
      have HT := Aside0.mk (show (a0.extract 0 4000).size ≤ 4000 by rw [ByteArray.size_extract]; omega)
      have c5 : 4000 ≤ (a0.size : Int) := by omega
      have c5b0 := eq_true c5
      have c5b1 : decide (4000 ≤ (a0.size : Int)) = true := decide_eq_true c5
      clear c3 c5
      (first | rw [c3b0] | (simp only [i64_w, i32_w]; rw [c3b0]) | skip)
      go_wp2
      go_meet
      case rel => exact ⟨a0.extract 0 4000, (by first | rfl | (simp; done) | (simp [*]; done)), HT, ⟨by repeat (first | (with_reducible first | exact HB.out | apply below_alloc | apply pw_below_drewN | apply below_drew1) | exact HB.out)⟩⟩
    · have c3b0 : decide (4000 < (a0.size : Int)) = false := decide_eq_false c3
      have c3b1 : decide (4000 < a0.size) = false := decide_eq_false (by omega)
      have HT := Aside0.mk (show a0.size ≤ 4000 by omega)
      clear c3
      (first | rw [c3b0] | (simp only [i64_w, i32_w]; rw [c3b0]) | skip)
      go_wp2
      go_meet
      case rel => exact ⟨a0, (by first | rfl | (simp; done) | (simp [*]; done)), HT, ⟨by repeat (first | (with_reducible first | exact HB.out | apply below_alloc | apply pw_below_drewN | apply below_drew1) | exact HB.out)⟩⟩
  case rest =>
    clear HB
    obtain ⟨t, rfl, HT, HB⟩ := hcut
    go_wp2_with (first | (go_at_call 26; (with_reducible refine (code_Read.calls t t 0 0 w _ (by repeat (first | (with_reducible first | exact HB.out | apply below_alloc | apply pw_below_drewN | apply below_drew1) | exact HB.out)) rfl).mono ?_); rintro e7 w7 ⟨g, rfl, i7, b7, _⟩; have HI := Aside0.mk i7; clear HB; have HB := Aside0.mk b7; clear i7 b7))
    have HJ := Aside0.mk (IsS43.new w w7 t 0 0 HB.out)
    go_loopg [7] (len + 1) (fun gq v7 wr => ∃ (i p : Nat) (e : Int), v7 = .int .i64 (i : Nat) ∧ Aside0 (i ≤ len ∧ gq + i = len + 1) ∧ Aside0 (Two w wr g w7.heap.size t (p : Int) t (p : Int) e) ∧ Aside0 (p ≤ t.size))
    case atStart => exact ⟨0, 0, 0, (by first | rfl | (simp; done)), ⟨by omega⟩, ⟨by repeat (first | (with_reducible first | exact HI.out | apply IsS59.alloc | apply IsS59.drewN | apply IsS59.drew) | exact HI.out), HJ.out, by repeat (first | (with_reducible first | exact HB.out | apply below_alloc | apply pw_below_drewN | apply below_drew1) | exact HB.out)⟩, ⟨Nat.zero_le _⟩⟩
    case round =>
      clear HI HJ HB
      obtain ⟨i, p, e, rfl, HG, H2, HP⟩ := hrel
      obtain ⟨hI, hJ, hB⟩ := H2.out
      have HI := Aside0.mk hI
      have HJ := Aside0.mk hJ
      have HB := Aside0.mk hB
      clear hI hJ hB H2
      by_cases c1 : i < len
      · have c1a : decide ((i : Int) < (len : Int)) = true := decide_eq_true (by omega)
        have c1b : decide (i < len) = true := decide_eq_true c1
        by_cases c2 : i < 60
        · have c2a : decide ((i : Int) < 60) = true := decide_eq_true (by omega)
          have c2b : decide (i < 60) = true := decide_eq_true c2
          obtain ⟨x, hx, hel⟩ := HO.out.2 (by omega)
          obtain ⟨kk, N, M, hN, h0, h1, h2⟩ := hel i c1
          subst hx
          have HN := Aside0.mk hN
          have hsp : (x.add (i * 3)).spot = none := by simpa [Addr.add] using World.cell?_spot h0
          have HE0 := Aside0.mk h0
          have HE1 := Aside0.mk (show w.cell? ⟨(x.add (i * 3)).block, (x.add (i * 3)).off + 1, none⟩ = some (.int .i64 N) from h1)
          have HE2 := Aside0.mk (show w.cell? ⟨(x.add (i * 3)).block, (x.add (i * 3)).off + 2, none⟩ = some (.int .i64 M) from h2)
          clear h0 h1 h2 hel hN
          have p200 := eq_true (show (0 : Int) ≤ (i : Int) by omega)
          have q200 := eq_true (show (i : Int) < (len : Int) by omega)
          go_wp2_with fail
          refine start_ (n := 29) (S := fun w' => w'.cell? (x.add (i * 3)) = some (.int .i64 kk) ∧ w'.cell? ⟨(x.add (i * 3)).block, (x.add (i * 3)).off + 1, none⟩ = some (.int .i64 N) ∧ w'.cell? ⟨(x.add (i * 3)).block, (x.add (i * 3)).off + 2, none⟩ = some (.int .i64 M)) (ds := []) #[false, false, false, false, false, false, false, false, false, false, false, false, false, false, false, false, false, false, false, false, false, false, false, false, false, false, false, false, false] (by kernel_rfl) rfl rfl ⟨(HB.out.cell (World.block_lt_of_cell? w _ HE0.out)).trans HE0.out, (HB.out.cell (World.block_lt_of_cell? w _ HE1.out)).trans HE1.out, (HB.out.cell (World.block_lt_of_cell? w _ HE2.out)).trans HE2.out⟩ (fun hHeld => ?_)
          refine pure_ (i := 0) (N := some 28) (v := ?_) (a' := ?_) #[true, false, false, false, false, false, false, false, false, false, false, false, false, false, false, false, false, false, false, false, false, false, false, false, false, false, false, false, false] rfl rfl (by kernel_rfl) (fun _ _ _ h => h) (Or.inl ⟨by rfl, ?_⟩) ?_ ?_
          rotate_left
          · intro w'
            go_simp
            with_reducible rfl
          rotate_left
          · simp only [Act.put, List.setIfInBounds_toArray, List.set_cons_zero, List.set_cons_succ, i64_w, i32_w]
            rfl
          refine pure_ (i := 1) (N := some 29) (v := ?_) (a' := ?_) #[true, true, false, false, false, false, false, false, false, false, false, false, false, false, false, false, false, false, false, false, false, false, false, false, false, false, false, false, false] rfl rfl (by kernel_rfl) (fun _ _ _ h => h) (Or.inl ⟨by rfl, ?_⟩) ?_ ?_
          rotate_left
          · intro w'
            go_simp
            with_reducible rfl
          rotate_left
          · simp only [Act.put, List.setIfInBounds_toArray, List.set_cons_zero, List.set_cons_succ, i64_w, i32_w]
            rfl
          refine pure_ (i := 2) (N := some 30) (v := ?_) (a' := ?_) #[true, true, true, false, false, false, false, false, false, false, false, false, false, false, false, false, false, false, false, false, false, false, false, false, false, false, false, false, false] rfl rfl (by kernel_rfl) (fun _ _ _ h => h) (Or.inl ⟨by rfl, ?_⟩) ?_ ?_
          rotate_left
          · intro w'
            go_simp
            with_reducible rfl
          rotate_left
          · simp only [Act.put, List.setIfInBounds_toArray, List.set_cons_zero, List.set_cons_succ, i64_w, i32_w]
            rfl
          refine pure_ (i := 3) (N := some 31) (v := ?_) (a' := ?_) #[true, true, true, true, false, false, false, false, false, false, false, false, false, false, false, false, false, false, false, false, false, false, false, false, false, false, false, false, false] rfl rfl (by kernel_rfl) (fun _ _ _ h => h) (Or.inl ⟨by rfl, ?_⟩) ?_ ?_
          rotate_left
          · intro w'
            go_simp
            with_reducible rfl
          rotate_left
          · simp only [Act.put, List.setIfInBounds_toArray, List.set_cons_zero, List.set_cons_succ, i64_w, i32_w]
            rfl
          refine pure_ (i := 4) (N := some 32) (v := ?_) (a' := ?_) #[true, true, true, true, true, false, false, false, false, false, false, false, false, false, false, false, false, false, false, false, false, false, false, false, false, false, false, false, false] rfl rfl (by kernel_rfl) (fun _ _ _ h => h) (Or.inl ⟨by rfl, ?_⟩) ?_ ?_
          rotate_left
          · intro w'
            go_simp
            with_reducible rfl
          rotate_left
          · simp only [Act.put, List.setIfInBounds_toArray, List.set_cons_zero, List.set_cons_succ, i64_w, i32_w]
            rfl
          refine take_ (i := 5) (N := some 33) (v := ?_) (a' := ?_) #[true, true, true, true, true, true, false, false, false, false, false, false, false, false, false, false, false, false, false, false, false, false, false, false, false, false, false, false, false] rfl rfl (by kernel_rfl) (fun _ _ _ h => h) (Or.inl ⟨by rfl, ?_⟩) hHeld ?_ ?_
          rotate_left
          · rintro w' ⟨s0, s1, s2⟩
            go_simp
            with_reducible rfl
          rotate_left
          · simp only [Act.put, List.setIfInBounds_toArray, List.set_cons_zero, List.set_cons_succ, i64_w, i32_w]
            rfl
          refine one_ (i := 6) (N := some 34) #[true, true, true, true, true, true, true, false, false, false, false, false, false, false, false, false, false, false, false, false, false, false, false, false, false, false, false, false, false] rfl rfl (by kernel_rfl) (by decide) (fun K hK => ?_)
          refine goes_ Try.func43 (by kernel_rfl) rfl #[.pointer (some ⟨g, 0, none⟩), .pointer (some ⟨w7.heap.size, 0, none⟩), opV kk N M] (by rfl) rfl rfl (by simp only [List.map_toArray, List.map_cons, List.map_nil]; rfl) ?_
          with_reducible refine (step_same w _ g w7.heap.size t p e kk N M (two_mk (by repeat (first | (with_reducible first | exact HI.out | apply IsS59.alloc | apply IsS59.drewN | apply IsS59.drew) | exact HI.out)) (by repeat (first | (with_reducible first | exact HJ.out | apply IsS43.alloc | apply IsS43.drewN | apply IsS43.drew) | exact HJ.out)) (by repeat (first | (with_reducible first | exact HB.out | apply below_alloc | apply pw_below_drewN | apply below_drew1) | exact HB.out))) HT.out HP.out HN.out).mono ?_
          rintro e8 w8 ⟨rfl, p1, e1, ⟨i8, j8, b8⟩, hp1⟩
          refine ⟨_, rfl, ?_⟩
          have HP1 := Aside0.mk hp1
          have n0_ := Aside0.mk i8
          have n1_ := Aside0.mk j8
          have n2_ := Aside0.mk b8
          clear HI HJ HB
          have HI := n0_
          have HJ := n1_
          have HB := n2_
          clear n0_ n1_ n2_
          clear i8 j8 b8 hp1
          refine hK.out _ _ ⟨(HB.out.cell (World.block_lt_of_cell? w _ HE0.out)).trans HE0.out, (HB.out.cell (World.block_lt_of_cell? w _ HE1.out)).trans HE1.out, (HB.out.cell (World.block_lt_of_cell? w _ HE2.out)).trans HE2.out⟩ (fun hHeld => ?_)
          clear hK K
          refine norm_ (a' := ?_) ?_ ?_
          rotate_left
          · show Act.put _ (some 34) _ = _
            simp only [Act.put, List.setIfInBounds_toArray, List.set_cons_zero, List.set_cons_succ, i64_w, i32_w]
            rfl
          refine pure_ (i := 7) (N := some 35) (v := ?_) (a' := ?_) #[true, true, true, true, true, true, true, true, false, false, false, false, false, false, false, false, false, false, false, false, false, false, false, false, false, false, false, false, false] rfl rfl (by kernel_rfl) (fun _ _ _ h => h) (Or.inl ⟨by rfl, ?_⟩) ?_ ?_
          rotate_left
          · intro w'
            go_simp
            with_reducible rfl
          rotate_left
          · simp only [Act.put, List.setIfInBounds_toArray, List.set_cons_zero, List.set_cons_succ, i64_w, i32_w]
            rfl
          refine pure_ (i := 8) (N := some 36) (v := ?_) (a' := ?_) #[true, true, true, true, true, true, true, true, true, false, false, false, false, false, false, false, false, false, false, false, false, false, false, false, false, false, false, false, false] rfl rfl (by kernel_rfl) (fun _ _ _ h => h) (Or.inl ⟨by rfl, ?_⟩) ?_ ?_
          rotate_left
          · intro w'
            go_simp
            with_reducible rfl
          rotate_left
          · simp only [Act.put, List.setIfInBounds_toArray, List.set_cons_zero, List.set_cons_succ, i64_w, i32_w]
            rfl
          refine pure_ (i := 9) (N := some 37) (v := ?_) (a' := ?_) #[true, true, true, true, true, true, true, true, true, true, false, false, false, false, false, false, false, false, false, false, false, false, false, false, false, false, false, false, false] rfl rfl (by kernel_rfl) (fun _ _ _ h => h) (Or.inl ⟨by rfl, ?_⟩) ?_ ?_
          rotate_left
          · intro w'
            go_simp
            with_reducible rfl
          rotate_left
          · simp only [Act.put, List.setIfInBounds_toArray, List.set_cons_zero, List.set_cons_succ, i64_w, i32_w]
            rfl
          refine pure_ (i := 11) (N := some 39) (v := ?_) (a' := ?_) #[true, true, true, true, true, true, true, true, true, true, false, true, false, false, false, false, false, false, false, false, false, false, false, false, false, false, false, false, false] rfl rfl (by kernel_rfl) (fun _ _ _ h => h) (Or.inl ⟨by rfl, ?_⟩) ?_ ?_
          rotate_left
          · intro w'
            go_simp
            with_reducible rfl
          rotate_left
          · simp only [Act.put, List.setIfInBounds_toArray, List.set_cons_zero, List.set_cons_succ, i64_w, i32_w]
            rfl
          refine pure_ (i := 12) (N := some 40) (v := ?_) (a' := ?_) #[true, true, true, true, true, true, true, true, true, true, false, true, true, false, false, false, false, false, false, false, false, false, false, false, false, false, false, false, false] rfl rfl (by kernel_rfl) (fun _ _ _ h => h) (Or.inl ⟨by rfl, ?_⟩) ?_ ?_
          rotate_left
          · intro w'
            go_simp
            with_reducible rfl
          rotate_left
          · simp only [Act.put, List.setIfInBounds_toArray, List.set_cons_zero, List.set_cons_succ, i64_w, i32_w]
            rfl
          refine pure_ (i := 13) (N := some 41) (v := ?_) (a' := ?_) #[true, true, true, true, true, true, true, true, true, true, false, true, true, true, false, false, false, false, false, false, false, false, false, false, false, false, false, false, false] rfl rfl (by kernel_rfl) (fun _ _ _ h => h) (Or.inl ⟨by rfl, ?_⟩) ?_ ?_
          rotate_left
          · intro w'
            go_simp
            with_reducible rfl
          rotate_left
          · simp only [Act.put, List.setIfInBounds_toArray, List.set_cons_zero, List.set_cons_succ, i64_w, i32_w]
            rfl
          refine pure_ (i := 14) (N := some 42) (v := ?_) (a' := ?_) #[true, true, true, true, true, true, true, true, true, true, false, true, true, true, true, false, false, false, false, false, false, false, false, false, false, false, false, false, false] rfl rfl (by kernel_rfl) (fun _ _ _ h => h) (Or.inl ⟨by rfl, ?_⟩) ?_ ?_
          rotate_left
          · intro w'
            go_simp
            with_reducible rfl
          rotate_left
          · simp only [Act.put, List.setIfInBounds_toArray, List.set_cons_zero, List.set_cons_succ, i64_w, i32_w]
            rfl
          refine pure_ (i := 15) (N := some 43) (v := ?_) (a' := ?_) #[true, true, true, true, true, true, true, true, true, true, false, true, true, true, true, true, false, false, false, false, false, false, false, false, false, false, false, false, false] rfl rfl (by kernel_rfl) (fun _ _ _ h => h) (Or.inl ⟨by rfl, ?_⟩) ?_ ?_
          rotate_left
          · intro w'
            go_simp
            with_reducible rfl
          rotate_left
          · simp only [Act.put, List.setIfInBounds_toArray, List.set_cons_zero, List.set_cons_succ, i64_w, i32_w]
            rfl
          refine join_ (σ := Unit) 11 #[true, true, true, true, true, true, true, true, true, true, true, true, true, true, true, true, true, true, false, false, false, false, false, false, false, false, false, false, false] (fun _ => [(38, .int .i64 (wrap64 ((t.size : Int) - (p1 : Int)))), (44, .int .i64 ((p1 : Int))), (45, .int .i64 (wrap64 ((t.size : Int) - (p1 : Int))))]) (fun _ w' => IsS59 w w' g t (p1 : Int) e1 ∧ IsS43 w w' w7.heap.size t (p1 : Int) e1 ∧ Below w.heap.size w w') ?_ ?_
          rotate_left
          · intro hCont
            refine two_ (i := 10) (j := 16) (Ni := some 38) (Nj := some 44) #[true, true, true, true, true, true, true, true, true, true, true, true, true, true, true, true, false, false, false, false, false, false, false, false, false, false, false, false, false] #[true, true, true, true, true, true, true, true, true, true, false, true, true, true, true, true, true, false, false, false, false, false, false, false, false, false, false, false, false] rfl rfl rfl rfl (by kernel_rfl) (by decide) (by decide) (fun K hK => ?_) (fun K hK => ?_)
            · skip
              refine goes_ Try.func32 (by kernel_rfl) rfl #[.pointer (some ⟨g, 0, none⟩)] (by rfl) rfl rfl (by simp only [List.map_toArray, List.map_cons, List.map_nil]; rfl) ?_
              with_reducible refine (code_Reader_Left.calls g t p1 e1 _ _ _ _ w _ (by repeat (first | (with_reducible first | exact HI.out | apply IsS59.alloc | apply IsS59.drewN | apply IsS59.drew) | exact HI.out)) (by repeat (first | (with_reducible first | exact HB.out | apply below_alloc | apply pw_below_drewN | apply below_drew1) | exact HB.out)) rfl).mono ?_
              rintro e10 w10 ⟨rfl, i10, b10, k10⟩
              refine ⟨_, rfl, ?_⟩
              have n0_ := Aside0.mk i10
              have n1_ := Aside0.mk (keep43 (by repeat (first | (with_reducible first | exact HI.out | apply IsS59.alloc | apply IsS59.drewN | apply IsS59.drew) | exact HI.out)) (by repeat (first | (with_reducible first | exact HJ.out | apply IsS43.alloc | apply IsS43.drewN | apply IsS43.drew) | exact HJ.out)) k10)
              have n2_ := Aside0.mk b10
              clear HI HJ HB
              have HI := n0_
              have HJ := n1_
              have HB := n2_
              clear n0_ n1_ n2_
              clear i10 b10 k10
              refine hK.out _ _ ⟨(HB.out.cell (World.block_lt_of_cell? w _ HE0.out)).trans HE0.out, (HB.out.cell (World.block_lt_of_cell? w _ HE1.out)).trans HE1.out, (HB.out.cell (World.block_lt_of_cell? w _ HE2.out)).trans HE2.out⟩ (fun hHeld => ?_)
              clear hK K
              refine norm_ (a' := ?_) ?_ ?_
              rotate_left
              · show Act.put _ (some 38) _ = _
                simp only [Act.put, List.setIfInBounds_toArray, List.set_cons_zero, List.set_cons_succ, i64_w, i32_w]
                rfl
              refine one_ (i := 16) (N := some 44) #[true, true, true, true, true, true, true, true, true, true, true, true, true, true, true, true, true, false, false, false, false, false, false, false, false, false, false, false, false] rfl rfl (by kernel_rfl) (by decide) (fun K hK => ?_)
              have hq := cellS43_1 HJ.out.1
              refine value_ (w1 := ?_) (v := ?_) (by rfl) rfl ?_ ?_
              rotate_left 2
              · go_simp
                constructor
                · rfl
                · rfl
              clear hq
              refine hK.out _ _ ⟨(HB.out.cell (World.block_lt_of_cell? w _ HE0.out)).trans HE0.out, (HB.out.cell (World.block_lt_of_cell? w _ HE1.out)).trans HE1.out, (HB.out.cell (World.block_lt_of_cell? w _ HE2.out)).trans HE2.out⟩ (fun hHeld => ?_)
              clear hK K
              refine norm_ (a' := ?_) ?_ ?_
              rotate_left
              · show Act.put _ (some 44) _ = _
                simp only [Act.put, List.setIfInBounds_toArray, List.set_cons_zero, List.set_cons_succ, i64_w, i32_w]
                rfl
              refine pure_ (i := 17) (N := some 45) (v := ?_) (a' := ?_) #[true, true, true, true, true, true, true, true, true, true, true, true, true, true, true, true, true, true, false, false, false, false, false, false, false, false, false, false, false] rfl rfl (by kernel_rfl) (fun _ _ _ h => h) (Or.inl ⟨by rfl, ?_⟩) ?_ ?_
              rotate_left
              · intro w'
                go_simp
                with_reducible rfl
              rotate_left
              · simp only [Act.put, List.setIfInBounds_toArray, List.set_cons_zero, List.set_cons_succ, i64_w, i32_w]
                rfl
              exact norm_ (by simp only [putAll, Act.put, List.setIfInBounds_toArray, List.set_cons_zero, List.set_cons_succ]) (hCont () _ ⟨by repeat (first | (with_reducible first | exact HI.out | apply IsS59.alloc | apply IsS59.drewN | apply IsS59.drew) | exact HI.out), by repeat (first | (with_reducible first | exact HJ.out | apply IsS43.alloc | apply IsS43.drewN | apply IsS43.drew) | exact HJ.out), by repeat (first | (with_reducible first | exact HB.out | apply below_alloc | apply pw_below_drewN | apply below_drew1) | exact HB.out)⟩)
            · skip
              have hq := cellS43_1 HJ.out.1
              refine value_ (w1 := ?_) (v := ?_) (by rfl) rfl ?_ ?_
              rotate_left 2
              · go_simp
                constructor
                · rfl
                · rfl
              clear hq
              refine hK.out _ _ ⟨(HB.out.cell (World.block_lt_of_cell? w _ HE0.out)).trans HE0.out, (HB.out.cell (World.block_lt_of_cell? w _ HE1.out)).trans HE1.out, (HB.out.cell (World.block_lt_of_cell? w _ HE2.out)).trans HE2.out⟩ (fun hHeld => ?_)
              clear hK K
              refine norm_ (a' := ?_) ?_ ?_
              rotate_left
              · show Act.put _ (some 44) _ = _
                simp only [Act.put, List.setIfInBounds_toArray, List.set_cons_zero, List.set_cons_succ, i64_w, i32_w]
                rfl
              refine pure_ (i := 17) (N := some 45) (v := ?_) (a' := ?_) #[true, true, true, true, true, true, true, true, true, true, false, true, true, true, true, true, true, true, false, false, false, false, false, false, false, false, false, false, false] rfl rfl (by kernel_rfl) (fun _ _ _ h => h) (Or.inl ⟨by rfl, ?_⟩) ?_ ?_
              rotate_left
              · intro w'
                go_simp
                with_reducible rfl
              rotate_left
              · simp only [Act.put, List.setIfInBounds_toArray, List.set_cons_zero, List.set_cons_succ, i64_w, i32_w]
                rfl
              refine one_ (i := 10) (N := some 38) #[true, true, true, true, true, true, true, true, true, true, true, true, true, true, true, true, true, true, false, false, false, false, false, false, false, false, false, false, false] rfl rfl (by kernel_rfl) (by decide) (fun K hK => ?_)
              refine goes_ Try.func32 (by kernel_rfl) rfl #[.pointer (some ⟨g, 0, none⟩)] (by rfl) rfl rfl (by simp only [List.map_toArray, List.map_cons, List.map_nil]; rfl) ?_
              with_reducible refine (code_Reader_Left.calls g t p1 e1 _ _ _ _ w _ (by repeat (first | (with_reducible first | exact HI.out | apply IsS59.alloc | apply IsS59.drewN | apply IsS59.drew) | exact HI.out)) (by repeat (first | (with_reducible first | exact HB.out | apply below_alloc | apply pw_below_drewN | apply below_drew1) | exact HB.out)) rfl).mono ?_
              rintro e10 w10 ⟨rfl, i10, b10, k10⟩
              refine ⟨_, rfl, ?_⟩
              have n0_ := Aside0.mk i10
              have n1_ := Aside0.mk (keep43 (by repeat (first | (with_reducible first | exact HI.out | apply IsS59.alloc | apply IsS59.drewN | apply IsS59.drew) | exact HI.out)) (by repeat (first | (with_reducible first | exact HJ.out | apply IsS43.alloc | apply IsS43.drewN | apply IsS43.drew) | exact HJ.out)) k10)
              have n2_ := Aside0.mk b10
              clear HI HJ HB
              have HI := n0_
              have HJ := n1_
              have HB := n2_
              clear n0_ n1_ n2_
              clear i10 b10 k10
              refine hK.out _ _ ⟨(HB.out.cell (World.block_lt_of_cell? w _ HE0.out)).trans HE0.out, (HB.out.cell (World.block_lt_of_cell? w _ HE1.out)).trans HE1.out, (HB.out.cell (World.block_lt_of_cell? w _ HE2.out)).trans HE2.out⟩ (fun hHeld => ?_)
              clear hK K
              refine norm_ (a' := ?_) ?_ ?_
              rotate_left
              · show Act.put _ (some 38) _ = _
                simp only [Act.put, List.setIfInBounds_toArray, List.set_cons_zero, List.set_cons_succ, i64_w, i32_w]
                rfl
              exact norm_ (by simp only [putAll, Act.put, List.setIfInBounds_toArray, List.set_cons_zero, List.set_cons_succ]) (hCont () _ ⟨by repeat (first | (with_reducible first | exact HI.out | apply IsS59.alloc | apply IsS59.drewN | apply IsS59.drew) | exact HI.out), by repeat (first | (with_reducible first | exact HJ.out | apply IsS43.alloc | apply IsS43.drewN | apply IsS43.drew) | exact HJ.out), by repeat (first | (with_reducible first | exact HB.out | apply below_alloc | apply pw_below_drewN | apply below_drew1) | exact HB.out)⟩)
          rintro ⟨⟩ w10 ⟨i10, j10, b10⟩
          have n0_ := Aside0.mk i10
          have n1_ := Aside0.mk j10
          have n2_ := Aside0.mk b10
          clear HI HJ HB
          have HI := n0_
          have HJ := n1_
          have HB := n2_
          clear n0_ n1_ n2_
          clear i10 j10 b10
          have hHeld : w10.cell? (x.add (i * 3)) = some (.int .i64 kk) ∧ w10.cell? ⟨(x.add (i * 3)).block, (x.add (i * 3)).off + 1, none⟩ = some (.int .i64 N) ∧ w10.cell? ⟨(x.add (i * 3)).block, (x.add (i * 3)).off + 2, none⟩ = some (.int .i64 M) := ⟨(HB.out.cell (World.block_lt_of_cell? w _ HE0.out)).trans HE0.out, (HB.out.cell (World.block_lt_of_cell? w _ HE1.out)).trans HE1.out, (HB.out.cell (World.block_lt_of_cell? w _ HE2.out)).trans HE2.out⟩
          refine norm_ (a' := ?_) ?_ ?_
          rotate_left
          · simp only [putAll, Act.put, List.setIfInBounds_toArray, List.set_cons_zero, List.set_cons_succ]
            rfl
          refine pure_ (i := 18) (N := some 46) (v := ?_) (a' := ?_) #[true, true, true, true, true, true, true, true, true, true, true, true, true, true, true, true, true, true, true, false, false, false, false, false, false, false, false, false, false] rfl rfl (by kernel_rfl) (fun _ _ _ h => h) (Or.inl ⟨by rfl, ?_⟩) ?_ ?_
          rotate_left
          · intro w'
            go_simp
            with_reducible rfl
          rotate_left
          · simp only [Act.put, List.setIfInBounds_toArray, List.set_cons_zero, List.set_cons_succ, i64_w, i32_w]
            rfl
          refine pure_ (i := 19) (N := some 47) (v := ?_) (a' := ?_) #[true, true, true, true, true, true, true, true, true, true, true, true, true, true, true, true, true, true, true, true, false, false, false, false, false, false, false, false, false] rfl rfl (by kernel_rfl) (fun _ _ _ h => h) (Or.inl ⟨by rfl, ?_⟩) ?_ ?_
          rotate_left
          · intro w'
            go_simp
            with_reducible rfl
          rotate_left
          · simp only [Act.put, List.setIfInBounds_toArray, List.set_cons_zero, List.set_cons_succ, i64_w, i32_w]
            rfl
          refine pure_ (i := 20) (N := some 48) (v := ?_) (a' := ?_) #[true, true, true, true, true, true, true, true, true, true, true, true, true, true, true, true, true, true, true, true, true, false, false, false, false, false, false, false, false] rfl rfl (by kernel_rfl) (fun _ _ _ h => h) (Or.inl ⟨by rfl, ?_⟩) ?_ ?_
          rotate_left
          · intro w'
            go_simp
            with_reducible rfl
          rotate_left
          · simp only [Act.put, List.setIfInBounds_toArray, List.set_cons_zero, List.set_cons_succ, i64_w, i32_w]
            rfl
          refine pure_ (i := 21) (N := some 49) (v := ?_) (a' := ?_) #[true, true, true, true, true, true, true, true, true, true, true, true, true, true, true, true, true, true, true, true, true, true, false, false, false, false, false, false, false] rfl rfl (by kernel_rfl) (fun _ _ _ h => h) (Or.inl ⟨by rfl, ?_⟩) ?_ ?_
          rotate_left
          · intro w'
            go_simp
            with_reducible rfl
          rotate_left
          · simp only [Act.put, List.setIfInBounds_toArray, List.set_cons_zero, List.set_cons_succ, i64_w, i32_w]
            rfl
          refine pure_ (i := 23) (N := some 51) (v := ?_) (a' := ?_) #[true, true, true, true, true, true, true, true, true, true, true, true, true, true, true, true, true, true, true, true, true, true, false, true, false, false, false, false, false] rfl rfl (by kernel_rfl) (fun _ _ _ h => h) (Or.inl ⟨by rfl, ?_⟩) ?_ ?_
          rotate_left
          · intro w'
            go_simp
            with_reducible rfl
          rotate_left
          · simp only [Act.put, List.setIfInBounds_toArray, List.set_cons_zero, List.set_cons_succ, i64_w, i32_w]
            rfl
          refine pure_ (i := 24) (N := some 52) (v := ?_) (a' := ?_) #[true, true, true, true, true, true, true, true, true, true, true, true, true, true, true, true, true, true, true, true, true, true, false, true, true, false, false, false, false] rfl rfl (by kernel_rfl) (fun _ _ _ h => h) (Or.inl ⟨by rfl, ?_⟩) ?_ ?_
          rotate_left
          · intro w'
            go_simp
            with_reducible rfl
          rotate_left
          · simp only [Act.put, List.setIfInBounds_toArray, List.set_cons_zero, List.set_cons_succ, i64_w, i32_w]
            rfl
          refine pure_ (i := 25) (N := some 53) (v := ?_) (a' := ?_) #[true, true, true, true, true, true, true, true, true, true, true, true, true, true, true, true, true, true, true, true, true, true, false, true, true, true, false, false, false] rfl rfl (by kernel_rfl) (fun _ _ _ h => h) (Or.inl ⟨by rfl, ?_⟩) ?_ ?_
          rotate_left
          · intro w'
            go_simp
            with_reducible rfl
          rotate_left
          · simp only [Act.put, List.setIfInBounds_toArray, List.set_cons_zero, List.set_cons_succ, i64_w, i32_w]
            rfl
          refine join_ (σ := Unit) 2 #[true, true, true, true, true, true, true, true, true, true, true, true, true, true, true, true, true, true, true, true, true, true, true, true, true, true, true, false, false] (fun _ => [(50, .int .i64 (e1)), (54, .int .i64 (e1))]) (fun _ w' => IsS59 w w' g t (p1 : Int) e1 ∧ IsS43 w w' w7.heap.size t (p1 : Int) e1 ∧ Below w.heap.size w w') ?_ ?_
          rotate_left
          · intro hCont
            refine two_ (i := 22) (j := 26) (Ni := some 50) (Nj := some 54) #[true, true, true, true, true, true, true, true, true, true, true, true, true, true, true, true, true, true, true, true, true, true, true, true, true, true, false, false, false] #[true, true, true, true, true, true, true, true, true, true, true, true, true, true, true, true, true, true, true, true, true, true, false, true, true, true, true, false, false] rfl rfl rfl rfl (by kernel_rfl) (by decide) (by decide) (fun K hK => ?_) (fun K hK => ?_)
            · skip
              refine goes_ Try.func33 (by kernel_rfl) rfl #[.pointer (some ⟨g, 0, none⟩)] (by rfl) rfl rfl (by simp only [List.map_toArray, List.map_cons, List.map_nil]; rfl) ?_
              with_reducible refine (code_Reader_Err.calls g t p1 e1 _ _ _ _ w _ (by repeat (first | (with_reducible first | exact HI.out | apply IsS59.alloc | apply IsS59.drewN | apply IsS59.drew) | exact HI.out)) (by repeat (first | (with_reducible first | exact HB.out | apply below_alloc | apply pw_below_drewN | apply below_drew1) | exact HB.out)) rfl).mono ?_
              rintro e11 w11 ⟨rfl, i11, b11, k11⟩
              refine ⟨_, rfl, ?_⟩
              have n0_ := Aside0.mk i11
              have n1_ := Aside0.mk (keep43 (by repeat (first | (with_reducible first | exact HI.out | apply IsS59.alloc | apply IsS59.drewN | apply IsS59.drew) | exact HI.out)) (by repeat (first | (with_reducible first | exact HJ.out | apply IsS43.alloc | apply IsS43.drewN | apply IsS43.drew) | exact HJ.out)) k11)
              have n2_ := Aside0.mk b11
              clear HI HJ HB
              have HI := n0_
              have HJ := n1_
              have HB := n2_
              clear n0_ n1_ n2_
              clear i11 b11 k11
              refine hK.out _ _ ⟨(HB.out.cell (World.block_lt_of_cell? w _ HE0.out)).trans HE0.out, (HB.out.cell (World.block_lt_of_cell? w _ HE1.out)).trans HE1.out, (HB.out.cell (World.block_lt_of_cell? w _ HE2.out)).trans HE2.out⟩ (fun hHeld => ?_)
              clear hK K
              refine norm_ (a' := ?_) ?_ ?_
              rotate_left
              · show Act.put _ (some 50) _ = _
                simp only [Act.put, List.setIfInBounds_toArray, List.set_cons_zero, List.set_cons_succ, i64_w, i32_w]
                rfl
              refine one_ (i := 26) (N := some 54) #[true, true, true, true, true, true, true, true, true, true, true, true, true, true, true, true, true, true, true, true, true, true, true, true, true, true, true, false, false] rfl rfl (by kernel_rfl) (by decide) (fun K hK => ?_)
              have hq := cellS43_2 HJ.out.1
              refine value_ (w1 := ?_) (v := ?_) (by rfl) rfl ?_ ?_
              rotate_left 2
              · go_simp
                constructor
                · rfl
                · rfl
              clear hq
              refine hK.out _ _ ⟨(HB.out.cell (World.block_lt_of_cell? w _ HE0.out)).trans HE0.out, (HB.out.cell (World.block_lt_of_cell? w _ HE1.out)).trans HE1.out, (HB.out.cell (World.block_lt_of_cell? w _ HE2.out)).trans HE2.out⟩ (fun hHeld => ?_)
              clear hK K
              refine norm_ (a' := ?_) ?_ ?_
              rotate_left
              · show Act.put _ (some 54) _ = _
                simp only [Act.put, List.setIfInBounds_toArray, List.set_cons_zero, List.set_cons_succ, i64_w, i32_w]
                rfl
              exact norm_ (by simp only [putAll, Act.put, List.setIfInBounds_toArray, List.set_cons_zero, List.set_cons_succ]) (hCont () _ ⟨by repeat (first | (with_reducible first | exact HI.out | apply IsS59.alloc | apply IsS59.drewN | apply IsS59.drew) | exact HI.out), by repeat (first | (with_reducible first | exact HJ.out | apply IsS43.alloc | apply IsS43.drewN | apply IsS43.drew) | exact HJ.out), by repeat (first | (with_reducible first | exact HB.out | apply below_alloc | apply pw_below_drewN | apply below_drew1) | exact HB.out)⟩)
            · skip
              have hq := cellS43_2 HJ.out.1
              refine value_ (w1 := ?_) (v := ?_) (by rfl) rfl ?_ ?_
              rotate_left 2
              · go_simp
                constructor
                · rfl
                · rfl
              clear hq
              refine hK.out _ _ ⟨(HB.out.cell (World.block_lt_of_cell? w _ HE0.out)).trans HE0.out, (HB.out.cell (World.block_lt_of_cell? w _ HE1.out)).trans HE1.out, (HB.out.cell (World.block_lt_of_cell? w _ HE2.out)).trans HE2.out⟩ (fun hHeld => ?_)
              clear hK K
              refine norm_ (a' := ?_) ?_ ?_
              rotate_left
              · show Act.put _ (some 54) _ = _
                simp only [Act.put, List.setIfInBounds_toArray, List.set_cons_zero, List.set_cons_succ, i64_w, i32_w]
                rfl
              refine one_ (i := 22) (N := some 50) #[true, true, true, true, true, true, true, true, true, true, true, true, true, true, true, true, true, true, true, true, true, true, true, true, true, true, true, false, false] rfl rfl (by kernel_rfl) (by decide) (fun K hK => ?_)
              refine goes_ Try.func33 (by kernel_rfl) rfl #[.pointer (some ⟨g, 0, none⟩)] (by rfl) rfl rfl (by simp only [List.map_toArray, List.map_cons, List.map_nil]; rfl) ?_
              with_reducible refine (code_Reader_Err.calls g t p1 e1 _ _ _ _ w _ (by repeat (first | (with_reducible first | exact HI.out | apply IsS59.alloc | apply IsS59.drewN | apply IsS59.drew) | exact HI.out)) (by repeat (first | (with_reducible first | exact HB.out | apply below_alloc | apply pw_below_drewN | apply below_drew1) | exact HB.out)) rfl).mono ?_
              rintro e11 w11 ⟨rfl, i11, b11, k11⟩
              refine ⟨_, rfl, ?_⟩
              have n0_ := Aside0.mk i11
              have n1_ := Aside0.mk (keep43 (by repeat (first | (with_reducible first | exact HI.out | apply IsS59.alloc | apply IsS59.drewN | apply IsS59.drew) | exact HI.out)) (by repeat (first | (with_reducible first | exact HJ.out | apply IsS43.alloc | apply IsS43.drewN | apply IsS43.drew) | exact HJ.out)) k11)
              have n2_ := Aside0.mk b11
              clear HI HJ HB
              have HI := n0_
              have HJ := n1_
              have HB := n2_
              clear n0_ n1_ n2_
              clear i11 b11 k11
              refine hK.out _ _ ⟨(HB.out.cell (World.block_lt_of_cell? w _ HE0.out)).trans HE0.out, (HB.out.cell (World.block_lt_of_cell? w _ HE1.out)).trans HE1.out, (HB.out.cell (World.block_lt_of_cell? w _ HE2.out)).trans HE2.out⟩ (fun hHeld => ?_)
              clear hK K
              refine norm_ (a' := ?_) ?_ ?_
              rotate_left
              · show Act.put _ (some 50) _ = _
                simp only [Act.put, List.setIfInBounds_toArray, List.set_cons_zero, List.set_cons_succ, i64_w, i32_w]
                rfl
              exact norm_ (by simp only [putAll, Act.put, List.setIfInBounds_toArray, List.set_cons_zero, List.set_cons_succ]) (hCont () _ ⟨by repeat (first | (with_reducible first | exact HI.out | apply IsS59.alloc | apply IsS59.drewN | apply IsS59.drew) | exact HI.out), by repeat (first | (with_reducible first | exact HJ.out | apply IsS43.alloc | apply IsS43.drewN | apply IsS43.drew) | exact HJ.out), by repeat (first | (with_reducible first | exact HB.out | apply below_alloc | apply pw_below_drewN | apply below_drew1) | exact HB.out)⟩)
          rintro ⟨⟩ w22 ⟨i22, j22, b22⟩
          have n0_ := Aside0.mk i22
          have n1_ := Aside0.mk j22
          have n2_ := Aside0.mk b22
          clear HI HJ HB
          have HI := n0_
          have HJ := n1_
          have HB := n2_
          clear n0_ n1_ n2_
          clear i22 j22 b22
          have hHeld : w22.cell? (x.add (i * 3)) = some (.int .i64 kk) ∧ w22.cell? ⟨(x.add (i * 3)).block, (x.add (i * 3)).off + 1, none⟩ = some (.int .i64 N) ∧ w22.cell? ⟨(x.add (i * 3)).block, (x.add (i * 3)).off + 2, none⟩ = some (.int .i64 M) := ⟨(HB.out.cell (World.block_lt_of_cell? w _ HE0.out)).trans HE0.out, (HB.out.cell (World.block_lt_of_cell? w _ HE1.out)).trans HE1.out, (HB.out.cell (World.block_lt_of_cell? w _ HE2.out)).trans HE2.out⟩
          refine norm_ (a' := ?_) ?_ ?_
          rotate_left
          · simp only [putAll, Act.put, List.setIfInBounds_toArray, List.set_cons_zero, List.set_cons_succ]
            rfl
          refine pure_ (i := 27) (N := some 55) (v := ?_) (a' := ?_) #[true, true, true, true, true, true, true, true, true, true, true, true, true, true, true, true, true, true, true, true, true, true, true, true, true, true, true, true, false] rfl rfl (by kernel_rfl) (fun _ _ _ h => h) (Or.inl ⟨by rfl, ?_⟩) ?_ ?_
          rotate_left
          · intro w'
            go_simp
            with_reducible rfl
          rotate_left
          · simp only [Act.put, List.setIfInBounds_toArray, List.set_cons_zero, List.set_cons_succ, i64_w, i32_w]
            rfl
          refine pure_ (i := 28) (N := some 56) (v := ?_) (a' := ?_) #[true, true, true, true, true, true, true, true, true, true, true, true, true, true, true, true, true, true, true, true, true, true, true, true, true, true, true, true, true] rfl rfl (by kernel_rfl) (fun _ _ _ h => h) (Or.inl ⟨by rfl, ?_⟩) ?_ ?_
          rotate_left
          · intro w'
            go_simp
            with_reducible rfl
          rotate_left
          · simp only [Act.put, List.setIfInBounds_toArray, List.set_cons_zero, List.set_cons_succ, i64_w, i32_w]
            rfl
          refine done_ (by kernel_rfl) ?_

          go_wp2_with fail
          go_roundg (len - i)
          case measure => have := HG.out.2; omega
          case rel => exact ⟨i + 1, p1, e1, (by first | rfl | (simp; done) | (simp [*]; done)), ⟨by have := HG.out; omega⟩, ⟨two_mk (by repeat (first | (with_reducible first | exact HI.out | apply IsS59.alloc | apply IsS59.drewN | apply IsS59.drew) | exact HI.out)) (by repeat (first | (with_reducible first | exact HJ.out | apply IsS43.alloc | apply IsS43.drewN | apply IsS43.drew) | exact HJ.out)) (by repeat (first | (with_reducible first | exact HB.out | apply below_alloc | apply pw_below_drewN | apply below_drew1) | exact HB.out))⟩, HP1⟩
        · have c2a : decide ((i : Int) < 60) = false := decide_eq_false (by omega)
          have c2b : decide (i < 60) = false := decide_eq_false c2
          go_wp2_with (first | (go_at_call 23; (with_reducible refine (barquelaw01_awake.calls 60 true _ HAW.out).mono ?_); rintro e9 w9 ⟨rfl, hb⟩; have n0_ := Aside0.mk (below_step (by repeat (first | (with_reducible first | exact HB.out | apply below_alloc | apply pw_below_drewN | apply below_drew1) | exact HB.out)) hb); clear HB; have HB := n0_; clear n0_ hb))
          go_ret
          exact ⟨by first | rfl | (simp; done), by repeat (first | (with_reducible first | exact HB.out | apply below_alloc | apply pw_below_drewN | apply below_drew1) | exact HB.out)⟩
      · have c1a : decide ((i : Int) < (len : Int)) = false := decide_eq_false (by omega)
        have c1b : decide (i < len) = false := decide_eq_false c1
        go_wp2_with (first | (go_at_call 23; (with_reducible refine (barquelaw01_awake.calls 60 true _ HAW.out).mono ?_); rintro e9 w9 ⟨rfl, hb⟩; have n0_ := Aside0.mk (below_step (by repeat (first | (with_reducible first | exact HB.out | apply below_alloc | apply pw_below_drewN | apply below_drew1) | exact HB.out)) hb); clear HB; have HB := n0_; clear n0_ hb))
        go_ret
        exact ⟨by first | rfl | (simp; done), by repeat (first | (with_reducible first | exact HB.out | apply below_alloc | apply pw_below_drewN | apply below_drew1) | exact HB.out)⟩
end Go.Proofs.Ytocjhpjljlcboaa.Q
