/- CodeStops: behind its first error a reader reads nothing more. -/
import Derived.Test.YtocjhpjljlcboaaReads
namespace Go.Proofs.Ytocjhpjljlcboaa.Q
open Go.RowKit Go.Proofs.YtocjhpjljlcboaaW.PrintWords Go.Proofs.YtocjhpjljlcboaaW.PrintLast Go.Proofs.YtocjhpjljlcboaaW.PrintMore
set_option linter.unusedVariables false
set_option linter.unusedSimpArgs false
theorem step_err0 (w0 w : World) (g q : Nat) (s t : ByteArray) (e x N M : Int) (h1 : IsS59 w0 w g s 0 e) (h2 : IsS43 w0 w q t 0 e) (h3 : Below w0.heap.size w0 w) (he : e ≠ 0) (hs : Spec.Small s) (ht : Spec.Small t) (hN : N < 9223372036854775808) :
    Calls Try.prog 43 #[.pointer (some ⟨g, 0, none⟩), .pointer (some ⟨q, 0, none⟩), .agg #[.int .i64 x, .int .i64 N, .int .i64 M]] w fun en w' => en = .returned (.bool true) ∧ IsS59 w0 w' g s 0 e ∧ Below w0.heap.size w0 w' :=
  (step_err w0 w g q s t 0 0 e x N M (two_mk h1 h2 h3) he hs ht (Nat.zero_le _) (Nat.zero_le _) hN).mono fun _ _ ⟨a, b⟩ => ⟨a, b.1, b.2.2⟩
set_option maxHeartbeats 8000000 in
set_option maxRecDepth 100000 in
theorem stops_in (a0 : ByteArray) (n : Int) (A : Option Addr) (len cap : Nat) (w : World) (h0 : 0 ≤ n) (h1 : n ≤ (a0.size : Int)) :
    Calls Try.prog 13 #[.string a0, .int .i64 n, .slice A len cap] w fun e w' => e = .returned (.bool true) ∧ Below w.heap.size w w' := by
  have HAW := Aside0.mk (Spec.awake1 60 (by decide))
  have HB := Aside0.mk (Below.refl w.heap.size w)
  have c0 : decide ((0 : Int) ≤ n) = true := decide_eq_true h0
  have c1 : decide (n ≤ (a0.size : Int)) = true := decide_eq_true h1
  clear h0 h1
  go_enter Try.func13, Try.ntmps13
  go_wp2_with (first | (go_at_call 23; (with_reducible refine (barquelaw01_awake.calls 60 true _ HAW.out).mono ?_); rintro e9 w9 ⟨rfl, hb⟩; have n0_ := Aside0.mk (below_step (by repeat (first | (with_reducible first | exact HB.out | apply below_alloc | apply pw_below_drewN | apply below_drew1) | exact HB.out)) hb); clear HB; have HB := n0_; clear n0_ hb))
  go_ret
  exact ⟨by first | rfl | (simp; done), by repeat (first | (with_reducible first | exact HB.out | apply below_alloc | apply pw_below_drewN | apply below_drew1) | exact HB.out)⟩
set_option maxHeartbeats 8000000 in
set_option maxRecDepth 100000 in
theorem stops_neg (a0 : ByteArray) (n : Int) (A : Option Addr) (len cap : Nat) (w : World) (hs : a0.size ≤ 140737488351232) (hn : n < 9223372036854775808) (hO : IsOps w A len) (h0 : n < 0) :
    Calls Try.prog 13 #[.string a0, .int .i64 n, .slice A len cap] w fun e w' => e = .returned (.bool true) ∧ Below w.heap.size w w' := by
  have HO := Aside0.mk hO
  have HAW := Aside0.mk (Spec.awake1 60 (by decide))
  have HB := Aside0.mk (Below.refl w.heap.size w)
  have HS := Aside0.mk (show Spec.Small a0 by unfold Spec.Small; omega)
  have HT := Aside0.mk (show Spec.Small (⟨#[]⟩ : ByteArray) by unfold Spec.Small; decide)
  have hrw : Spec.rRaw a0 0 0 n = (Spec.bs [], 0, 1) := by
    unfold Spec.rRaw
    rw [if_neg (by omega)]
    rw [if_pos h0]
  have HRW := Aside0.mk (show code_Reader_Raw.f a0 0 0 n = some (Spec.bs [], a0, 0, 1) by
    have hq := Spec.codeRRaw a0 0 0 n HS.out (Nat.zero_le _) hn
    rw [hrw] at hq
    exact hq)
  have c0 : decide ((0 : Int) ≤ n) = false := decide_eq_false (by omega)
  clear hO hs hn hrw h0
  go_enter Try.func13, Try.ntmps13
  go_wp2_with (first | (go_at_call 26; (with_reducible refine (code_Read.calls a0 a0 0 0 w _ (by repeat (first | (with_reducible first | exact HB.out | apply below_alloc | apply pw_below_drewN | apply below_drew1) | exact HB.out)) rfl).mono ?_); rintro e7 w7 ⟨g, rfl, i7, b7, _⟩; have HI := Aside0.mk i7; clear HB; have HB := Aside0.mk b7; clear i7 b7) | (go_at_call 36; (with_reducible refine (code_Reader_Raw.calls g a0 0 0 n (Spec.bs []) a0 0 1 w _ (by repeat (first | (with_reducible first | exact HI.out | apply IsS59.alloc | apply IsS59.drewN | apply IsS59.drew) | exact HI.out)) (by repeat (first | (with_reducible first | exact HB.out | apply below_alloc | apply pw_below_drewN | apply below_drew1) | exact HB.out)) HRW.out).mono ?_); rintro e10 w10 ⟨rfl, i10, b10, k10⟩; have n0_ := Aside0.mk i10; have n1_ := Aside0.mk b10; clear HI HB; have HI := n0_; have HB := n1_; clear n0_ n1_ i10 b10 k10) | (go_at_call 33; (with_reducible refine (code_Reader_Err.calls g a0 0 1  _ _ _ _ w _ (by repeat (first | (with_reducible first | exact HI.out | apply IsS59.alloc | apply IsS59.drewN | apply IsS59.drew) | exact HI.out)) (by repeat (first | (with_reducible first | exact HB.out | apply below_alloc | apply pw_below_drewN | apply below_drew1) | exact HB.out)) rfl).mono ?_); rintro e11 w11 ⟨rfl, i11, b11, k11⟩; have n0_ := Aside0.mk i11; have n1_ := Aside0.mk b11; clear HI HB; have HI := n0_; have HB := n1_; clear n0_ n1_ i11 b11 k11) | (go_at_call 32; (with_reducible refine (code_Reader_Left.calls g a0 0 1  _ _ _ _ w _ (by repeat (first | (with_reducible first | exact HI.out | apply IsS59.alloc | apply IsS59.drewN | apply IsS59.drew) | exact HI.out)) (by repeat (first | (with_reducible first | exact HB.out | apply below_alloc | apply pw_below_drewN | apply below_drew1) | exact HB.out)) rfl).mono ?_); rintro e12 w12 ⟨rfl, i12, b12, k12⟩; have n0_ := Aside0.mk i12; have n1_ := Aside0.mk b12; clear HI HB; have HI := n0_; have HB := n1_; clear n0_ n1_ i12 b12 k12))
  go_loopg [10] (len + 1) (fun gq v10 wr => ∃ (i : Nat), v10 = .int .i64 (i : Nat) ∧ Aside0 (i ≤ len ∧ gq + i = len + 1) ∧ Aside0 (IsS59 w wr g a0 0 1) ∧ Aside0 (Below w.heap.size w wr))
  case atStart => exact ⟨0, (by first | rfl | (simp; done)), ⟨by omega⟩, ⟨by repeat (first | (with_reducible first | exact HI.out | apply IsS59.alloc | apply IsS59.drewN | apply IsS59.drew) | exact HI.out)⟩, ⟨by repeat (first | (with_reducible first | exact HB.out | apply below_alloc | apply pw_below_drewN | apply below_drew1) | exact HB.out)⟩⟩
  case round =>
    clear HI HB
    obtain ⟨i, rfl, HG, HI, HB⟩ := hrel
    by_cases c1 : i < len
    · have c1a : decide ((i : Int) < (len : Int)) = true := decide_eq_true (by omega)
      have c1b : decide (i < len) = true := decide_eq_true c1
      by_cases c2 : i < 60
      · have c2a : decide ((i : Int) < 60) = true := decide_eq_true (by omega)
        have c2b : decide (i < 60) = true := decide_eq_true c2
        obtain ⟨x, hx, hel⟩ := HO.out.2 (by omega)
        obtain ⟨kk, N, M, hN, h0, h1, h2⟩ := hel i c1
        subst hx
        have HN := Aside0.mk hN
        have hsp : (x.add (i * 3)).spot = none := by simpa [Addr.add] using World.cell?_spot h0
        have HE0 := Aside0.mk h0
        have HE1 := Aside0.mk (show w.cell? ⟨(x.add (i * 3)).block, (x.add (i * 3)).off + 1, none⟩ = some (.int .i64 N) from h1)
        have HE2 := Aside0.mk (show w.cell? ⟨(x.add (i * 3)).block, (x.add (i * 3)).off + 2, none⟩ = some (.int .i64 M) from h2)
        clear h0 h1 h2 hel hN
        have p200 := eq_true (show (0 : Int) ≤ (i : Int) by omega)
        have q200 := eq_true (show (i : Int) < (len : Int) by omega)
        have HJ := Aside0.mk (IsS43.new w wr ⟨#[]⟩ 0 1 HB.out)
        have HI2 := Aside0.mk (HI.out.alloc (.cells #[.string ⟨#[]⟩, .int .i64 0, .int .i64 1] 43))
        have HB2 := Aside0.mk (below_alloc HB.out (.cells #[.string ⟨#[]⟩, .int .i64 0, .int .i64 1] 43))
        have j0 := (HB2.out.cell (World.block_lt_of_cell? w _ HE0.out)).trans HE0.out
        have j1 := (HB2.out.cell (World.block_lt_of_cell? w _ HE1.out)).trans HE1.out
        have j2 := (HB2.out.cell (World.block_lt_of_cell? w _ HE2.out)).trans HE2.out
        have HNE := Aside0.mk (show (1 : Int) ≠ 0 by decide)
        go_wp2_with fail
        refine (step_err0 w _ g wr.heap.size a0 ⟨#[]⟩ 1 kk N M HI2.out HJ.out HB2.out HNE.out HS.out HT.out HN.out).mono ?_
        rintro e8 w8 ⟨rfl, i8, b8⟩
        clear HI HB HI2 HB2 HJ j0 j1 j2
        have HI := Aside0.mk i8
        have HB := Aside0.mk b8
        clear i8 b8
        go_wp2_with fail
        go_roundg (len - i)
        case measure => have := HG.out.2; omega
        case rel => exact ⟨i + 1, (by first | rfl | (simp; done) | (simp [*]; done)), ⟨by have := HG.out; omega⟩, ⟨by repeat (first | (with_reducible first | exact HI.out | apply IsS59.alloc | apply IsS59.drewN | apply IsS59.drew) | exact HI.out)⟩, ⟨by repeat (first | (with_reducible first | exact HB.out | apply below_alloc | apply pw_below_drewN | apply below_drew1) | exact HB.out)⟩⟩
      · have c2a : decide ((i : Int) < 60) = false := decide_eq_false (by omega)
        have c2b : decide (i < 60) = false := decide_eq_false c2
        go_wp2_with (first | (go_at_call 23; (with_reducible refine (barquelaw01_awake.calls 60 true _ HAW.out).mono ?_); rintro e9 w9 ⟨rfl, hb⟩; have n0_ := Aside0.mk (below_step (by repeat (first | (with_reducible first | exact HB.out | apply below_alloc | apply pw_below_drewN | apply below_drew1) | exact HB.out)) hb); clear HB; have HB := n0_; clear n0_ hb) | (go_at_call 33; (with_reducible refine (code_Reader_Err.calls g a0 0 1  _ _ _ _ w _ (by repeat (first | (with_reducible first | exact HI.out | apply IsS59.alloc | apply IsS59.drewN | apply IsS59.drew) | exact HI.out)) (by repeat (first | (with_reducible first | exact HB.out | apply below_alloc | apply pw_below_drewN | apply below_drew1) | exact HB.out)) rfl).mono ?_); rintro e11 w11 ⟨rfl, i11, b11, k11⟩; have n0_ := Aside0.mk i11; have n1_ := Aside0.mk b11; clear HI HB; have HI := n0_; have HB := n1_; clear n0_ n1_ i11 b11 k11) | (go_at_call 32; (with_reducible refine (code_Reader_Left.calls g a0 0 1  _ _ _ _ w _ (by repeat (first | (with_reducible first | exact HI.out | apply IsS59.alloc | apply IsS59.drewN | apply IsS59.drew) | exact HI.out)) (by repeat (first | (with_reducible first | exact HB.out | apply below_alloc | apply pw_below_drewN | apply below_drew1) | exact HB.out)) rfl).mono ?_); rintro e12 w12 ⟨rfl, i12, b12, k12⟩; have n0_ := Aside0.mk i12; have n1_ := Aside0.mk b12; clear HI HB; have HI := n0_; have HB := n1_; clear n0_ n1_ i12 b12 k12))
        go_ret
        exact ⟨by first | rfl | (simp; done), by repeat (first | (with_reducible first | exact HB.out | apply below_alloc | apply pw_below_drewN | apply below_drew1) | exact HB.out)⟩
    · have c1a : decide ((i : Int) < (len : Int)) = false := decide_eq_false (by omega)
      have c1b : decide (i < len) = false := decide_eq_false c1
      go_wp2_with (first | (go_at_call 23; (with_reducible refine (barquelaw01_awake.calls 60 true _ HAW.out).mono ?_); rintro e9 w9 ⟨rfl, hb⟩; have n0_ := Aside0.mk (below_step (by repeat (first | (with_reducible first | exact HB.out | apply below_alloc | apply pw_below_drewN | apply below_drew1) | exact HB.out)) hb); clear HB; have HB := n0_; clear n0_ hb) | (go_at_call 33; (with_reducible refine (code_Reader_Err.calls g a0 0 1  _ _ _ _ w _ (by repeat (first | (with_reducible first | exact HI.out | apply IsS59.alloc | apply IsS59.drewN | apply IsS59.drew) | exact HI.out)) (by repeat (first | (with_reducible first | exact HB.out | apply below_alloc | apply pw_below_drewN | apply below_drew1) | exact HB.out)) rfl).mono ?_); rintro e11 w11 ⟨rfl, i11, b11, k11⟩; have n0_ := Aside0.mk i11; have n1_ := Aside0.mk b11; clear HI HB; have HI := n0_; have HB := n1_; clear n0_ n1_ i11 b11 k11) | (go_at_call 32; (with_reducible refine (code_Reader_Left.calls g a0 0 1  _ _ _ _ w _ (by repeat (first | (with_reducible first | exact HI.out | apply IsS59.alloc | apply IsS59.drewN | apply IsS59.drew) | exact HI.out)) (by repeat (first | (with_reducible first | exact HB.out | apply below_alloc | apply pw_below_drewN | apply below_drew1) | exact HB.out)) rfl).mono ?_); rintro e12 w12 ⟨rfl, i12, b12, k12⟩; have n0_ := Aside0.mk i12; have n1_ := Aside0.mk b12; clear HI HB; have HI := n0_; have HB := n1_; clear n0_ n1_ i12 b12 k12))
      go_ret
      exact ⟨by first | rfl | (simp; done), by repeat (first | (with_reducible first | exact HB.out | apply below_alloc | apply pw_below_drewN | apply below_drew1) | exact HB.out)⟩
set_option maxHeartbeats 8000000 in
set_option maxRecDepth 100000 in
theorem stops_far (a0 : ByteArray) (n : Int) (A : Option Addr) (len cap : Nat) (w : World) (hs : a0.size ≤ 140737488351232) (hn : n < 9223372036854775808) (hO : IsOps w A len) (h0 : (a0.size : Int) < n) :
    Calls Try.prog 13 #[.string a0, .int .i64 n, .slice A len cap] w fun e w' => e = .returned (.bool true) ∧ Below w.heap.size w w' := by
  have HO := Aside0.mk hO
  have HAW := Aside0.mk (Spec.awake1 60 (by decide))
  have HB := Aside0.mk (Below.refl w.heap.size w)
  have HS := Aside0.mk (show Spec.Small a0 by unfold Spec.Small; omega)
  have HT := Aside0.mk (show Spec.Small (⟨#[]⟩ : ByteArray) by unfold Spec.Small; decide)
  have hrw : Spec.rRaw a0 0 0 n = (Spec.bs [], 0, 3) := by
    unfold Spec.rRaw
    rw [if_neg (by omega)]
    rw [if_neg (by omega), if_pos (by omega)]
  have HRW := Aside0.mk (show code_Reader_Raw.f a0 0 0 n = some (Spec.bs [], a0, 0, 3) by
    have hq := Spec.codeRRaw a0 0 0 n HS.out (Nat.zero_le _) hn
    rw [hrw] at hq
    exact hq)
  have c0 : decide ((0 : Int) ≤ n) = true := decide_eq_true (by omega)
  have c9 : decide (n ≤ (a0.size : Int)) = false := decide_eq_false (by omega)
  clear hO hs hn hrw h0
  go_enter Try.func13, Try.ntmps13
  go_wp2_with (first | (go_at_call 26; (with_reducible refine (code_Read.calls a0 a0 0 0 w _ (by repeat (first | (with_reducible first | exact HB.out | apply below_alloc | apply pw_below_drewN | apply below_drew1) | exact HB.out)) rfl).mono ?_); rintro e7 w7 ⟨g, rfl, i7, b7, _⟩; have HI := Aside0.mk i7; clear HB; have HB := Aside0.mk b7; clear i7 b7) | (go_at_call 36; (with_reducible refine (code_Reader_Raw.calls g a0 0 0 n (Spec.bs []) a0 0 3 w _ (by repeat (first | (with_reducible first | exact HI.out | apply IsS59.alloc | apply IsS59.drewN | apply IsS59.drew) | exact HI.out)) (by repeat (first | (with_reducible first | exact HB.out | apply below_alloc | apply pw_below_drewN | apply below_drew1) | exact HB.out)) HRW.out).mono ?_); rintro e10 w10 ⟨rfl, i10, b10, k10⟩; have n0_ := Aside0.mk i10; have n1_ := Aside0.mk b10; clear HI HB; have HI := n0_; have HB := n1_; clear n0_ n1_ i10 b10 k10) | (go_at_call 33; (with_reducible refine (code_Reader_Err.calls g a0 0 3  _ _ _ _ w _ (by repeat (first | (with_reducible first | exact HI.out | apply IsS59.alloc | apply IsS59.drewN | apply IsS59.drew) | exact HI.out)) (by repeat (first | (with_reducible first | exact HB.out | apply below_alloc | apply pw_below_drewN | apply below_drew1) | exact HB.out)) rfl).mono ?_); rintro e11 w11 ⟨rfl, i11, b11, k11⟩; have n0_ := Aside0.mk i11; have n1_ := Aside0.mk b11; clear HI HB; have HI := n0_; have HB := n1_; clear n0_ n1_ i11 b11 k11) | (go_at_call 32; (with_reducible refine (code_Reader_Left.calls g a0 0 3  _ _ _ _ w _ (by repeat (first | (with_reducible first | exact HI.out | apply IsS59.alloc | apply IsS59.drewN | apply IsS59.drew) | exact HI.out)) (by repeat (first | (with_reducible first | exact HB.out | apply below_alloc | apply pw_below_drewN | apply below_drew1) | exact HB.out)) rfl).mono ?_); rintro e12 w12 ⟨rfl, i12, b12, k12⟩; have n0_ := Aside0.mk i12; have n1_ := Aside0.mk b12; clear HI HB; have HI := n0_; have HB := n1_; clear n0_ n1_ i12 b12 k12))
  go_loopg [10] (len + 1) (fun gq v10 wr => ∃ (i : Nat), v10 = .int .i64 (i : Nat) ∧ Aside0 (i ≤ len ∧ gq + i = len + 1) ∧ Aside0 (IsS59 w wr g a0 0 3) ∧ Aside0 (Below w.heap.size w wr))
  case atStart => exact ⟨0, (by first | rfl | (simp; done)), ⟨by omega⟩, ⟨by repeat (first | (with_reducible first | exact HI.out | apply IsS59.alloc | apply IsS59.drewN | apply IsS59.drew) | exact HI.out)⟩, ⟨by repeat (first | (with_reducible first | exact HB.out | apply below_alloc | apply pw_below_drewN | apply below_drew1) | exact HB.out)⟩⟩
  case round =>
    clear HI HB
    obtain ⟨i, rfl, HG, HI, HB⟩ := hrel
    by_cases c1 : i < len
    · have c1a : decide ((i : Int) < (len : Int)) = true := decide_eq_true (by omega)
      have c1b : decide (i < len) = true := decide_eq_true c1
      by_cases c2 : i < 60
      · have c2a : decide ((i : Int) < 60) = true := decide_eq_true (by omega)
        have c2b : decide (i < 60) = true := decide_eq_true c2
        obtain ⟨x, hx, hel⟩ := HO.out.2 (by omega)
        obtain ⟨kk, N, M, hN, h0, h1, h2⟩ := hel i c1
        subst hx
        have HN := Aside0.mk hN
        have hsp : (x.add (i * 3)).spot = none := by simpa [Addr.add] using World.cell?_spot h0
        have HE0 := Aside0.mk h0
        have HE1 := Aside0.mk (show w.cell? ⟨(x.add (i * 3)).block, (x.add (i * 3)).off + 1, none⟩ = some (.int .i64 N) from h1)
        have HE2 := Aside0.mk (show w.cell? ⟨(x.add (i * 3)).block, (x.add (i * 3)).off + 2, none⟩ = some (.int .i64 M) from h2)
        clear h0 h1 h2 hel hN
        have p200 := eq_true (show (0 : Int) ≤ (i : Int) by omega)
        have q200 := eq_true (show (i : Int) < (len : Int) by omega)
        have HJ := Aside0.mk (IsS43.new w wr ⟨#[]⟩ 0 3 HB.out)
        have HI2 := Aside0.mk (HI.out.alloc (.cells #[.string ⟨#[]⟩, .int .i64 0, .int .i64 3] 43))
        have HB2 := Aside0.mk (below_alloc HB.out (.cells #[.string ⟨#[]⟩, .int .i64 0, .int .i64 3] 43))
        have j0 := (HB2.out.cell (World.block_lt_of_cell? w _ HE0.out)).trans HE0.out
        have j1 := (HB2.out.cell (World.block_lt_of_cell? w _ HE1.out)).trans HE1.out
        have j2 := (HB2.out.cell (World.block_lt_of_cell? w _ HE2.out)).trans HE2.out
        have HNE := Aside0.mk (show (3 : Int) ≠ 0 by decide)
        go_wp2_with fail
        refine (step_err0 w _ g wr.heap.size a0 ⟨#[]⟩ 3 kk N M HI2.out HJ.out HB2.out HNE.out HS.out HT.out HN.out).mono ?_
        rintro e8 w8 ⟨rfl, i8, b8⟩
        clear HI HB HI2 HB2 HJ j0 j1 j2
        have HI := Aside0.mk i8
        have HB := Aside0.mk b8
        clear i8 b8
        go_wp2_with fail
        go_roundg (len - i)
        case measure => have := HG.out.2; omega
        case rel => exact ⟨i + 1, (by first | rfl | (simp; done) | (simp [*]; done)), ⟨by have := HG.out; omega⟩, ⟨by repeat (first | (with_reducible first | exact HI.out | apply IsS59.alloc | apply IsS59.drewN | apply IsS59.drew) | exact HI.out)⟩, ⟨by repeat (first | (with_reducible first | exact HB.out | apply below_alloc | apply pw_below_drewN | apply below_drew1) | exact HB.out)⟩⟩
      · have c2a : decide ((i : Int) < 60) = false := decide_eq_false (by omega)
        have c2b : decide (i < 60) = false := decide_eq_false c2
        go_wp2_with (first | (go_at_call 23; (with_reducible refine (barquelaw01_awake.calls 60 true _ HAW.out).mono ?_); rintro e9 w9 ⟨rfl, hb⟩; have n0_ := Aside0.mk (below_step (by repeat (first | (with_reducible first | exact HB.out | apply below_alloc | apply pw_below_drewN | apply below_drew1) | exact HB.out)) hb); clear HB; have HB := n0_; clear n0_ hb) | (go_at_call 33; (with_reducible refine (code_Reader_Err.calls g a0 0 3  _ _ _ _ w _ (by repeat (first | (with_reducible first | exact HI.out | apply IsS59.alloc | apply IsS59.drewN | apply IsS59.drew) | exact HI.out)) (by repeat (first | (with_reducible first | exact HB.out | apply below_alloc | apply pw_below_drewN | apply below_drew1) | exact HB.out)) rfl).mono ?_); rintro e11 w11 ⟨rfl, i11, b11, k11⟩; have n0_ := Aside0.mk i11; have n1_ := Aside0.mk b11; clear HI HB; have HI := n0_; have HB := n1_; clear n0_ n1_ i11 b11 k11) | (go_at_call 32; (with_reducible refine (code_Reader_Left.calls g a0 0 3  _ _ _ _ w _ (by repeat (first | (with_reducible first | exact HI.out | apply IsS59.alloc | apply IsS59.drewN | apply IsS59.drew) | exact HI.out)) (by repeat (first | (with_reducible first | exact HB.out | apply below_alloc | apply pw_below_drewN | apply below_drew1) | exact HB.out)) rfl).mono ?_); rintro e12 w12 ⟨rfl, i12, b12, k12⟩; have n0_ := Aside0.mk i12; have n1_ := Aside0.mk b12; clear HI HB; have HI := n0_; have HB := n1_; clear n0_ n1_ i12 b12 k12))
        go_ret
        exact ⟨by first | rfl | (simp; done), by repeat (first | (with_reducible first | exact HB.out | apply below_alloc | apply pw_below_drewN | apply below_drew1) | exact HB.out)⟩
    · have c1a : decide ((i : Int) < (len : Int)) = false := decide_eq_false (by omega)
      have c1b : decide (i < len) = false := decide_eq_false c1
      go_wp2_with (first | (go_at_call 23; (with_reducible refine (barquelaw01_awake.calls 60 true _ HAW.out).mono ?_); rintro e9 w9 ⟨rfl, hb⟩; have n0_ := Aside0.mk (below_step (by repeat (first | (with_reducible first | exact HB.out | apply below_alloc | apply pw_below_drewN | apply below_drew1) | exact HB.out)) hb); clear HB; have HB := n0_; clear n0_ hb) | (go_at_call 33; (with_reducible refine (code_Reader_Err.calls g a0 0 3  _ _ _ _ w _ (by repeat (first | (with_reducible first | exact HI.out | apply IsS59.alloc | apply IsS59.drewN | apply IsS59.drew) | exact HI.out)) (by repeat (first | (with_reducible first | exact HB.out | apply below_alloc | apply pw_below_drewN | apply below_drew1) | exact HB.out)) rfl).mono ?_); rintro e11 w11 ⟨rfl, i11, b11, k11⟩; have n0_ := Aside0.mk i11; have n1_ := Aside0.mk b11; clear HI HB; have HI := n0_; have HB := n1_; clear n0_ n1_ i11 b11 k11) | (go_at_call 32; (with_reducible refine (code_Reader_Left.calls g a0 0 3  _ _ _ _ w _ (by repeat (first | (with_reducible first | exact HI.out | apply IsS59.alloc | apply IsS59.drewN | apply IsS59.drew) | exact HI.out)) (by repeat (first | (with_reducible first | exact HB.out | apply below_alloc | apply pw_below_drewN | apply below_drew1) | exact HB.out)) rfl).mono ?_); rintro e12 w12 ⟨rfl, i12, b12, k12⟩; have n0_ := Aside0.mk i12; have n1_ := Aside0.mk b12; clear HI HB; have HI := n0_; have HB := n1_; clear n0_ n1_ i12 b12 k12))
      go_ret
      exact ⟨by first | rfl | (simp; done), by repeat (first | (with_reducible first | exact HB.out | apply below_alloc | apply pw_below_drewN | apply below_drew1) | exact HB.out)⟩
theorem stops_calls (a0 : ByteArray) (n : Int) (A : Option Addr) (len cap : Nat) (w : World) (hs : a0.size ≤ 140737488351232) (hn : n < 9223372036854775808) (hO : IsOps w A len) :
    Calls Try.prog 13 #[.string a0, .int .i64 n, .slice A len cap] w fun e w' => e = .returned (.bool true) ∧ Below w.heap.size w w' := by
  by_cases h0 : n < 0
  · exact stops_neg a0 n A len cap w hs hn hO h0
  · by_cases h1 : (a0.size : Int) < n
    · exact stops_far a0 n A len cap w hs hn hO h1
    · exact stops_in a0 n A len cap w (by omega) (by omega)
end Go.Proofs.Ytocjhpjljlcboaa.Q
