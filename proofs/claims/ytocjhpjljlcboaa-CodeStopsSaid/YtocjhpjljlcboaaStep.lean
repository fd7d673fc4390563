/- step: what is asked of two readers, one theorem for each kind of call. -/
import Derived.Test.YtocjhpjljlcboaaQ7
namespace Go.Proofs.Ytocjhpjljlcboaa.Q
open Go.RowKit Go.Proofs.YtocjhpjljlcboaaW.PrintWords Go.Proofs.YtocjhpjljlcboaaW.PrintLast Go.Proofs.YtocjhpjljlcboaaW.PrintMore
set_option linter.unusedVariables false
set_option linter.unusedSimpArgs false
theorem keep43 {w0 w w' : World} {g q : Nat} {s t : ByteArray} {p u e f : Int} (hr : IsS59 w0 w g s p e) (hq : IsS43 w0 w q t u f) (hk : KeepBut w w' g none) : IsS43 w0 w' q t u f :=
  ⟨hk.blk hq.1 (fun hh => by
    have h1 := hr.1
    have h2 := hq.1
    rw [hh, h1] at h2
    injection h2 with h2
    injection h2 with _ h3
    exact absurd h3 (by decide)) (by simp), hq.2⟩
theorem keep59 {w0 w w' : World} {g q : Nat} {s t : ByteArray} {p u e f : Int} (hr : IsS59 w0 w g s p e) (hq : IsS43 w0 w q t u f) (hk : KeepBut w w' q none) : IsS59 w0 w' g s p e :=
  ⟨hk.blk hr.1 (fun hh => by
    have h1 := hr.1
    have h2 := hq.1
    rw [hh, h2] at h1
    injection h1 with h1
    injection h1 with _ h3
    exact absurd h3 (by decide)) (by simp), hr.2⟩
/-- Both readers. -/
def Two (w0 w : World) (g q : Nat) (s : ByteArray) (p : Int) (t : ByteArray) (u : Int) (e : Int) : Prop := IsS59 w0 w g s p e ∧ IsS43 w0 w q t u e ∧ Below w0.heap.size w0 w

set_option maxHeartbeats 8000000 in
set_option maxRecDepth 100000 in
theorem step_0 (k : Nat) (w0 w : World) (g q : Nat) (s t : ByteArray) (p u e N M v p1 u1 e1 : Int) (h : Two w0 w g q s p t u e) (hR : code_Reader_Byte.f s p e = some (v, s, p1, e1)) (hQ : barqueref01_Reader_Byte.f t u e = some (v, t, u1, e1)) :
    Calls Try.prog 43 #[.pointer (some ⟨g, 0, none⟩), .pointer (some ⟨q, 0, none⟩), .agg #[.int .i64 0, .int .i64 N, .int .i64 M]] w fun en w' => en = .returned (.bool true) ∧ Two w0 w' g q s p1 t u1 e1 := by
  have HR := Aside0.mk hR
  have HQ := Aside0.mk hQ
  obtain ⟨hI, hJ, hB⟩ := h
  have HI := Aside0.mk hI
  have HJ := Aside0.mk hJ
  have HB := Aside0.mk hB
  clear hI hJ hB hR hQ
  go_enter Try.func43, Try.ntmps43
  go_wp2_with (first | (go_at_call 34; (with_reducible refine (code_Reader_Byte.calls  g s p e  _ _ _ _ w0 _ (by repeat (first | (with_reducible first | exact HI.out | apply IsS59.alloc | apply IsS59.drewN | apply IsS59.drew) | exact HI.out)) (by repeat (first | (with_reducible first | exact HB.out | apply below_alloc | apply pw_below_drewN | apply below_drew1) | exact HB.out)) HR.out).mono ?_); rintro e7 w7 ⟨rfl, i7, b7, k7⟩; have n0_ := Aside0.mk (keep43 (by repeat (first | (with_reducible first | exact HI.out | apply IsS59.alloc | apply IsS59.drewN | apply IsS59.drew) | exact HI.out)) (by repeat (first | (with_reducible first | exact HJ.out | apply IsS43.alloc | apply IsS43.drewN | apply IsS43.drew) | exact HJ.out)) k7); have n1_ := Aside0.mk i7; have n2_ := Aside0.mk b7; clear HI HJ HB; have HI := n1_; have HJ := n0_; have HB := n2_; clear n0_ n1_ n2_ i7 b7 k7) | (go_at_call 65; (with_reducible refine (barqueref01_Reader_Byte.calls  q t u e  _ _ _ _ w0 _ (by repeat (first | (with_reducible first | exact HJ.out | apply IsS43.alloc | apply IsS43.drewN | apply IsS43.drew) | exact HJ.out)) (by repeat (first | (with_reducible first | exact HB.out | apply below_alloc | apply pw_below_drewN | apply below_drew1) | exact HB.out)) HQ.out).mono ?_); rintro e8 w8 ⟨rfl, i8, b8, k8⟩; have n0_ := Aside0.mk (keep59 (by repeat (first | (with_reducible first | exact HI.out | apply IsS59.alloc | apply IsS59.drewN | apply IsS59.drew) | exact HI.out)) (by repeat (first | (with_reducible first | exact HJ.out | apply IsS43.alloc | apply IsS43.drewN | apply IsS43.drew) | exact HJ.out)) k8); have n1_ := Aside0.mk i8; have n2_ := Aside0.mk b8; clear HI HJ HB; have HI := n0_; have HJ := n1_; have HB := n2_; clear n0_ n1_ n2_ i8 b8 k8))
  go_ret
  exact ⟨by first | rfl | (simp; done), by repeat (first | (with_reducible first | exact HI.out | apply IsS59.alloc | apply IsS59.drewN | apply IsS59.drew) | exact HI.out), by repeat (first | (with_reducible first | exact HJ.out | apply IsS43.alloc | apply IsS43.drewN | apply IsS43.drew) | exact HJ.out), by repeat (first | (with_reducible first | exact HB.out | apply below_alloc | apply pw_below_drewN | apply below_drew1) | exact HB.out)⟩
set_option maxHeartbeats 8000000 in
set_option maxRecDepth 100000 in
theorem step_1 (k : Nat) (w0 w : World) (g q : Nat) (s t : ByteArray) (p u e N M v p1 u1 e1 : Int) (h : Two w0 w g q s p t u e) (hR : code_Reader_Num.f k s p e = some (v, s, p1, e1)) (hQ : barqueref01_Reader_Num.f k t u e = some (v, t, u1, e1)) :
    Calls Try.prog 43 #[.pointer (some ⟨g, 0, none⟩), .pointer (some ⟨q, 0, none⟩), .agg #[.int .i64 1, .int .i64 N, .int .i64 M]] w fun en w' => en = .returned (.bool true) ∧ Two w0 w' g q s p1 t u1 e1 := by
  have HR := Aside0.mk hR
  have HQ := Aside0.mk hQ
  obtain ⟨hI, hJ, hB⟩ := h
  have HI := Aside0.mk hI
  have HJ := Aside0.mk hJ
  have HB := Aside0.mk hB
  clear hI hJ hB hR hQ
  go_enter Try.func43, Try.ntmps43
  go_wp2_with (first | (go_at_call 35; (with_reducible refine (code_Reader_Num.calls k g s p e  _ _ _ _ w0 _ (by repeat (first | (with_reducible first | exact HI.out | apply IsS59.alloc | apply IsS59.drewN | apply IsS59.drew) | exact HI.out)) (by repeat (first | (with_reducible first | exact HB.out | apply below_alloc | apply pw_below_drewN | apply below_drew1) | exact HB.out)) HR.out).mono ?_); rintro e7 w7 ⟨rfl, i7, b7, k7⟩; have n0_ := Aside0.mk (keep43 (by repeat (first | (with_reducible first | exact HI.out | apply IsS59.alloc | apply IsS59.drewN | apply IsS59.drew) | exact HI.out)) (by repeat (first | (with_reducible first | exact HJ.out | apply IsS43.alloc | apply IsS43.drewN | apply IsS43.drew) | exact HJ.out)) k7); have n1_ := Aside0.mk i7; have n2_ := Aside0.mk b7; clear HI HJ HB; have HI := n1_; have HJ := n0_; have HB := n2_; clear n0_ n1_ n2_ i7 b7 k7) | (go_at_call 66; (with_reducible refine (barqueref01_Reader_Num.calls k q t u e  _ _ _ _ w0 _ (by repeat (first | (with_reducible first | exact HJ.out | apply IsS43.alloc | apply IsS43.drewN | apply IsS43.drew) | exact HJ.out)) (by repeat (first | (with_reducible first | exact HB.out | apply below_alloc | apply pw_below_drewN | apply below_drew1) | exact HB.out)) HQ.out).mono ?_); rintro e8 w8 ⟨rfl, i8, b8, k8⟩; have n0_ := Aside0.mk (keep59 (by repeat (first | (with_reducible first | exact HI.out | apply IsS59.alloc | apply IsS59.drewN | apply IsS59.drew) | exact HI.out)) (by repeat (first | (with_reducible first | exact HJ.out | apply IsS43.alloc | apply IsS43.drewN | apply IsS43.drew) | exact HJ.out)) k8); have n1_ := Aside0.mk i8; have n2_ := Aside0.mk b8; clear HI HJ HB; have HI := n0_; have HJ := n1_; have HB := n2_; clear n0_ n1_ n2_ i8 b8 k8))
  go_ret
  exact ⟨by first | rfl | (simp; done), by repeat (first | (with_reducible first | exact HI.out | apply IsS59.alloc | apply IsS59.drewN | apply IsS59.drew) | exact HI.out), by repeat (first | (with_reducible first | exact HJ.out | apply IsS43.alloc | apply IsS43.drewN | apply IsS43.drew) | exact HJ.out), by repeat (first | (with_reducible first | exact HB.out | apply below_alloc | apply pw_below_drewN | apply below_drew1) | exact HB.out)⟩
set_option maxHeartbeats 8000000 in
set_option maxRecDepth 100000 in
theorem step_2 (k : Nat) (w0 w : World) (g q : Nat) (s t : ByteArray) (p u e N M v p1 u1 e1 : Int) (h : Two w0 w g q s p t u e) (hR : code_Reader_Signed.f k s p e = some (v, s, p1, e1)) (hQ : barqueref01_Reader_Signed.f k t u e = some (v, t, u1, e1)) :
    Calls Try.prog 43 #[.pointer (some ⟨g, 0, none⟩), .pointer (some ⟨q, 0, none⟩), .agg #[.int .i64 2, .int .i64 N, .int .i64 M]] w fun en w' => en = .returned (.bool true) ∧ Two w0 w' g q s p1 t u1 e1 := by
  have HR := Aside0.mk hR
  have HQ := Aside0.mk hQ
  obtain ⟨hI, hJ, hB⟩ := h
  have HI := Aside0.mk hI
  have HJ := Aside0.mk hJ
  have HB := Aside0.mk hB
  clear hI hJ hB hR hQ
  go_enter Try.func43, Try.ntmps43
  go_wp2_with (first | (go_at_call 27; (with_reducible refine (code_Reader_Signed.calls k g s p e  _ _ _ _ w0 _ (by repeat (first | (with_reducible first | exact HI.out | apply IsS59.alloc | apply IsS59.drewN | apply IsS59.drew) | exact HI.out)) (by repeat (first | (with_reducible first | exact HB.out | apply below_alloc | apply pw_below_drewN | apply below_drew1) | exact HB.out)) HR.out).mono ?_); rintro e7 w7 ⟨rfl, i7, b7, k7⟩; have n0_ := Aside0.mk (keep43 (by repeat (first | (with_reducible first | exact HI.out | apply IsS59.alloc | apply IsS59.drewN | apply IsS59.drew) | exact HI.out)) (by repeat (first | (with_reducible first | exact HJ.out | apply IsS43.alloc | apply IsS43.drewN | apply IsS43.drew) | exact HJ.out)) k7); have n1_ := Aside0.mk i7; have n2_ := Aside0.mk b7; clear HI HJ HB; have HI := n1_; have HJ := n0_; have HB := n2_; clear n0_ n1_ n2_ i7 b7 k7) | (go_at_call 67; (with_reducible refine (barqueref01_Reader_Signed.calls k q t u e  _ _ _ _ w0 _ (by repeat (first | (with_reducible first | exact HJ.out | apply IsS43.alloc | apply IsS43.drewN | apply IsS43.drew) | exact HJ.out)) (by repeat (first | (with_reducible first | exact HB.out | apply below_alloc | apply pw_below_drewN | apply below_drew1) | exact HB.out)) HQ.out).mono ?_); rintro e8 w8 ⟨rfl, i8, b8, k8⟩; have n0_ := Aside0.mk (keep59 (by repeat (first | (with_reducible first | exact HI.out | apply IsS59.alloc | apply IsS59.drewN | apply IsS59.drew) | exact HI.out)) (by repeat (first | (with_reducible first | exact HJ.out | apply IsS43.alloc | apply IsS43.drewN | apply IsS43.drew) | exact HJ.out)) k8); have n1_ := Aside0.mk i8; have n2_ := Aside0.mk b8; clear HI HJ HB; have HI := n0_; have HJ := n1_; have HB := n2_; clear n0_ n1_ n2_ i8 b8 k8))
  go_ret
  exact ⟨by first | rfl | (simp; done), by repeat (first | (with_reducible first | exact HI.out | apply IsS59.alloc | apply IsS59.drewN | apply IsS59.drew) | exact HI.out), by repeat (first | (with_reducible first | exact HJ.out | apply IsS43.alloc | apply IsS43.drewN | apply IsS43.drew) | exact HJ.out), by repeat (first | (with_reducible first | exact HB.out | apply below_alloc | apply pw_below_drewN | apply below_drew1) | exact HB.out)⟩
end Go.Proofs.Ytocjhpjljlcboaa.Q
