/- Press's closures (num, plain) and what it has in memory. -/
import Derived.Test.YtocjhpjljlcboaaLongest
import Derived.Test.YtocjhpjljlcboaaNums
import Derived.Laws.Tables
import Derived.Laws.EntriesVeiled
namespace Go.Proofs.Ytocjhpjljlcboaa.Q
open Go.RowKit Go.Proofs.YtocjhpjljlcboaaW.PrintWords Go.Proofs.YtocjhpjljlcboaaW.PrintLast Go.Proofs.YtocjhpjljlcboaaW.PrintMore
set_option linter.unusedVariables false
set_option linter.unusedSimpArgs false
open Go.Proofs.Ytocjhpjljlcboaa.Lay Go.Proofs.Ytocjhpjljlcboaa.Spec
namespace Press
theorem others_below {b : Option Nat} {w w' : World} (h : Below w.heap.size w w') : Lib.OthersKept 5 b w w' := fun k o hk _ _ => (h.block k (blk_lt hk)).trans hk
set_option maxHeartbeats 4000000 in
set_option maxRecDepth 100000 in
theorem num_any (w : World) (B b : Nat) (l : List UInt8) (n : Nat) (hH : Holds B b l w) (hn : n < 4611686018427387904) (hl : l.length ≤ 100000000) (hB : B ≤ w.heap.size) :
    Calls Try.prog 58 #[.int .i64 (n : Nat), .pointer (some ⟨b, 0, none⟩)] w fun e w' => e = .returned (.tuple #[]) ∧ Holds B b (l ++ numL n) w' ∧ Below B w w' ∧ Lib.OthersKept 5 (some b) w w' := by
  have HH := Aside0.mk hH
  have HN := Aside0.mk (codeNum_in 20 n hn (by decide))
  clear hH
  go_enter Try.func58, Try.ntmps58
  go_wp2_with fail
  refine (code_Num.calls 20 (n : Nat) _ _ _ HN.out).mono ?_
  rintro e w1 ⟨rfl, hb⟩
  have H1 := Aside0.mk (HH.out.below hb)
  have hz : B ≤ w1.heap.size := Nat.le_trans hB hb.size
  have HB1 := Aside0.mk hb
  clear hb HN
  go_wp2_with fail
  have h9 := numL_le n
  refine (Lay.write B b l (bs (numL n)) _ H1.out (by rw [bs_size]; omega) hz).mono ?_
  rintro e w2 ⟨rfl, h2, hb2, ho2⟩
  have H2 := Aside0.mk h2
  have HB2 := Aside0.mk hb2
  have HO2 := Aside0.mk ho2
  clear h2 hb2 ho2
  go_wp2
  go_end0
  refine ⟨rfl, H2.out, ?_, (others_below HB1.out).trans HO2.out⟩
  exact (HB1.out.mono hB).trans HB2.out


/-- What Press has in memory: the text's box, the builder, the closures' variables, the finder. -/
structure St (B : Nat) (w : World) (b S N R F P : Nat) (s : ByteArray) (sl : Nat → Nat) (d fr : Nat) (l : List UInt8) : Prop where
  holds : Holds B b l w
  hS : w.heap[S]? = some (.cells #[.string s] 9 (0, 0))
  hN : w.heap[N]? = some (.cells #[.func (.func 58) #[] #[.pointer (some ⟨b, 0, none⟩)]] 69 (0, 0))
  hR : w.heap[R]? = some (.cells #[.int .i64 (fr : Nat)] 3 (0, 0))
  fin : Fin w F P s sl d
  fp : F ≠ P
  rp : R ≠ P
  geB : B ≤ b
  geR : B ≤ R
  geF : B ≤ F
  geP : B ≤ P
  size : B ≤ w.heap.size
theorem kept_ne {w : World} {g g' : Nat} {t t' : TypeId} {cs cs' : Array Value} {fz fz' : Nat × Nat} (h : w.heap[g]? = some (.cells cs t fz)) (h' : w.heap[g']? = some (.cells cs' t' fz')) (hne : t ≠ t') : g ≠ g' := by
  rintro rfl
  rw [h] at h'
  injection h' with h'
  injection h' with _ ht
  exact hne ht
theorem atF_kept {B b : Nat} {p : Value} {bs : List Value} {w w' : World} {F P : Nat} {cs ds : Array Value} (h : Lib.BuilderAtF 64 5 B b p bs w) (k : Only F P w w')
    (hF : w.heap[F]? = some (.cells cs 73 (0, 0))) (hP : w.heap[P]? = some (.cells ds 3 (0, 0))) : Lib.BuilderAtF 64 5 B b p bs w' := by
  obtain ⟨h1, v, h2, h3, h4⟩ := h
  refine ⟨h1, v, (k.block b (kept_ne h2 hF (by decide)) (kept_ne h2 hP (by decide)) (blk_lt h2)).trans h2, ?_, h4⟩
  obtain ⟨h5, h6⟩ := h3
  refine ⟨h5, ?_⟩
  rcases h6 with h6 | ⟨g, cap, cur, fz, e, hg, hh, r⟩
  · exact .inl h6
  · exact .inr ⟨g, cap, cur, fz, e, hg, (k.block g (kept_ne hh hF (by decide)) (kept_ne hh hP (by decide)) (blk_lt hh)).trans hh, r⟩
section
variable {B : Nat} {w w' : World} {b S N R F P : Nat} {s : ByteArray} {sl : Nat → Nat} {d d' fr : Nat} {l l' : List UInt8}
theorem St.drewN (h : St B w b S N R F P s sl d fr l) (n : Nat) : St B (w.drewN n) b S N R F P s sl d fr l := ⟨h.holds, h.hS, h.hN, h.hR, ⟨h.fin.ex⟩, h.fp, h.rp, h.geB, h.geR, h.geF, h.geP, h.size⟩
theorem St.drew (h : St B w b S N R F P s sl d fr l) : St B w.drew b S N R F P s sl d fr l := ⟨h.holds, h.hS, h.hN, h.hR, ⟨h.fin.ex⟩, h.fp, h.rp, h.geB, h.geR, h.geF, h.geP, h.size⟩
/-- The finder has turned. -/
theorem St.only (h : St B w b S N R F P s sl d fr l) (k : Only F P w w') (hf : Fin w' F P s sl d') : St B w' b S N R F P s sl d' fr l := by
  obtain ⟨cs, ds, hF, hP, _⟩ := h.fin.ex
  refine ⟨?_, ?_, ?_, ?_, hf, h.fp, h.rp, h.geB, h.geR, h.geF, h.geP, Nat.le_trans h.size k.size⟩
  · rcases h.holds with hh | hh
    · exact .inl (atF_kept hh k hF hP)
    · exact .inr (atF_kept hh k hF hP)
  · exact (k.block S (kept_ne h.hS hF (by decide)) (kept_ne h.hS hP (by decide)) (blk_lt h.hS)).trans h.hS
  · exact (k.block N (kept_ne h.hN hF (by decide)) (kept_ne h.hN hP (by decide)) (blk_lt h.hN)).trans h.hN
  · exact (k.block R (kept_ne h.hR hF (by decide)) h.rp (blk_lt h.hR)).trans h.hR
/-- The builder has been written. -/
theorem St.wrote (h : St B w b S N R F P s sl d fr l) (hh : Holds B b l' w') (k : Lib.OthersKept 5 (some b) w w') (hz : B ≤ w'.heap.size) : St B w' b S N R F P s sl d fr l' := by
  have hb : ∃ v p, w.heap[b]? = some (.cells #[p, v] 64 (0, 0)) := by
    rcases h.holds with ⟨_, v, h2, _⟩ | ⟨_, v, h2, _⟩
    · exact ⟨_, _, h2⟩
    · exact ⟨_, _, h2⟩
  obtain ⟨v, p, hb⟩ := hb
  have keep : ∀ (g : Nat) (cs : Array Value) (t : TypeId), w.heap[g]? = some (.cells cs t (0, 0)) → t ≠ 64 → t ≠ 5 → w'.heap[g]? = some (.cells cs t (0, 0)) := by
    intro g cs t hg h1 h2
    refine k g _ hg (fun e => ?_) (fun c fz e => ?_)
    · injection e with e
      exact kept_ne hg hb h1 e
    · injection e with _ e
      exact h2 e
  obtain ⟨cs, ds, hF, hP, r⟩ := h.fin.ex
  exact ⟨hh, keep S _ _ h.hS (by decide) (by decide), keep N _ _ h.hN (by decide) (by decide), keep R _ _ h.hR (by decide) (by decide), ⟨cs, ds, keep F _ _ hF (by decide) (by decide), keep P _ _ hP (by decide) (by decide), r⟩, h.fp, h.rp, h.geB, h.geR, h.geF, h.geP, hz⟩
/-- 'from' has been set. -/
theorem St.from_ (h : St B w b S N R F P s sl d fr l) (x : Nat) : St B (w.setCell ⟨R, 0, none⟩ (.int .i64 (x : Nat))) b S N R F P s sl d x l := by
  obtain ⟨cs, ds, hF, hP, r⟩ := h.fin.ex
  have hz : (w.setCell ⟨R, 0, none⟩ (.int .i64 (x : Nat))).heap.size = w.heap.size := by simp [World.setCell]
  have far : ∀ (g : Nat) (o : Obj), w.heap[g]? = some o → g ≠ R → (w.setCell ⟨R, 0, none⟩ (.int .i64 (x : Nat))).heap[g]? = some o := fun g o hg hne => (Below.heap_setCell w ⟨R, 0, none⟩ _ g hne).trans hg
  have at_ : ∀ (p : Value) (bs : List Value), Lib.BuilderAtF 64 5 B b p bs w → Lib.BuilderAtF 64 5 B b p bs (w.setCell ⟨R, 0, none⟩ (.int .i64 (x : Nat))) := by
    rintro p bs ⟨h1, v, h2, h3, h4⟩
    refine ⟨h1, v, far _ _ h2 (kept_ne h2 h.hR (by decide)), ?_, h4⟩
    obtain ⟨h5, h6⟩ := h3
    refine ⟨h5, ?_⟩
    rcases h6 with h6 | ⟨g, cap, cur, fz, e, hg, hh, r⟩
    · exact .inl h6
    · exact .inr ⟨g, cap, cur, fz, e, hg, far _ _ hh (kept_ne hh h.hR (by decide)), r⟩
  refine ⟨?_, far _ _ h.hS (kept_ne h.hS h.hR (by decide)), far _ _ h.hN (kept_ne h.hN h.hR (by decide)), ?_, ⟨cs, ds, far _ _ hF (kept_ne hF h.hR (by decide)), far _ _ hP (Ne.symm h.rp), r⟩, h.fp, h.rp, h.geB, h.geR, h.geF, h.geP, by rw [hz]; exact h.size⟩
  · rcases h.holds with hh | hh
    · exact .inl (at_ _ _ hh)
    · exact .inr (at_ _ _ hh)
  · have := blk_set h.hR 0 (.int .i64 (x : Nat))
    simpa using this
end
theorem Below.of_only {B F P : Nat} {w0 w w' : World} (h : Below B w0 w) (k : Only F P w w') (hF : B ≤ F) (hP : B ≤ P) (hB : B ≤ w.heap.size) : Below B w0 w' :=
  h.trans ⟨k.os, k.tape, k.output, k.size, fun i hi => k.block i (by omega) (by omega) (by omega)⟩
/-- What was gathered, from one place to another. -/
def plainL (s : ByteArray) (fr upt : Nat) : List UInt8 := if fr < upt then numL (2 * (upt - fr)) ++ (s.extract fr upt).data.toList else []
set_option maxHeartbeats 4000000 in
set_option maxRecDepth 100000 in
theorem plain_any (w : World) (B b S N R F P : Nat) (s : ByteArray) (sl : Nat → Nat) (d fr upt : Nat) (l : List UInt8) (h : St B w b S N R F P s sl d fr l) (hs : s.size ≤ 1048576) (hto : upt ≤ s.size) (hfr : fr ≤ 2000000) (hl : l.length ≤ 90000000) :
    Calls Try.prog 60 #[.int .i64 (upt : Nat), .pointer (some ⟨R, 0, none⟩), .pointer (some ⟨N, 0, none⟩), .pointer (some ⟨b, 0, none⟩), .pointer (some ⟨S, 0, none⟩)] w fun e w' => e = .returned (.tuple #[]) ∧ St B w' b S N R F P s sl d fr (l ++ plainL s fr upt) ∧ Below B w w' := by
  have HS := Aside0.mk h
  have hcR : w.cell? ⟨R, 0, none⟩ = some (.int .i64 (fr : Nat)) := (blk_cell h.hR 0).trans rfl
  by_cases hlt : fr < upt
  · have h1 : decide ((fr : Int) < (upt : Int)) = true := decide_eq_true (by omega)
    have h1' : decide (fr < upt) = true := decide_eq_true hlt
    have hcN : w.cell? ⟨N, 0, none⟩ = some (.func (.func 58) #[] #[.pointer (some ⟨b, 0, none⟩)]) := (blk_cell h.hN 0).trans rfl
    have e1 : (2 : Int) * ((upt : Int) - (fr : Int)) = ((2 * (upt - fr) : Nat) : Int) := by omega
    have E1 := Aside0.mk e1
    clear h e1
    go_enter Try.func60, Try.ntmps60
    go_wp2_with fail
    rw [E1.out]
    refine (num_any w B b l (2 * (upt - fr)) HS.out.holds (by omega) (by omega) HS.out.size).mono ?_
    rintro e w1 ⟨rfl, hh, hb, ho⟩
    have hz1 : B ≤ w1.heap.size := Nat.le_trans HS.out.size hb.size
    have H1 := Aside0.mk (HS.out.wrote hh ho hz1)
    have HB1 := Aside0.mk hb
    clear hh hb ho hcR hcN HS
    have hcR : w1.cell? ⟨R, 0, none⟩ = some (.int .i64 (fr : Nat)) := (blk_cell H1.out.hR 0).trans rfl
    have hcS : w1.cell? ⟨S, 0, none⟩ = some (.string s) := (blk_cell H1.out.hS 0).trans rfl
    have h9 := numL_le (2 * (upt - fr))
    have hbb : (fr : Int) ≤ (upt : Int) := by omega
    have hbc : (upt : Int) ≤ (s.size : Int) := by omega
    go_wp2_with fail
    refine (Lay.write B b (l ++ numL (2 * (upt - fr))) (s.extract fr upt) _ H1.out.holds (by rw [List.length_append, ByteArray.size_extract]; omega) hz1).mono ?_
    rintro e w2 ⟨rfl, hh, hb, ho⟩
    have H2 := Aside0.mk (H1.out.wrote hh ho (Nat.le_trans hz1 hb.size))
    have HB2 := Aside0.mk (HB1.out.trans hb)
    clear hh hb ho hcR hcS H1 HB1
    go_wp2
    go_end0
    refine ⟨rfl, ?_, HB2.out⟩
    unfold plainL
    rw [if_pos hlt, ← List.append_assoc]
    exact H2.out
  · have h1 : decide ((fr : Int) < (upt : Int)) = false := decide_eq_false (by omega)
    have h1' : decide (fr < upt) = false := decide_eq_false hlt
    clear h
    go_enter Try.func60, Try.ntmps60
    go_wp2
    go_end0
    refine ⟨rfl, ?_, Below.refl _ _⟩
    unfold plainL
    rw [if_neg hlt, List.append_nil]
    exact HS.out
end Press
end Go.Proofs.Ytocjhpjljlcboaa.Q
