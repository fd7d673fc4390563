/- Press, walked: its bytes are the length's, and the copies and what was gathered between them. -/
import Derived.Test.YtocjhpjljlcboaaGather
namespace Go.Proofs.Ytocjhpjljlcboaa.Q
open Go.RowKit Go.Proofs.YtocjhpjljlcboaaW.PrintWords Go.Proofs.YtocjhpjljlcboaaW.PrintLast Go.Proofs.YtocjhpjljlcboaaW.PrintMore
set_option linter.unusedVariables false
set_option linter.unusedSimpArgs false
open Go.Proofs.Ytocjhpjljlcboaa.Lay Go.Proofs.Ytocjhpjljlcboaa.Spec
namespace Press
/-- The finder's cells when it is made. -/
def cellsN (m : Nat) (s : ByteArray) (P n : Nat) : List Value := .string s :: (List.replicate m (.int .i64 0) ++ [.slice (some ⟨P, 0, none⟩) n n, .int .i64 0])
def fin0 (s : ByteArray) (P n : Nat) : Array Value := (cellsN 4096 s P n).toArray
theorem fin0_built (s : ByteArray) (P n : Nat) : Try.prog.built 73 [(0, .string s), (2, .slice (some ⟨P, 0, none⟩) n n)] = some (fin0 s P n) := by kernel_rfl
theorem fin0_zero (s : ByteArray) (P n : Nat) : (Try.zeroCells73.setIfInBounds 0 (.string s)).setIfInBounds 4097 (.slice (some ⟨P, 0, none⟩) n n) = fin0 s P n := by kernel_rfl
theorem fin0_run (s : ByteArray) (P n : Nat) (W : World) : (Instr.build 73 #[(0, .string s), (2, .slice (some ⟨P, 0, none⟩) n n)]).run Try.prog W = .ok (.agg (fin0 s P n)) W := run_build W 73 _ _ (fin0_built s P n)
theorem cellsN_length (m : Nat) (s : ByteArray) (P n : Nat) : (cellsN m s P n).length = m + 3 := by simp [cellsN]
theorem cellsN_head (m : Nat) (s : ByteArray) (P n i : Nat) (h : i < m) : (cellsN m s P n)[1 + i]? = some (.int .i64 0) := by
  unfold cellsN
  rw [Nat.add_comm, List.getElem?_cons_succ, List.getElem?_append_left (by rw [List.length_replicate]; exact h), List.getElem?_replicate, if_pos h]
theorem cellsN_row (m : Nat) (s : ByteArray) (P n : Nat) : (cellsN m s P n)[m + 1]? = some (.slice (some ⟨P, 0, none⟩) n n) := by
  unfold cellsN
  rw [List.getElem?_cons_succ, List.getElem?_append_right (by rw [List.length_replicate]; exact Nat.le_refl _), List.length_replicate, Nat.sub_self]
  rfl
theorem cellsN_done (m : Nat) (s : ByteArray) (P n : Nat) : (cellsN m s P n)[m + 2]? = some (.int .i64 0) := by
  unfold cellsN
  rw [List.getElem?_cons_succ, List.getElem?_append_right (by rw [List.length_replicate]; omega), List.length_replicate, show m + 1 - m = 1 by omega]
  rfl
theorem fin0_size (s : ByteArray) (P n : Nat) : (fin0 s P n).size = 4099 := by
  unfold fin0
  rw [List.size_toArray, cellsN_length]
/-- A new finder. -/
theorem Fin.new {w : World} {F P : Nat} {s : ByteArray} {sl : Nat → Nat} {ds : Array Value} (hF : w.heap[F]? = some (.cells (fin0 s P s.size) 73 (0, 0))) (hP : w.heap[P]? = some (.cells ds 3 (0, 0))) (hd : ds.size = s.size) : Fin w F P s sl 0 := by
  refine ⟨_, ds, hF, hP, fin0_size _ _ _, hd, ?_, ?_, ?_, ?_, ?_⟩
  · unfold fin0
    rw [List.getElem?_toArray]
    rfl
  · intro i hi
    unfold fin0
    rw [List.getElem?_toArray, cellsN_head 4096 s P s.size i hi]
    rfl
  · unfold fin0
    rw [List.getElem?_toArray]
    exact cellsN_row 4096 s P s.size
  · unfold fin0
    rw [List.getElem?_toArray]
    exact cellsN_done 4096 s P s.size
  · intro i hi
    omega
/-- The copies and what was gathered between them, from a place on. -/
def toks (fd : Nat → Nat × Nat) (s : ByteArray) : Nat → Nat → Nat → List UInt8
  | 0, _, _ => []
  | k + 1, a, fr => if a < s.size then (if (fd a).2 = 0 then toks fd s k (a + 1) fr else plainL s fr a ++ (numL (2 * ((fd a).2 - 4) + 1) ++ (numL ((fd a).1 - 1) ++ toks fd s k (a + (fd a).2) (a + (fd a).2)))) else plainL s fr s.size
/-- The longest copy at each place: none, or one of 4 to 259 bytes, 1 to a bytes back. -/
def Finds (s : ByteArray) (sl : Nat → Nat) (al : Nat → Nat → Nat) (fd : Nat → Nat × Nat) : Prop :=
  ∀ a, a ≤ s.size → (if a + 4 ≤ s.size then Alike s (al a) a ∧ found sl (al a) a = fd a else fd a = (0, 0)) ∧ (fd a = (0, 0) ∨ 4 ≤ (fd a).2 ∧ (fd a).2 ≤ 259 ∧ 1 ≤ (fd a).1 ∧ (fd a).1 ≤ a)
set_option maxHeartbeats 4000000 in
set_option maxRecDepth 100000 in
theorem longest_all (B : Nat) (w : World) (b S N R F P : Nat) (s : ByteArray) (sl : Nat → Nat) (al : Nat → Nat → Nat) (fd : Nat → Nat × Nat) (d fr a : Nat) (l : List UInt8) (h : St B w b S N R F P s sl d fr l) (hS : Slots s sl) (hfd : Finds s sl al fd) (hda : d ≤ a) (ha : a ≤ s.size) (hs : s.size ≤ 1048576) :
    Calls Try.prog 61 #[.pointer (some ⟨F, 0, none⟩), .int .i64 (a : Nat)] w fun e w' => e = .returned (.tuple #[.int .i64 ((fd a).1 : Nat), .int .i64 ((fd a).2 : Nat)]) ∧ (∃ d', d' ≤ a ∧ St B w' b S N R F P s sl d' fr l) ∧ Below B w w' := by
  obtain ⟨h1, h2⟩ := hfd a ha
  by_cases h4 : a + 4 ≤ s.size
  · rw [if_pos h4] at h1
    refine (longest_any w F P s sl (al a) d a h.fin hS h1.1 hda h4 hs h.fp).mono ?_
    rintro e w' ⟨hf, hF, hO⟩
    unfold Found at hf
    rw [h1.2] at hf
    exact ⟨hf, ⟨a, Nat.le_refl _, h.only hO hF⟩, Below.of_only (Below.refl B w) hO h.geF h.geP h.size⟩
  · rw [if_neg h4] at h1
    refine (longest_short w F P s sl d a h.fin (by omega) (by omega) hs).mono ?_
    rintro e w' ⟨rfl, rfl⟩
    rw [h1]
    exact ⟨rfl, ⟨d, hda, h⟩, Below.refl _ _⟩
theorem Holds.weaken {B B' b : Nat} {l : List UInt8} {w : World} (h : Holds B b l w) (hB : B' ≤ B) : Holds B' b l w := by
  have at_ : ∀ (p : Value) (bs : List Value), Lib.BuilderAtF 64 5 B b p bs w → Lib.BuilderAtF 64 5 B' b p bs w := by
    rintro p bs ⟨h1, v, h2, h3, h4⟩
    refine ⟨Nat.le_trans hB h1, v, h2, ?_, h4⟩
    obtain ⟨h5, h6⟩ := h3
    refine ⟨h5, ?_⟩
    rcases h6 with h6 | ⟨g, cap, cur, fz, e, hg, hh, r⟩
    · exact .inl h6
    · exact .inr ⟨g, cap, cur, fz, e, Nat.le_trans hB hg, hh, r⟩
  rcases h with h | h
  · exact .inl (at_ _ _ h)
  · exact .inr (at_ _ _ h)
set_option maxHeartbeats 4000000 in
set_option maxRecDepth 100000 in
theorem press_long (w : World) (s : ByteArray) (hs : 1048576 < s.size) :
    Calls Try.prog 39 #[.string s] w fun e w' => e = .returned (.tuple #[.string ⟨#[]⟩, .int .i64 4]) ∧ Below w.heap.size w w' := by
  have h1 : decide (1048576 < (s.size : Int)) = true := decide_eq_true (by omega)
  have h2 : decide (1048576 < s.size) = true := decide_eq_true (by omega)
  go_enter Try.func39, Try.ntmps39
  go_wp2
  go_ret2
  exact ⟨rfl, (Below.refl _ _).alloc (Nat.le_refl _) _⟩
def Rl (fd : Nat → Nat × Nat) (s : ByteArray) (tot : List UInt8) (g a fr d : Nat) (l : List UInt8) : Prop :=
  l ++ toks fd s g a fr = tot ∧ s.size + 2 ≤ g + a ∧ 1 ≤ g ∧ d ≤ a ∧ fr ≤ a ∧ a ≤ s.size + 259 ∧ l.length ≤ 20 * fr + 9
theorem plainL_le (s : ByteArray) (fr a : Nat) : (plainL s fr a).length ≤ 9 + (a - fr) := by
  unfold plainL
  split
  · have := numL_le (2 * (a - fr))
    rw [List.length_append]
    have h2 : (s.extract fr a).size ≤ a - fr := by rw [ByteArray.size_extract]; omega
    have h3 : (s.extract fr a).data.toList.length = (s.extract fr a).size := by
      rw [Array.length_toList]
      rfl
    omega
  · simp
set_option maxHeartbeats 8000000 in
set_option maxRecDepth 100000 in
theorem press_any (w : World) (s : ByteArray) (sl : Nat → Nat) (al : Nat → Nat → Nat) (fd : Nat → Nat × Nat) (hS : Slots s sl) (hfd : Finds s sl al fd) (hs : s.size ≤ 1048576) :
    Calls Try.prog 39 #[.string s] w fun e w' => e = .returned (.tuple #[.string (bs (numL s.size ++ toks fd s (s.size + 2) 0 0)), .int .i64 0]) ∧ Below w.heap.size w w' := by
  have HSL := Aside0.mk hS
  have HFD := Aside0.mk hfd
  clear hS hfd
  have h1 : decide (1048576 < (s.size : Int)) = false := decide_eq_false (by omega)
  have h2 : decide (1048576 < s.size) = false := decide_eq_false (by omega)
  have HF0 := Aside0.mk ((Holds.weaken (Lay.Holds.fresh (w.alloc (.cells #[.string s] 9))) (B' := w.heap.size) (by simp only [World.size_alloc]; omega)).alloc (.cells #[.func (.func 58) #[] #[.pointer (some ⟨w.heap.size + 1, 0, none⟩)]] 69))
  rw [World.size_alloc] at HF0
  have HB0 := Aside0.mk ((((Below.refl w.heap.size w).alloc (Nat.le_refl _) (.cells #[.string s] 9)).alloc (by simp only [World.size_alloc]; omega) (.cells #[.pointer none, .slice none 0 0] 64)).alloc (by simp only [World.size_alloc]; omega) (.cells #[.func (.func 58) #[] #[.pointer (some ⟨w.heap.size + 1, 0, none⟩)]] 69))
  go_enter Try.func39, Try.ntmps39
  go_wp2_with fail
  refine (num_any _ w.heap.size (w.heap.size + 1) [] s.size HF0.out (by omega) (by decide) HB0.out.size).mono ?_
  rintro e w1 ⟨rfl, hh, hb, ho⟩
  rw [List.nil_append] at hh
  have HH1 := Aside0.mk hh
  have HB1 := Aside0.mk (HB0.out.trans hb)
  have hS0 : (((w.alloc (.cells #[.string s] 9)).alloc (.cells #[.pointer none, .slice none 0 0] 64)).alloc (.cells #[.func (.func 58) #[] #[.pointer (some ⟨w.heap.size + 1, 0, none⟩)]] 69)).heap[w.heap.size]? = some (.cells #[.string s] 9 (0, 0)) := blk_alloc (blk_alloc (blk_new _ _) _) _
  have hN0 : (((w.alloc (.cells #[.string s] 9)).alloc (.cells #[.pointer none, .slice none 0 0] 64)).alloc (.cells #[.func (.func 58) #[] #[.pointer (some ⟨w.heap.size + 1, 0, none⟩)]] 69)).heap[w.heap.size + 1 + 1]? = some (.cells #[.func (.func 58) #[] #[.pointer (some ⟨w.heap.size + 1, 0, none⟩)]] 69 (0, 0)) := by
    have := blk_new ((w.alloc (.cells #[.string s] 9)).alloc (.cells #[.pointer none, .slice none 0 0] 64)) (.cells #[.func (.func 58) #[] #[.pointer (some ⟨w.heap.size + 1, 0, none⟩)]] 69)
    simpa only [World.size_alloc] using this
  have HS1 := Aside0.mk (ho _ _ hS0 (by intro e; injection e with e; omega) (by intro c fz e; injection e with _ e; exact absurd e (by decide)))
  have HN1 := Aside0.mk (ho _ _ hN0 (by intro e; injection e with e; omega) (by intro c fz e; injection e with _ e; exact absurd e (by decide)))
  clear hh hb ho hS0 hN0 HF0 HB0
  have hcS : w1.cell? ⟨w.heap.size, 0, none⟩ = some (.string s) := (blk_cell HS1.out 0).trans rfl
  have hcS2 : ∀ o : Obj, (w1.alloc o).cell? ⟨w.heap.size, 0, none⟩ = some (.string s) := fun o => (blk_cell (blk_alloc HS1.out o) 0).trans rfl
  have hmk := print_make 34 3 .i64 8 Try.underlying34 info3 (by decide) s.size (by omega)
  go_wp2
  go_region
  go_wp2_with fail
  rw [fin0_zero]
  have HST : Aside0 (St w.heap.size (((w1.alloc (.cells (madeCells #[.int .i64 0] s.size) 3)).alloc (.cells (fin0 s w1.heap.size s.size) 73)).alloc (.cells #[.int .i64 0] 3)).drew (w.heap.size + 1) w.heap.size (w.heap.size + 1 + 1) (w1.heap.size + 1 + 1) (w1.heap.size + 1) w1.heap.size s sl 0 0 (numL s.size)) := by
    have hz := HB1.out.size
    refine ⟨St.drew ⟨((HH1.out.alloc _).alloc _).alloc _, blk_alloc (blk_alloc (blk_alloc HS1.out _) _) _, blk_alloc (blk_alloc (blk_alloc HN1.out _) _) _, ?_, ?_, by omega, by omega, by omega, by omega, by omega, hz, by simp only [World.size_alloc]; omega⟩⟩
    · have := blk_new ((w1.alloc (.cells (madeCells #[.int .i64 0] s.size) 3)).alloc (.cells (fin0 s w1.heap.size s.size) 73)) (.cells #[.int .i64 0] 3)
      simp only [World.size_alloc] at this
      exact this
    · refine Fin.new (ds := madeCells #[.int .i64 0] s.size) ?_ (blk_alloc (blk_alloc (blk_new _ _) _) _) ?_
      · have := blk_alloc (blk_new (w1.alloc (.cells (madeCells #[.int .i64 0] s.size) 3)) (.cells (fin0 s w1.heap.size s.size) 73)) (.cells #[.int .i64 0] 3)
        simpa only [World.size_alloc] using this
      · simp [madeCells]
  have HBW := Aside0.mk ((((HB1.out.alloc HB1.out.size (.cells (madeCells #[.int .i64 0] s.size) 3)).alloc (by simp only [World.size_alloc]; have := HB1.out.size; omega) (.cells (fin0 s w1.heap.size s.size) 73)).alloc (by simp only [World.size_alloc]; have := HB1.out.size; omega) (.cells #[.int .i64 0] 3)).drew)
  obtain ⟨tot, htot⟩ : ∃ tot, tot = numL s.size ++ toks fd s (s.size + 2) 0 0 := ⟨_, rfl⟩
  have HTOT := Aside0.mk htot
  clear htot
  have HZ1 := Aside0.mk (show w.heap.size ≤ w1.heap.size from HB1.out.size)
  clear HH1 HB1 HS1 HN1 hcS hcS2 hmk
  go_loopg [9] (s.size + 2) (fun g v9 wr => ∃ a fr d : Nat, ∃ l : List UInt8, v9 = .int .i64 (a : Nat) ∧ Aside0 (Rl fd s tot g a fr d l) ∧ Aside0 (St w.heap.size wr (w.heap.size + 1) w.heap.size (w.heap.size + 1 + 1) (w1.heap.size + 1 + 1) (w1.heap.size + 1) w1.heap.size s sl d fr l) ∧ Aside0 (Below w.heap.size w wr))
  case atStart => exact ⟨0, 0, 0, numL s.size, rfl, ⟨HTOT.out.symm, by omega, by omega, by omega, by omega, by omega, numL_le _⟩, HST, HBW⟩
  case round =>
    clear HST HBW
    obtain ⟨a, fr, d, l, rfl, HR, HS, HB⟩ := hrel
    have hcS : wr.cell? ⟨w.heap.size, 0, none⟩ = some (.string s) := (blk_cell HS.out.hS 0).trans rfl
    have hda := HR.out.2.2.2.1
    have hfa := HR.out.2.2.2.2.1
    have has := HR.out.2.2.2.2.2.1
    have hll := HR.out.2.2.2.2.2.2
    by_cases hlt : a < s.size
    · have h3 : decide ((a : Int) < (s.size : Int)) = true := decide_eq_true (by omega)
      have h4 : decide (a < s.size) = true := decide_eq_true hlt
      have hL := fun W h => longest_all w.heap.size W (w.heap.size + 1) w.heap.size (w.heap.size + 1 + 1) (w1.heap.size + 1 + 1) (w1.heap.size + 1) w1.heap.size s sl al fd d fr a l h HSL.out HFD.out hda (Nat.le_of_lt hlt) hs
      have hg := (HFD.out a (Nat.le_of_lt hlt)).2
      obtain ⟨bk, z, hbz⟩ : ∃ bk z, fd a = (bk, z) := ⟨_, _, rfl⟩
      rw [hbz] at hL hg
      simp only at hL hg
      obtain ⟨k, rfl⟩ : ∃ k, gk = k + 1 := ⟨gk - 1, by have := HR.out.2.2.1; omega⟩
      have hto := HR.out.1
      simp only [toks] at hto
      rw [if_pos hlt, hbz] at hto
      simp only at hto
      have HBZ := Aside0.mk hbz
      have HTO := Aside0.mk hto
      have HL := Aside0.mk hL
      have HGE := Aside0.mk HR.out.2.1
      clear hbz hto hL
      go_wp2_with fail
      refine (HL.out _ HS.out).mono ?_
      rintro e w2 ⟨rfl, hSt, hb⟩
      obtain ⟨d', hd', hSt⟩ := hSt
      have HS2 := Aside0.mk hSt
      have HB2 := Aside0.mk (HB.out.trans hb)
      clear hSt hb HS HB hcS HL hda
      by_cases hz0 : z = 0
      · have hz1 : ((z : Int) == 0) = true := beq_iff_eq.2 (by omega)
        have hz2 : ((z : Int) != 0) = false := bne_eq_false_iff_eq.2 (by omega)
        have hto2 := HTO.out
        rw [if_pos hz0] at hto2
        have HTO2 := Aside0.mk hto2
        clear hto2 HTO hz0 hg
        go_wp2
        go_roundg k
        case measure => omega
        case rel => exact ⟨a + 1, fr, d', l, by go_num, ⟨HTO2.out, by have := HGE.out; omega, by have := HGE.out; omega, by omega, by omega, by omega, hll⟩, HS2, HB2⟩
      · have hz1 : ((z : Int) == 0) = false := beq_eq_false_iff_ne.2 (by omega)
        have hz2 : ((z : Int) != 0) = true := bne_iff_ne.2 (by omega)
        have hg2 : 4 ≤ z ∧ z ≤ 259 ∧ 1 ≤ bk ∧ bk ≤ a := by
          rcases hg with hg | hg
          · injection hg with _ hg
            exact absurd hg hz0
          · exact hg
        obtain ⟨hz4, hz5, hb1, hb2⟩ := hg2
        have hto2 := HTO.out
        rw [if_neg hz0] at hto2
        have HTO2 := Aside0.mk hto2
        have e1 : (2 : Int) * ((z : Int) - 4) + 1 = ((2 * (z - 4) + 1 : Nat) : Int) := by omega
        have e2 : (bk : Int) - 1 = ((bk - 1 : Nat) : Int) := by omega
        have E1 := Aside0.mk e1
        have E2 := Aside0.mk e2
        clear hto2 HTO hz0 hg e1 e2
        go_wp2_with fail
        refine (plain_any _ w.heap.size (w.heap.size + 1) w.heap.size (w.heap.size + 1 + 1) (w1.heap.size + 1 + 1) (w1.heap.size + 1) w1.heap.size s sl d' fr a l HS2.out hs (Nat.le_of_lt hlt) (by omega) (by omega)).mono ?_
        rintro e w3 ⟨rfl, hSt, hb⟩
        have HS3 := Aside0.mk hSt
        have HB3 := Aside0.mk (HB2.out.trans hb)
        clear hSt hb HS2 HB2
        have hpl := plainL_le s fr a
        have hcN : w3.cell? ⟨w.heap.size + 1 + 1, 0, none⟩ = some (.func (.func 58) #[] #[.pointer (some ⟨w.heap.size + 1, 0, none⟩)]) := (blk_cell HS3.out.hN 0).trans rfl
        go_wp2_with fail
        rw [E1.out]
        refine (num_any _ w.heap.size (w.heap.size + 1) (l ++ plainL s fr a) (2 * (z - 4) + 1) HS3.out.holds (by omega) (by rw [List.length_append]; omega) HS3.out.size).mono ?_
        rintro e w4 ⟨rfl, hh, hb, ho⟩
        have HS4 := Aside0.mk (HS3.out.wrote hh ho (Nat.le_trans HS3.out.size hb.size))
        have HB4 := Aside0.mk (HB3.out.trans hb)
        clear hh hb ho HS3 HB3 hcN
        have hcN : w4.cell? ⟨w.heap.size + 1 + 1, 0, none⟩ = some (.func (.func 58) #[] #[.pointer (some ⟨w.heap.size + 1, 0, none⟩)]) := (blk_cell HS4.out.hN 0).trans rfl
        have h9 := numL_le (2 * (z - 4) + 1)
        go_wp2_with fail
        rw [E2.out]
        refine (num_any _ w.heap.size (w.heap.size + 1) (l ++ plainL s fr a ++ numL (2 * (z - 4) + 1)) (bk - 1) HS4.out.holds (by omega) (by rw [List.length_append, List.length_append]; omega) HS4.out.size).mono ?_
        rintro e w5 ⟨rfl, hh, hb, ho⟩
        have HS5 := Aside0.mk (HS4.out.wrote hh ho (Nat.le_trans HS4.out.size hb.size))
        have HB5 := Aside0.mk (HB4.out.trans hb)
        clear hh hb ho HS4 HB4 hcN
        have hcR : w5.cell? ⟨w1.heap.size + 1 + 1, 0, none⟩ = some (.int .i64 (fr : Nat)) := (blk_cell HS5.out.hR 0).trans rfl
        have hfR : w5.frozen? ⟨w1.heap.size + 1 + 1, 0, none⟩ = false := blk_frozen HS5.out.hR 0
        have h99 := numL_le (bk - 1)
        go_wp2
        go_roundg k
        case measure => omega
        case rel =>
          refine ⟨a + z, a + z, d', l ++ plainL s fr a ++ numL (2 * (z - 4) + 1) ++ numL (bk - 1), by go_num, ⟨?_, by have := HGE.out; omega, by have := HGE.out; omega, by omega, Nat.le_refl _, by omega, ?_⟩, ⟨?_⟩, ⟨?_⟩⟩
          · have := HTO2.out
            simp only [List.append_assoc] at this ⊢
            exact this
          · simp only [List.length_append]
            omega
          · have := HS5.out.from_ (a + z)
            exact this
          · exact HB5.out.setCell (by have := HZ1.out; simp only; omega) _
    · have h3 : decide ((a : Int) < (s.size : Int)) = false := decide_eq_false (by omega)
      have h4 : decide (a < s.size) = false := decide_eq_false hlt
      obtain ⟨k, rfl⟩ : ∃ k, gk = k + 1 := ⟨gk - 1, by have := HR.out.2.2.1; omega⟩
      have hto := HR.out.1
      simp only [toks] at hto
      rw [if_neg hlt] at hto
      have HTO := Aside0.mk hto
      clear hto hda
      go_wp2_with fail
      refine (plain_any _ w.heap.size (w.heap.size + 1) w.heap.size (w.heap.size + 1 + 1) (w1.heap.size + 1 + 1) (w1.heap.size + 1) w1.heap.size s sl d fr s.size l HS.out hs (Nat.le_refl _) (by omega) (by omega)).mono ?_
      rintro e w3 ⟨rfl, hSt, hb⟩
      have HS3 := Aside0.mk hSt
      have HB3 := Aside0.mk (HB.out.trans hb)
      clear hSt hb HS HB hcS
      go_wp2_with fail
      refine (Lay.tell w.heap.size (w.heap.size + 1) (l ++ plainL s fr s.size) _ HS3.out.holds HS3.out.size).mono ?_
      rintro e w4 ⟨rfl, hb⟩
      have HB4 := Aside0.mk (HB3.out.trans hb)
      rw [HTO.out]
      clear hb HB3 HS3
      go_wp2
      go_ret2
      exact ⟨by rw [← HTOT.out]; rfl, HB4.out⟩
end Press
end Go.Proofs.Ytocjhpjljlcboaa.Q
