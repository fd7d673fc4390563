/- A slice of Ops among a law's arguments. -/
import Derived.Test.YtocjhpjljlcboaaQ7
import Derived.SliceStrings
import Derived.Deep.Strs
namespace Go.Proofs.Ytocjhpjljlcboaa.Q
open Go.RowKit Go.Proofs.YtocjhpjljlcboaaW.PrintWords Go.Proofs.YtocjhpjljlcboaaW.PrintLast Go.Proofs.YtocjhpjljlcboaaW.PrintMore
open Go.ChangeShapes Go.WideShapes
/-- Each element is a call: three whole numbers, one behind the other. -/
def IsOps (w : World) (a : Option Addr) (len : Nat) : Prop :=
  len ≤ maxLen ∧ (0 < len → ∃ x, a = some x ∧ ∀ i, i < len → ∃ k N M : Int, N < 9223372036854775808 ∧ w.cell? (x.add (i * 3)) = some (.int .i64 k) ∧ w.cell? ((x.add (i * 3)).add 1) = some (.int .i64 N) ∧ w.cell? ((x.add (i * 3)).add 2) = some (.int .i64 M))
theorem IsOps.open_ {H : Type} {enc : TypeId × Value → H} {w : World} {base : Nat} {held : Bool} {a : Option Addr} {len cap : Nat} {d : DataW H} {ps : List MemPlace}
    (h : DataW.Trod enc Try.prog w base (fun _ => true) held 40 (.slice a len cap) d ps) : IsOps w a len := by
  obtain ⟨fuel, hf⟩ := h
  rcases DataW.trod_slice Try.underlying40 hf with ⟨hcs, _⟩ | ⟨x, l, c, elems, rest, n, _, hcs, _, hb, hl, hm, hlen, hel, _, _⟩
  · simp [Value.cells] at hcs
    obtain ⟨rfl, rfl, rfl⟩ := hcs
    exact ⟨Nat.zero_le _, fun h => absurd h (by decide)⟩
  · simp [Value.cells] at hcs
    obtain ⟨rfl, rfl, rfl⟩ := hcs
    refine ⟨by omega, fun _ => ⟨x, rfl, fun i hi => ?_⟩⟩
    have hc : Try.prog.cellsOf 46 = 3 := by kernel_rfl
    have hc3 : Try.prog.cellsOf 3 = 1 := by kernel_rfl
    have he := hel i hi
    rw [List.getElem?_eq_getElem (by omega), hc, Option.bind_eq_some_iff] at he
    obtain ⟨cs, hcs, hy⟩ := he
    obtain ⟨y0, y1, y2, m, _, hz, h0, h1, h2⟩ := Go.Deep.trod_struct3 Try.underlying46 hy
    simp only [hc3] at h0 h1 h2
    obtain ⟨k, e0, _, _⟩ := DataW.trod_int Try.underlying3 h0
    obtain ⟨N, e1, _, w1⟩ := DataW.trod_int Try.underlying3 h1
    obtain ⟨M, e2, _, _⟩ := DataW.trod_int Try.underlying3 h2
    obtain ⟨_, hl3, hcell⟩ := World.cells?_some hcs
    have hN : N < 9223372036854775808 := by
      have := w1
      simp [Lit.wf] at this
      omega
    match cs, hl3 with
    | [c0, c1, c2], _ =>
      have f0 : c0 = .int .i64 k := by simpa using e0
      have f1 : c1 = .int .i64 N := by simpa using e1
      have f2 : c2 = .int .i64 M := by simpa using e2
      subst f0 f1 f2
      refine ⟨k, N, M, hN, ?_, ?_, ?_⟩
      · have := hcell 0 (by omega)
        rw [Go.Deep.add_add] at this
        exact this
      · exact hcell 1 (by omega)
      · exact hcell 2 (by omega)
end Go.Proofs.Ytocjhpjljlcboaa.Q
