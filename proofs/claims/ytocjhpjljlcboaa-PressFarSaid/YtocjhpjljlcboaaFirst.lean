/- The first append behind '[]byte("..")' of a constant: the row is full, so a new one is laid. -/
import Derived.Test.YtocjhpjljlcboaaQ4
import Derived.Lib.FrozenHead2
import Derived.Lib.SlBytesConst
namespace Go
section
variable {P : Program} {ops : Array Oper} {rest : List Oper} {o : Oper} {a : Act} {Q : Exit → Act → World → Prop}
theorem wpList_append_full {w : World} (hgd : o.guard = none) (s x : Operand) (t : TypeId)
    (ho : o.op = .call { callee := .builtin .append, args := #[s, x], argTypes := #[t, t] })
    (base : Nat) (e : TypeId) (i : TypeInfo) (z : Value) (bytes : Nat) (ht : P.underlying t = some (.slice e)) (hi : P.info? e = some i) (hz : i.zero = some z)
    (hsize : i.size = 1) (hby : i.bytes = bytes) (hzs : z.cells.size = 1)
    (g n : Nat) (xs : List Value) (hs : a.eval s = .slice (some ⟨g, 0, none⟩) n n) (hl : xs.length = n) (holds : ∀ j u, xs[j]? = some u → w.cell? ((⟨g, 0, none⟩ : Addr).add j) = some u)
    (ad : Addr) (y : Value) (hx : a.eval x = .slice (some ad) 1 1) (hnews : ∀ j u, [y][j]? = some u → w.cell? (ad.add j) = some u)
    (h63 : n + 1 ≤ maxLen) (hbytes : (n + 1) * bytes ≤ 140737488355328) (hbase : base ≤ w.heap.size)
    (h : ∀ v' w', w'.ownsRow base e 1 v' (n + 1) (xs ++ [y]) → w.grownBy w' none → wpList P ops Q rest (a.put o.dst v') w') : wpList P ops Q (o :: rest) a w := by
  refine wpList_plain hgd fun K hK => ?_
  subst hby
  have hr := run_append_grow (P := P) w t o.type e i z ht hi hz ⟨g, 0, none⟩ n n xs (by rw [hsize, hl]; omega) holds ad 1 1 [y] (by rw [hsize]; rfl) hnews (by omega) (by simp only [maxLen] at h63; omega) (growslice_fits (by omega) hbytes)
  have hge := grownCap_ge w (n + 1) n e
  have hcm2 : grownCap w (n + 1) n e ≤ maxLen := grownCap_le_maxLen w (n + 1) n e h63
  unfold Oper.wp execOp
  simp only [ho, resolve, invoke, builtin, Sem.run_bind, Sem.run_pure, Result.andThen_ok, List.map_toArray, List.map_cons, List.map_nil, hs, hx, hr]
  refine hK _ _ (h _ _ ⟨by simp [hl], .inr ⟨w.heap.size, _, _, rfl, hbase, heap_alloc_new w.drew _, hge, hcm2, ?_, ?_⟩⟩ ⟨rfl, rfl, rfl, by simp, fun k hk _ => heap_alloc_old w.drew _ hk⟩)
  · simp only [Array.size_append, List.size_toArray, size_zeroCells, hzs, hl, List.length_singleton]
    omega
  · simp only [Array.toList_append, List.append_assoc]
    rw [← List.append_assoc, show (n + 1) * 1 = (xs ++ [y]).length by simp [hl]]
    exact List.take_left
end
end Go
namespace Go.Proofs.Ytocjhpjljlcboaa.Q
open Go.RowKit Go.Proofs.YtocjhpjljlcboaaW.PrintWords Go.Proofs.YtocjhpjljlcboaaW.PrintLast Go.Proofs.YtocjhpjljlcboaaW.PrintMore
section
variable {P : Program} {ops : Array Oper} {rest : List Oper} {o : Oper} {a : Act} {Q : Exit → Act → World → Prop}
theorem append_first {w0 W : World} (base : Nat) (hgd : o.guard = none) (s x : Operand) (t e : TypeId)
    (ho : o.op = .call { callee := .builtin .append, args := #[s, x], argTypes := #[t, t] })
    (ht : P.underlying t = some (.slice e)) (hinfo : (P.info? e).map (fun i => (i.zero, i.size, i.bytes)) = some (some (.int .u8 0), 1, 1))
    (g : Nat) (xs : List Int) (y : Int) (fz : Nat × Nat) (hs : a.eval s = .slice (some ⟨g, 0, none⟩) xs.length xs.length) (hx : a.eval x = .slice (some ⟨W.heap.size, 0, none⟩) 1 1)
    (hg : W.heap[g]? = some (.cells (encs (Value.int .u8) xs).toArray e fz)) (HB : Below base w0 W) (hbase : base ≤ W.heap.size) (hl : xs.length ≤ 1000)
    (h : ∀ v1 w1, Kd.R (Kd.int .u8) e w1 base (fun _ => True) v1 (xs ++ [y]) → Below base w0 w1 → wpList P ops Q rest (a.put o.dst v1) w1) :
    wpList P ops Q (o :: rest) a (W.alloc (.cells #[.int .u8 y] e)) := by
  obtain ⟨i0, hi, hzz⟩ := Option.map_eq_some_iff.1 hinfo
  simp only [Prod.mk.injEq] at hzz
  obtain ⟨hz0, hz1, hz2⟩ := hzz
  have hlt : g < W.heap.size := (Array.getElem?_eq_some_iff.1 hg).1
  have hg' : (W.alloc (.cells #[.int .u8 y] e)).heap[g]? = some (.cells (encs (Value.int .u8) xs).toArray e fz) := (heap_alloc_old W _ hlt).trans hg
  have hlen : (encs (Value.int .u8) xs).length = xs.length := by simp [encs]
  refine wpList_append_full hgd s x t ho base e i0 (.int .u8 0) 1 ht hi hz0 hz1 hz2 rfl g xs.length (encs (Value.int .u8) xs) hs hlen ?_ ⟨W.heap.size, 0, none⟩ (.int .u8 y) hx ?_ ?_ ?_ ?_ ?_
  · intro j u hj
    exact World.news_of_block hg' j u (by simpa using hj)
  · intro j u hj
    exact World.news_of_block (heap_alloc_new W (.cells #[.int .u8 y] e)) j u (by simpa using hj)
  · have : 1001 ≤ maxLen := by decide
    omega
  · omega
  · simp
    omega
  · intro v1 w1 hown hgr
    refine h v1 w1 ?_ ((HB.alloc hbase _).grown hgr (by simp; omega) (by simp))
    refine Kd.R_of_own (h1 := fun _ => rfl) ?_ (fun _ _ => trivial)
    have e1 : encs (Value.int .u8) (xs ++ [y]) = encs (Value.int .u8) xs ++ [.int .u8 y] := by simp [encs]
    rw [e1, show (xs ++ [y]).length = xs.length + 1 by simp]
    exact hown
end
end Go.Proofs.Ytocjhpjljlcboaa.Q
