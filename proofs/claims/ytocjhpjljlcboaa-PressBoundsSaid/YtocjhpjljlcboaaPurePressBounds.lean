/- A pressed text is hardly longer than the text. -/
import Derived.Test.YtocjhpjljlcboaaVPressBounds
import Derived.Test.YtocjhpjljlcboaaPLaw
import Derived.Test.YtocjhpjljlcboaaPBound
import Derived.Test.YtocjhpjljlcboaaSums
namespace Go.Proofs.Ytocjhpjljlcboaa.Pure
open Go.RowKit Go.Proofs.Ytocjhpjljlcboaa.Q Go.Proofs.YtocjhpjljlcboaaW.PrintWords Go.Proofs.YtocjhpjljlcboaaW.PrintLast Go.Proofs.Ytocjhpjljlcboaa.Spec
open Go.Proofs.Ytocjhpjljlcboaa.Q.Press
theorem wrap_in (t : ByteArray) (hz : t.size ≤ 20000) : ∃ x : ByteArray, press_Wrap.f t = some (x, 0) ∧ x.size ≤ t.size + 1 := by
  unfold press_Wrap.f
  rw [pressA_in t (by omega), Option.bind_some, if_pos (show (bs (pressL t), (0 : Int)).2 = 0 from rfl)]
  by_cases h : ((bs (pressL t), (0 : Int)).1.size : Int) < (t.size : Int)
  · have h1 : 1 + (bs (pressL t), (0 : Int)).1.size ≤ 9223372036854775807 := by omega
    rw [if_pos h, if_pos h1]
    refine ⟨_, rfl, ?_⟩
    rw [ByteArray.size_append, show (⟨#[90]⟩ : ByteArray).size = 1 from rfl]
    omega
  · rw [if_neg h, if_pos (by omega)]
    refine ⟨_, rfl, ?_⟩
    rw [ByteArray.size_append, show (⟨#[82]⟩ : ByteArray).size = 1 from rfl]
    omega
theorem bound_in (t : ByteArray) (hz : t.size ≤ 20000) : ((bs (pressL t)).size : Int) ≤ wrap64 (wrap64 ((t.size : Int) + wrap64 ((t.size : Int) / 64)) + 6) := by
  have hc := pressL_cost t (by omega)
  rw [sum64 t.size (by omega), bs_size]
  generalize t.size / 64 = q at hc
  omega
theorem PressBounds : barquelaw08_PressBounds.Pure := by
  intro a0 _
  obtain ⟨t, ht, hz⟩ := cut_is a0 20000
  obtain ⟨x, hx, hxz⟩ := wrap_in t hz
  have hb := bound_in t hz
  have hw : (x.size : Int) ≤ wrap64 ((t.size : Int) + 1) := by
    rw [w64 (by omega) (by omega)]
    omega
  unfold barquelaw08_PressBounds.f
  rw [show barquelaw08_cut.f a0 20000 = some t from ht, Option.bind_some, pressA_in t (by omega), Option.bind_some, hx, Option.bind_some, if_pos (show (bs (pressL t), (0 : Int)).2 = 0 from rfl), if_pos (show (x, (0 : Int)).2 = 0 from rfl)]
  rw [if_pos (show ((bs (pressL t), (0 : Int)).1.size : Int) ≤ wrap64 (wrap64 ((t.size : Int) + wrap64 ((t.size : Int) / 64)) + 6) from hb), if_pos (show ((x, (0 : Int)).1.size : Int) ≤ wrap64 ((t.size : Int) + 1) from hw), awake8, Option.bind_some]
end Go.Proofs.Ytocjhpjljlcboaa.Pure
