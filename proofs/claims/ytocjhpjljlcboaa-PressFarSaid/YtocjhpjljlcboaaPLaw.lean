/- What chapter 8's laws share: the cut, the first example, and what wraps. -/
import Derived.Test.YtocjhpjljlcboaaPressF
import Derived.Test.YtocjhpjljlcboaaMade
import Derived.Test.YtocjhpjljlcboaaQ11
namespace Go.Proofs.Ytocjhpjljlcboaa.Q
open Go.RowKit Go.Proofs.YtocjhpjljlcboaaW.PrintWords Go.Proofs.YtocjhpjljlcboaaW.PrintLast Go.Proofs.YtocjhpjljlcboaaW.PrintMore
open Go.Proofs.Ytocjhpjljlcboaa.Lay Go.Proofs.Ytocjhpjljlcboaa.Spec
namespace Press
theorem cut_is (s : ByteArray) (n : Nat) : ∃ t : ByteArray, barquelaw08_cut.f s (n : Int) = some t ∧ t.size ≤ n := by
  unfold barquelaw08_cut.f
  by_cases h : n < s.size
  · rw [if_pos (by omega), if_pos (by omega), if_pos (by omega)]
    refine ⟨_, rfl, ?_⟩
    rw [ByteArray.size_extract]
    omega
  · rw [if_neg (by omega)]
    exact ⟨s, rfl, by omega⟩
def nine : ByteArray := ⟨#[97, 97, 97, 97, 97, 97, 97, 97, 97]⟩
theorem pressL_nine : pressL nine = [9, 2, 97, 9, 0] := by decide +kernel
theorem awake8 : barquelaw08_awake.f = some true := by
  unfold barquelaw08_awake.f press_Press.f
  have h : pressA (⟨#[97, 97, 97, 97, 97, 97, 97, 97, 97]⟩ : ByteArray) = (bs [9, 2, 97, 9, 0], 0) := by
    unfold pressA
    rw [if_pos (by decide), show pressL (⟨#[97, 97, 97, 97, 97, 97, 97, 97, 97]⟩ : ByteArray) = [9, 2, 97, 9, 0] from pressL_nine]
  rw [h]
  simp only [Option.bind_some]
  rw [if_pos (bs_toList _)]
  rfl
theorem pressA_in (s : ByteArray) (h : s.size ≤ 1048576) : press_Press.f s = some (bs (pressL s), 0) := by
  unfold press_Press.f pressA
  rw [if_pos h]
end Press
end Go.Proofs.Ytocjhpjljlcboaa.Q
