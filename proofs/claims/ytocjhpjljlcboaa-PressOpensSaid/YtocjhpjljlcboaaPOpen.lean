/- Open as a plain function. -/
import Derived.Test.YtocjhpjljlcboaaPLoose
import Derived.Test.YtocjhpjljlcboaaQ10
namespace Go.Proofs.Ytocjhpjljlcboaa.Q
open Go.RowKit Go.Proofs.YtocjhpjljlcboaaW.PrintWords Go.Proofs.YtocjhpjljlcboaaW.PrintLast Go.Proofs.YtocjhpjljlcboaaW.PrintMore
open Go.Proofs.Ytocjhpjljlcboaa.Lay Go.Proofs.Ytocjhpjljlcboaa.Spec
namespace Press
def openA (t : ByteArray) : ByteArray × Int := if t.toList = [] then (bs [], 3) else if bt t 0 = 82 then (t.extract 1 t.size, 0) else if bt t 0 = 90 then looseA (t.extract 1 t.size) else (bs [], 5)
theorem some_bytes (t : ByteArray) (h0 : ¬ t.toList = []) : 0 < t.size := by
  rcases Nat.eq_zero_or_pos t.size with h | h
  · refine absurd ?_ h0
    rw [Lib.toList_data]
    exact List.eq_nil_of_length_eq_zero (by rw [data_len]; exact h)
  · exact h
theorem codeOpen (t : ByteArray) (K c : Nat) (hs : Small t) (hc : 400 ≤ c) (hK : 1048580 * c ≤ K) : press_Open.f K t = some (openA t) := by
  unfold press_Open.f openA
  by_cases h0 : t.toList = []
  · rw [if_pos h0, if_pos h0]
    rfl
  · have hp := some_bytes t h0
    rw [if_neg h0, if_neg h0, if_pos (by omega)]
    by_cases h1 : bt t 0 = 82
    · rw [if_pos h1, if_pos h1, if_pos (by omega)]
    · rw [if_neg h1, if_neg h1]
      by_cases h2 : bt t 0 = 90
      · rw [if_pos h2, if_pos h2, if_pos (by omega), codeLoose _ (by unfold Small at hs ⊢; rw [ByteArray.size_extract]; omega) K c hc hK]
        rfl
      · rw [if_neg h2, if_neg h2]
        rfl
theorem openA_raw (t : ByteArray) : openA ((⟨#[82]⟩ : ByteArray) ++ t) = (t, 0) := by
  have hb : bt ((⟨#[82]⟩ : ByteArray) ++ t) 0 = 82 := by
    have := bt_nat ((⟨#[82]⟩ : ByteArray) ++ t) 0 (by rw [ByteArray.size_append]; have : (⟨#[82]⟩ : ByteArray).size = 1 := rfl; omega)
    rw [ByteArray.getElem_append_left (by decide)] at this
    exact this
  have hn : ¬ ((⟨#[82]⟩ : ByteArray) ++ t).toList = [] := by
    rw [Lib.toList_data, ByteArray.data_append, Array.toList_append]
    simp
  unfold openA
  rw [if_neg hn, if_pos hb]
  congr 1
  have : (⟨#[82]⟩ : ByteArray).size = 1 := rfl
  rw [ByteArray.size_append, this]
  exact ByteArray.extract_append_eq_right rfl rfl
theorem openA_pressed (t : ByteArray) : openA ((⟨#[90]⟩ : ByteArray) ++ t) = looseA t := by
  have hb : bt ((⟨#[90]⟩ : ByteArray) ++ t) 0 = 90 := by
    have := bt_nat ((⟨#[90]⟩ : ByteArray) ++ t) 0 (by rw [ByteArray.size_append]; have : (⟨#[90]⟩ : ByteArray).size = 1 := rfl; omega)
    rw [ByteArray.getElem_append_left (by decide)] at this
    exact this
  have hn : ¬ ((⟨#[90]⟩ : ByteArray) ++ t).toList = [] := by
    rw [Lib.toList_data, ByteArray.data_append, Array.toList_append]
    simp
  unfold openA
  rw [if_neg hn, if_neg (by rw [hb]; decide), if_pos hb]
  congr 1
  have : (⟨#[90]⟩ : ByteArray).size = 1 := rfl
  rw [ByteArray.size_append, this]
  exact ByteArray.extract_append_eq_right rfl rfl
end Press
end Go.Proofs.Ytocjhpjljlcboaa.Q
