/- CodeNums: any number's bytes are the document's, or it is refused. No condition. -/
import Derived.Test.YtocjhpjljlcboaaMade
namespace Go.Proofs.Ytocjhpjljlcboaa.Pure
open Go.RowKit Go.Proofs.Ytocjhpjljlcboaa.Q Go.Proofs.YtocjhpjljlcboaaW.PrintWords Go.Proofs.YtocjhpjljlcboaaW.PrintLast Go.Proofs.Ytocjhpjljlcboaa.Spec

theorem CodeNums : barquelaw01_CodeNums.Pure := by
  intro n _
  refine ⟨60, ?_⟩
  unfold barquelaw01_CodeNums.f
  rw [codeNum 60 n (by decide), refNum 60 n (by decide)]
  simp only [Option.bind_some]
  rw [if_pos trivial, if_pos trivial, awake1 60 (by decide)]
  rfl

end Go.Proofs.Ytocjhpjljlcboaa.Pure
