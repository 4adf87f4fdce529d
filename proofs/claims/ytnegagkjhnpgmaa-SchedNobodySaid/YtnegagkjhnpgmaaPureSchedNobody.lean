/- A line that is none has nothing, and takes nothing; one that nobody made is empty; for every job. -/
import Derived.Test.YtnegagkjhnpgmaaXDSchedNobody
namespace Go.Proofs.Ytnegagkjhnpgmaa.Pure
open Go.RowKit Go.Proofs.Ytnegagkjhnpgmaa.X Go.Proofs.Ytnegagkjhnpgmaa.Y

theorem SchedNobody : mewslaw44_SchedNobody.PureX := by
  intro a0 h
  exact ⟨0, if_pos (by have := h.2.1.1; omega)⟩

end Go.Proofs.Ytnegagkjhnpgmaa.Pure
