/- A list that is none has nothing, and takes nothing, and one that nobody made is empty; for every doing. -/
import Derived.Test.YtglkfoldhobflaaXDDequeNobody
namespace Go.Proofs.Ytglkfoldhobflaa.Pure
open Go.RowKit Go.Proofs.Ytglkfoldhobflaa.X Go.Proofs.Ytglkfoldhobflaa.Y

theorem DequeNobody : mewslaw09_DequeNobody.PureX := by
  intro a h
  obtain ⟨_, b, c⟩ := h
  exact ⟨0, if_pos ⟨wf_i64 b, wf_i64 c⟩⟩

end Go.Proofs.Ytglkfoldhobflaa.Pure
