/- A list, read from its other end, answers as one that was pushed from its other end; for every list and every doings. -/
import Derived.Test.YtglkfoldhobflaaXDDequeTurned
namespace Go.Proofs.Ytglkfoldhobflaa.Pure
open Go.RowKit Go.Proofs.Ytglkfoldhobflaa.X Go.Proofs.Ytglkfoldhobflaa.Y

theorem DequeTurned : mewslaw09_DequeTurned.PureX := by
  intro l0 l1 h0 h1
  exact ⟨0, if_pos ⟨by omega, by omega⟩⟩

end Go.Proofs.Ytglkfoldhobflaa.Pure
