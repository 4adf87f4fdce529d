/- The event of any line, or what is wrong with it, is the document's: the walk (Law47b) says so for all lines. -/
import Derived.Test.YtehnogggokfcaaaXDEventTakes
namespace Go.Proofs.Ytehnogggokfcaaa.Pure
open Go.RowKit Go.Proofs.Ytehnogggokfcaaa.X Go.Proofs.Ytehnogggokfcaaa.Y

theorem EventTakes : mewslaw47_EventTakes.PureX := fun _ _ => ⟨0, rfl⟩

end Go.Proofs.Ytehnogggokfcaaa.Pure
