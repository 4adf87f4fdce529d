/- Any text quoted, what any plain pattern is, and which of some texts match: the walk (Law02q) says so for all texts. -/
import Derived.Test.YtncdoanemfnjjaaXDGlobQuotes
namespace Go.Proofs.Ytncdoanemfnjjaa.Pure
open Go.RowKit Go.Proofs.Ytncdoanemfnjjaa.X Go.Proofs.Ytncdoanemfnjjaa.Y

theorem GlobQuotes : mewslaw02_GlobQuotes.PureX := fun _ _ _ h => ⟨0, if_pos (by have := h.1; omega)⟩

end Go.Proofs.Ytncdoanemfnjjaa.Pure
