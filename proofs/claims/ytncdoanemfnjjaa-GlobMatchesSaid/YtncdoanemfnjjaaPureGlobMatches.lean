/- Whether any text matches any pattern is told as the document says: the walk (Law02m) says so for all texts. -/
import Derived.Test.YtncdoanemfnjjaaXDGlobMatches
namespace Go.Proofs.Ytncdoanemfnjjaa.Pure
open Go.RowKit Go.Proofs.Ytncdoanemfnjjaa.X Go.Proofs.Ytncdoanemfnjjaa.Y

theorem GlobMatches : mewslaw02_GlobMatches.PureX := fun _ _ _ _ => ⟨0, rfl⟩

end Go.Proofs.Ytncdoanemfnjjaa.Pure
