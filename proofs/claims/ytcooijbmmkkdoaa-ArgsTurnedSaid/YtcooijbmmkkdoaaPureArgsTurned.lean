/- In whatever order options stand, they are the same: the walk (Law29) says so for all arguments. -/
import Derived.Test.YtcooijbmmkkdoaaXDArgsTurned
namespace Go.Proofs.Ytcooijbmmkkdoaa.Pure
open Go.RowKit Go.Proofs.Ytcooijbmmkkdoaa.X Go.Proofs.Ytcooijbmmkkdoaa.Y

theorem ArgsTurned : mewslaw29_ArgsTurned.PureX := fun _ _ => ⟨0, rfl⟩

end Go.Proofs.Ytcooijbmmkkdoaa.Pure
