/- Whatever is done to a list with two ends: each answer, and the whole list, is the document's; for every list and every doings. -/
import Derived.Test.YtglkfoldhobflaaXDDequePlays
namespace Go.Proofs.Ytglkfoldhobflaa.Pure
open Go.RowKit Go.Proofs.Ytglkfoldhobflaa.X Go.Proofs.Ytglkfoldhobflaa.Y

theorem DequePlays : mewslaw09_DequePlays.PureX := by
  intro l0 l1 h0 h1
  refine ⟨0, if_pos ⟨⟨by omega, by omega⟩, fun x hx => ?_⟩⟩
  obtain ⟨a, b, c⟩ := h1.2 x hx
  exact ⟨wf_i64 a, wf_i64 b, wf_i64 c⟩

end Go.Proofs.Ytglkfoldhobflaa.Pure
