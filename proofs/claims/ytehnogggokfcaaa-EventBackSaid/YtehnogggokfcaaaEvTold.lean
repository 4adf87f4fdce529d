/- What the document tells of an event, one argument each. -/
import Derived.Test.YtehnogggokfcaaaEvPut
namespace Go.Proofs.Ytehnogggokfcaaa.Ev
open Go.RowKit Go.Proofs.YtehnogggokfcaaaW.PrintWords Go.Proofs.YtehnogggokfcaaaW.PrintMore Go.Proofs.YtehnogggokfcaaaW.PrintLast Go.Proofs.Ytehnogggokfcaaa.Y Go.Proofs.Ytehnogggokfcaaa.X Go.Proofs.Ytehnogggokfcaaa.Pure Go.Proofs.Ytehnogggokfcaaa.LM
set_option linter.unusedVariables false
set_option linter.unusedSimpArgs false
theorem join_size (k : Nat) (h8 : k ≤ 8) (x : S26) (hi : In x) (hs : Sm x) : (joinB (nm k :: argsP k x)).size ≤ 1000000000 := by
  unfold joinB
  rw [ofL_size]
  have h := joinL_len 4000 (bs (nm k :: argsP k x)) (bs_len _ 4000 (all_mem4 k x h8 hi hs))
  have h2 := args_len k x hs
  have h3 : (bs (nm k :: argsP k x)).length = (argsP k x).length + 1 := by simp [bs]
  rw [h3] at h
  have : ((argsP k x).length + 1) * (4 * 4000 + 3) ≤ 15001 * (4 * 4000 + 3) := Nat.mul_le_mul_right _ (by omega)
  omega
end Go.Proofs.Ytehnogggokfcaaa.Ev
