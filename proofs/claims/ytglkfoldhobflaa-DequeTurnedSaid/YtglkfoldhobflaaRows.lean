/-
  No cell of these rows narrows 'for every input' (looked for: loops, veiled, ifaces, maps, wideKeys, modest, calm, conditions, laid).
  DERIVED. THE GIVEN ROWS OF THIS SEAT. 3 by the template 'for every input the law returns true; each argument reads behind the call as it read before'; 0 by the template 'total and deterministic' (their statements: YtglkfoldhobflaaTotals.lean).
  GIVEN WITH THE SEED: the statements are not yours to turn. If you find one false, say at which input.
  Laid BY PROGRAM, IN A SANDBOX (cutbox-rows.mjs): the forced cells as the released guide's own fill.sh prints them over the translation 8bccd70e34315ae2… (all of the seat's roots in one cut). By AI agents, Wed Nov 11 2026. No macro, syntax, notation, axiom, sorry.
-/
import Derived.Test.YtglkfoldhobflaaChecked
import GoSem.Claim
import GoSem.ClaimJoined
import GoSem.ClaimMapViews
import Derived.JoinedTies
import Derived.KernelRfl
namespace Go.Proofs.Ytglkfoldhobflaa
/- THE CELL 'sum', in the pinned program and in every row, IS THE sha256 OF THE DUMP (.gsa) THAT YtglkfoldhobflaaProg.lean LOADS. Nothing in Lean hashes anything: it is a label: what it is worth is what the hold of that sum in a sandbox is worth. -/
noncomputable def Try.pinned : Pinned := { name := "ytglkfoldhobflaa", sum := "8bccd70e34315ae2c6ab907fe8d93652256b68a499e75d8456a698e7bb48297b", checked := Try.checked }
namespace Rows
def none {H : Type} : Left H := { results := [], args := [] }

/-- 'mewslaw09.DequeTurned': WHATEVER THE INPUT: true; the input reads as it did. -/
def dequeTurnedSpec : ChangeSpec := { name := "dequeTurned", fn := fun _ => fun
  | [d1, d2] => { results := [.lit (.bool true)], args := [d1, d2] }
  | _ => none }
def dequeTurnedRow : OpenClaim := { program := "ytglkfoldhobflaa", sum := "8bccd70e34315ae2c6ab907fe8d93652256b68a499e75d8456a698e7bb48297b", func := "mews/mewslaw09.DequeTurned", spec := "dequeTurned", apart := false }
def DequeTurnedSaid : Prop := dequeTurnedRow.holds Try.pinned (OpenSpec.ofChange dequeTurnedSpec)

/-- ITS FALSE NEIGHBOUR: 'it returns false'. Refute it at one input. -/
def dequeTurnedWrong : ChangeSpec := { name := "dequeTurned", fn := fun _ => fun
  | [d1, d2] => { results := [.lit (.bool false)], args := [d1, d2] }
  | _ => none }
def DequeTurnedWrongFalsely : Prop := dequeTurnedRow.holds Try.pinned (OpenSpec.ofChange dequeTurnedWrong)

/-- 'mewslaw09.DequePlays': WHATEVER THE INPUT: true; the input reads as it did. -/
def dequePlaysSpec : ChangeSpec := { name := "dequePlays", fn := fun _ => fun
  | [d1, d2] => { results := [.lit (.bool true)], args := [d1, d2] }
  | _ => none }
def dequePlaysRow : OpenClaim := { program := "ytglkfoldhobflaa", sum := "8bccd70e34315ae2c6ab907fe8d93652256b68a499e75d8456a698e7bb48297b", func := "mews/mewslaw09.DequePlays", spec := "dequePlays", apart := false }
def DequePlaysSaid : Prop := dequePlaysRow.holds Try.pinned (OpenSpec.ofChange dequePlaysSpec)

/-- ITS FALSE NEIGHBOUR: 'it returns false'. Refute it at one input. -/
def dequePlaysWrong : ChangeSpec := { name := "dequePlays", fn := fun _ => fun
  | [d1, d2] => { results := [.lit (.bool false)], args := [d1, d2] }
  | _ => none }
def DequePlaysWrongFalsely : Prop := dequePlaysRow.holds Try.pinned (OpenSpec.ofChange dequePlaysWrong)

/-- 'mewslaw09.DequeNobody': WHATEVER THE INPUT: true; the input reads as it did. -/
def dequeNobodySpec : ChangeSpec := { name := "dequeNobody", fn := fun _ => fun
  | [d] => { results := [.lit (.bool true)], args := [d] }
  | _ => none }
def dequeNobodyRow : OpenClaim := { program := "ytglkfoldhobflaa", sum := "8bccd70e34315ae2c6ab907fe8d93652256b68a499e75d8456a698e7bb48297b", func := "mews/mewslaw09.DequeNobody", spec := "dequeNobody", apart := false }
def DequeNobodySaid : Prop := dequeNobodyRow.holds Try.pinned (OpenSpec.ofChange dequeNobodySpec)

/-- ITS FALSE NEIGHBOUR: 'it returns false'. Refute it at one input. -/
def dequeNobodyWrong : ChangeSpec := { name := "dequeNobody", fn := fun _ => fun
  | [d] => { results := [.lit (.bool false)], args := [d] }
  | _ => none }
def DequeNobodyWrongFalsely : Prop := dequeNobodyRow.holds Try.pinned (OpenSpec.ofChange dequeNobodyWrong)

/- THE SECOND FORM. 'bulk': how many values and letters a reading holds, each counted each time it is reached (what is shared counts as often as it is met; a slice's spare places count too). A statement '..UptoSaid' is the law's where the arguments, and the package variables that the reading takes, are together of bulk at most 1048576: NARROWER than '..Said'. Prove '..Said' where nothing that the law and all that it calls make is longer than what came in: it says more and counts as full. Else prove '..UptoSaid'. A law counts once. -/
mutual
def uptoBulk {H : Type} : DataW H → Nat
  | .lit (.string bytes) => bytes.length + 1
  | .lit _ => 1
  | .nil => 1
  | .ptr d => uptoBulk d + 1
  | .slice elems spare => uptoBulkAll elems + uptoBulkAll spare + 1
  | .agg parts => uptoBulkAll parts + 1
  | .iface _ d => uptoBulk d + 1
  | .map entries => uptoBulkEntries entries + 1
  | .held _ => 1
def uptoBulkAll {H : Type} : List (DataW H) → Nat
  | [] => 0
  | d :: r => uptoBulk d + uptoBulkAll r
def uptoBulkEntries {H : Type} : List (Lit × DataW H) → Nat
  | [] => 0
  | x :: r => uptoBulkEntry x + uptoBulkEntries r
def uptoBulkEntry {H : Type} : Lit × DataW H → Nat
  | (.string bytes, d) => bytes.length + uptoBulk d + 1
  | (_, d) => uptoBulk d + 1
 end
def uptoSmall : (H : Type) → List (DataW H) → Bool := fun _ ds => decide (uptoBulkAll ds ≤ 1048576)
def OpenSpec.upto (s : _root_.Go.ChangeSpec) : _root_.Go.OpenSpec := { _root_.Go.OpenSpec.ofChange s with cond := some uptoSmall }

/-- 'mewslaw09.DequeTurned', WHERE WHAT IT READS IS OF BULK AT MOST 1048576: true; the input reads as it did. -/
def dequeTurnedUptoRow : OpenClaim := { program := "ytglkfoldhobflaa", sum := "8bccd70e34315ae2c6ab907fe8d93652256b68a499e75d8456a698e7bb48297b", func := "mews/mewslaw09.DequeTurned", spec := "dequeTurned", apart := false, narrowed := true }
def DequeTurnedUptoSaid : Prop := dequeTurnedUptoRow.holds Try.pinned (OpenSpec.upto dequeTurnedSpec)

/-- 'mewslaw09.DequePlays', WHERE WHAT IT READS IS OF BULK AT MOST 1048576: true; the input reads as it did. -/
def dequePlaysUptoRow : OpenClaim := { program := "ytglkfoldhobflaa", sum := "8bccd70e34315ae2c6ab907fe8d93652256b68a499e75d8456a698e7bb48297b", func := "mews/mewslaw09.DequePlays", spec := "dequePlays", apart := false, narrowed := true }
def DequePlaysUptoSaid : Prop := dequePlaysUptoRow.holds Try.pinned (OpenSpec.upto dequePlaysSpec)

/-- 'mewslaw09.DequeNobody', WHERE WHAT IT READS IS OF BULK AT MOST 1048576: true; the input reads as it did. -/
def dequeNobodyUptoRow : OpenClaim := { program := "ytglkfoldhobflaa", sum := "8bccd70e34315ae2c6ab907fe8d93652256b68a499e75d8456a698e7bb48297b", func := "mews/mewslaw09.DequeNobody", spec := "dequeNobody", apart := false, narrowed := true }
def DequeNobodyUptoSaid : Prop := dequeNobodyUptoRow.holds Try.pinned (OpenSpec.upto dequeNobodySpec)

end Rows
end Go.Proofs.Ytglkfoldhobflaa
