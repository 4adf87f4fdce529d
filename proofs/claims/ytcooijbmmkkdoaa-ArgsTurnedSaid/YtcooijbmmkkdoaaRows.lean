/-
  No cell of these rows narrows 'for every input' (looked for: loops, veiled, ifaces, maps, wideKeys, modest, calm, conditions, laid).
  DERIVED. THE GIVEN ROWS OF THIS SEAT. 4 by the template 'for every input the law returns true; each argument reads behind the call as it read before'; 0 by the template 'total and deterministic' (their statements: YtcooijbmmkkdoaaTotals.lean).
  GIVEN WITH THE SEED: the statements are not yours to turn. If you find one false, say at which input.
  Laid BY PROGRAM, IN A SANDBOX (cutbox-rows.mjs): the forced cells as the released guide's own fill.sh prints them over the translation c3e13c99b8cb99f9… (all of the seat's roots in one cut). By AI agents, Wed Nov 11 2026. No macro, syntax, notation, axiom, sorry.
-/
import Derived.Test.YtcooijbmmkkdoaaChecked
import GoSem.Claim
import GoSem.ClaimJoined
import GoSem.ClaimMapViews
import Derived.JoinedTies
import Derived.KernelRfl
namespace Go.Proofs.Ytcooijbmmkkdoaa
/- THE CELL 'sum', in the pinned program and in every row, IS THE sha256 OF THE DUMP (.gsa) THAT YtcooijbmmkkdoaaProg.lean LOADS. Nothing in Lean hashes anything: it is a label: what it is worth is what the hold of that sum in a sandbox is worth. -/
noncomputable def Try.pinned : Pinned := { name := "ytcooijbmmkkdoaa", sum := "c3e13c99b8cb99f937490d07b45b7af2a28514837890afd1ffdd4a8ad91920ab", checked := Try.checked }
namespace Rows
def none {H : Type} : Left H := { results := [], args := [] }

/-- 'mewslaw29.ArgsOptions': WHATEVER THE INPUT: true; the input reads as it did. -/
def argsOptionsSpec : ChangeSpec := { name := "argsOptions", fn := fun _ => fun
  | [d] => { results := [.lit (.bool true)], args := [d] }
  | _ => none }
def argsOptionsRow : OpenClaim := { program := "ytcooijbmmkkdoaa", sum := "c3e13c99b8cb99f937490d07b45b7af2a28514837890afd1ffdd4a8ad91920ab", func := "mews/mewslaw29.ArgsOptions", spec := "argsOptions", unfollowed := true, recurses := true, apart := false }
def ArgsOptionsSaid : Prop := argsOptionsRow.holds Try.pinned (OpenSpec.ofChange argsOptionsSpec)

/-- ITS FALSE NEIGHBOUR: 'it returns false'. Refute it at one input. -/
def argsOptionsWrong : ChangeSpec := { name := "argsOptions", fn := fun _ => fun
  | [d] => { results := [.lit (.bool false)], args := [d] }
  | _ => none }
def ArgsOptionsWrongFalsely : Prop := argsOptionsRow.holds Try.pinned (OpenSpec.ofChange argsOptionsWrong)

/-- 'mewslaw29.ArgsTurned': WHATEVER THE INPUT: true; the input reads as it did. -/
def argsTurnedSpec : ChangeSpec := { name := "argsTurned", fn := fun _ => fun
  | [d] => { results := [.lit (.bool true)], args := [d] }
  | _ => none }
def argsTurnedRow : OpenClaim := { program := "ytcooijbmmkkdoaa", sum := "c3e13c99b8cb99f937490d07b45b7af2a28514837890afd1ffdd4a8ad91920ab", func := "mews/mewslaw29.ArgsTurned", spec := "argsTurned", unfollowed := true, recurses := true, apart := false }
def ArgsTurnedSaid : Prop := argsTurnedRow.holds Try.pinned (OpenSpec.ofChange argsTurnedSpec)

/-- ITS FALSE NEIGHBOUR: 'it returns false'. Refute it at one input. -/
def argsTurnedWrong : ChangeSpec := { name := "argsTurned", fn := fun _ => fun
  | [d] => { results := [.lit (.bool false)], args := [d] }
  | _ => none }
def ArgsTurnedWrongFalsely : Prop := argsTurnedRow.holds Try.pinned (OpenSpec.ofChange argsTurnedWrong)

/-- 'mewslaw29.ArgsTimes': WHATEVER THE INPUT: true; the input reads as it did. -/
def argsTimesSpec : ChangeSpec := { name := "argsTimes", fn := fun _ => fun
  | [d1, d2, d3] => { results := [.lit (.bool true)], args := [d1, d2, d3] }
  | _ => none }
def argsTimesRow : OpenClaim := { program := "ytcooijbmmkkdoaa", sum := "c3e13c99b8cb99f937490d07b45b7af2a28514837890afd1ffdd4a8ad91920ab", func := "mews/mewslaw29.ArgsTimes", spec := "argsTimes", unfollowed := true, recurses := true, apart := false }
def ArgsTimesSaid : Prop := argsTimesRow.holds Try.pinned (OpenSpec.ofChange argsTimesSpec)

/-- ITS FALSE NEIGHBOUR: 'it returns false'. Refute it at one input. -/
def argsTimesWrong : ChangeSpec := { name := "argsTimes", fn := fun _ => fun
  | [d1, d2, d3] => { results := [.lit (.bool false)], args := [d1, d2, d3] }
  | _ => none }
def ArgsTimesWrongFalsely : Prop := argsTimesRow.holds Try.pinned (OpenSpec.ofChange argsTimesWrong)

/-- 'mewslaw29.ArgsScans': WHATEVER THE INPUT: true; the input reads as it did. -/
def argsScansSpec : ChangeSpec := { name := "argsScans", fn := fun _ => fun
  | [d1, d2, d3] => { results := [.lit (.bool true)], args := [d1, d2, d3] }
  | _ => none }
def argsScansRow : OpenClaim := { program := "ytcooijbmmkkdoaa", sum := "c3e13c99b8cb99f937490d07b45b7af2a28514837890afd1ffdd4a8ad91920ab", func := "mews/mewslaw29.ArgsScans", spec := "argsScans", unfollowed := true, recurses := true, apart := false }
def ArgsScansSaid : Prop := argsScansRow.holds Try.pinned (OpenSpec.ofChange argsScansSpec)

/-- ITS FALSE NEIGHBOUR: 'it returns false'. Refute it at one input. -/
def argsScansWrong : ChangeSpec := { name := "argsScans", fn := fun _ => fun
  | [d1, d2, d3] => { results := [.lit (.bool false)], args := [d1, d2, d3] }
  | _ => none }
def ArgsScansWrongFalsely : Prop := argsScansRow.holds Try.pinned (OpenSpec.ofChange argsScansWrong)

/- THE SECOND FORM. 'bulk': how many values and letters a reading holds, each counted each time it is reached (what is shared counts as often as it is met; a slice's spare places count too). A statement '..UptoSaid' is the law's where the arguments, and the package variables that the reading takes, are together of bulk at most 1048576: NARROWER than '..Said'. Prove '..Said' where nothing that the law and all that it calls make is longer than what came in: it says more and counts as full. Else prove '..UptoSaid'. A law counts once. -/
mutual
def uptoBulk {H : Type} : DataW H → Nat
  | .lit (.string bytes) => bytes.length + 1
  | .lit _ => 1
  | .nil => 1
  | .ptr d => uptoBulk d + 1
  | .slice elems spare => uptoBulkAll elems + uptoBulkAll spare + 1
  | .agg parts => uptoBulkAll parts + 1
  | .iface _ d => uptoBulk d + 1
  | .map entries => uptoBulkEntries entries + 1
  | .held _ => 1
def uptoBulkAll {H : Type} : List (DataW H) → Nat
  | [] => 0
  | d :: r => uptoBulk d + uptoBulkAll r
def uptoBulkEntries {H : Type} : List (Lit × DataW H) → Nat
  | [] => 0
  | x :: r => uptoBulkEntry x + uptoBulkEntries r
def uptoBulkEntry {H : Type} : Lit × DataW H → Nat
  | (.string bytes, d) => bytes.length + uptoBulk d + 1
  | (_, d) => uptoBulk d + 1
 end
def uptoSmall : (H : Type) → List (DataW H) → Bool := fun _ ds => decide (uptoBulkAll ds ≤ 1048576)
def OpenSpec.upto (s : _root_.Go.ChangeSpec) : _root_.Go.OpenSpec := { _root_.Go.OpenSpec.ofChange s with cond := some uptoSmall }

/-- 'mewslaw29.ArgsOptions', WHERE WHAT IT READS IS OF BULK AT MOST 1048576: true; the input reads as it did. -/
def argsOptionsUptoRow : OpenClaim := { program := "ytcooijbmmkkdoaa", sum := "c3e13c99b8cb99f937490d07b45b7af2a28514837890afd1ffdd4a8ad91920ab", func := "mews/mewslaw29.ArgsOptions", spec := "argsOptions", unfollowed := true, recurses := true, apart := false, narrowed := true }
def ArgsOptionsUptoSaid : Prop := argsOptionsUptoRow.holds Try.pinned (OpenSpec.upto argsOptionsSpec)

/-- 'mewslaw29.ArgsTurned', WHERE WHAT IT READS IS OF BULK AT MOST 1048576: true; the input reads as it did. -/
def argsTurnedUptoRow : OpenClaim := { program := "ytcooijbmmkkdoaa", sum := "c3e13c99b8cb99f937490d07b45b7af2a28514837890afd1ffdd4a8ad91920ab", func := "mews/mewslaw29.ArgsTurned", spec := "argsTurned", unfollowed := true, recurses := true, apart := false, narrowed := true }
def ArgsTurnedUptoSaid : Prop := argsTurnedUptoRow.holds Try.pinned (OpenSpec.upto argsTurnedSpec)

/-- 'mewslaw29.ArgsTimes', WHERE WHAT IT READS IS OF BULK AT MOST 1048576: true; the input reads as it did. -/
def argsTimesUptoRow : OpenClaim := { program := "ytcooijbmmkkdoaa", sum := "c3e13c99b8cb99f937490d07b45b7af2a28514837890afd1ffdd4a8ad91920ab", func := "mews/mewslaw29.ArgsTimes", spec := "argsTimes", unfollowed := true, recurses := true, apart := false, narrowed := true }
def ArgsTimesUptoSaid : Prop := argsTimesUptoRow.holds Try.pinned (OpenSpec.upto argsTimesSpec)

/-- 'mewslaw29.ArgsScans', WHERE WHAT IT READS IS OF BULK AT MOST 1048576: true; the input reads as it did. -/
def argsScansUptoRow : OpenClaim := { program := "ytcooijbmmkkdoaa", sum := "c3e13c99b8cb99f937490d07b45b7af2a28514837890afd1ffdd4a8ad91920ab", func := "mews/mewslaw29.ArgsScans", spec := "argsScans", unfollowed := true, recurses := true, apart := false, narrowed := true }
def ArgsScansUptoSaid : Prop := argsScansUptoRow.holds Try.pinned (OpenSpec.upto argsScansSpec)

end Rows
end Go.Proofs.Ytcooijbmmkkdoaa
