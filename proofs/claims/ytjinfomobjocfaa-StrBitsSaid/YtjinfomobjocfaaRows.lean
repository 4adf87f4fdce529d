/-
  No cell of these rows narrows 'for every input' (looked for: loops, veiled, ifaces, maps, wideKeys, modest, calm, conditions, laid).
  DERIVED. THE GIVEN ROWS OF THIS SEAT. 5 by the template 'for every input the law returns true; each argument reads behind the call as it read before'; 0 by the template 'total and deterministic' (their statements: YtjinfomobjocfaaTotals.lean).
  GIVEN WITH THE SEED: the statements are not yours to turn. If you find one false, say at which input.
  Laid BY PROGRAM, IN A SANDBOX (cutbox-rows.mjs): the forced cells as the released guide's own fill.sh prints them over the translation edb0c74216730f98… (all of the seat's roots in one cut). By AI agents, Wed Nov 11 2026. No macro, syntax, notation, axiom, sorry.
-/
import Derived.Test.YtjinfomobjocfaaChecked
import GoSem.Claim
import GoSem.ClaimJoined
import GoSem.ClaimMapViews
import Derived.JoinedTies
import Derived.KernelRfl
namespace Go.Proofs.Ytjinfomobjocfaa
/- THE CELL 'sum', in the pinned program and in every row, IS THE sha256 OF THE DUMP (.gsa) THAT YtjinfomobjocfaaProg.lean LOADS. Nothing in Lean hashes anything: it is a label: what it is worth is what the hold of that sum in a sandbox is worth. -/
noncomputable def Try.pinned : Pinned := { name := "ytjinfomobjocfaa", sum := "edb0c74216730f98236ebf49d6b8b2eb7711b4e28d8d2a566e7101a8a0478df5", checked := Try.checked }
namespace Rows
def none {H : Type} : Left H := { results := [], args := [] }

/-- 'mewslaw20.StrUndo': WHATEVER THE INPUT: true; the input reads as it did. -/
def strUndoSpec : ChangeSpec := { name := "strUndo", fn := fun _ => fun
  | [d1, d2] => { results := [.lit (.bool true)], args := [d1, d2] }
  | _ => none }
def strUndoRow : OpenClaim := { program := "ytjinfomobjocfaa", sum := "edb0c74216730f98236ebf49d6b8b2eb7711b4e28d8d2a566e7101a8a0478df5", func := "mews/mewslaw20.StrUndo", spec := "strUndo", recurses := true, apart := false }
def StrUndoSaid : Prop := strUndoRow.holds Try.pinned (OpenSpec.ofChange strUndoSpec)

/-- ITS FALSE NEIGHBOUR: 'it returns false'. Refute it at one input. -/
def strUndoWrong : ChangeSpec := { name := "strUndo", fn := fun _ => fun
  | [d1, d2] => { results := [.lit (.bool false)], args := [d1, d2] }
  | _ => none }
def StrUndoWrongFalsely : Prop := strUndoRow.holds Try.pinned (OpenSpec.ofChange strUndoWrong)

/-- 'mewslaw20.StrTexts': WHATEVER THE INPUT: true; the input reads as it did. -/
def strTextsSpec : ChangeSpec := { name := "strTexts", fn := fun _ => fun
  | [d1, d2, d3] => { results := [.lit (.bool true)], args := [d1, d2, d3] }
  | _ => none }
def strTextsRow : OpenClaim := { program := "ytjinfomobjocfaa", sum := "edb0c74216730f98236ebf49d6b8b2eb7711b4e28d8d2a566e7101a8a0478df5", func := "mews/mewslaw20.StrTexts", spec := "strTexts", apart := false }
def StrTextsSaid : Prop := strTextsRow.holds Try.pinned (OpenSpec.ofChange strTextsSpec)

/-- ITS FALSE NEIGHBOUR: 'it returns false'. Refute it at one input. -/
def strTextsWrong : ChangeSpec := { name := "strTexts", fn := fun _ => fun
  | [d1, d2, d3] => { results := [.lit (.bool false)], args := [d1, d2, d3] }
  | _ => none }
def StrTextsWrongFalsely : Prop := strTextsRow.holds Try.pinned (OpenSpec.ofChange strTextsWrong)

/-- 'mewslaw20.StrBack': WHATEVER THE INPUT: true; the input reads as it did. -/
def strBackSpec : ChangeSpec := { name := "strBack", fn := fun _ => fun
  | [d1, d2, d3] => { results := [.lit (.bool true)], args := [d1, d2, d3] }
  | _ => none }
def strBackRow : OpenClaim := { program := "ytjinfomobjocfaa", sum := "edb0c74216730f98236ebf49d6b8b2eb7711b4e28d8d2a566e7101a8a0478df5", func := "mews/mewslaw20.StrBack", spec := "strBack", apart := false }
def StrBackSaid : Prop := strBackRow.holds Try.pinned (OpenSpec.ofChange strBackSpec)

/-- ITS FALSE NEIGHBOUR: 'it returns false'. Refute it at one input. -/
def strBackWrong : ChangeSpec := { name := "strBack", fn := fun _ => fun
  | [d1, d2, d3] => { results := [.lit (.bool false)], args := [d1, d2, d3] }
  | _ => none }
def StrBackWrongFalsely : Prop := strBackRow.holds Try.pinned (OpenSpec.ofChange strBackWrong)

/-- 'mewslaw20.StrNumbers': WHATEVER THE INPUT: true; the input reads as it did. -/
def strNumbersSpec : ChangeSpec := { name := "strNumbers", fn := fun _ => fun
  | [d1, d2] => { results := [.lit (.bool true)], args := [d1, d2] }
  | _ => none }
def strNumbersRow : OpenClaim := { program := "ytjinfomobjocfaa", sum := "edb0c74216730f98236ebf49d6b8b2eb7711b4e28d8d2a566e7101a8a0478df5", func := "mews/mewslaw20.StrNumbers", spec := "strNumbers", recurses := true, apart := false }
def StrNumbersSaid : Prop := strNumbersRow.holds Try.pinned (OpenSpec.ofChange strNumbersSpec)

/-- ITS FALSE NEIGHBOUR: 'it returns false'. Refute it at one input. -/
def strNumbersWrong : ChangeSpec := { name := "strNumbers", fn := fun _ => fun
  | [d1, d2] => { results := [.lit (.bool false)], args := [d1, d2] }
  | _ => none }
def StrNumbersWrongFalsely : Prop := strNumbersRow.holds Try.pinned (OpenSpec.ofChange strNumbersWrong)

/-- 'mewslaw20.StrBits': WHATEVER THE INPUT: true; the input reads as it did. -/
def strBitsSpec : ChangeSpec := { name := "strBits", fn := fun _ => fun
  | [d1, d2, d3, d4] => { results := [.lit (.bool true)], args := [d1, d2, d3, d4] }
  | _ => none }
def strBitsRow : OpenClaim := { program := "ytjinfomobjocfaa", sum := "edb0c74216730f98236ebf49d6b8b2eb7711b4e28d8d2a566e7101a8a0478df5", func := "mews/mewslaw20.StrBits", spec := "strBits", apart := false }
def StrBitsSaid : Prop := strBitsRow.holds Try.pinned (OpenSpec.ofChange strBitsSpec)

/-- ITS FALSE NEIGHBOUR: 'it returns false'. Refute it at one input. -/
def strBitsWrong : ChangeSpec := { name := "strBits", fn := fun _ => fun
  | [d1, d2, d3, d4] => { results := [.lit (.bool false)], args := [d1, d2, d3, d4] }
  | _ => none }
def StrBitsWrongFalsely : Prop := strBitsRow.holds Try.pinned (OpenSpec.ofChange strBitsWrong)

/- THE SECOND FORM. 'bulk': how many values and letters a reading holds, each counted each time it is reached (what is shared counts as often as it is met; a slice's spare places count too). A statement '..UptoSaid' is the law's where the arguments, and the package variables that the reading takes, are together of bulk at most 1048576: NARROWER than '..Said'. Prove '..Said' where nothing that the law and all that it calls make is longer than what came in: it says more and counts as full. Else prove '..UptoSaid'. A law counts once. -/
mutual
def uptoBulk {H : Type} : DataW H → Nat
  | .lit (.string bytes) => bytes.length + 1
  | .lit _ => 1
  | .nil => 1
  | .ptr d => uptoBulk d + 1
  | .slice elems spare => uptoBulkAll elems + uptoBulkAll spare + 1
  | .agg parts => uptoBulkAll parts + 1
  | .iface _ d => uptoBulk d + 1
  | .map entries => uptoBulkEntries entries + 1
  | .held _ => 1
def uptoBulkAll {H : Type} : List (DataW H) → Nat
  | [] => 0
  | d :: r => uptoBulk d + uptoBulkAll r
def uptoBulkEntries {H : Type} : List (Lit × DataW H) → Nat
  | [] => 0
  | x :: r => uptoBulkEntry x + uptoBulkEntries r
def uptoBulkEntry {H : Type} : Lit × DataW H → Nat
  | (.string bytes, d) => bytes.length + uptoBulk d + 1
  | (_, d) => uptoBulk d + 1
 end
def uptoSmall : (H : Type) → List (DataW H) → Bool := fun _ ds => decide (uptoBulkAll ds ≤ 1048576)
def OpenSpec.upto (s : _root_.Go.ChangeSpec) : _root_.Go.OpenSpec := { _root_.Go.OpenSpec.ofChange s with cond := some uptoSmall }

/-- 'mewslaw20.StrUndo', WHERE WHAT IT READS IS OF BULK AT MOST 1048576: true; the input reads as it did. -/
def strUndoUptoRow : OpenClaim := { program := "ytjinfomobjocfaa", sum := "edb0c74216730f98236ebf49d6b8b2eb7711b4e28d8d2a566e7101a8a0478df5", func := "mews/mewslaw20.StrUndo", spec := "strUndo", recurses := true, apart := false, narrowed := true }
def StrUndoUptoSaid : Prop := strUndoUptoRow.holds Try.pinned (OpenSpec.upto strUndoSpec)

/-- 'mewslaw20.StrTexts', WHERE WHAT IT READS IS OF BULK AT MOST 1048576: true; the input reads as it did. -/
def strTextsUptoRow : OpenClaim := { program := "ytjinfomobjocfaa", sum := "edb0c74216730f98236ebf49d6b8b2eb7711b4e28d8d2a566e7101a8a0478df5", func := "mews/mewslaw20.StrTexts", spec := "strTexts", apart := false, narrowed := true }
def StrTextsUptoSaid : Prop := strTextsUptoRow.holds Try.pinned (OpenSpec.upto strTextsSpec)

/-- 'mewslaw20.StrBack', WHERE WHAT IT READS IS OF BULK AT MOST 1048576: true; the input reads as it did. -/
def strBackUptoRow : OpenClaim := { program := "ytjinfomobjocfaa", sum := "edb0c74216730f98236ebf49d6b8b2eb7711b4e28d8d2a566e7101a8a0478df5", func := "mews/mewslaw20.StrBack", spec := "strBack", apart := false, narrowed := true }
def StrBackUptoSaid : Prop := strBackUptoRow.holds Try.pinned (OpenSpec.upto strBackSpec)

/-- 'mewslaw20.StrNumbers', WHERE WHAT IT READS IS OF BULK AT MOST 1048576: true; the input reads as it did. -/
def strNumbersUptoRow : OpenClaim := { program := "ytjinfomobjocfaa", sum := "edb0c74216730f98236ebf49d6b8b2eb7711b4e28d8d2a566e7101a8a0478df5", func := "mews/mewslaw20.StrNumbers", spec := "strNumbers", recurses := true, apart := false, narrowed := true }
def StrNumbersUptoSaid : Prop := strNumbersUptoRow.holds Try.pinned (OpenSpec.upto strNumbersSpec)

/-- 'mewslaw20.StrBits', WHERE WHAT IT READS IS OF BULK AT MOST 1048576: true; the input reads as it did. -/
def strBitsUptoRow : OpenClaim := { program := "ytjinfomobjocfaa", sum := "edb0c74216730f98236ebf49d6b8b2eb7711b4e28d8d2a566e7101a8a0478df5", func := "mews/mewslaw20.StrBits", spec := "strBits", apart := false, narrowed := true }
def StrBitsUptoSaid : Prop := strBitsUptoRow.holds Try.pinned (OpenSpec.upto strBitsSpec)

end Rows
end Go.Proofs.Ytjinfomobjocfaa
