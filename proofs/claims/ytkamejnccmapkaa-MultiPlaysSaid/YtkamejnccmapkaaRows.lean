/-
  No cell of these rows narrows 'for every input' (looked for: loops, veiled, ifaces, maps, wideKeys, modest, calm, conditions, laid).
  DERIVED. THE GIVEN ROWS OF THIS SEAT. 3 by the template 'for every input the law returns true; each argument reads behind the call as it read before'; 0 by the template 'total and deterministic' (their statements: YtkamejnccmapkaaTotals.lean).
  GIVEN WITH THE SEED: the statements are not yours to turn. If you find one false, say at which input.
  Laid BY PROGRAM, IN A SANDBOX (cutbox-rows.mjs): the forced cells as the released guide's own fill.sh prints them over the translation 7ed596d5c452c4b2… (all of the seat's roots in one cut). By AI agents, Wed Nov 11 2026. No macro, syntax, notation, axiom, sorry.
-/
import Derived.Test.YtkamejnccmapkaaChecked
import GoSem.Claim
import GoSem.ClaimJoined
import GoSem.ClaimMapViews
import Derived.JoinedTies
import Derived.KernelRfl
namespace Go.Proofs.Ytkamejnccmapkaa
/- THE CELL 'sum', in the pinned program and in every row, IS THE sha256 OF THE DUMP (.gsa) THAT YtkamejnccmapkaaProg.lean LOADS. Nothing in Lean hashes anything: it is a label: what it is worth is what the hold of that sum in a sandbox is worth. -/
noncomputable def Try.pinned : Pinned := { name := "ytkamejnccmapkaa", sum := "7ed596d5c452c4b2c4f665eaefdb8e698a35724aec4f033f380bb521c54bae6e", checked := Try.checked }
namespace Rows
def none {H : Type} : Left H := { results := [], args := [] }

/-- 'mewslaw37.MultiOrder': WHATEVER THE INPUT: true; the input reads as it did. -/
def multiOrderSpec : ChangeSpec := { name := "multiOrder", fn := fun _ => fun
  | [d1, d2, d3] => { results := [.lit (.bool true)], args := [d1, d2, d3] }
  | _ => none }
def multiOrderRow : OpenClaim := { program := "ytkamejnccmapkaa", sum := "7ed596d5c452c4b2c4f665eaefdb8e698a35724aec4f033f380bb521c54bae6e", func := "mews/mewslaw37.MultiOrder", spec := "multiOrder", unfollowed := true, recurses := true, apart := false }
def MultiOrderSaid : Prop := multiOrderRow.holds Try.pinned (OpenSpec.ofChange multiOrderSpec)

/-- ITS FALSE NEIGHBOUR: 'it returns false'. Refute it at one input. -/
def multiOrderWrong : ChangeSpec := { name := "multiOrder", fn := fun _ => fun
  | [d1, d2, d3] => { results := [.lit (.bool false)], args := [d1, d2, d3] }
  | _ => none }
def MultiOrderWrongFalsely : Prop := multiOrderRow.holds Try.pinned (OpenSpec.ofChange multiOrderWrong)

/-- 'mewslaw37.MultiWatch': WHATEVER THE INPUT: true; the input reads as it did. -/
def multiWatchSpec : ChangeSpec := { name := "multiWatch", fn := fun _ => fun
  | [d1, d2, d3] => { results := [.lit (.bool true)], args := [d1, d2, d3] }
  | _ => none }
def multiWatchRow : OpenClaim := { program := "ytkamejnccmapkaa", sum := "7ed596d5c452c4b2c4f665eaefdb8e698a35724aec4f033f380bb521c54bae6e", func := "mews/mewslaw37.MultiWatch", spec := "multiWatch", unfollowed := true, recurses := true, apart := false }
def MultiWatchSaid : Prop := multiWatchRow.holds Try.pinned (OpenSpec.ofChange multiWatchSpec)

/-- ITS FALSE NEIGHBOUR: 'it returns false'. Refute it at one input. -/
def multiWatchWrong : ChangeSpec := { name := "multiWatch", fn := fun _ => fun
  | [d1, d2, d3] => { results := [.lit (.bool false)], args := [d1, d2, d3] }
  | _ => none }
def MultiWatchWrongFalsely : Prop := multiWatchRow.holds Try.pinned (OpenSpec.ofChange multiWatchWrong)

/-- 'mewslaw37.MultiPlays': WHATEVER THE INPUT: true; the input reads as it did. -/
def multiPlaysSpec : ChangeSpec := { name := "multiPlays", fn := fun _ => fun
  | [d] => { results := [.lit (.bool true)], args := [d] }
  | _ => none }
def multiPlaysRow : OpenClaim := { program := "ytkamejnccmapkaa", sum := "7ed596d5c452c4b2c4f665eaefdb8e698a35724aec4f033f380bb521c54bae6e", func := "mews/mewslaw37.MultiPlays", spec := "multiPlays", unfollowed := true, recurses := true, apart := false }
def MultiPlaysSaid : Prop := multiPlaysRow.holds Try.pinned (OpenSpec.ofChange multiPlaysSpec)

/-- ITS FALSE NEIGHBOUR: 'it returns false'. Refute it at one input. -/
def multiPlaysWrong : ChangeSpec := { name := "multiPlays", fn := fun _ => fun
  | [d] => { results := [.lit (.bool false)], args := [d] }
  | _ => none }
def MultiPlaysWrongFalsely : Prop := multiPlaysRow.holds Try.pinned (OpenSpec.ofChange multiPlaysWrong)

/- THE SECOND FORM. 'bulk': how many values and letters a reading holds, each counted each time it is reached (what is shared counts as often as it is met; a slice's spare places count too). A statement '..UptoSaid' is the law's where the arguments, and the package variables that the reading takes, are together of bulk at most 1048576: NARROWER than '..Said'. Prove '..Said' where nothing that the law and all that it calls make is longer than what came in: it says more and counts as full. Else prove '..UptoSaid'. A law counts once. -/
mutual
def uptoBulk {H : Type} : DataW H → Nat
  | .lit (.string bytes) => bytes.length + 1
  | .lit _ => 1
  | .nil => 1
  | .ptr d => uptoBulk d + 1
  | .slice elems spare => uptoBulkAll elems + uptoBulkAll spare + 1
  | .agg parts => uptoBulkAll parts + 1
  | .iface _ d => uptoBulk d + 1
  | .map entries => uptoBulkEntries entries + 1
  | .held _ => 1
def uptoBulkAll {H : Type} : List (DataW H) → Nat
  | [] => 0
  | d :: r => uptoBulk d + uptoBulkAll r
def uptoBulkEntries {H : Type} : List (Lit × DataW H) → Nat
  | [] => 0
  | x :: r => uptoBulkEntry x + uptoBulkEntries r
def uptoBulkEntry {H : Type} : Lit × DataW H → Nat
  | (.string bytes, d) => bytes.length + uptoBulk d + 1
  | (_, d) => uptoBulk d + 1
 end
def uptoSmall : (H : Type) → List (DataW H) → Bool := fun _ ds => decide (uptoBulkAll ds ≤ 1048576)
def OpenSpec.upto (s : _root_.Go.ChangeSpec) : _root_.Go.OpenSpec := { _root_.Go.OpenSpec.ofChange s with cond := some uptoSmall }

/-- 'mewslaw37.MultiOrder', WHERE WHAT IT READS IS OF BULK AT MOST 1048576: true; the input reads as it did. -/
def multiOrderUptoRow : OpenClaim := { program := "ytkamejnccmapkaa", sum := "7ed596d5c452c4b2c4f665eaefdb8e698a35724aec4f033f380bb521c54bae6e", func := "mews/mewslaw37.MultiOrder", spec := "multiOrder", unfollowed := true, recurses := true, apart := false, narrowed := true }
def MultiOrderUptoSaid : Prop := multiOrderUptoRow.holds Try.pinned (OpenSpec.upto multiOrderSpec)

/-- 'mewslaw37.MultiWatch', WHERE WHAT IT READS IS OF BULK AT MOST 1048576: true; the input reads as it did. -/
def multiWatchUptoRow : OpenClaim := { program := "ytkamejnccmapkaa", sum := "7ed596d5c452c4b2c4f665eaefdb8e698a35724aec4f033f380bb521c54bae6e", func := "mews/mewslaw37.MultiWatch", spec := "multiWatch", unfollowed := true, recurses := true, apart := false, narrowed := true }
def MultiWatchUptoSaid : Prop := multiWatchUptoRow.holds Try.pinned (OpenSpec.upto multiWatchSpec)

/-- 'mewslaw37.MultiPlays', WHERE WHAT IT READS IS OF BULK AT MOST 1048576: true; the input reads as it did. -/
def multiPlaysUptoRow : OpenClaim := { program := "ytkamejnccmapkaa", sum := "7ed596d5c452c4b2c4f665eaefdb8e698a35724aec4f033f380bb521c54bae6e", func := "mews/mewslaw37.MultiPlays", spec := "multiPlays", unfollowed := true, recurses := true, apart := false, narrowed := true }
def MultiPlaysUptoSaid : Prop := multiPlaysUptoRow.holds Try.pinned (OpenSpec.upto multiPlaysSpec)

end Rows
end Go.Proofs.Ytkamejnccmapkaa
