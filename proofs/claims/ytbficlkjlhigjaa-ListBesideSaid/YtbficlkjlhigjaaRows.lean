/-
  No cell of these rows narrows 'for every input' (looked for: loops, veiled, ifaces, maps, wideKeys, modest, calm, conditions, laid).
  DERIVED. THE GIVEN ROWS OF THIS SEAT. 5 by the template 'for every input the law returns true; each argument reads behind the call as it read before'; 0 by the template 'total and deterministic' (their statements: YtbficlkjlhigjaaTotals.lean).
  GIVEN WITH THE SEED: the statements are not yours to turn. If you find one false, say at which input.
  Laid BY PROGRAM, IN A SANDBOX (cutbox-rows.mjs): the forced cells as the released guide's own fill.sh prints them over the translation 7052ad9697c3950c… (all of the seat's roots in one cut). By AI agents, Wed Nov 11 2026. No macro, syntax, notation, axiom, sorry.
-/
import Derived.Test.YtbficlkjlhigjaaChecked
import GoSem.Claim
import GoSem.ClaimJoined
import GoSem.ClaimMapViews
import Derived.JoinedTies
import Derived.KernelRfl
namespace Go.Proofs.Ytbficlkjlhigjaa
/- THE CELL 'sum', in the pinned program and in every row, IS THE sha256 OF THE DUMP (.gsa) THAT YtbficlkjlhigjaaProg.lean LOADS. Nothing in Lean hashes anything: it is a label: what it is worth is what the hold of that sum in a sandbox is worth. -/
noncomputable def Try.pinned : Pinned := { name := "ytbficlkjlhigjaa", sum := "7052ad9697c3950cdd2406775c7cf06c986dd87edef33dca6a15c0cdf4da8e0a", checked := Try.checked }
namespace Rows
def none {H : Type} : Left H := { results := [], args := [] }

/-- 'mewslaw21.ListDrops': WHATEVER THE INPUT: true; the input reads as it did. -/
def listDropsSpec : ChangeSpec := { name := "listDrops", fn := fun _ => fun
  | [d1, d2, d3] => { results := [.lit (.bool true)], args := [d1, d2, d3] }
  | _ => none }
def listDropsRow : OpenClaim := { program := "ytbficlkjlhigjaa", sum := "7052ad9697c3950cdd2406775c7cf06c986dd87edef33dca6a15c0cdf4da8e0a", func := "mews/mewslaw21.ListDrops", spec := "listDrops", unfollowed := true, recurses := true, apart := false }
def ListDropsSaid : Prop := listDropsRow.holds Try.pinned (OpenSpec.ofChange listDropsSpec)

/-- ITS FALSE NEIGHBOUR: 'it returns false'. Refute it at one input. -/
def listDropsWrong : ChangeSpec := { name := "listDrops", fn := fun _ => fun
  | [d1, d2, d3] => { results := [.lit (.bool false)], args := [d1, d2, d3] }
  | _ => none }
def ListDropsWrongFalsely : Prop := listDropsRow.holds Try.pinned (OpenSpec.ofChange listDropsWrong)

/-- 'mewslaw21.ListFinds': WHATEVER THE INPUT: true; the input reads as it did. -/
def listFindsSpec : ChangeSpec := { name := "listFinds", fn := fun _ => fun
  | [d1, d2, d3] => { results := [.lit (.bool true)], args := [d1, d2, d3] }
  | _ => none }
def listFindsRow : OpenClaim := { program := "ytbficlkjlhigjaa", sum := "7052ad9697c3950cdd2406775c7cf06c986dd87edef33dca6a15c0cdf4da8e0a", func := "mews/mewslaw21.ListFinds", spec := "listFinds", unfollowed := true, recurses := true, apart := false }
def ListFindsSaid : Prop := listFindsRow.holds Try.pinned (OpenSpec.ofChange listFindsSpec)

/-- ITS FALSE NEIGHBOUR: 'it returns false'. Refute it at one input. -/
def listFindsWrong : ChangeSpec := { name := "listFinds", fn := fun _ => fun
  | [d1, d2, d3] => { results := [.lit (.bool false)], args := [d1, d2, d3] }
  | _ => none }
def ListFindsWrongFalsely : Prop := listFindsRow.holds Try.pinned (OpenSpec.ofChange listFindsWrong)

/-- 'mewslaw21.ListParts': WHATEVER THE INPUT: true; the input reads as it did. -/
def listPartsSpec : ChangeSpec := { name := "listParts", fn := fun _ => fun
  | [d1, d2, d3] => { results := [.lit (.bool true)], args := [d1, d2, d3] }
  | _ => none }
def listPartsRow : OpenClaim := { program := "ytbficlkjlhigjaa", sum := "7052ad9697c3950cdd2406775c7cf06c986dd87edef33dca6a15c0cdf4da8e0a", func := "mews/mewslaw21.ListParts", spec := "listParts", unfollowed := true, recurses := true, apart := false }
def ListPartsSaid : Prop := listPartsRow.holds Try.pinned (OpenSpec.ofChange listPartsSpec)

/-- ITS FALSE NEIGHBOUR: 'it returns false'. Refute it at one input. -/
def listPartsWrong : ChangeSpec := { name := "listParts", fn := fun _ => fun
  | [d1, d2, d3] => { results := [.lit (.bool false)], args := [d1, d2, d3] }
  | _ => none }
def ListPartsWrongFalsely : Prop := listPartsRow.holds Try.pinned (OpenSpec.ofChange listPartsWrong)

/-- 'mewslaw21.ListMoves': WHATEVER THE INPUT: true; the input reads as it did. -/
def listMovesSpec : ChangeSpec := { name := "listMoves", fn := fun _ => fun
  | [d1, d2, d3] => { results := [.lit (.bool true)], args := [d1, d2, d3] }
  | _ => none }
def listMovesRow : OpenClaim := { program := "ytbficlkjlhigjaa", sum := "7052ad9697c3950cdd2406775c7cf06c986dd87edef33dca6a15c0cdf4da8e0a", func := "mews/mewslaw21.ListMoves", spec := "listMoves", unfollowed := true, recurses := true, apart := false }
def ListMovesSaid : Prop := listMovesRow.holds Try.pinned (OpenSpec.ofChange listMovesSpec)

/-- ITS FALSE NEIGHBOUR: 'it returns false'. Refute it at one input. -/
def listMovesWrong : ChangeSpec := { name := "listMoves", fn := fun _ => fun
  | [d1, d2, d3] => { results := [.lit (.bool false)], args := [d1, d2, d3] }
  | _ => none }
def ListMovesWrongFalsely : Prop := listMovesRow.holds Try.pinned (OpenSpec.ofChange listMovesWrong)

/-- 'mewslaw21.ListBeside': WHATEVER THE INPUT: true; the input reads as it did. -/
def listBesideSpec : ChangeSpec := { name := "listBeside", fn := fun _ => fun
  | [d1, d2, d3] => { results := [.lit (.bool true)], args := [d1, d2, d3] }
  | _ => none }
def listBesideRow : OpenClaim := { program := "ytbficlkjlhigjaa", sum := "7052ad9697c3950cdd2406775c7cf06c986dd87edef33dca6a15c0cdf4da8e0a", func := "mews/mewslaw21.ListBeside", spec := "listBeside", unfollowed := true, recurses := true, apart := false }
def ListBesideSaid : Prop := listBesideRow.holds Try.pinned (OpenSpec.ofChange listBesideSpec)

/-- ITS FALSE NEIGHBOUR: 'it returns false'. Refute it at one input. -/
def listBesideWrong : ChangeSpec := { name := "listBeside", fn := fun _ => fun
  | [d1, d2, d3] => { results := [.lit (.bool false)], args := [d1, d2, d3] }
  | _ => none }
def ListBesideWrongFalsely : Prop := listBesideRow.holds Try.pinned (OpenSpec.ofChange listBesideWrong)

/- THE SECOND FORM. 'bulk': how many values and letters a reading holds, each counted each time it is reached (what is shared counts as often as it is met; a slice's spare places count too). A statement '..UptoSaid' is the law's where the arguments, and the package variables that the reading takes, are together of bulk at most 1048576: NARROWER than '..Said'. Prove '..Said' where nothing that the law and all that it calls make is longer than what came in: it says more and counts as full. Else prove '..UptoSaid'. A law counts once. -/
mutual
def uptoBulk {H : Type} : DataW H → Nat
  | .lit (.string bytes) => bytes.length + 1
  | .lit _ => 1
  | .nil => 1
  | .ptr d => uptoBulk d + 1
  | .slice elems spare => uptoBulkAll elems + uptoBulkAll spare + 1
  | .agg parts => uptoBulkAll parts + 1
  | .iface _ d => uptoBulk d + 1
  | .map entries => uptoBulkEntries entries + 1
  | .held _ => 1
def uptoBulkAll {H : Type} : List (DataW H) → Nat
  | [] => 0
  | d :: r => uptoBulk d + uptoBulkAll r
def uptoBulkEntries {H : Type} : List (Lit × DataW H) → Nat
  | [] => 0
  | x :: r => uptoBulkEntry x + uptoBulkEntries r
def uptoBulkEntry {H : Type} : Lit × DataW H → Nat
  | (.string bytes, d) => bytes.length + uptoBulk d + 1
  | (_, d) => uptoBulk d + 1
 end
def uptoSmall : (H : Type) → List (DataW H) → Bool := fun _ ds => decide (uptoBulkAll ds ≤ 1048576)
def OpenSpec.upto (s : _root_.Go.ChangeSpec) : _root_.Go.OpenSpec := { _root_.Go.OpenSpec.ofChange s with cond := some uptoSmall }

/-- 'mewslaw21.ListDrops', WHERE WHAT IT READS IS OF BULK AT MOST 1048576: true; the input reads as it did. -/
def listDropsUptoRow : OpenClaim := { program := "ytbficlkjlhigjaa", sum := "7052ad9697c3950cdd2406775c7cf06c986dd87edef33dca6a15c0cdf4da8e0a", func := "mews/mewslaw21.ListDrops", spec := "listDrops", unfollowed := true, recurses := true, apart := false, narrowed := true }
def ListDropsUptoSaid : Prop := listDropsUptoRow.holds Try.pinned (OpenSpec.upto listDropsSpec)

/-- 'mewslaw21.ListFinds', WHERE WHAT IT READS IS OF BULK AT MOST 1048576: true; the input reads as it did. -/
def listFindsUptoRow : OpenClaim := { program := "ytbficlkjlhigjaa", sum := "7052ad9697c3950cdd2406775c7cf06c986dd87edef33dca6a15c0cdf4da8e0a", func := "mews/mewslaw21.ListFinds", spec := "listFinds", unfollowed := true, recurses := true, apart := false, narrowed := true }
def ListFindsUptoSaid : Prop := listFindsUptoRow.holds Try.pinned (OpenSpec.upto listFindsSpec)

/-- 'mewslaw21.ListParts', WHERE WHAT IT READS IS OF BULK AT MOST 1048576: true; the input reads as it did. -/
def listPartsUptoRow : OpenClaim := { program := "ytbficlkjlhigjaa", sum := "7052ad9697c3950cdd2406775c7cf06c986dd87edef33dca6a15c0cdf4da8e0a", func := "mews/mewslaw21.ListParts", spec := "listParts", unfollowed := true, recurses := true, apart := false, narrowed := true }
def ListPartsUptoSaid : Prop := listPartsUptoRow.holds Try.pinned (OpenSpec.upto listPartsSpec)

/-- 'mewslaw21.ListMoves', WHERE WHAT IT READS IS OF BULK AT MOST 1048576: true; the input reads as it did. -/
def listMovesUptoRow : OpenClaim := { program := "ytbficlkjlhigjaa", sum := "7052ad9697c3950cdd2406775c7cf06c986dd87edef33dca6a15c0cdf4da8e0a", func := "mews/mewslaw21.ListMoves", spec := "listMoves", unfollowed := true, recurses := true, apart := false, narrowed := true }
def ListMovesUptoSaid : Prop := listMovesUptoRow.holds Try.pinned (OpenSpec.upto listMovesSpec)

/-- 'mewslaw21.ListBeside', WHERE WHAT IT READS IS OF BULK AT MOST 1048576: true; the input reads as it did. -/
def listBesideUptoRow : OpenClaim := { program := "ytbficlkjlhigjaa", sum := "7052ad9697c3950cdd2406775c7cf06c986dd87edef33dca6a15c0cdf4da8e0a", func := "mews/mewslaw21.ListBeside", spec := "listBeside", unfollowed := true, recurses := true, apart := false, narrowed := true }
def ListBesideUptoSaid : Prop := listBesideUptoRow.holds Try.pinned (OpenSpec.upto listBesideSpec)

end Rows
end Go.Proofs.Ytbficlkjlhigjaa
