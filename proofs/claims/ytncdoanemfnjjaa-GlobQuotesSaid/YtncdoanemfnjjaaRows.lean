/-
  No cell of these rows narrows 'for every input' (looked for: loops, veiled, ifaces, maps, wideKeys, modest, calm, conditions, laid).
  DERIVED. THE GIVEN ROWS OF THIS SEAT. 4 by the template 'for every input the law returns true; each argument reads behind the call as it read before'; 0 by the template 'total and deterministic' (their statements: YtncdoanemfnjjaaTotals.lean).
  GIVEN WITH THE SEED: the statements are not yours to turn. If you find one false, say at which input.
  Laid BY PROGRAM, IN A SANDBOX (cutbox-rows.mjs): the forced cells as the released guide's own fill.sh prints them over the translation 8c502f7a470d41e9… (all of the seat's roots in one cut). By AI agents, Wed Nov 11 2026. No macro, syntax, notation, axiom, sorry.
-/
import Derived.Test.YtncdoanemfnjjaaChecked
import GoSem.Claim
import GoSem.ClaimJoined
import GoSem.ClaimMapViews
import Derived.JoinedTies
import Derived.KernelRfl
namespace Go.Proofs.Ytncdoanemfnjjaa
/- THE CELL 'sum', in the pinned program and in every row, IS THE sha256 OF THE DUMP (.gsa) THAT YtncdoanemfnjjaaProg.lean LOADS. Nothing in Lean hashes anything: it is a label: what it is worth is what the hold of that sum in a sandbox is worth. -/
noncomputable def Try.pinned : Pinned := { name := "ytncdoanemfnjjaa", sum := "8c502f7a470d41e935503eaffccec0379324f87e66377a9b513ddcdb31cc3f2f", checked := Try.checked }
namespace Rows
def none {H : Type} : Left H := { results := [], args := [] }

/-- 'mewslaw02.GlobMatches': WHATEVER THE INPUT: true; the input reads as it did. -/
def globMatchesSpec : ChangeSpec := { name := "globMatches", fn := fun _ => fun
  | [d1, d2] => { results := [.lit (.bool true)], args := [d1, d2] }
  | _ => none }
def globMatchesRow : OpenClaim := { program := "ytncdoanemfnjjaa", sum := "8c502f7a470d41e935503eaffccec0379324f87e66377a9b513ddcdb31cc3f2f", func := "mews/mewslaw02.GlobMatches", spec := "globMatches", apart := false }
def GlobMatchesSaid : Prop := globMatchesRow.holds Try.pinned (OpenSpec.ofChange globMatchesSpec)

/-- ITS FALSE NEIGHBOUR: 'it returns false'. Refute it at one input. -/
def globMatchesWrong : ChangeSpec := { name := "globMatches", fn := fun _ => fun
  | [d1, d2] => { results := [.lit (.bool false)], args := [d1, d2] }
  | _ => none }
def GlobMatchesWrongFalsely : Prop := globMatchesRow.holds Try.pinned (OpenSpec.ofChange globMatchesWrong)

/-- 'mewslaw02.GlobAlone': WHATEVER THE INPUT: true; the input reads as it did. -/
def globAloneSpec : ChangeSpec := { name := "globAlone", fn := fun _ => fun
  | [d1, d2] => { results := [.lit (.bool true)], args := [d1, d2] }
  | _ => none }
def globAloneRow : OpenClaim := { program := "ytncdoanemfnjjaa", sum := "8c502f7a470d41e935503eaffccec0379324f87e66377a9b513ddcdb31cc3f2f", func := "mews/mewslaw02.GlobAlone", spec := "globAlone", apart := false }
def GlobAloneSaid : Prop := globAloneRow.holds Try.pinned (OpenSpec.ofChange globAloneSpec)

/-- ITS FALSE NEIGHBOUR: 'it returns false'. Refute it at one input. -/
def globAloneWrong : ChangeSpec := { name := "globAlone", fn := fun _ => fun
  | [d1, d2] => { results := [.lit (.bool false)], args := [d1, d2] }
  | _ => none }
def GlobAloneWrongFalsely : Prop := globAloneRow.holds Try.pinned (OpenSpec.ofChange globAloneWrong)

/-- 'mewslaw02.GlobRuns': WHATEVER THE INPUT: true; the input reads as it did. -/
def globRunsSpec : ChangeSpec := { name := "globRuns", fn := fun _ => fun
  | [d1, d2] => { results := [.lit (.bool true)], args := [d1, d2] }
  | _ => none }
def globRunsRow : OpenClaim := { program := "ytncdoanemfnjjaa", sum := "8c502f7a470d41e935503eaffccec0379324f87e66377a9b513ddcdb31cc3f2f", func := "mews/mewslaw02.GlobRuns", spec := "globRuns", apart := false }
def GlobRunsSaid : Prop := globRunsRow.holds Try.pinned (OpenSpec.ofChange globRunsSpec)

/-- ITS FALSE NEIGHBOUR: 'it returns false'. Refute it at one input. -/
def globRunsWrong : ChangeSpec := { name := "globRuns", fn := fun _ => fun
  | [d1, d2] => { results := [.lit (.bool false)], args := [d1, d2] }
  | _ => none }
def GlobRunsWrongFalsely : Prop := globRunsRow.holds Try.pinned (OpenSpec.ofChange globRunsWrong)

/-- 'mewslaw02.GlobQuotes': WHATEVER THE INPUT: true; the input reads as it did. -/
def globQuotesSpec : ChangeSpec := { name := "globQuotes", fn := fun _ => fun
  | [d1, d2] => { results := [.lit (.bool true)], args := [d1, d2] }
  | _ => none }
def globQuotesRow : OpenClaim := { program := "ytncdoanemfnjjaa", sum := "8c502f7a470d41e935503eaffccec0379324f87e66377a9b513ddcdb31cc3f2f", func := "mews/mewslaw02.GlobQuotes", spec := "globQuotes", apart := false }
def GlobQuotesSaid : Prop := globQuotesRow.holds Try.pinned (OpenSpec.ofChange globQuotesSpec)

/-- ITS FALSE NEIGHBOUR: 'it returns false'. Refute it at one input. -/
def globQuotesWrong : ChangeSpec := { name := "globQuotes", fn := fun _ => fun
  | [d1, d2] => { results := [.lit (.bool false)], args := [d1, d2] }
  | _ => none }
def GlobQuotesWrongFalsely : Prop := globQuotesRow.holds Try.pinned (OpenSpec.ofChange globQuotesWrong)

/- THE SECOND FORM. 'bulk': how many values and letters a reading holds, each counted each time it is reached (what is shared counts as often as it is met; a slice's spare places count too). A statement '..UptoSaid' is the law's where the arguments, and the package variables that the reading takes, are together of bulk at most 1048576: NARROWER than '..Said'. Prove '..Said' where nothing that the law and all that it calls make is longer than what came in: it says more and counts as full. Else prove '..UptoSaid'. A law counts once. -/
mutual
def uptoBulk {H : Type} : DataW H → Nat
  | .lit (.string bytes) => bytes.length + 1
  | .lit _ => 1
  | .nil => 1
  | .ptr d => uptoBulk d + 1
  | .slice elems spare => uptoBulkAll elems + uptoBulkAll spare + 1
  | .agg parts => uptoBulkAll parts + 1
  | .iface _ d => uptoBulk d + 1
  | .map entries => uptoBulkEntries entries + 1
  | .held _ => 1
def uptoBulkAll {H : Type} : List (DataW H) → Nat
  | [] => 0
  | d :: r => uptoBulk d + uptoBulkAll r
def uptoBulkEntries {H : Type} : List (Lit × DataW H) → Nat
  | [] => 0
  | x :: r => uptoBulkEntry x + uptoBulkEntries r
def uptoBulkEntry {H : Type} : Lit × DataW H → Nat
  | (.string bytes, d) => bytes.length + uptoBulk d + 1
  | (_, d) => uptoBulk d + 1
 end
def uptoSmall : (H : Type) → List (DataW H) → Bool := fun _ ds => decide (uptoBulkAll ds ≤ 1048576)
def OpenSpec.upto (s : _root_.Go.ChangeSpec) : _root_.Go.OpenSpec := { _root_.Go.OpenSpec.ofChange s with cond := some uptoSmall }

/-- 'mewslaw02.GlobMatches', WHERE WHAT IT READS IS OF BULK AT MOST 1048576: true; the input reads as it did. -/
def globMatchesUptoRow : OpenClaim := { program := "ytncdoanemfnjjaa", sum := "8c502f7a470d41e935503eaffccec0379324f87e66377a9b513ddcdb31cc3f2f", func := "mews/mewslaw02.GlobMatches", spec := "globMatches", apart := false, narrowed := true }
def GlobMatchesUptoSaid : Prop := globMatchesUptoRow.holds Try.pinned (OpenSpec.upto globMatchesSpec)

/-- 'mewslaw02.GlobAlone', WHERE WHAT IT READS IS OF BULK AT MOST 1048576: true; the input reads as it did. -/
def globAloneUptoRow : OpenClaim := { program := "ytncdoanemfnjjaa", sum := "8c502f7a470d41e935503eaffccec0379324f87e66377a9b513ddcdb31cc3f2f", func := "mews/mewslaw02.GlobAlone", spec := "globAlone", apart := false, narrowed := true }
def GlobAloneUptoSaid : Prop := globAloneUptoRow.holds Try.pinned (OpenSpec.upto globAloneSpec)

/-- 'mewslaw02.GlobRuns', WHERE WHAT IT READS IS OF BULK AT MOST 1048576: true; the input reads as it did. -/
def globRunsUptoRow : OpenClaim := { program := "ytncdoanemfnjjaa", sum := "8c502f7a470d41e935503eaffccec0379324f87e66377a9b513ddcdb31cc3f2f", func := "mews/mewslaw02.GlobRuns", spec := "globRuns", apart := false, narrowed := true }
def GlobRunsUptoSaid : Prop := globRunsUptoRow.holds Try.pinned (OpenSpec.upto globRunsSpec)

/-- 'mewslaw02.GlobQuotes', WHERE WHAT IT READS IS OF BULK AT MOST 1048576: true; the input reads as it did. -/
def globQuotesUptoRow : OpenClaim := { program := "ytncdoanemfnjjaa", sum := "8c502f7a470d41e935503eaffccec0379324f87e66377a9b513ddcdb31cc3f2f", func := "mews/mewslaw02.GlobQuotes", spec := "globQuotes", apart := false, narrowed := true }
def GlobQuotesUptoSaid : Prop := globQuotesUptoRow.holds Try.pinned (OpenSpec.upto globQuotesSpec)

end Rows
end Go.Proofs.Ytncdoanemfnjjaa
