/- How an argument that can be read as data is, in the printed words: one law a shape of type. No program in sight. -/
import Derived.Test.YtehnogggokfcaaaWA
import Derived.SizedLaws
import Derived.Deep.Slices
import Derived.ChangeArms
import Derived.WideShapes
import Derived.OpenShut
namespace Go.Proofs.Ytehnogggokfcaaa.Y
open Go.RowKit Go.Deep Go.Proofs.YtehnogggokfcaaaW.PrintWords
set_option linter.unusedVariables false

def Opens {α : Type} (P : Program) (d : Kd α) (t : TypeId) (WF : α → Prop) : Prop :=
  ∀ (H : Type) (enc : TypeId × Value → H) (W : World) (fuel : Nat) (cs : List Value) (x : DataW H × List MemPlace),
    DataW.trod enc P W 0 (fun _ => true) true fuel t cs = some x → (∀ n ∈ DataW.weights P t x.1, n ≤ reachBytes) → ∃ a : α, d.K W a cs ∧ WF a
theorem opens_string {P : Program} {t : TypeId} (ht : P.underlying t = some .string) : Opens P Kd.string t (fun s => s.size ≤ 140737488351232) := by
  intro H enc W fuel cs x h hs
  obtain ⟨s, rfl, rfl, _⟩ := DataW.trod_string ht h
  refine ⟨s, rfl, ?_⟩
  have := hs s.data.toList.length (by simp [DataW.weights])
  rw [Array.length_toList] at this
  exact this
theorem arg_open {α : Type} {P : Program} {d : Kd α} {t : TypeId} {WF : α → Prop} {H : Type} {enc : TypeId × Value → H} {W : World} {v : Value} {dw : DataW H} {ps : List MemPlace} {ts : List TypeId} {ds : List (DataW H)}
    (ho : Opens P d t WF) (hsz : (DataW.weightsEach P ts ds).all (· ≤ reachBytes) = true) {j : Nat} (hj : ts[j]? = some t) (hd : ds[j]? = some dw) (h : DataW.Trod enc P W 0 (fun _ => true) true t v dw ps) :
    ∃ a, d.K W a v.cells.toList ∧ WF a := by
  obtain ⟨fuel, hf⟩ := h
  exact ho H enc W fuel _ _ hf fun n hn => by simpa using List.all_eq_true.1 hsz n (DataW.weights_mem_each hj hd n hn)
section
variable {P : Program} {w : World} {r : Reach} {base : Nat} {t : TypeId} {v u : Value}
open Go.WideShapes
theorem one_string (ht : P.underlying t = some .string) (hv : Value.okWide P w r base t v) (h : v.cells.toList = [u]) : v = u := by
  obtain ⟨n, rfl⟩ := okWide_string ht hv
  simpa [Value.cells] using h
end
end Go.Proofs.Ytehnogggokfcaaa.Y
