/- What the walks of the laws of patterns want: the calls' contracts. -/
import Derived.Test.YtncdoanemfnjjaaGlMatchW
import Derived.Test.YtncdoanemfnjjaaGlPlain
import Derived.Test.YtncdoanemfnjjaaPureGlobAlone
import Derived.Test.YtncdoanemfnjjaaX1
import Derived.Test.YtncdoanemfnjjaaX4
import Derived.Test.YtncdoanemfnjjaaX6
import Derived.Test.YtncdoanemfnjjaaX7
import Derived.Test.YtncdoanemfnjjaaX13
import Derived.Test.YtncdoanemfnjjaaX14
namespace Go.Proofs.Ytncdoanemfnjjaa.Gl
open Go.RowKit Go.Proofs.YtncdoanemfnjjaaW.PrintWords Go.Proofs.YtncdoanemfnjjaaW.PrintMore Go.Proofs.YtncdoanemfnjjaaW.PrintLast Go.Proofs.Ytncdoanemfnjjaa.Y Go.Proofs.Ytncdoanemfnjjaa.X Go.Proofs.Ytncdoanemfnjjaa.Pure
set_option linter.unusedVariables false
set_option linter.unusedSimpArgs false
theorem lit_C {W : World} {g : Nat} {t : TypeId} (l : List ByteArray) (hb : W.heap[g]? = some (.cells (l.map Value.string).toArray t (0, 0))) (hl : l.length ≤ maxLen) : Kd.C Kd.string W (some ⟨g, 0, none⟩) l.length l := by
  refine ⟨rfl, hl, fun _ => ⟨⟨g, 0, none⟩, rfl, fun j p hj => ⟨[.string p], rfl, rfl, fun i u hu => ?_⟩⟩⟩
  have hi : i = 0 := by
    have := (List.getElem?_eq_some_iff.1 hu).1
    simpa using this
  subst hi
  have hvu : Value.string p = u := by simpa using hu
  subst hvu
  have h1 := blk_cell hb j
  have h2 : ((l.map Value.string).toArray)[j]? = some (.string p) := by simp [hj]
  rw [h2] at h1
  simpa [Addr.add_lit, show Kd.string.sz = 1 from rfl] using h1
theorem lit_event {P : Program} {ops : Array Oper} {Q : Exit → Act → World → Prop} {rest : List Oper} {o : Oper} {a : Act} {W : World} (hgd : o.guard = none) {N : Tmp} (_hd : o.dst = some N) {cs : Array Value} {t : TypeId} {n : Nat}
    (hrun : (execOp a.eval o).run P W = .ok (.value (.slice (some ⟨W.heap.size, 0, none⟩) n n)) (W.alloc (.cells cs t (0, 0))))
    (h : ∀ g, g = W.heap.size → ∀ w1, w1.heap[g]? = some (.cells cs t (0, 0)) → Below W.heap.size W w1 → wpList P ops Q rest (a.put o.dst (.slice (some ⟨g, 0, none⟩) n n)) w1) : wpList P ops Q (o :: rest) a W :=
  Kd.event_run hgd hrun (h _ rfl _ (blk_new W _) (below_alloc (Below.refl _ _) _))
/-- Is a list too long? -/
def farB (l : List ByteArray) : Bool := l.any (fun s => decide (300 < s.size)) || decide (100 < l.length)
theorem far_con (l : List ByteArray) (hl : l.length ≤ 140737488351232) (W : World) (A : Option Addr) (c : Nat) (hc : l.length ≤ c) (hr : Kd.C Kd.string W A l.length l) :
    Calls Try.prog 7 #[.slice A l.length c] W fun e w' => e = .returned (.bool (farB l)) ∧ Below W.heap.size W w' := by
  obtain ⟨k, hk⟩ := (far_ev l hl).rounds
  exact (mewslaw02_far.calls k A c l _ W hr hc hk).mono (fun e w' h => ⟨h.1, h.2.below⟩)
theorem far_no {l : List ByteArray} (h : farB l = false) : l.length ≤ 100 ∧ ∀ s ∈ l, s.size ≤ 300 := by
  unfold farB at h
  rw [Bool.or_eq_false_iff] at h
  refine ⟨by have := of_decide_eq_false h.2; omega, fun s hs => ?_⟩
  have := List.any_eq_false.1 h.1 s hs
  simp at this
  omega
theorem alive_con (W : World) : Calls Try.prog 8 #[] W fun e w' => e = .returned (.bool true) ∧ Below W.heap.size W w' := by
  obtain ⟨k, hk⟩ := alive_ev.rounds
  exact mewslaw02_alive.calls k true W hk
theorem gmatch_con (p s : ByteArray) (hp : p.size ≤ 1000) (hs : s.size ≤ 1000) (W : World) : Calls Try.prog 9 #[.string p, .string s] W fun e w' => e = .returned (.bool (matchL p.data.toList s.data.toList)) ∧ Below W.heap.size W w' := by
  obtain ⟨b, hb, hb2⟩ := match_ev p s (by omega) (by omega)
  obtain ⟨k, hk⟩ := hb.rounds
  have e : b = matchL p.data.toList s.data.toList := by
    have := hb2.trans (matchL_mt p.data.toList s.data.toList).symm
    cases b with
    | true => exact (this.1 rfl).symm
    | false =>
      cases h : matchL p.data.toList s.data.toList with
      | false => rfl
      | true => exact this.2 h
  rw [← e]
  exact glob_Match.calls k p s b W hk
end Go.Proofs.Ytncdoanemfnjjaa.Gl
