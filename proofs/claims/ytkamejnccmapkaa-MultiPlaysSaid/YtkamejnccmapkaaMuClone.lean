/- slices.Clone, of texts and of rows. -/
import Derived.Test.YtkamejnccmapkaaMuRow
import Derived.Test.YtkamejnccmapkaaMuRep
import Derived.Laws.Cover3
namespace Go.Proofs.Ytkamejnccmapkaa.Mu
open Go.RowKit Go.Proofs.YtkamejnccmapkaaW.PrintWords Go.Proofs.YtkamejnccmapkaaW.PrintMore Go.Proofs.YtkamejnccmapkaaW.PrintLast
set_option linter.unusedVariables false
set_option linter.unusedSimpArgs false
attribute [local go_sem ↓] Go.wp_at_zero Go.wp_at_succ
theorem eql_slice_nil_ {P : Program} (w : World) (t e : TypeId) (a : Option Addr) (l c : Nat) (h : P.underlying t = some (.slice e)) : (binOp .eql t (.slice a l c) (.slice none 0 0)).run P w = .ok (.bool a.isNone) w := by
  simp only [binOp]
  simp [run_equal_slice_nil w t e a l c h]
theorem own_empty (w : World) (E : TypeId) : (w.alloc (.cells #[] E)).ownsRow w.heap.size E 1 (.slice (some ⟨w.heap.size, 0, none⟩) 0 0) 0 [] := by
  refine ⟨rfl, .inr ⟨w.heap.size, 0, #[], rfl, Nat.le_refl _, blk_new _ _, Nat.le_refl _, ?_⟩⟩
  simp
set_option maxHeartbeats 1000000 in
set_option maxRecDepth 100000 in
theorem clone_calls (v : Value) (l : List ByteArray) (w : World) (h : Rd w v l) (hl : l.length ≤ 1000000) :
    Calls Try.prog 28 #[v] w fun e w' => ∃ v', e = .returned v' ∧ w'.ownsRow w.heap.size 9 1 v' l.length (encs Value.string l) ∧ Below w.heap.size w w' := by
  obtain ⟨A, c, rfl, hc, hr⟩ := h
  have hnil := fun W => eql_slice_nil_ (P := Try.prog) W 23 9 A l.length c Try.underlying23
  cases A with
  | none =>
    have h0 : l = [] := by
      rcases Nat.eq_zero_or_pos l.length with h0 | h0
      · exact List.eq_nil_of_length_eq_zero h0
      · obtain ⟨ad, h, _⟩ := hr.2.2 h0
        cases h
    subst h0
    clear hr hc
    simp only [List.length_nil] at hnil ⊢
    go_enter Try.func28, Try.ntmps28
    go_wp2
    go_ret
    exact ⟨_, rfl, own_nil _ _ _ _, Below.refl _ _⟩
  | some ad =>
    have HR := Aside0.mk hr
    have HL := Aside0.mk hl
    clear hr hc hl
    go_enter Try.func28, Try.ntmps28
    go_wp2_with (first | (at_builtin; refine wp_app rfl (.tmp 5) (.tmp 6) (by rfl) w w.heap.size (.slice (some ⟨w.heap.size, 0, none⟩) 0 0) [] l (some ad) l.length c (by rfl) (by rfl) (own_empty w _) (HR.out.below (below_alloc (Below.refl _ _) _)) (below_alloc (Below.refl _ _) _) (by simp) (by have := HL.out; simp; omega) ?_; intro va wa hOa hBa hsa; rw [List.nil_append] at hOa; have HOa := Aside0.mk hOa; have HBa := Aside0.mk hBa; clear hOa hBa hsa))
    go_ret
    exact ⟨_, rfl, HOa.out, HBa.out⟩
set_option maxHeartbeats 1000000 in
set_option maxRecDepth 100000 in
theorem clone2_calls (v : Value) (l : List SV) (w : World) (h : Rd2 w v l) (hl : l.length ≤ 1000000) :
    Calls Try.prog 32 #[v] w fun e w' => ∃ v', e = .returned v' ∧ w'.ownsRow w.heap.size 23 1 v' l.length (encs encV l) ∧ Below w.heap.size w w' := by
  obtain ⟨A, c, rfl, hc, hr⟩ := h
  have hnil := fun W => eql_slice_nil_ (P := Try.prog) W 22 23 A l.length c Try.underlying22
  cases A with
  | none =>
    have h0 : l = [] := by
      rcases Nat.eq_zero_or_pos l.length with h0 | h0
      · exact List.eq_nil_of_length_eq_zero h0
      · obtain ⟨ad, h, _⟩ := hr.2.2 h0
        cases h
    subst h0
    clear hr hc
    simp only [List.length_nil] at hnil ⊢
    go_enter Try.func32, Try.ntmps32
    go_wp2
    go_ret
    exact ⟨_, rfl, own_nil _ _ _ _, Below.refl _ _⟩
  | some ad =>
    have HR := Aside0.mk hr
    have HL := Aside0.mk hl
    clear hr hc hl
    go_enter Try.func32, Try.ntmps32
    go_wp2_with (first | (at_builtin; refine wp_app2 rfl (.tmp 5) (.tmp 6) (by rfl) w w.heap.size (.slice (some ⟨w.heap.size, 0, none⟩) 0 0) [] l (some ad) l.length c (by rfl) (by rfl) (own_empty w _) (HR.out.below (below_alloc (Below.refl _ _) _)) (below_alloc (Below.refl _ _) _) (by simp) (by have := HL.out; simp; omega) ?_; intro va wa hOa hBa hsa; rw [List.nil_append] at hOa; have HOa := Aside0.mk hOa; have HBa := Aside0.mk hBa; clear hOa hBa hsa))
    go_ret
    exact ⟨_, rfl, HOa.out, HBa.out⟩
end Go.Proofs.Ytkamejnccmapkaa.Mu
