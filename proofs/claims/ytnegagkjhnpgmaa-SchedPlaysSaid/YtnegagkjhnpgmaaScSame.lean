/- The document's Same of a row and itself; the methods of no line. -/
import Derived.Test.YtnegagkjhnpgmaaScDrop
import Derived.Test.YtnegagkjhnpgmaaScRow
import Derived.Test.YtnegagkjhnpgmaaX6
namespace Go.Proofs.Ytnegagkjhnpgmaa.Sc
open Go.RowKit Go.Proofs.YtnegagkjhnpgmaaW.PrintWords Go.Proofs.YtnegagkjhnpgmaaW.PrintMore Go.Proofs.YtnegagkjhnpgmaaW.PrintLast Go.Proofs.Ytnegagkjhnpgmaa.Dq Go.Proofs.Ytnegagkjhnpgmaa.X
set_option linter.unusedVariables false
set_option linter.unusedSimpArgs false
attribute [local go_sem ↓] Go.wp_at_zero Go.wp_at_succ
theorem sj_l0 (x : S29) (hl : x.f1.length ≤ 1000000) : ∀ (k i : Nat), i ≤ x.f1.length → x.f1.length < k + i → mewsref44_SameJob.l0 k (i : Int) x.f0 x.f1 x.f2 x.f3 x.f0 x.f1 x.f2 x.f3 = some true
  | 0, i, h1, h2 => by omega
  | k + 1, i, h1, h2 => by
    unfold mewsref44_SameJob.l0
    by_cases h : i < x.f1.length
    · rw [if_pos (by omega), if_pos (by omega), if_pos (by omega), if_pos rfl]
      rw [show wrap64 ((i : Int) + 1) = ((i + 1 : Nat) : Int) from by unfold wrap64; omega]
      exact sj_l0 x hl k (i + 1) h (by omega)
    · rw [if_neg (by omega), if_pos rfl, if_pos rfl]
      simp
theorem sj_ev (x : S29) (hl : x.f1.length ≤ 1000) (k : Nat) (hk : 1000 < k) : mewsref44_SameJob.f k x.f0 x.f1 x.f2 x.f3 x.f0 x.f1 x.f2 x.f3 = some true := by
  unfold mewsref44_SameJob.f
  rw [if_pos rfl]
  exact sj_l0 x (by omega) k 0 (by omega) (by omega)
theorem same_l0 (xs : List S29) (hx : ∀ x ∈ xs, x.f1.length ≤ 1000) (hl : xs.length ≤ 1000000) : ∀ (k i : Nat), i ≤ xs.length → xs.length + 1001 < k + i → mewsref44_Same.l0 k xs xs (i : Int) = some true
  | 0, i, h1, h2 => by omega
  | k + 1, i, h1, h2 => by
    unfold mewsref44_Same.l0
    by_cases h : i < xs.length
    · rw [if_pos (by omega), if_pos (by omega), if_pos (by omega)]
      have hm : rd_T29 xs (i : Int) ∈ xs := by
        unfold rd_T29
        rw [Int.toNat_natCast, List.getD_eq_getElem?_getD, List.getElem?_eq_getElem h]
        exact List.getElem_mem _
      rw [sj_ev _ (hx _ hm) k (by omega), Option.bind_some, if_pos rfl]
      rw [show wrap64 ((i : Int) + 1) = ((i + 1 : Nat) : Int) from by unfold wrap64; omega]
      exact same_l0 xs hx hl k (i + 1) h (by omega)
    · rw [if_neg (by omega)]
theorem same_ev (xs : List S29) (hx : ∀ x ∈ xs, x.f1.length ≤ 1000) (hl : xs.length ≤ 1000000) : mewsref44_Same.f (xs.length + 1002) xs xs = some true := by
  unfold mewsref44_Same.f
  rw [if_pos rfl]
  exact same_l0 xs hx hl _ 0 (by omega) (by omega)
/-- Jobs whose texts came in. -/
def JIn (w : World) (q : List Jb) : Prop := ∀ j ∈ q, ∃ x, JOf w x j ∧ x.f1.length ≤ 20
theorem JIn.nil (w : World) : JIn w [] := fun j h => absurd h (by simp)
theorem JIn.app {w : World} {a b : List Jb} (h1 : JIn w a) (h2 : JIn w b) : JIn w (a ++ b) := fun j h => by
  rcases List.mem_append.1 h with h | h
  · exact h1 j h
  · exact h2 j h
theorem C29_of {W : World} {A : Option Addr} {R : List Jb} {xs : List S29} (hr : Reads W A R) (hl : xs.length = R.length) (hb : xs.length ≤ 1000000) (hj : ∀ i (h1 : i < xs.length) (h2 : i < R.length), JOf W (xs[i]'h1) (R[i]'h2)) : Kd.C k29 W A xs.length xs := by
  refine ⟨rfl, by omega, fun h0 => ?_⟩
  obtain ⟨ad, e, hc⟩ := hr (by omega)
  refine ⟨ad, e, fun i p hi => ?_⟩
  obtain ⟨h1, rfl⟩ := List.getElem?_eq_some_iff.1 hi
  have h2 : i < R.length := by omega
  obtain ⟨e0, e1, e2, e3, e4, e5⟩ := hj i h1 h2
  obtain ⟨f0, f1, f2, f3⟩ := flat_get R i h2
  rw [e0] at f0
  rw [e1] at f1 e2 e3
  rw [e4] at f2
  rw [e5] at f3
  refine ⟨_, rfl, k29_mk W (xs[i]'h1) e3 e2, fun m u hu => ?_⟩
  match m, hu with
  | 0, hu => simp at hu; subst hu; exact hc _ _ f0
  | 1, hu => simp at hu; subst hu; exact hc _ _ f1
  | 2, hu => simp at hu; subst hu; exact hc _ _ f2
  | 3, hu => simp at hu; subst hu; exact hc _ _ f3
  | m + 4, hu => simp at hu
theorem same_calls {w W : World} (hb : Below w.heap.size w W) {q : List Jb} (hq : JIn w q) (hl : q.length ≤ 1000000) {A0 A1 : Option Addr} {c0 c1 n m : Nat} (hn : n = q.length) (hm : m = q.length) (h0 : Reads W A0 q) (h1 : Reads W A1 q) (hc0 : q.length ≤ c0) (hc1 : q.length ≤ c1) :
    Calls Try.prog 23 #[.slice A0 n c0, .slice A1 m c1] W fun e w' => e = .returned (.bool true) ∧ Below W.heap.size W w' := by
  subst hn
  subst hm
  have key : ∀ i : Fin q.length, ∃ x : S29, JOf w x (q[i.val]'i.isLt) ∧ x.f1.length ≤ 20 := fun i => hq _ (List.getElem_mem _)
  obtain ⟨xs, hx1, hx2, hx3⟩ : ∃ xs : List S29, xs.length = q.length ∧ (∀ i (h1 : i < xs.length) (h2 : i < q.length), JOf W (xs[i]'h1) (q[i]'h2)) ∧ ∀ x ∈ xs, x.f1.length ≤ 1000 := by
    refine ⟨List.ofFn fun i => Classical.choose (key i), by simp, fun i h1 h2 => ?_, fun x hx => ?_⟩
    · rw [List.getElem_ofFn]
      exact (Classical.choose_spec (key ⟨i, h2⟩)).1.below hb
    · obtain ⟨i, rfl⟩ := List.mem_ofFn.1 hx
      have := (Classical.choose_spec (key i)).2
      omega
  have C0 := C29_of h0 hx1 (by omega) hx2
  have C1 := C29_of h1 hx1 (by omega) hx2
  have hcall := mewsref44_Same.calls (xs.length + 1002) A0 c0 xs A1 c1 xs true W C0 (by omega) C1 (by omega) (same_ev xs hx3 (by omega))
  rw [hx1] at hcall
  exact hcall
theorem back_nil (k : Int) (w : World) : Calls Try.prog 10 #[.pointer none, .int .i64 k] w fun e w' => e = .returned (.int .i64 0) ∧ w = w' := by
  have HA := Aside0.mk (aside_nil k w)
  go_enter Try.func10, Try.ntmps10
  go_wp2_with (first | (go_at_call 13; (with_reducible refine HA.out.mono ?_); rintro e w_ ⟨rfl, rfl⟩))
  go_ret
  exact ⟨rfl, rfl⟩
theorem drop_nil (k : Int) (w : World) : Calls Try.prog 20 #[.pointer none, .int .i64 k] w fun e w' => e = .returned (.int .i64 0) ∧ Below w.heap.size w w' := by
  go_enter Try.func20, Try.ntmps20
  go_wp2_with fail
  go_ret
  exact ⟨rfl, below_alloc (Below.refl _ _) _⟩
theorem next_none (p : Value) (v : Value) (w : World) (HL : ∀ W : World, Below w.heap.size w W → Calls Try.prog 12 #[p] W fun e w' => e = .returned (.int .i64 0) ∧ W = w') :
    Calls Try.prog 11 #[p, v] w fun e w' => e = .returned (.tuple #[.agg #[.int .i64 0, .slice none 0 0, .int .i64 0, .string (⟨#[]⟩ : ByteArray)], .bool false]) ∧ Below w.heap.size w w' := by
  have hu := Try.underlying29
  have HLN := Aside0.mk HL
  clear HL
  go_enter Try.func11, Try.ntmps11
  go_wp2_with (first | ((with_reducible refine gate_dst (N := 4) rfl ?_); refine box_event ?hg (N := 4) ?hd (cs := #[.int .i64 0, .slice none 0 0, .int .i64 0, .string (⟨#[]⟩ : ByteArray)]) (t := 29) ?hr ?_; (case hd => rfl); (case hg => rfl); (case hr => first | (go_simp; done) | (go_simp; rfl)); intro g4 hg_ w1 hbox hb; have G4 := Aside0.mk hg_; have BW1 := Aside0.mk hb; have B4 := Aside0.mk hbox; clear hbox hb hg_))
  go_loopw [5] (fun _ wr => wr = w1) (fun _ _ => 0)
  case atStart => rfl
  case round =>
    subst hrel
    have HLEN := Aside0.mk (HLN.out _ BW1.out)
    obtain ⟨y0, y1, y2, y3, t0, t1, t2, t3⟩ := cells4 B4.out
    go_wp2_with (first | (go_at_call 12; (with_reducible refine HLEN.out.mono ?_); rintro e w_ ⟨rfl, rfl⟩) | ((with_reducible refine gate_store (t := 29) (p := 4) rfl ?_); refine store_event2 (w1 := ((((wr.setCell ⟨g4, 0, none⟩ (.int .i64 0)).setCell ⟨g4, 1, none⟩ (.slice none 0 0)).setCell ⟨g4, 2, none⟩ (.int .i64 0)).setCell ⟨g4, 3, none⟩ (.string (⟨#[]⟩ : ByteArray)))) ?hg ?hn ?hr ?_; (case hg => rfl); (case hn => rfl); (case hr => first | (go_simp; done) | (go_simp; rfl)); intro w7 hW_; have HW7 := Aside0.mk hW_; clear hW_; clear y0 y1 y2 y3 t0 t1 t2 t3))
    have B47 := Aside0.mk (show w7.heap[g4]? = some (.cells #[.int .i64 0, .slice none 0 0, .int .i64 0, .string (⟨#[]⟩ : ByteArray)] 29 (0, 0)) from by rw [HW7.out]; exact put4 B4.out _ _ _ _)
    refine bodyPost_ret (results_ct rfl _ _ g4 29 #[.int .i64 0, .slice none 0 0, .int .i64 0, .string (⟨#[]⟩ : ByteArray)] (0, 0) _ rfl B47.out Try.underlying29 rfl (by kernel_rfl)) rfl ?_
    refine ⟨rfl, ?_⟩
    rw [HW7.out]
    exact below_set (below_set (below_set (below_set BW1.out (Nat.le_of_eq G4.out.symm)) (Nat.le_of_eq G4.out.symm)) (Nat.le_of_eq G4.out.symm)) (Nat.le_of_eq G4.out.symm)
end Go.Proofs.Ytnegagkjhnpgmaa.Sc
