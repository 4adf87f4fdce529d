/- The deque's New, for jobs. -/
import Derived.Test.YtnegagkjhnpgmaaScPop
namespace Go.Proofs.Ytnegagkjhnpgmaa.Sc
open Go.RowKit Go.Proofs.YtnegagkjhnpgmaaW.PrintWords Go.Proofs.YtnegagkjhnpgmaaW.PrintMore Go.Proofs.YtnegagkjhnpgmaaW.PrintLast Go.Proofs.Ytnegagkjhnpgmaa.Dq
set_option linter.unusedVariables false
set_option linter.unusedSimpArgs false
theorem DqJ.hg {w : World} {base g : Nat} {A : Option Addr} {l : List Jb} (h : DqJ w base g A l) : base ≤ g ∧ g < w.heap.size := by
  obtain ⟨R, f, h⟩ := h
  exact ⟨h.hg, h.lt⟩
def RelNw (w : World) (g : Nat) (R : List Jb) (v : Value) (wr : World) : Prop := ∃ (i : Nat) (A' : Option Addr), v = .int .i64 i ∧ i ≤ R.length ∧ DqJ wr w.heap.size g A' (R.take i) ∧ Below w.heap.size w wr
set_option maxHeartbeats 4000000 in
set_option maxRecDepth 100000 in
theorem new_calls (R : List Jb) (A : Option Addr) (c n : Nat) (hn : n = R.length) (w : World) (hA : Reads w A R) (hR : R.length < 1048576) :
    Calls Try.prog 25 #[.slice A n c] w fun e w' => ∃ g A', e = .returned (.pointer (some ⟨g, 0, none⟩)) ∧ DqJ w' w.heap.size g A' R ∧ Below w.heap.size w w' := by
  have hu := Try.underlying29
  have hu2 := Try.underlying66
  have HA := Aside0.mk hA
  have HRL := Aside0.mk hR
  have HN := Aside0.mk hn
  clear hA hR hn
  go_enter Try.func25, Try.ntmps25
  go_wp2_with (first | ((with_reducible refine gate_dst (N := 7) rfl ?_); refine box_event ?hg (N := 7) ?hd (cs := #[.slice none 0 0, .int .i64 0, .int .i64 0]) (t := 66) ?hr ?_; (case hd => rfl); (case hg => rfl); (case hr => first | (go_simp; done) | (go_simp; rfl)); intro g hg w1 hbox hb; have BB := Aside0.mk hb; have DQ := Aside0.mk (show DqJ w1 w.heap.size g none [] from ⟨[], 0, Nat.le_of_eq hg.symm, hbox, .inl ⟨rfl, rfl⟩, ⟨Nat.le_refl _, .inr ⟨rfl, rfl⟩, fun i h => absurd h (by simp)⟩, by simp⟩); clear hbox hb hg))
  go_loopw [10] (fun v10 wr => RelNw w g R v10 wr) (fun v10 _ => n - (intOf v10).toNat)
  case atStart => exact ⟨0, none, rfl, Nat.zero_le _, DQ.out, BB.out⟩
  case round =>
    clear DQ BB
    obtain ⟨i, A', rfl, hi, hdq, hb⟩ := hrel
    have DQ := Aside0.mk hdq
    have BB := Aside0.mk hb
    clear hdq hb
    by_cases hlt : i < n
    · have hlr : i < R.length := by rw [← HN.out]; exact hlt
      have e1 : ((i : Int) < (n : Int)) := by omega
      have e2 : (0 : Int) ≤ (i : Int) := Int.natCast_nonneg _
      have e3 := eq_true e1
      have e4 := eq_true e2
      have HLT := Aside0.mk hlt
      obtain ⟨ad, hAd, hc⟩ := (HA.out.below BB.out) (by omega)
      subst hAd
      obtain ⟨f0, f1, f2, f3⟩ := flat_get R i hlr
      have HT := Aside0.mk (show R.take (i + 1) = R.take i ++ [R[i]'hlr] from by rw [List.take_add_one, List.getElem?_eq_getElem hlr]; rfl)
      obtain ⟨x, hx⟩ : ∃ x, x = R[i]'hlr := ⟨_, rfl⟩
      rw [← hx] at f0 f1 f2 f3 HT
      obtain ⟨xh, xA, xn, xc, xs, xf⟩ := x
      have x0 : wr.cell? (ad.add (i * 4)) = some (.int .i64 xh) := hc _ _ f0
      have x1' := hc _ _ f1
      have x2' := hc _ _ f2
      have x3' := hc _ _ f3
      rw [← Addr.add_add] at x1' x2' x3'
      have x1 : wr.cell? ⟨(ad.add (i * 4)).block, (ad.add (i * 4)).off + 1, none⟩ = some (.slice xA xn xc) := by rw [← add_field _ _ 1 (by omega)]; exact hc _ _ f1
      have x2 : wr.cell? ⟨(ad.add (i * 4)).block, (ad.add (i * 4)).off + 2, none⟩ = some (.int .i64 xs) := by rw [← add_field _ _ 2 (by omega)]; exact hc _ _ f2
      have x3 : wr.cell? ⟨(ad.add (i * 4)).block, (ad.add (i * 4)).off + 3, none⟩ = some (.string xf) := by rw [← add_field _ _ 3 (by omega)]; exact hc _ _ f3
      clear hx f0 f1 f2 f3 hc hlr hlt
      go_wp2_with (first | ((with_reducible refine gate_dst (N := 5) rfl ?_); refine box_event ?hg (N := 5) ?hd (cs := #[.int .i64 0, .slice none 0 0, .int .i64 0, .string (⟨#[]⟩ : ByteArray)]) (t := 29) ?hr ?_; (case hd => rfl); (case hg => rfl); (case hr => first | (go_simp; done) | (go_simp; rfl)); intro g5 hg w3 hbox hb; have G5 := Aside0.mk (show wr.heap.size ≤ g5 from by rw [hg]; exact Nat.le_refl _); have BW := Aside0.mk hb; have B5 := Aside0.mk (show w3.heap[g5]? = some (.cells #[.int .i64 0, .slice none 0 0, .int .i64 0, .string (⟨#[]⟩ : ByteArray)] 29 (0, 0)) from hbox); clear hbox hb hg; clear x0 x1 x2 x3 x1' x2' x3'; obtain ⟨u0, u1, u2, u3, v0, v1, v2, v3⟩ := cells4 B5.out) | ((with_reducible refine gate_store (t := 29) (p := 5) rfl ?_); refine store_event2 (w1 := ((((w3.setCell ⟨g5, 0, none⟩ (.int .i64 xh)).setCell ⟨g5, 1, none⟩ (.slice xA xn xc)).setCell ⟨g5, 2, none⟩ (.int .i64 xs)).setCell ⟨g5, 3, none⟩ (.string xf))) ?hg ?hn ?hr ?_; (case hg => rfl); (case hn => rfl); (case hr => first | (go_simp; done) | (go_simp; rfl)); intro w4 hW; have T_ := Aside0.mk ((show Below wr.heap.size wr w4 from by rw [hW]; exact below_set (below_set (below_set (below_set BW.out G5.out) G5.out) G5.out) G5.out)); clear BW; have BW := T_; clear T_; have T_ := Aside0.mk ((show w4.heap[g5]? = some (.cells #[.int .i64 xh, .slice xA xn xc, .int .i64 xs, .string xf] 29 (0, 0)) from by rw [hW]; exact put4 B5.out _ _ _ _)); clear B5; have B5 := T_; clear T_; clear u0 u1 u2 u3 v0 v1 v2 v3; obtain ⟨u0, u1, u2, u3, v0, v1, v2, v3⟩ := cells4 B5.out; clear hW))
      go_at_call 27
      with_reducible refine Calls.mono (push_back g w.heap.size A' (R.take i) ⟨xh, xA, xn, xc, xs, xf⟩ _ (DQ.out.below BW.out) (by have := HRL.out; rw [List.length_take]; omega)) ?_
      rintro e w5 ⟨rfl, A2, hd2, hf2⟩
      have HD2 := Aside0.mk (show DqJ w5 w.heap.size g A2 (R.take (i + 1)) from by rw [HT.out]; exact hd2)
      have HB2 := Aside0.mk (hf2.below w rfl (below_tr BB.out BW.out))
      have e5 : IntKind.i64.wrap ((i : Int) + 1) = ((i : Int) + 1) := by have := HRL.out; have := HN.out; have := HLT.out; rw [IntKind.wrap_i64]; omega
      clear hd2 hf2 u0 u1 u2 u3 v0 v1 v2 v3
      go_wp2_with fail
      go_roundw
      case rel => exact ⟨i + 1, A2, by simp, by have := HLT.out; have := HN.out; omega, HD2.out, HB2.out⟩
      case measure => have := HLT.out; simp [intOf] <;> omega
    · have e1 : ¬ ((i : Int) < (n : Int)) := by omega
      have HE := Aside0.mk (show R.take i = R from List.take_of_length_le (by have := HN.out; omega))
      rw [HE.out] at DQ
      go_wp2_with fail
      go_ret
      exact ⟨g, rfl, ⟨A', DQ.out⟩, BB.out⟩
end Go.Proofs.Ytnegagkjhnpgmaa.Sc
