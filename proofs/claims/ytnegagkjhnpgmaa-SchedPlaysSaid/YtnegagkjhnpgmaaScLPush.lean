/- The line's Push. -/
import Derived.Test.YtnegagkjhnpgmaaScLine
namespace Go.Proofs.Ytnegagkjhnpgmaa.Sc
open Go.RowKit Go.Proofs.YtnegagkjhnpgmaaW.PrintWords Go.Proofs.YtnegagkjhnpgmaaW.PrintMore Go.Proofs.YtnegagkjhnpgmaaW.PrintLast Go.Proofs.Ytnegagkjhnpgmaa.Dq
set_option linter.unusedVariables false
set_option linter.unusedSimpArgs false
attribute [local go_sem ↓] Go.wp_at_zero Go.wp_at_succ
theorem LnA.setq {w w' : World} {base g d r : Nat} {A A' : Option Addr} {M : List (Int × Value)} {q q' : List Jb} {S : Int → List Jb} (h : LnA w base g d r A M q S) (hd : DqJ w' base d A' q') (hf : Fr w w' base d A A') :
    LnA w' base g d r A' M q' S ∧ FrL w w' base (foot g d r A M) (foot g d r A' M) := by
  have keep : ∀ k, k < w.heap.size → k ≠ d → A ≠ some ⟨k, 0, none⟩ → w'.heap[k]? = w.heap[k]? := fun k h1 h2 h3 => hf.keep k h1 h2 (fun r0 e e' => h3 (by rw [e, e']))
  have hgA : A ≠ some ⟨g, 0, none⟩ := fun e => by
    obtain ⟨cs, hc⟩ := h.dq.room_kind e
    exact (h.job hc).1 rfl
  have hrA : A ≠ some ⟨r, 0, none⟩ := fun e => by
    obtain ⟨cs, hc⟩ := h.dq.room_kind e
    exact (h.job hc).2.2 rfl
  refine ⟨⟨h.hg, h.hr, (keep g h.glt h.gd hgA).trans h.blk, hd, h.map.kept (keep r h.map.lt (fun e => h.dr e.symm) hrA), fun p hp => ?_, h.apart, h.rest⟩, ⟨hf.size, fun k hk hF => ?_, hf.below, fun k hk => ?_⟩⟩
  · obtain ⟨ho, hne, hA⟩ := h.rows p hp
    refine ⟨ho.kept fun k e => ?_, hne, fun k e => ?_⟩
    · obtain ⟨cs, hc⟩ := ho.kind e
      exact keep k (World.ownsRow.lt ho k e).2 (h.job hc).2.1 (hA k e)
    · rcases hf.row with e1 | ⟨r1, e1, h1⟩
      · rw [e1]; exact hA k e
      · rw [e1]
        intro e2
        injection e2 with e2
        injection e2 with e2 _ _
        have := (World.ownsRow.lt ho k e).2
        omega
  · exact keep k hk (fun e => hF (.inr (.inl e))) (fun e => hF (.inr (.inr (.inr (.inl e)))))
  · rcases hk with e | e | e | e | e
    · exact .inl (.inl e)
    · exact .inl (.inr (.inl e))
    · exact .inl (.inr (.inr (.inl e)))
    · rcases hf.row with e1 | ⟨r1, e1, h1⟩
      · exact .inl (.inr (.inr (.inr (.inl (by rw [← e1]; exact e)))))
      · rw [e1] at e
        injection e with e
        injection e with e _ _
        exact .inr (by omega)
    · exact .inl (.inr (.inr (.inr (.inr e))))
def W_OK (W_ : World) (g g5 d : Nat) (xh : Int) (xA : Option Addr) (xn xc : Nat) (xs : Int) (xf : ByteArray) : Prop := W_.cell? ⟨g, 0, none⟩ = some (.pointer (some ⟨d, 0, none⟩)) ∧ W_.cell? ⟨g5, 0, none⟩ = some (.int .i64 xh) ∧ W_.cell? ⟨g5, 1, none⟩ = some (.slice xA xn xc) ∧ W_.cell? ⟨g5, 2, none⟩ = some (.int .i64 xs) ∧ W_.cell? ⟨g5, 3, none⟩ = some (.string xf)
theorem LnA.gnr {w : World} {base g d r : Nat} {A : Option Addr} {M : List (Int × Value)} {q : List Jb} {S : Int → List Jb} (h : LnA w base g d r A M q S) (r0 : Nat) (e : A = some ⟨r0, 0, none⟩) : g ≠ r0 := fun e' => by
  obtain ⟨cs, hc⟩ := h.dq.room_kind e
  exact (h.job hc).1 e'.symm
def RelP (w : World) (base g : Nat) (q R : List Jb) (S : Int → List Jb) (F : Nat → Prop) (v : Value) (wr : World) : Prop := ∃ (i : Nat) (F' : Nat → Prop), v = .int .i64 i ∧ i ≤ R.length ∧ Ln wr base g (q ++ R.take i) S F' ∧ FrL w wr base F F'
theorem push_held {W4 W : World} {base d : Nat} {A : Option Addr} {q : List Jb} {x : Jb} (hS : Below W4.heap.size W4 W) (h : DqJ W4 base d A q) (hq : q.length < 1048576) :
    Calls Try.prog 27 #[.pointer (some ⟨d, 0, none⟩), .bool false, .agg #[.int .i64 x.h, .slice x.A x.n x.c, .int .i64 x.sz, .string x.ft]] W fun e w' => e = .returned (.bool true) ∧ ∃ A', DqJ w' base d A' (q ++ [x]) ∧ Fr W4 w' base d A A' :=
  (push_back d base A q x W (h.below hS) hq).mono fun e w' ⟨he, A', h1, h2⟩ => ⟨he, A', h1, (Fr.of_below A hS (Nat.le_of_lt (Nat.lt_of_le_of_lt h.hg.1 h.hg.2))).trans h2⟩
theorem Reads.kept {w w1 : World} {A : Option Addr} {R : List Jb} (h : Reads w A R) (hk : ∀ ad, A = some ad → w1.heap[ad.block]? = w.heap[ad.block]?) : Reads w1 A R := fun h0 => by
  obtain ⟨ad, e, hc⟩ := h h0
  refine ⟨ad, e, fun j v hj => ?_⟩
  rw [← hc j v hj]
  refine World.cell?_of_block ?_
  have : (ad.add j).block = ad.block := by unfold Addr.add; split <;> rfl
  rw [this]
  exact hk ad e
theorem Reads.lt {w : World} {A : Option Addr} {R : List Jb} (h : Reads w A R) (h0 : 0 < R.length) : ∀ ad, A = some ad → ad.block < w.heap.size := fun ad e => by
  obtain ⟨ad', e', hc⟩ := h h0
  rw [e] at e'
  injection e' with e'
  subst e'
  obtain ⟨x, R', rfl⟩ : ∃ x R', R = x :: R' := by cases R with | nil => exact absurd h0 (by simp) | cons x R' => exact ⟨x, R', rfl⟩
  have := World.block_lt_of_cell? _ _ (hc 0 _ rfl)
  have e0 : (ad.add 0).block = ad.block := by unfold Addr.add; split <;> rfl
  rw [e0] at this
  exact this
theorem keep5 {W W1 : World} {g g5 : Nat} {va vb vc vd ve : Value} (h1 : W1.heap[g]? = W.heap[g]?) (h2 : W1.heap[g5]? = W.heap[g5]?) (h : W.cell? ⟨g, 0, none⟩ = some va ∧ W.cell? ⟨g5, 0, none⟩ = some vb ∧ W.cell? ⟨g5, 1, none⟩ = some vc ∧ W.cell? ⟨g5, 2, none⟩ = some vd ∧ W.cell? ⟨g5, 3, none⟩ = some ve) :
    W1.cell? ⟨g, 0, none⟩ = some va ∧ W1.cell? ⟨g5, 0, none⟩ = some vb ∧ W1.cell? ⟨g5, 1, none⟩ = some vc ∧ W1.cell? ⟨g5, 2, none⟩ = some vd ∧ W1.cell? ⟨g5, 3, none⟩ = some ve :=
  ⟨(cell_keep h1 _).trans h.1, (cell_keep h2 _).trans h.2.1, (cell_keep h2 _).trans h.2.2.1, (cell_keep h2 _).trans h.2.2.2.1, (cell_keep h2 _).trans h.2.2.2.2⟩
set_option maxHeartbeats 4000000 in
set_option maxRecDepth 100000 in
theorem lnpush_calls (base g : Nat) (q R : List Jb) (S : Int → List Jb) (F : Nat → Prop) (A0 : Option Addr) (n c : Nat) (hn : n = R.length) (w : World) (h : Ln w base g q S F) (hA : Reads w A0 R) (hap : ∀ ad, A0 = some ad → ¬ F ad.block) (hR : q.length + R.length < 1048576) :
    Calls Try.prog 9 #[.pointer (some ⟨g, 0, none⟩), .slice A0 n c] w fun e w' => e = .returned (.tuple #[]) ∧ ∃ F', Ln w' base g (q ++ R) S F' ∧ FrL w w' base F F' := by
  have hu := Try.underlying29
  have HA := Aside0.mk hA
  have HP := Aside0.mk hap
  have HRL := Aside0.mk hR
  have HN := Aside0.mk hn
  have HL := Aside0.mk h
  have HRD := Aside0.mk (ready_calls base g q S F w h)
  clear hA hR hn h hap
  go_enter Try.func9, Try.ntmps9
  go_wp2_with (first | (go_at_call 26; (with_reducible refine HRD.out.mono ?_); rintro e w' ⟨rfl, rfl⟩))
  go_loopw [11] (fun v11 wr => RelP w base g q R S F v11 wr) (fun v11 _ => n - (intOf v11).toNat)
  case atStart => exact ⟨0, F, rfl, Nat.zero_le _, by rw [List.take_zero, List.append_nil]; exact HL.out, FrL.refl _ _ _⟩
  case round =>
    clear HRD
    obtain ⟨i, F', rfl, hi, hln, hfr⟩ := hrel
    by_cases hlt : i < n
    · have hlr : i < R.length := by rw [← HN.out]; exact hlt
      have e1 : ((i : Int) < (n : Int)) := by omega
      have e2 : (0 : Int) ≤ (i : Int) := Int.natCast_nonneg _
      have e3 := eq_true e1
      have e4 := eq_true e2
      have HLT := Aside0.mk hlt
      have hrd : Reads wr A0 R := HA.out.kept fun ad e => hfr.keep _ (HA.out.lt (by omega) ad e) (HP.out ad e)
      obtain ⟨ad, hAd, hc⟩ := hrd (by omega)
      subst hAd
      obtain ⟨f0, f1, f2, f3⟩ := flat_get R i hlr
      have HT := Aside0.mk (show (q ++ R.take i) ++ [R[i]'hlr] = q ++ R.take (i + 1) from by rw [List.take_add_one, List.getElem?_eq_getElem hlr, List.append_assoc]; rfl)
      obtain ⟨x, hx⟩ : ∃ x, x = R[i]'hlr := ⟨_, rfl⟩
      rw [← hx] at f0 f1 f2 f3 HT
      obtain ⟨xh, xA, xn, xc, xs, xf⟩ := x
      have x0 : wr.cell? (ad.add (i * 4)) = some (.int .i64 xh) := hc _ _ f0
      have x1' := hc _ _ f1
      have x2' := hc _ _ f2
      have x3' := hc _ _ f3
      rw [← Addr.add_add] at x1' x2' x3'
      have x1 : wr.cell? ⟨(ad.add (i * 4)).block, (ad.add (i * 4)).off + 1, none⟩ = some (.slice xA xn xc) := by rw [← add_field _ _ 1 (by omega)]; exact hc _ _ f1
      have x2 : wr.cell? ⟨(ad.add (i * 4)).block, (ad.add (i * 4)).off + 2, none⟩ = some (.int .i64 xs) := by rw [← add_field _ _ 2 (by omega)]; exact hc _ _ f2
      have x3 : wr.cell? ⟨(ad.add (i * 4)).block, (ad.add (i * 4)).off + 3, none⟩ = some (.string xf) := by rw [← add_field _ _ 3 (by omega)]; exact hc _ _ f3
      obtain ⟨d, r, A, M, hlA, hF⟩ := hln
      have LA := Aside0.mk hlA
      have HF := Aside0.mk hF
      have HFR := Aside0.mk hfr
      have e5 : IntKind.i64.wrap ((i : Int) + 1) = ((i : Int) + 1) := by have := HRL.out; have := HN.out; have := HLT.out; rw [IntKind.wrap_i64]; omega
      have HQ := Aside0.mk (show (q ++ R.take i).length < 1048576 from by have := HRL.out; rw [List.length_append, List.length_take]; omega)
      have hbase := LA.out.base_le
      have hRI := HRL.out
      clear hx f0 f1 f2 f3 hc hlr hlt hlA hF hfr hrd hRI
      go_wp2_with (first | ((with_reducible refine gate_dst (N := 5) rfl ?_); refine box_event ?hg (N := 5) ?hd (cs := #[.int .i64 0, .slice none 0 0, .int .i64 0, .string (⟨#[]⟩ : ByteArray)]) (t := 29) ?hr ?_; (case hd => rfl); (case hg => rfl); (case hr => first | (go_simp; done) | (go_simp; rfl)); intro g5 hg w3 hbox hb; have G5 := Aside0.mk (show g5 = wr.heap.size from hg); have BW := Aside0.mk hb; have B5 := Aside0.mk (show w3.heap[g5]? = some (.cells #[.int .i64 0, .slice none 0 0, .int .i64 0, .string (⟨#[]⟩ : ByteArray)] 29 (0, 0)) from hbox); clear hbox hb hg; clear x0 x1 x2 x3 x1' x2' x3'; obtain ⟨u0, u1, u2, u3, v0, v1, v2, v3⟩ := cells4 B5.out) | ((with_reducible refine gate_store (t := 29) (p := 5) rfl ?_); refine store_event2 (w1 := ((((w3.setCell ⟨g5, 0, none⟩ (.int .i64 xh)).setCell ⟨g5, 1, none⟩ (.slice xA xn xc)).setCell ⟨g5, 2, none⟩ (.int .i64 xs)).setCell ⟨g5, 3, none⟩ (.string xf))) ?hg ?hn ?hr ?_; (case hg => rfl); (case hn => rfl); (case hr => first | (go_simp; done) | (go_simp; rfl)); intro w4 hW; have T_ := Aside0.mk ((show Below wr.heap.size wr w4 from by rw [hW]; exact below_set (below_set (below_set (below_set BW.out (by rw [G5.out]; exact Nat.le_refl _)) (by rw [G5.out]; exact Nat.le_refl _)) (by rw [G5.out]; exact Nat.le_refl _)) (by rw [G5.out]; exact Nat.le_refl _))); clear BW; have BW := T_; clear T_; have T_ := Aside0.mk ((show w4.heap[g5]? = some (.cells #[.int .i64 xh, .slice xA xn xc, .int .i64 xs, .string xf] 29 (0, 0)) from by rw [hW]; exact put4 B5.out _ _ _ _)); clear B5; have B5 := T_; clear T_; clear u0 u1 u2 u3 v0 v1 v2 v3; clear hW))
      have LB := Aside0.mk (LA.out.below BW.out)
      have HB4 := Aside0.mk (FrL.of_below F' BW.out hbase)
      obtain ⟨k0, k1, z0, z1⟩ := LB.out.cells
      obtain ⟨u0, u1, u2, u3, v0, v1, v2, v3⟩ := cells4 B5.out
      have HK := Aside0.mk (show W_OK w4 g g5 d xh xA xn xc xs xf from ⟨k0, u0, u1, u2, u3⟩)
      have HG := Aside0.mk (fun (w6 : World) (A2 : Option Addr) (hf2 : Fr w4 w6 base d A A2) => (hf2.keep g LB.out.glt LB.out.gd (LB.out.gnr)))
      have HG5 := Aside0.mk (fun (w6 : World) (A2 : Option Addr) (hf2 : Fr w4 w6 base d A A2) => (hf2.keep g5 (blk_lt B5.out) (fun e => by have := (LA.out.foot_lt d (.inr (.inl rfl))).2; have := G5.out; omega) (fun r0 e0 e => by have := (LA.out.foot_lt r0 (.inr (.inr (.inr (.inl e0))))).2; have := G5.out; omega)))
      clear z0 z1 v0 v1 v2 v3 k1
      go_region_held3 (fun W_ => W_.cell? ⟨g, 0, none⟩ = some (.pointer (some ⟨d, 0, none⟩)) ∧ W_.cell? ⟨g5, 0, none⟩ = some (.int .i64 xh) ∧ W_.cell? ⟨g5, 1, none⟩ = some (.slice xA xn xc) ∧ W_.cell? ⟨g5, 2, none⟩ = some (.int .i64 xs) ∧ W_.cell? ⟨g5, 3, none⟩ = some (.string xf)) (first | assumption | exact keep5 rfl rfl HK.out | exact keep5 hk1 hk2 HK.out) (first | (go_at_call 27; (with_reducible refine Calls.mono (push_held (W4 := w4) (x := ⟨xh, xA, xn, xc, xs, xf⟩) (below_drew (Below.refl _ _)) LB.out.dq HQ.out) ?_); rintro e w6 ⟨rfl, A2, hd2, hf2⟩; have hk1 := HG.out _ _ hf2; have hk2 := HG5.out _ _ hf2))
      have HD := Aside0.mk hd2
      have HF2 := Aside0.mk hf2
      clear hd2 hf2
      go_wp2_with fail
      go_roundw
      case rel => 
        obtain ⟨hl9, hf9⟩ := LB.out.setq HD.out HF2.out
        refine ⟨i + 1, foot g d r A2 M, by simp, by have := HLT.out; have := HN.out; omega, ?_, ?_⟩
        · rw [← HT.out]
          exact ⟨d, r, A2, M, hl9, rfl⟩
        · have := HFR.out.trans HB4.out
          rw [HF.out] at this
          exact this.trans hf9
      case measure => have := HLT.out; simp [intOf] <;> omega
    · have e1 : ¬ ((i : Int) < (n : Int)) := by omega
      have HE := Aside0.mk (show R.take i = R from List.take_of_length_le (by have := HN.out; omega))
      rw [HE.out] at hln
      have LN_ := Aside0.mk hln
      have FR_ := Aside0.mk hfr
      clear hln hfr
      go_wp2_with fail
      exact bodyPost_end (results_none rfl _ _ _) rfl ⟨rfl, F', LN_.out, FR_.out⟩
set_option maxHeartbeats 1000000 in
theorem lnpush_nil (v : Value) (w : World) : Calls Try.prog 9 #[.pointer none, v] w fun e w' => e = .returned (.tuple #[]) ∧ w = w' := by
  have HRD := Aside0.mk (ready_nil w)
  go_enter Try.func9, Try.ntmps9
  go_wp2_with (first | (go_at_call 26; (with_reducible refine HRD.out.mono ?_); rintro e w' ⟨rfl, rfl⟩))
  exact bodyPost_ret (results_none rfl _ _ _) rfl ⟨rfl, rfl⟩
end Go.Proofs.Ytnegagkjhnpgmaa.Sc
