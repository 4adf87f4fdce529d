/- The document's Queue, where a call comes to wait. -/
import Derived.Test.YtkamejnccmapkaaMuQueue2
import Derived.Deep.RegionLaw
namespace Go.Proofs.Ytkamejnccmapkaa.Mu
open Go.RowKit Go.Proofs.YtkamejnccmapkaaW.PrintWords Go.Proofs.YtkamejnccmapkaaW.PrintMore Go.Proofs.YtkamejnccmapkaaW.PrintLast
set_option linter.unusedVariables false
set_option linter.unusedSimpArgs false
attribute [local go_sem ↓] Go.wp_at_zero Go.wp_at_succ
set_option maxHeartbeats 2000000 in
set_option maxRecDepth 100000 in
theorem rqueue_good (b d : Bool) (qA : Option Addr) (qc : Nat) (qs : List SV) (sz : Int) (wA : Option Addr) (wn wc : Nat) (v : Value) (cl : List ByteArray) (w : World) (hv : Rd w v cl) (hQ : Rd2 w (.slice qA qs.length qc) qs) (hs : csize cl ≤ 1000000) (hz : 0 ≤ sz ∧ sz ≤ 65536) (hq : qs.length < 100) (hfit : (csize cl : Int) ≤ 65536 - sz) :
    Calls Try.prog 18 #[.agg #[.bool true, .bool b, .bool d, .slice qA qs.length qc, .int .i64 sz, .slice wA wn wc], v] w fun e w' => ∃ A' c' x, e = .returned (.tuple #[.agg #[.bool true, .bool b, .bool d, .slice A' (qs.length + 1) c', .int .i64 (sz + (csize cl : Nat)), .slice wA wn wc], .agg #[.int .i64 1, .int .i64 0, .string ⟨#[81, 85, 69, 85, 69, 68]⟩, .slice none 0 0]]) ∧ Rd2 w' (.slice A' (qs.length + 1) c') (qs ++ [x]) ∧ Rd w' (encV x) cl ∧ Bd w.heap.size w'.heap.size (.slice A' (qs.length + 1) c') ∧ Bd w.heap.size w'.heap.size (encV x) ∧ Below w.heap.size w w' := by
  have hu := Try.underlying27
  have hu2 := Try.underlying30
  have BB := Aside0.mk (Below.refl w.heap.size w)
  have hlc := csize_len cl
  have HV := Aside0.mk hv
  have HQ := Aside0.mk hQ
  have HSZ := Aside0.mk (show ∀ W, Below w.heap.size w W → Calls Try.prog 6 #[v] W (fun e w' => e = .returned (.int .i64 (csize cl : Nat)) ∧ Below W.heap.size W w') from fun W hb => bytes_calls v cl W (hv.below hb) hs)
  obtain ⟨m, hm⟩ : ∃ m, m = csize cl := ⟨_, rfl⟩
  have HCL := Aside0.mk (show cl.length ≤ 1000000 by omega)
  rw [← hm] at HSZ hfit hs ⊢
  obtain ⟨qn, hqn⟩ : ∃ qn, qn = qs.length := ⟨_, rfl⟩
  have HQN := Aside0.mk hqn
  rw [← hqn] at HQ hq ⊢
  have hm0 : (0 : Int) ≤ (m : Int) := Int.natCast_nonneg _
  have hz1 := hz.1
  have hz2 := hz.2
  have hq9 : (qn : Int) < 100 := by omega
  have hw6 : IntKind.i64.wrap (65536 - sz) = 65536 - sz := by rw [IntKind.wrap_i64]; omega
  have f1 : decide (100 ≤ (qn : Int)) = false := decide_eq_false (by omega)
  have f2 : decide (100 ≤ qn) = false := decide_eq_false (by omega)
  have f3 : decide (65536 - sz < (m : Int)) = false := decide_eq_false (by omega)
  have HRQ := Aside0.mk (show ∀ W, Below w.heap.size w W → ReadsOf encV ⟨none, 0, 0⟩ W qA qn qs from fun W hb => by obtain ⟨A', c', e', hc', hr'⟩ := HQ.out.below hb; injection e' with e1 e2 e3; subst e1; rw [HQN.out]; exact hr')
  obtain ⟨vA, vc, rfl, hvc, hvr⟩ := hv
  have HRV := Aside0.mk (show ∀ W, Below w.heap.size w W → ReadsOf Value.string ByteArray.empty W vA cl.length cl from fun W hb => hvr.below hb)
  clear hvc hvr hQ hs hz hq hlc hm hqn
  go_enter Try.func18, Try.ntmps18
  go_wp2_with (first | ((with_reducible refine gate_dst (N := 2) rfl ?_); refine box_event ?hg (N := 2) ?hd (cs := #[.bool true, .bool b, .bool d, .slice qA qn qc, .int .i64 sz, .slice wA wn wc]) (t := 27) ?hr ?_; (case hd => rfl); (case hg => rfl); (case hr => first | (go_simp; done) | (go_simp; rfl)); intro g1 hg w1 hbox hb; have GE1 := Aside0.mk (show w.heap.size ≤ g1 from by rw [hg]; exact BB.out.size); have T_ := Aside0.mk (BB.out.trans (hb.mono BB.out.size)); clear BB; have BB := T_; clear T_; have BK1 := Aside0.mk hbox; clear hbox hb hg) | ((with_reducible refine gate_dst (N := 4) rfl ?_); refine box_event ?hg (N := 4) ?hd (cs := #[.bool false, .bool false, .bool false, .slice none 0 0, .int .i64 0, .slice none 0 0]) (t := 27) ?hr ?_; (case hd => rfl); (case hg => rfl); (case hr => first | (go_simp; done) | (go_simp; rfl)); intro g2 hg w2 hbox hb; have NE1_2 := Aside0.mk (show g1 ≠ g2 from by rw [hg]; exact Nat.ne_of_lt (blk_lt BK1.out)); have T_ := Aside0.mk (old_blk BK1.out hb); clear BK1; have BK1 := T_; clear T_; have GE2 := Aside0.mk (show w.heap.size ≤ g2 from by rw [hg]; exact BB.out.size); have T_ := Aside0.mk (BB.out.trans (hb.mono BB.out.size)); clear BB; have BB := T_; clear T_; have BK2 := Aside0.mk hbox; clear hbox hb hg) | ((with_reducible refine gate_dst (N := 5) rfl ?_); refine box_event ?hg (N := 5) ?hd (cs := #[.int .i64 0, .int .i64 0, .string (⟨#[]⟩ : ByteArray), .slice none 0 0]) (t := 30) ?hr ?_; (case hd => rfl); (case hg => rfl); (case hr => first | (go_simp; done) | (go_simp; rfl)); intro g3 hg w3 hbox hb; have NE1_3 := Aside0.mk (show g1 ≠ g3 from by rw [hg]; exact Nat.ne_of_lt (blk_lt BK1.out)); have T_ := Aside0.mk (old_blk BK1.out hb); clear BK1; have BK1 := T_; clear T_; have NE2_3 := Aside0.mk (show g2 ≠ g3 from by rw [hg]; exact Nat.ne_of_lt (blk_lt BK2.out)); have T_ := Aside0.mk (old_blk BK2.out hb); clear BK2; have BK2 := T_; clear T_; have GE3 := Aside0.mk (show w.heap.size ≤ g3 from by rw [hg]; exact BB.out.size); have T_ := Aside0.mk (BB.out.trans (hb.mono BB.out.size)); clear BB; have BB := T_; clear T_; have BK3 := Aside0.mk hbox; clear hbox hb hg; obtain ⟨p1_0, p1_1, p1_2, p1_3, p1_4, p1_5, f1_0, f1_1, f1_2, f1_3, f1_4, f1_5⟩ := cells6 BK1.out; obtain ⟨p2_0, p2_1, p2_2, p2_3, p2_4, p2_5, f2_0, f2_1, f2_2, f2_3, f2_4, f2_5⟩ := cells6 BK2.out; obtain ⟨p3_0, p3_1, p3_2, p3_3, f3_0, f3_1, f3_2, f3_3⟩ := cells4 BK3.out; have ne1_2 := NE1_2.out; have ne2_1 := Ne.symm NE1_2.out; have ne1_3 := NE1_3.out; have ne3_1 := Ne.symm NE1_3.out; have ne2_3 := NE2_3.out; have ne3_2 := Ne.symm NE2_3.out))
  go_region_held3 (fun w' => w'.cell? ⟨g1, 0, none⟩ = some (.bool true) ∧ w'.cell? ⟨g1, 1, none⟩ = some (.bool b) ∧ w'.cell? ⟨g1, 2, none⟩ = some (.bool d) ∧ w'.cell? ⟨g1, 3, none⟩ = some (.slice qA qn qc) ∧ w'.cell? ⟨g1, 4, none⟩ = some (.int .i64 sz) ∧ w'.cell? ⟨g1, 5, none⟩ = some (.slice wA wn wc)) (go_keep) (first | (go_at_call 6; (with_reducible refine Calls.mono (HSZ.out _ (below_drew BB.out)) ?_); rintro e w4 ⟨rfl, hb⟩; have T_ := Aside0.mk (old_blk (blk_drew BK1.out) hb); clear BK1; have BK1 := T_; clear T_; have T_ := Aside0.mk (old_blk (blk_drew BK2.out) hb); clear BK2; have BK2 := T_; clear T_; have T_ := Aside0.mk (old_blk (blk_drew BK3.out) hb); clear BK3; have BK3 := T_; clear T_; have T_ := Aside0.mk (BB.out.trans ((show Below _ _ _ from (below_drew (Below.refl _ _)).trans hb).mono BB.out.size)); clear BB; have BB := T_; clear T_; clear hb; obtain ⟨p1_0, p1_1, p1_2, p1_3, p1_4, p1_5, f1_0, f1_1, f1_2, f1_3, f1_4, f1_5⟩ := cells6 BK1.out; obtain ⟨p2_0, p2_1, p2_2, p2_3, p2_4, p2_5, f2_0, f2_1, f2_2, f2_3, f2_4, f2_5⟩ := cells6 BK2.out; obtain ⟨p3_0, p3_1, p3_2, p3_3, f3_0, f3_1, f3_2, f3_3⟩ := cells4 BK3.out))
  clear hw6
  go_wp2_with (first | (at_builtin; refine wp_app2g rfl (.const (.slice none 0 0)) (.tmp 27) (by rfl) w4 w4.heap.size (.slice none 0 0) [] qs qA qn qc (by rfl) (by rfl) (own_nil _ _ _ _) (HRQ.out _ BB.out) (Below.refl _ _) (Nat.le_refl _) (by simp; omega) ?_; intro v5 w5 ho5 hb hg5; rw [List.nil_append] at ho5; have HO5 := Aside0.mk ho5; have HB5 := Aside0.mk hb; have GL1 := Aside0.mk (blk_lt BK1.out); have GL2 := Aside0.mk (blk_lt BK2.out); have GL3 := Aside0.mk (blk_lt BK3.out); have BQ := BB; have T_ := Aside0.mk (old_blk (BK1.out) hb); clear BK1; have BK1 := T_; clear T_; have T_ := Aside0.mk (old_blk (BK2.out) hb); clear BK2; have BK2 := T_; clear T_; have T_ := Aside0.mk (old_blk (BK3.out) hb); clear BK3; have BK3 := T_; clear T_; have T_ := Aside0.mk (BB.out.trans ((show Below _ _ _ from hb).mono BB.out.size)); clear BB; have BB := T_; clear T_; clear hb ho5 hg5) | (at_builtin; refine wp_app rfl (.const (.slice none 0 0)) (.tmp 29) (by rfl) w5 w5.heap.size (.slice none 0 0) [] cl vA cl.length vc (by rfl) (by rfl) (own_nil _ _ _ _) (HRV.out _ BB.out) (Below.refl _ _) (Nat.le_refl _) (by have := HCL.out; simp; omega) ?_; intro v6 w6 ho6 hb hs6; rw [List.nil_append] at ho6; have HO6 := Aside0.mk ho6; have HO56 := Aside0.mk (pw_own_below HO5.out hb); have HB6 := Aside0.mk hb; have T_ := Aside0.mk (old_blk (BK1.out) hb); clear BK1; have BK1 := T_; clear T_; have T_ := Aside0.mk (old_blk (BK2.out) hb); clear BK2; have BK2 := T_; clear T_; have T_ := Aside0.mk (old_blk (BK3.out) hb); clear BK3; have BK3 := T_; clear T_; have T_ := Aside0.mk (BB.out.trans ((show Below _ _ _ from hb).mono BB.out.size)); clear BB; have BB := T_; clear T_; clear hb ho6 hs6; obtain ⟨A6, c6, e6⟩ := own_slice HO6.out; subst e6) | (at_builtin; refine wp_app2g rfl (.tmp 28) (.tmp 31) (by rfl) w4 w4.heap.size v5 qs [(⟨A6, cl.length, c6⟩ : SV)] (some ⟨w6.heap.size, 0, none⟩) 1 1 (by rfl) (by rfl) (own_alloc (by exact HO56.out) _) (reads_one2 w6 (⟨A6, cl.length, c6⟩ : SV)) ((HB5.out.trans (HB6.out.mono HB5.out.size)).alloc (Nat.le_trans HB5.out.size HB6.out.size) _) (by have h1 := HB5.out.size; have h2 := HB6.out.size; simp; omega) (by have := HQN.out; omega) ?_; intro va wa hOa hBa hga; have T_ := Aside0.mk (grown_blk (blk_alloc BK1.out _) hga (fun e => by have h1 := own_base HO5.out _ e.symm; have h2 := GL1.out; omega)); clear BK1; have BK1 := T_; clear T_; have T_ := Aside0.mk (grown_blk (blk_alloc BK2.out _) hga (fun e => by have h1 := own_base HO5.out _ e.symm; have h2 := GL2.out; omega)); clear BK2; have BK2 := T_; clear T_; have T_ := Aside0.mk (grown_blk (blk_alloc BK3.out _) hga (fun e => by have h1 := own_base HO5.out _ e.symm; have h2 := GL3.out; omega)); clear BK3; have BK3 := T_; clear T_; have HO6a := Aside0.mk (own_move (own_alloc HO6.out _) (fun k hk => hga.block k (own_lt (own_alloc HO6.out _) k hk) (fun e => by have h1 := own_base HO6.out k hk; have h2 := own_lt HO5.out k e.symm; omega))); have T_ := Aside0.mk (BQ.out.trans (hBa.mono BQ.out.size)); clear BB; have BB := T_; clear T_; rw [show (qs ++ [(⟨A6, cl.length, c6⟩ : SV)]).length = qn + 1 by rw [List.length_append, HQN.out]; rfl] at hOa; have HOa := Aside0.mk hOa; clear hOa hBa hga; obtain ⟨A9, c9, e9⟩ := own_slice HOa.out; subst e9; obtain ⟨p1_0, p1_1, p1_2, p1_3, p1_4, p1_5, f1_0, f1_1, f1_2, f1_3, f1_4, f1_5⟩ := cells6 BK1.out; obtain ⟨p2_0, p2_1, p2_2, p2_3, p2_4, p2_5, f2_0, f2_1, f2_2, f2_3, f2_4, f2_5⟩ := cells6 BK2.out; obtain ⟨p3_0, p3_1, p3_2, p3_3, f3_0, f3_1, f3_2, f3_3⟩ := cells4 BK3.out))
  have NA1 : some g1 ≠ (Value.slice A9 (qn + 1) c9).ownBlock := fun e => by have h1 := own_base HOa.out _ e.symm; have h2 := GL1.out; omega
  have NB1 : some g1 ≠ (Value.slice A6 cl.length c6).ownBlock := fun e => by have h1 := own_base HO6a.out _ e.symm; have h2 := GL1.out; have h3 := HB5.out.size; omega
  obtain ⟨W7, hW_⟩ : ∃ W, W = wa.setCell ⟨g1, 3, none⟩ (.slice A9 (qn + 1) c9) := ⟨_, rfl⟩
  rw [← hW_]
  have T1 := Aside0.mk (show W7.heap[g1]? = some (.cells #[.bool true, .bool b, .bool d, .slice A9 (qn + 1) c9, .int .i64 sz, .slice wA wn wc] 27 (0, 0)) by rw [hW_]; exact blk_put BK1.out 3 _ rfl)
  have T2 := Aside0.mk (show W7.heap[g2]? = some (.cells #[.bool false, .bool false, .bool false, .slice none 0 0, .int .i64 0, .slice none 0 0] 27 (0, 0)) by rw [hW_]; exact blk_far BK2.out NE1_2.out.symm _)
  have T3 := Aside0.mk (show W7.heap[g3]? = some (.cells #[.int .i64 0, .int .i64 0, .string (⟨#[]⟩ : ByteArray), .slice none 0 0] 30 (0, 0)) by rw [hW_]; exact blk_far BK3.out NE1_3.out.symm _)
  have T4 := Aside0.mk (show Below w.heap.size w W7 by rw [hW_]; first | exact below_set BB.out GE1.out | exact below_set (pw_below_drewN BB.out _) GE1.out | exact below_set (below_drew BB.out) GE1.out)
  clear p1_0 f1_0 p1_1 f1_1 p1_2 f1_2 p1_3 f1_3 p1_4 f1_4 p1_5 f1_5 p2_0 f2_0 p2_1 f2_1 p2_2 f2_2 p2_3 f2_3 p2_4 f2_4 p2_5 f2_5 p3_0 f3_0 p3_1 f3_1 p3_2 f3_2 p3_3 f3_3
  have T5 := Aside0.mk (show World.ownsRow W7 _ _ _ _ _ _ by rw [hW_]; exact own_setCell HOa.out NA1 _)
  have T6 := Aside0.mk (show World.ownsRow W7 _ _ _ _ _ _ by rw [hW_]; exact own_setCell HO6a.out NB1 _)
  clear BK1 BK2 BK3 BB hW_ HOa HO6a NA1 NB1
  have BK1 := T1
  have BK2 := T2
  have BK3 := T3
  have BB := T4
  clear T1 T2 T3 T4
  obtain ⟨p1_0, p1_1, p1_2, p1_3, p1_4, p1_5, f1_0, f1_1, f1_2, f1_3, f1_4, f1_5⟩ := cells6 BK1.out
  have hw7 : IntKind.i64.wrap (sz + (m : Int)) = sz + (m : Int) := by rw [IntKind.wrap_i64]; omega
  go_region_law (first | (go_simp; go_at_call 6; (with_reducible refine Calls.mono (HSZ.out _ (below_drew BB.out)) ?_); rintro e w7 ⟨rfl, hb⟩; have HOa := Aside0.mk (pw_own_below (show World.ownsRow (World.drew W7) _ _ _ _ _ _ from T5.out) hb); have HO6a := Aside0.mk (pw_own_below (show World.ownsRow (World.drew W7) _ _ _ _ _ _ from T6.out) hb); have T_ := Aside0.mk (old_blk (blk_drew BK1.out) hb); clear BK1; have BK1 := T_; clear T_; have T_ := Aside0.mk (old_blk (blk_drew BK2.out) hb); clear BK2; have BK2 := T_; clear T_; have T_ := Aside0.mk (old_blk (blk_drew BK3.out) hb); clear BK3; have BK3 := T_; clear T_; have T_ := Aside0.mk (BB.out.trans ((show Below _ _ _ from (below_drew (Below.refl _ _)).trans hb).mono BB.out.size)); clear BB; have BB := T_; clear T_; clear hb; obtain ⟨p1_0, p1_1, p1_2, p1_3, p1_4, p1_5, f1_0, f1_1, f1_2, f1_3, f1_4, f1_5⟩ := cells6 BK1.out; obtain ⟨p2_0, p2_1, p2_2, p2_3, p2_4, p2_5, f2_0, f2_1, f2_2, f2_3, f2_4, f2_5⟩ := cells6 BK2.out; obtain ⟨p3_0, p3_1, p3_2, p3_3, f3_0, f3_1, f3_2, f3_3⟩ := cells4 BK3.out))
  all_goals
    clear hw7
    go_wp2_with fail
    refine bodyPost_ret (results_cc rfl _ _ g2 g3 27 30 #[.bool true, .bool b, .bool d, .slice A9 (qn + 1) c9, .int .i64 (sz + (m : Int)), .slice wA wn wc] #[.int .i64 1, .int .i64 0, .string ⟨#[81, 85, 69, 85, 69, 68]⟩, .slice none 0 0] (0, 0) (0, 0) _ _ rfl (by (repeat (with_reducible refine blk_far ?_ NE2_3.out _)); refine put6 ?_ _ _ _ _ _ _; (repeat (with_reducible refine blk_far ?_ NE1_2.out.symm _)); exact BK2.out) Try.underlying27 rfl (by kernel_rfl) rfl (by refine put4 ?_ _ _ _ _; (repeat (with_reducible refine blk_far ?_ NE2_3.out.symm _)); (repeat (with_reducible refine blk_far ?_ NE1_3.out.symm _)); exact BK3.out) Try.underlying30 rfl (by kernel_rfl)) rfl ?_
    have hlen : (qs ++ [(⟨A6, cl.length, c6⟩ : SV)]).length = qn + 1 := by rw [List.length_append, HQN.out]; rfl
    have NA1 : some g1 ≠ (Value.slice A9 (qn + 1) c9).ownBlock := fun e => by have h1 := own_base HOa.out _ e.symm; have h2 := GL1.out; omega
    have NA2 : some g2 ≠ (Value.slice A9 (qn + 1) c9).ownBlock := fun e => by have h1 := own_base HOa.out _ e.symm; have h2 := GL2.out; omega
    have NA3 : some g3 ≠ (Value.slice A9 (qn + 1) c9).ownBlock := fun e => by have h1 := own_base HOa.out _ e.symm; have h2 := GL3.out; omega
    have NB1 : some g1 ≠ (Value.slice A6 cl.length c6).ownBlock := fun e => by have h1 := own_base HO6a.out _ e.symm; have h2 := GL1.out; have h3 := HB5.out.size; omega
    have NB2 : some g2 ≠ (Value.slice A6 cl.length c6).ownBlock := fun e => by have h1 := own_base HO6a.out _ e.symm; have h2 := GL2.out; have h3 := HB5.out.size; omega
    have NB3 : some g3 ≠ (Value.slice A6 cl.length c6).ownBlock := fun e => by have h1 := own_base HO6a.out _ e.symm; have h2 := GL3.out; have h3 := HB5.out.size; omega
    refine ⟨A9, c9, ⟨A6, cl.length, c6⟩, by first | rfl | (simp; done) | (simp; rfl), ?_, ?_, ?_, ?_, by repeat (with_reducible first | exact BB.out | refine below_set ?_ GE3.out | refine below_set ?_ GE2.out | refine below_set ?_ GE1.out)⟩
    · have h : ∀ (W : World), W.ownsRow w4.heap.size 23 1 (.slice A9 (qn + 1) c9) (qn + 1) (encs encV (qs ++ [(⟨A6, cl.length, c6⟩ : SV)])) → Rd2 W (.slice A9 (qn + 1) c9) (qs ++ [⟨A6, cl.length, c6⟩]) := fun W h => rd_of_own2 (l := qs ++ [(⟨A6, cl.length, c6⟩ : SV)]) (by rw [hlen]; exact h)
      refine h _ ?_
      repeat (with_reducible first | exact HOa.out | refine own_setCell ?_ NA3 _ | refine own_setCell ?_ NA2 _ | refine own_setCell ?_ NA1 _)
    · refine rd_of_own (base := w5.heap.size) (v := .slice A6 cl.length c6) ?_
      repeat (with_reducible first | exact HO6a.out | refine own_setCell ?_ NB3 _ | refine own_setCell ?_ NB2 _ | refine own_setCell ?_ NB1 _)
    · refine bd_own (base := w4.heap.size) (e := 23) (size := 1) (n := qn + 1) (xs := encs encV (qs ++ [(⟨A6, cl.length, c6⟩ : SV)])) ?_ BQ.out.size
      repeat (with_reducible first | exact HOa.out | refine own_setCell ?_ NA3 _ | refine own_setCell ?_ NA2 _ | refine own_setCell ?_ NA1 _)
    · refine bd_own (base := w5.heap.size) (e := 9) (size := 1) (n := cl.length) (xs := encs Value.string cl) (v := .slice A6 cl.length c6) ?_ (Nat.le_trans BQ.out.size HB5.out.size)
      repeat (with_reducible first | exact HO6a.out | refine own_setCell ?_ NB3 _ | refine own_setCell ?_ NB2 _ | refine own_setCell ?_ NB1 _)
end Go.Proofs.Ytkamejnccmapkaa.Mu
