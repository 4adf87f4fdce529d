/- Any event's line, or that it may not be, and whether two are the same (EventPuts). -/
import Derived.Test.YtehnogggokfcaaaLaw47t
namespace Go.Proofs.Ytehnogggokfcaaa.Ev
open Go.RowKit Go.Proofs.YtehnogggokfcaaaW.PrintWords Go.Proofs.YtehnogggokfcaaaW.PrintMore Go.Proofs.YtehnogggokfcaaaW.PrintLast Go.Proofs.Ytehnogggokfcaaa.Y Go.Proofs.Ytehnogggokfcaaa.X Go.Proofs.Ytehnogggokfcaaa.Pure Go.Proofs.Ytehnogggokfcaaa.LM
set_option linter.unusedVariables false
set_option linter.unusedSimpArgs false
attribute [local go_sem ↓] Go.wp_at_zero Go.wp_at_succ
noncomputable section
set_option maxHeartbeats 40000000 in
set_option maxRecDepth 100000 in
theorem puts_calls (a b : S26) (A1 A2 : Option Addr) (c1 c2 : Nat) (w : World) (ha : In a) (hLa : a.f6.length * 32 ≤ 140737488351232) (hca : a.f6.length ≤ c1) (hCa : Kd.C k43 w A1 a.f6.length a.f6) (hb : In b) (hLb : b.f6.length * 32 ≤ 140737488351232) (hcb : b.f6.length ≤ c2) (hCb : Kd.C k43 w A2 b.f6.length b.f6) : Calls Try.prog 3 #[.agg #[.int .i64 a.f0, .int .i64 a.f1, .string a.f2, .int .i64 a.f3, .int .i64 a.f4, .string a.f5.f0, .int .i64 a.f5.f1, .int .i64 a.f5.f2, .slice A1 a.f6.length c1], .agg #[.int .i64 b.f0, .int .i64 b.f1, .string b.f2, .int .i64 b.f3, .int .i64 b.f4, .string b.f5.f0, .int .i64 b.f5.f1, .int .i64 b.f5.f2, .slice A2 b.f6.length c2]] w fun e w' => e = .returned (.bool true) ∧ Below w.heap.size w w' := by
  have hu := Try.underlying26
  obtain ⟨fa, hna, hfa⟩ := far_c a ⟨#[]⟩ hLa
  obtain ⟨fb, hnb, hfb⟩ := far_c b ⟨#[]⟩ hLb
  have B_0 := Aside0.mk (Below.refl w.heap.size w)
  have Ca_0 := Aside0.mk hCa
  have Cb_0 := Aside0.mk hCb
  have HFA := Aside0.mk hfa
  clear hfa
  have HFB := Aside0.mk hfb
  clear hfb
  have HNA := Aside0.mk hna
  clear hna
  have HNB := Aside0.mk hnb
  clear hnb
  have HIA := Aside0.mk ha
  clear ha
  have HIB := Aside0.mk hb
  clear hb
  have HLA := Aside0.mk hca
  clear hca
  have HLB := Aside0.mk hcb
  clear hcb
  clear hCa hCb hLa hLb
  go_enter Try.func3, Try.ntmps3
  cases fa
  · have HSA := Aside0.mk (HNA.out rfl)
    cases fb
    · have HSB := Aside0.mk (HNB.out rfl)
      obtain ⟨p1, hp1⟩ : ∃ p1, p1 = (putS a).1 := ⟨_, rfl⟩
      obtain ⟨p2, hp2⟩ : ∃ p2, p2 = (putS a).2 := ⟨_, rfl⟩
      have HPA := Aside0.mk (fun w0 h0 => put_calls a HIA.out HSA.out.g A1 c1 w0 HLA.out h0)
      have HRA := Aside0.mk (fun w0 h0 => rput_calls a HIA.out HSA.out.g A1 c1 w0 HLA.out h0)
      rw [← hp1, ← hp2] at HPA HRA
      clear hp1 hp2
      go_wp2_with (first | ((with_reducible refine gate_dst (N := 2) rfl ?_); refine box_event ?hg (N := 2) ?hd (cs := #[.int .i64 a.f0, .int .i64 a.f1, .string a.f2, .int .i64 a.f3, .int .i64 a.f4, .string a.f5.f0, .int .i64 a.f5.f1, .int .i64 a.f5.f2, .slice A1 a.f6.length c1]) (t := 26) ?hr ?_; (case hd => rfl); (case hg => rfl); (case hr => first | (go_simp; done) | (go_simp; rfl)); intro g2 hg_ wv1 hbox hb; have Ca_1 := Aside0.mk (Kd.C_below Ca_0.out hb); have Cb_1 := Aside0.mk (Kd.C_below Cb_0.out hb); have B_1 := Aside0.mk (below_all_ B_0.out hb); have Ep_1 := Aside0.mk (show EB wv1 g2 ⟨a.f0, a.f1, a.f2, a.f3, a.f4, a.f5.f0, a.f5.f1, a.f5.f2, A1, a.f6.length, c1⟩ from hbox); clear hbox hb hg_; obtain ⟨p0, p1, p2, p3, p4, p5, p6, p7, p8⟩ := Ep_1.out.cells; dsimp only at p0 p1 p2 p3 p4 p5 p6 p7 p8) | ((with_reducible refine gate_dst (N := 3) rfl ?_); refine box_event ?hg (N := 3) ?hd (cs := #[.int .i64 b.f0, .int .i64 b.f1, .string b.f2, .int .i64 b.f3, .int .i64 b.f4, .string b.f5.f0, .int .i64 b.f5.f1, .int .i64 b.f5.f2, .slice A2 b.f6.length c2]) (t := 26) ?hr ?_; (case hd => rfl); (case hg => rfl); (case hr => first | (go_simp; done) | (go_simp; rfl)); intro g3 hg_ wv2 hbox hb; clear p0 p1 p2 p3 p4 p5 p6 p7 p8; have Ep_2 := Aside0.mk (show EB _ g2 ⟨a.f0, a.f1, a.f2, a.f3, a.f4, a.f5.f0, a.f5.f1, a.f5.f2, A1, a.f6.length, c1⟩ from Ep_1.out.below hb); have Ca_2 := Aside0.mk (Kd.C_below Ca_1.out hb); have Cb_2 := Aside0.mk (Kd.C_below Cb_1.out hb); have B_2 := Aside0.mk (below_all_ B_1.out hb); have Eq_2 := Aside0.mk (show EB wv2 g3 ⟨b.f0, b.f1, b.f2, b.f3, b.f4, b.f5.f0, b.f5.f1, b.f5.f2, A2, b.f6.length, c2⟩ from hbox); clear hbox hb hg_; obtain ⟨p0, p1, p2, p3, p4, p5, p6, p7, p8⟩ := Ep_2.out.cells; dsimp only at p0 p1 p2 p3 p4 p5 p6 p7 p8; obtain ⟨q0, q1, q2, q3, q4, q5, q6, q7, q8⟩ := Eq_2.out.cells; dsimp only at q0 q1 q2 q3 q4 q5 q6 q7 q8) | (go_at_call 6; have c_ := HFA.out A1 c1 _ HLA.out Ca_2.out; (rw [show ecL (ecOf a A1 c1) = #[.int .i64 a.f0, .int .i64 a.f1, .string a.f2, .int .i64 a.f3, .int .i64 a.f4, .string a.f5.f0, .int .i64 a.f5.f1, .int .i64 a.f5.f2, .slice A1 a.f6.length c1] from rfl] at c_); (with_reducible refine Calls.mono c_ ?_); clear c_; rintro _ wv3 ⟨rfl, hb⟩; clear p0 p1 p2 p3 p4 p5 p6 p7 p8; clear q0 q1 q2 q3 q4 q5 q6 q7 q8; have Ep_3 := Aside0.mk (show EB _ g2 ⟨a.f0, a.f1, a.f2, a.f3, a.f4, a.f5.f0, a.f5.f1, a.f5.f2, A1, a.f6.length, c1⟩ from Ep_2.out.below hb); have Eq_3 := Aside0.mk (show EB _ g3 ⟨b.f0, b.f1, b.f2, b.f3, b.f4, b.f5.f0, b.f5.f1, b.f5.f2, A2, b.f6.length, c2⟩ from Eq_2.out.below hb); have Ca_3 := Aside0.mk (Kd.C_below Ca_2.out hb); have Cb_3 := Aside0.mk (Kd.C_below Cb_2.out hb); have B_3 := Aside0.mk (below_all_ B_2.out hb); clear hb; obtain ⟨p0, p1, p2, p3, p4, p5, p6, p7, p8⟩ := Ep_3.out.cells; dsimp only at p0 p1 p2 p3 p4 p5 p6 p7 p8; obtain ⟨q0, q1, q2, q3, q4, q5, q6, q7, q8⟩ := Eq_3.out.cells; dsimp only at q0 q1 q2 q3 q4 q5 q6 q7 q8) | (go_at_call 6; have c_ := HFB.out A2 c2 _ HLB.out Cb_3.out; (rw [show ecL (ecOf b A2 c2) = #[.int .i64 b.f0, .int .i64 b.f1, .string b.f2, .int .i64 b.f3, .int .i64 b.f4, .string b.f5.f0, .int .i64 b.f5.f1, .int .i64 b.f5.f2, .slice A2 b.f6.length c2] from rfl] at c_); (with_reducible refine Calls.mono c_ ?_); clear c_; rintro _ wv4 ⟨rfl, hb⟩; clear p0 p1 p2 p3 p4 p5 p6 p7 p8; clear q0 q1 q2 q3 q4 q5 q6 q7 q8; have Ep_4 := Aside0.mk (show EB _ g2 ⟨a.f0, a.f1, a.f2, a.f3, a.f4, a.f5.f0, a.f5.f1, a.f5.f2, A1, a.f6.length, c1⟩ from Ep_3.out.below hb); have Eq_4 := Aside0.mk (show EB _ g3 ⟨b.f0, b.f1, b.f2, b.f3, b.f4, b.f5.f0, b.f5.f1, b.f5.f2, A2, b.f6.length, c2⟩ from Eq_3.out.below hb); have Ca_4 := Aside0.mk (Kd.C_below Ca_3.out hb); have Cb_4 := Aside0.mk (Kd.C_below Cb_3.out hb); have B_4 := Aside0.mk (below_all_ B_3.out hb); clear hb; obtain ⟨p0, p1, p2, p3, p4, p5, p6, p7, p8⟩ := Ep_4.out.cells; dsimp only at p0 p1 p2 p3 p4 p5 p6 p7 p8; obtain ⟨q0, q1, q2, q3, q4, q5, q6, q7, q8⟩ := Eq_4.out.cells; dsimp only at q0 q1 q2 q3 q4 q5 q6 q7 q8) | (go_at_call 8; have c_ := HPA.out _ Ca_4.out; (rw [show ecL (ecOf a A1 c1) = #[.int .i64 a.f0, .int .i64 a.f1, .string a.f2, .int .i64 a.f3, .int .i64 a.f4, .string a.f5.f0, .int .i64 a.f5.f1, .int .i64 a.f5.f2, .slice A1 a.f6.length c1] from rfl] at c_); (with_reducible refine Calls.mono c_ ?_); clear c_; rintro _ wv5 ⟨rfl, hb⟩; clear p0 p1 p2 p3 p4 p5 p6 p7 p8; clear q0 q1 q2 q3 q4 q5 q6 q7 q8; have Ep_5 := Aside0.mk (show EB _ g2 ⟨a.f0, a.f1, a.f2, a.f3, a.f4, a.f5.f0, a.f5.f1, a.f5.f2, A1, a.f6.length, c1⟩ from Ep_4.out.below hb); have Eq_5 := Aside0.mk (show EB _ g3 ⟨b.f0, b.f1, b.f2, b.f3, b.f4, b.f5.f0, b.f5.f1, b.f5.f2, A2, b.f6.length, c2⟩ from Eq_4.out.below hb); have Ca_5 := Aside0.mk (Kd.C_below Ca_4.out hb); have Cb_5 := Aside0.mk (Kd.C_below Cb_4.out hb); have B_5 := Aside0.mk (below_all_ B_4.out hb); clear hb; obtain ⟨p0, p1, p2, p3, p4, p5, p6, p7, p8⟩ := Ep_5.out.cells; dsimp only at p0 p1 p2 p3 p4 p5 p6 p7 p8; obtain ⟨q0, q1, q2, q3, q4, q5, q6, q7, q8⟩ := Eq_5.out.cells; dsimp only at q0 q1 q2 q3 q4 q5 q6 q7 q8) | (go_at_call 9; have c_ := HRA.out _ Ca_5.out; (rw [show ecL (ecOf a A1 c1) = #[.int .i64 a.f0, .int .i64 a.f1, .string a.f2, .int .i64 a.f3, .int .i64 a.f4, .string a.f5.f0, .int .i64 a.f5.f1, .int .i64 a.f5.f2, .slice A1 a.f6.length c1] from rfl] at c_); (with_reducible refine Calls.mono c_ ?_); clear c_; rintro _ wv6 ⟨rfl, hb⟩; clear p0 p1 p2 p3 p4 p5 p6 p7 p8; clear q0 q1 q2 q3 q4 q5 q6 q7 q8; have Ep_6 := Aside0.mk (show EB _ g2 ⟨a.f0, a.f1, a.f2, a.f3, a.f4, a.f5.f0, a.f5.f1, a.f5.f2, A1, a.f6.length, c1⟩ from Ep_5.out.below hb); have Eq_6 := Aside0.mk (show EB _ g3 ⟨b.f0, b.f1, b.f2, b.f3, b.f4, b.f5.f0, b.f5.f1, b.f5.f2, A2, b.f6.length, c2⟩ from Eq_5.out.below hb); have Ca_6 := Aside0.mk (Kd.C_below Ca_5.out hb); have Cb_6 := Aside0.mk (Kd.C_below Cb_5.out hb); have B_6 := Aside0.mk (below_all_ B_5.out hb); clear hb; obtain ⟨p0, p1, p2, p3, p4, p5, p6, p7, p8⟩ := Ep_6.out.cells; dsimp only at p0 p1 p2 p3 p4 p5 p6 p7 p8; obtain ⟨q0, q1, q2, q3, q4, q5, q6, q7, q8⟩ := Eq_6.out.cells; dsimp only at q0 q1 q2 q3 q4 q5 q6 q7 q8))
      clear p0 p1 p2 p3 p4 p5 p6 p7 p8
      clear q0 q1 q2 q3 q4 q5 q6 q7 q8
      refine region_drew (fun W_ => EB W_ g2 ⟨a.f0, a.f1, a.f2, a.f3, a.f4, a.f5.f0, a.f5.f1, a.f5.f2, A1, a.f6.length, c1⟩ ∧ EB W_ g3 ⟨b.f0, b.f1, b.f2, b.f3, b.f4, b.f5.f0, b.f5.f1, b.f5.f2, A2, b.f6.length, c2⟩) (by kernel_rfl) (fun d_ hb he_ => ?_)
      have Ep_7 := Aside0.mk (show EB _ g2 ⟨a.f0, a.f1, a.f2, a.f3, a.f4, a.f5.f0, a.f5.f1, a.f5.f2, A1, a.f6.length, c1⟩ from Ep_6.out.below hb)
      have Eq_7 := Aside0.mk (show EB _ g3 ⟨b.f0, b.f1, b.f2, b.f3, b.f4, b.f5.f0, b.f5.f1, b.f5.f2, A2, b.f6.length, c2⟩ from Eq_6.out.below hb)
      have Ca_7 := Aside0.mk (Kd.C_below Ca_6.out hb)
      have Cb_7 := Aside0.mk (Kd.C_below Cb_6.out hb)
      have B_7 := Aside0.mk (below_all_ B_6.out hb)
      clear hb he_
      refine ⟨⟨Ep_7.out, Eq_7.out⟩, fun hHeld => ?_⟩
      refine wpAnyH_take (i := 0) (v := .string p1) rfl (by kernel_rfl) (by kernel_rfl) (by kernel_rfl) (fun _ _ _ h => h) (Or.inl ⟨by kernel_rfl, ?_⟩) (by assumption) ?_
      · intro W_ hSw
        clear hSw
        first | (go_simp; done) | (go_simp; with_reducible rfl) | (go_simp; rfl)
      refine wpAnyH_take (i := 1) (v := .string p1) rfl (by kernel_rfl) (by kernel_rfl) (by kernel_rfl) (fun _ _ _ h => h) (Or.inl ⟨by kernel_rfl, ?_⟩) (by assumption) ?_
      · intro W_ hSw
        clear hSw
        first | (go_simp; done) | (go_simp; with_reducible rfl) | (go_simp; rfl)
      refine wpAnyH_take (i := 2) (v := .bool true) rfl (by kernel_rfl) (by kernel_rfl) (by kernel_rfl) (fun _ _ _ h => h) (Or.inl ⟨by kernel_rfl, ?_⟩) (by assumption) ?_
      · intro W_ hSw
        clear hSw
        first | (go_simp; done) | (go_simp; with_reducible rfl) | (go_simp; rfl)
      refine wpAnyH_take (i := 3) (v := .bool true) rfl (by kernel_rfl) (by kernel_rfl) (by kernel_rfl) (fun _ _ _ h => h) (Or.inl ⟨by kernel_rfl, ?_⟩) (by assumption) ?_
      · intro W_ hSw
        clear hSw
        first | (go_simp; done) | (go_simp; with_reducible rfl) | (go_simp; rfl)
      refine wpAnyH_take (i := 4) (v := .int .i64 p2) rfl (by kernel_rfl) (by kernel_rfl) (by kernel_rfl) (fun _ _ _ h => h) (Or.inl ⟨by kernel_rfl, ?_⟩) (by assumption) ?_
      · intro W_ hSw
        clear hSw
        first | (go_simp; done) | (go_simp; with_reducible rfl) | (go_simp; rfl)
      refine wpAnyH_take (i := 5) (v := .int .i64 p2) rfl (by kernel_rfl) (by kernel_rfl) (by kernel_rfl) (fun _ _ _ h => h) (Or.inl ⟨by kernel_rfl, ?_⟩) (by assumption) ?_
      · intro W_ hSw
        clear hSw
        first | (go_simp; done) | (go_simp; with_reducible rfl) | (go_simp; rfl)
      refine wpAnyH_take (i := 6) (v := .bool true) rfl (by kernel_rfl) (by kernel_rfl) (by kernel_rfl) (fun _ _ _ h => h) (Or.inl ⟨by kernel_rfl, ?_⟩) (by assumption) ?_
      · intro W_ hSw
        clear hSw
        first | (go_simp; done) | (go_simp; with_reducible rfl) | (go_simp; rfl)
      refine wpAnyH_take (i := 7) (v := .bool true) rfl (by kernel_rfl) (by kernel_rfl) (by kernel_rfl) (fun _ _ _ h => h) (Or.inl ⟨by kernel_rfl, ?_⟩) (by assumption) ?_
      · intro W_ hSw
        clear hSw
        first | (go_simp; done) | (go_simp; with_reducible rfl) | (go_simp; rfl)
      refine wpAnyH_take (i := 8) (v := .bool true) rfl (by kernel_rfl) (by kernel_rfl) (by kernel_rfl) (fun _ _ _ h => h) (Or.inl ⟨by kernel_rfl, ?_⟩) (by assumption) ?_
      · intro W_ hSw
        clear hSw
        first | (go_simp; done) | (go_simp; with_reducible rfl) | (go_simp; rfl)
      refine wpAnyH_take (i := 9) (v := .agg #[.int .i64 a.f0, .int .i64 a.f1, .string a.f2, .int .i64 a.f3, .int .i64 a.f4, .string a.f5.f0, .int .i64 a.f5.f1, .int .i64 a.f5.f2, .slice A1 a.f6.length c1]) rfl (by kernel_rfl) (by kernel_rfl) (by kernel_rfl) (fun _ _ _ h => h) (Or.inl ⟨by kernel_rfl, ?_⟩) (by assumption) ?_
      · intro W_ hSw
        obtain ⟨hs1, hs2⟩ := hSw
        obtain ⟨y0, y1, y2, y3, y4, y5, y6, y7, y8⟩ := EB.cells (e := ⟨a.f0, a.f1, a.f2, a.f3, a.f4, a.f5.f0, a.f5.f1, a.f5.f2, A1, a.f6.length, c1⟩) hs1
        obtain ⟨z0, z1, z2, z3, z4, z5, z6, z7, z8⟩ := EB.cells (e := ⟨b.f0, b.f1, b.f2, b.f3, b.f4, b.f5.f0, b.f5.f1, b.f5.f2, A2, b.f6.length, c2⟩) hs2
        dsimp only at y0 y1 y2 y3 y4 y5 y6 y7 y8 z0 z1 z2 z3 z4 z5 z6 z7 z8
        clear hs1 hs2
        first | (go_simp; done) | (go_simp; with_reducible rfl) | (go_simp; rfl)
      refine wpAnyH_take (i := 10) (v := .agg #[.int .i64 b.f0, .int .i64 b.f1, .string b.f2, .int .i64 b.f3, .int .i64 b.f4, .string b.f5.f0, .int .i64 b.f5.f1, .int .i64 b.f5.f2, .slice A2 b.f6.length c2]) rfl (by kernel_rfl) (by kernel_rfl) (by kernel_rfl) (fun _ _ _ h => h) (Or.inl ⟨by kernel_rfl, ?_⟩) (by assumption) ?_
      · intro W_ hSw
        obtain ⟨hs1, hs2⟩ := hSw
        obtain ⟨y0, y1, y2, y3, y4, y5, y6, y7, y8⟩ := EB.cells (e := ⟨a.f0, a.f1, a.f2, a.f3, a.f4, a.f5.f0, a.f5.f1, a.f5.f2, A1, a.f6.length, c1⟩) hs1
        obtain ⟨z0, z1, z2, z3, z4, z5, z6, z7, z8⟩ := EB.cells (e := ⟨b.f0, b.f1, b.f2, b.f3, b.f4, b.f5.f0, b.f5.f1, b.f5.f2, A2, b.f6.length, c2⟩) hs2
        dsimp only at y0 y1 y2 y3 y4 y5 y6 y7 y8 z0 z1 z2 z3 z4 z5 z6 z7 z8
        clear hs1 hs2
        first | (go_simp; done) | (go_simp; with_reducible rfl) | (go_simp; rfl)
      refine wpAnyH_take (i := 12) (v := .agg #[.int .i64 a.f0, .int .i64 a.f1, .string a.f2, .int .i64 a.f3, .int .i64 a.f4, .string a.f5.f0, .int .i64 a.f5.f1, .int .i64 a.f5.f2, .slice A1 a.f6.length c1]) rfl (by kernel_rfl) (by kernel_rfl) (by kernel_rfl) (fun _ _ _ h => h) (Or.inl ⟨by kernel_rfl, ?_⟩) (by assumption) ?_
      · intro W_ hSw
        obtain ⟨hs1, hs2⟩ := hSw
        obtain ⟨y0, y1, y2, y3, y4, y5, y6, y7, y8⟩ := EB.cells (e := ⟨a.f0, a.f1, a.f2, a.f3, a.f4, a.f5.f0, a.f5.f1, a.f5.f2, A1, a.f6.length, c1⟩) hs1
        obtain ⟨z0, z1, z2, z3, z4, z5, z6, z7, z8⟩ := EB.cells (e := ⟨b.f0, b.f1, b.f2, b.f3, b.f4, b.f5.f0, b.f5.f1, b.f5.f2, A2, b.f6.length, c2⟩) hs2
        dsimp only at y0 y1 y2 y3 y4 y5 y6 y7 y8 z0 z1 z2 z3 z4 z5 z6 z7 z8
        clear hs1 hs2
        first | (go_simp; done) | (go_simp; with_reducible rfl) | (go_simp; rfl)
      refine wpAnyH_take (i := 13) (v := .agg #[.int .i64 b.f0, .int .i64 b.f1, .string b.f2, .int .i64 b.f3, .int .i64 b.f4, .string b.f5.f0, .int .i64 b.f5.f1, .int .i64 b.f5.f2, .slice A2 b.f6.length c2]) rfl (by kernel_rfl) (by kernel_rfl) (by kernel_rfl) (fun _ _ _ h => h) (Or.inl ⟨by kernel_rfl, ?_⟩) (by assumption) ?_
      · intro W_ hSw
        obtain ⟨hs1, hs2⟩ := hSw
        obtain ⟨y0, y1, y2, y3, y4, y5, y6, y7, y8⟩ := EB.cells (e := ⟨a.f0, a.f1, a.f2, a.f3, a.f4, a.f5.f0, a.f5.f1, a.f5.f2, A1, a.f6.length, c1⟩) hs1
        obtain ⟨z0, z1, z2, z3, z4, z5, z6, z7, z8⟩ := EB.cells (e := ⟨b.f0, b.f1, b.f2, b.f3, b.f4, b.f5.f0, b.f5.f1, b.f5.f2, A2, b.f6.length, c2⟩) hs2
        dsimp only at y0 y1 y2 y3 y4 y5 y6 y7 y8 z0 z1 z2 z3 z4 z5 z6 z7 z8
        clear hs1 hs2
        first | (go_simp; done) | (go_simp; with_reducible rfl) | (go_simp; rfl)
      try simp only [Act.put, List.getElem_toArray, List.getElem_cons_succ, List.getElem_cons_zero, List.setIfInBounds_toArray, List.set_cons_zero, List.set_cons_succ]
      clear hHeld
      have c_ := same_c a b A1 A2 c1 c2 (by have := HSA.out.g.l; omega) d_ HLA.out Ca_7.out HLB.out Cb_7.out
      (rw [show ecL (ecOf a A1 c1) = #[.int .i64 a.f0, .int .i64 a.f1, .string a.f2, .int .i64 a.f3, .int .i64 a.f4, .string a.f5.f0, .int .i64 a.f5.f1, .int .i64 a.f5.f2, .slice A1 a.f6.length c1] from rfl] at c_)
      (rw [show ecL (ecOf b A2 c2) = #[.int .i64 b.f0, .int .i64 b.f1, .string b.f2, .int .i64 b.f3, .int .i64 b.f4, .string b.f5.f0, .int .i64 b.f5.f1, .int .i64 b.f5.f2, .slice A2 b.f6.length c2] from rfl] at c_)
      refine next_le (i := 11) (rs := []) (by kernel_rfl) ?_
      refine cons_callG 11 (N := 37) (xs := #[.tmp 35, .tmp 36]) (ts := #[26, 26]) (by kernel_rfl) Try.func10 (by kernel_rfl) rfl #[.agg #[.int .i64 a.f0, .int .i64 a.f1, .string a.f2, .int .i64 a.f3, .int .i64 a.f4, .string a.f5.f0, .int .i64 a.f5.f1, .int .i64 a.f5.f2, .slice A1 a.f6.length c1], .agg #[.int .i64 b.f0, .int .i64 b.f1, .string b.f2, .int .i64 b.f3, .int .i64 b.f4, .string b.f5.f0, .int .i64 b.f5.f1, .int .i64 b.f5.f2, .slice A2 b.f6.length c2]] (by kernel_rfl) ?_ AllReadyH.nil
      with_reducible refine Calls.mono c_ ?_
      clear c_
      rintro _ wd11 ⟨rfl, hb⟩
      have Ep_8 := Aside0.mk (show EB _ g2 ⟨a.f0, a.f1, a.f2, a.f3, a.f4, a.f5.f0, a.f5.f1, a.f5.f2, A1, a.f6.length, c1⟩ from Ep_7.out.below hb)
      have Eq_8 := Aside0.mk (show EB _ g3 ⟨b.f0, b.f1, b.f2, b.f3, b.f4, b.f5.f0, b.f5.f1, b.f5.f2, A2, b.f6.length, c2⟩ from Eq_7.out.below hb)
      have Ca_8 := Aside0.mk (Kd.C_below Ca_7.out hb)
      have Cb_8 := Aside0.mk (Kd.C_below Cb_7.out hb)
      have B_8 := Aside0.mk (below_all_ B_7.out hb)
      clear hb
      refine ⟨_, rfl, ⟨Ep_8.out, Eq_8.out⟩, ?_⟩
      try simp only [Act.put, List.getElem_toArray, List.getElem_cons_succ, List.getElem_cons_zero, List.setIfInBounds_toArray, List.set_cons_zero, List.set_cons_succ]
      obtain ⟨qb, hqb⟩ : ∃ qb, qb = eqP a b := ⟨_, rfl⟩
      have HQB := Aside0.mk hqb
      rw [← hqb]
      clear hqb
      have c_ := rsame_c a b A1 A2 c1 c2 (by have := HSA.out.g.l; omega) wd11 HLA.out Ca_8.out HLB.out Cb_8.out
      (rw [show ecL (ecOf a A1 c1) = #[.int .i64 a.f0, .int .i64 a.f1, .string a.f2, .int .i64 a.f3, .int .i64 a.f4, .string a.f5.f0, .int .i64 a.f5.f1, .int .i64 a.f5.f2, .slice A1 a.f6.length c1] from rfl] at c_)
      (rw [show ecL (ecOf b A2 c2) = #[.int .i64 b.f0, .int .i64 b.f1, .string b.f2, .int .i64 b.f3, .int .i64 b.f4, .string b.f5.f0, .int .i64 b.f5.f1, .int .i64 b.f5.f2, .slice A2 b.f6.length c2] from rfl] at c_)
      (rw [← HQB.out] at c_)
      refine next_le (i := 14) (rs := []) (by kernel_rfl) ?_
      refine cons_callG 14 (N := 40) (xs := #[.tmp 38, .tmp 39]) (ts := #[26, 26]) (by kernel_rfl) Try.func11 (by kernel_rfl) rfl #[.agg #[.int .i64 a.f0, .int .i64 a.f1, .string a.f2, .int .i64 a.f3, .int .i64 a.f4, .string a.f5.f0, .int .i64 a.f5.f1, .int .i64 a.f5.f2, .slice A1 a.f6.length c1], .agg #[.int .i64 b.f0, .int .i64 b.f1, .string b.f2, .int .i64 b.f3, .int .i64 b.f4, .string b.f5.f0, .int .i64 b.f5.f1, .int .i64 b.f5.f2, .slice A2 b.f6.length c2]] (by kernel_rfl) ?_ AllReadyH.nil
      with_reducible refine Calls.mono c_ ?_
      clear c_
      rintro _ wd14 ⟨rfl, hb⟩
      have Ep_9 := Aside0.mk (show EB _ g2 ⟨a.f0, a.f1, a.f2, a.f3, a.f4, a.f5.f0, a.f5.f1, a.f5.f2, A1, a.f6.length, c1⟩ from Ep_8.out.below hb)
      have Eq_9 := Aside0.mk (show EB _ g3 ⟨b.f0, b.f1, b.f2, b.f3, b.f4, b.f5.f0, b.f5.f1, b.f5.f2, A2, b.f6.length, c2⟩ from Eq_8.out.below hb)
      have Ca_9 := Aside0.mk (Kd.C_below Ca_8.out hb)
      have Cb_9 := Aside0.mk (Kd.C_below Cb_8.out hb)
      have B_9 := Aside0.mk (below_all_ B_8.out hb)
      clear hb
      refine ⟨_, rfl, ⟨Ep_9.out, Eq_9.out⟩, ?_⟩
      try simp only [Act.put, List.getElem_toArray, List.getElem_cons_succ, List.getElem_cons_zero, List.setIfInBounds_toArray, List.set_cons_zero, List.set_cons_succ]
      have hHeld : EB wd14 g2 ⟨a.f0, a.f1, a.f2, a.f3, a.f4, a.f5.f0, a.f5.f1, a.f5.f2, A1, a.f6.length, c1⟩ ∧ EB wd14 g3 ⟨b.f0, b.f1, b.f2, b.f3, b.f4, b.f5.f0, b.f5.f1, b.f5.f2, A2, b.f6.length, c2⟩ := ⟨Ep_9.out, Eq_9.out⟩
      have qq : (qb == qb) = true := by cases qb <;> rfl
      refine wpAnyH_take (i := 15) (v := .bool true) rfl (by kernel_rfl) (by kernel_rfl) (by kernel_rfl) (fun _ _ _ h => h) (Or.inl ⟨by kernel_rfl, ?_⟩) (by assumption) ?_
      · intro W_ hSw
        clear hSw
        first | (go_simp; done) | (go_simp; with_reducible rfl) | (go_simp; rfl)
      try simp only [Act.put, List.getElem_toArray, List.getElem_cons_succ, List.getElem_cons_zero, List.setIfInBounds_toArray, List.set_cons_zero, List.set_cons_succ]
      clear qq
      refine wpAnyH_take (i := 16) (v := .bool true) rfl (by kernel_rfl) (by kernel_rfl) (by kernel_rfl) (fun _ _ _ h => h) (Or.inl ⟨by kernel_rfl, ?_⟩) (by assumption) ?_
      · intro W_ hSw
        clear hSw
        first | (go_simp; done) | (go_simp; with_reducible rfl) | (go_simp; rfl)
      refine wpAnyH_take (i := 17) (v := .bool true) rfl (by kernel_rfl) (by kernel_rfl) (by kernel_rfl) (fun _ _ _ h => h) (Or.inl ⟨by kernel_rfl, ?_⟩) (by assumption) ?_
      · intro W_ hSw
        clear hSw
        first | (go_simp; done) | (go_simp; with_reducible rfl) | (go_simp; rfl)
      refine wpAnyH_take (i := 18) (v := .agg #[.int .i64 a.f0, .int .i64 a.f1, .string a.f2, .int .i64 a.f3, .int .i64 a.f4, .string a.f5.f0, .int .i64 a.f5.f1, .int .i64 a.f5.f2, .slice A1 a.f6.length c1]) rfl (by kernel_rfl) (by kernel_rfl) (by kernel_rfl) (fun _ _ _ h => h) (Or.inl ⟨by kernel_rfl, ?_⟩) (by assumption) ?_
      · intro W_ hSw
        obtain ⟨hs1, hs2⟩ := hSw
        obtain ⟨y0, y1, y2, y3, y4, y5, y6, y7, y8⟩ := EB.cells (e := ⟨a.f0, a.f1, a.f2, a.f3, a.f4, a.f5.f0, a.f5.f1, a.f5.f2, A1, a.f6.length, c1⟩) hs1
        obtain ⟨z0, z1, z2, z3, z4, z5, z6, z7, z8⟩ := EB.cells (e := ⟨b.f0, b.f1, b.f2, b.f3, b.f4, b.f5.f0, b.f5.f1, b.f5.f2, A2, b.f6.length, c2⟩) hs2
        dsimp only at y0 y1 y2 y3 y4 y5 y6 y7 y8 z0 z1 z2 z3 z4 z5 z6 z7 z8
        clear hs1 hs2
        first | (go_simp; done) | (go_simp; with_reducible rfl) | (go_simp; rfl)
      refine wpAnyH_take (i := 19) (v := .agg #[.int .i64 a.f0, .int .i64 a.f1, .string a.f2, .int .i64 a.f3, .int .i64 a.f4, .string a.f5.f0, .int .i64 a.f5.f1, .int .i64 a.f5.f2, .slice A1 a.f6.length c1]) rfl (by kernel_rfl) (by kernel_rfl) (by kernel_rfl) (fun _ _ _ h => h) (Or.inl ⟨by kernel_rfl, ?_⟩) (by assumption) ?_
      · intro W_ hSw
        obtain ⟨hs1, hs2⟩ := hSw
        obtain ⟨y0, y1, y2, y3, y4, y5, y6, y7, y8⟩ := EB.cells (e := ⟨a.f0, a.f1, a.f2, a.f3, a.f4, a.f5.f0, a.f5.f1, a.f5.f2, A1, a.f6.length, c1⟩) hs1
        obtain ⟨z0, z1, z2, z3, z4, z5, z6, z7, z8⟩ := EB.cells (e := ⟨b.f0, b.f1, b.f2, b.f3, b.f4, b.f5.f0, b.f5.f1, b.f5.f2, A2, b.f6.length, c2⟩) hs2
        dsimp only at y0 y1 y2 y3 y4 y5 y6 y7 y8 z0 z1 z2 z3 z4 z5 z6 z7 z8
        clear hs1 hs2
        first | (go_simp; done) | (go_simp; with_reducible rfl) | (go_simp; rfl)
      try simp only [Act.put, List.getElem_toArray, List.getElem_cons_succ, List.getElem_cons_zero, List.setIfInBounds_toArray, List.set_cons_zero, List.set_cons_succ]
      clear hHeld
      have c_ := same_c a a A1 A1 c1 c1 (by have := HSA.out.g.l; omega) wd14 HLA.out Ca_9.out HLA.out Ca_9.out
      (rw [show ecL (ecOf a A1 c1) = #[.int .i64 a.f0, .int .i64 a.f1, .string a.f2, .int .i64 a.f3, .int .i64 a.f4, .string a.f5.f0, .int .i64 a.f5.f1, .int .i64 a.f5.f2, .slice A1 a.f6.length c1] from rfl] at c_)
      (rw [eqP_self] at c_)
      refine next_le (i := 20) (rs := []) (by kernel_rfl) ?_
      refine cons_callG 20 (N := 46) (xs := #[.tmp 44, .tmp 45]) (ts := #[26, 26]) (by kernel_rfl) Try.func10 (by kernel_rfl) rfl #[.agg #[.int .i64 a.f0, .int .i64 a.f1, .string a.f2, .int .i64 a.f3, .int .i64 a.f4, .string a.f5.f0, .int .i64 a.f5.f1, .int .i64 a.f5.f2, .slice A1 a.f6.length c1], .agg #[.int .i64 a.f0, .int .i64 a.f1, .string a.f2, .int .i64 a.f3, .int .i64 a.f4, .string a.f5.f0, .int .i64 a.f5.f1, .int .i64 a.f5.f2, .slice A1 a.f6.length c1]] (by kernel_rfl) ?_ AllReadyH.nil
      with_reducible refine Calls.mono c_ ?_
      clear c_
      rintro _ wd20 ⟨rfl, hb⟩
      have Ep_10 := Aside0.mk (show EB _ g2 ⟨a.f0, a.f1, a.f2, a.f3, a.f4, a.f5.f0, a.f5.f1, a.f5.f2, A1, a.f6.length, c1⟩ from Ep_9.out.below hb)
      have Eq_10 := Aside0.mk (show EB _ g3 ⟨b.f0, b.f1, b.f2, b.f3, b.f4, b.f5.f0, b.f5.f1, b.f5.f2, A2, b.f6.length, c2⟩ from Eq_9.out.below hb)
      have Ca_10 := Aside0.mk (Kd.C_below Ca_9.out hb)
      have Cb_10 := Aside0.mk (Kd.C_below Cb_9.out hb)
      have B_10 := Aside0.mk (below_all_ B_9.out hb)
      clear hb
      refine ⟨_, rfl, ⟨Ep_10.out, Eq_10.out⟩, ?_⟩
      try simp only [Act.put, List.getElem_toArray, List.getElem_cons_succ, List.getElem_cons_zero, List.setIfInBounds_toArray, List.set_cons_zero, List.set_cons_succ]
      have hHeld : EB wd20 g2 ⟨a.f0, a.f1, a.f2, a.f3, a.f4, a.f5.f0, a.f5.f1, a.f5.f2, A1, a.f6.length, c1⟩ ∧ EB wd20 g3 ⟨b.f0, b.f1, b.f2, b.f3, b.f4, b.f5.f0, b.f5.f1, b.f5.f2, A2, b.f6.length, c2⟩ := ⟨Ep_10.out, Eq_10.out⟩
      refine wpAnyH_take (i := 21) (v := .bool true) rfl (by kernel_rfl) (by kernel_rfl) (by kernel_rfl) (fun _ _ _ h => h) (Or.inl ⟨by kernel_rfl, ?_⟩) (by assumption) ?_
      · intro W_ hSw
        clear hSw
        first | (go_simp; done) | (go_simp; with_reducible rfl) | (go_simp; rfl)
      refine wpAnyH_take (i := 22) (v := .bool true) rfl (by kernel_rfl) (by kernel_rfl) (by kernel_rfl) (fun _ _ _ h => h) (Or.inl ⟨by kernel_rfl, ?_⟩) (by assumption) ?_
      · intro W_ hSw
        clear hSw
        first | (go_simp; done) | (go_simp; with_reducible rfl) | (go_simp; rfl)
      try simp only [Act.put, List.getElem_toArray, List.getElem_cons_succ, List.getElem_cons_zero, List.setIfInBounds_toArray, List.set_cons_zero, List.set_cons_succ]
      clear hHeld
      have c_ := alive_c wd20
      refine next_le (i := 23) (rs := []) (by kernel_rfl) ?_
      refine cons_callG 23 (N := 49) (xs := #[]) (ts := #[]) (by kernel_rfl) Try.func7 (by kernel_rfl) rfl #[] (by kernel_rfl) ?_ AllReadyH.nil
      with_reducible refine Calls.mono c_ ?_
      clear c_
      rintro _ wd23 ⟨rfl, hb⟩
      have Ep_11 := Aside0.mk (show EB _ g2 ⟨a.f0, a.f1, a.f2, a.f3, a.f4, a.f5.f0, a.f5.f1, a.f5.f2, A1, a.f6.length, c1⟩ from Ep_10.out.below hb)
      have Eq_11 := Aside0.mk (show EB _ g3 ⟨b.f0, b.f1, b.f2, b.f3, b.f4, b.f5.f0, b.f5.f1, b.f5.f2, A2, b.f6.length, c2⟩ from Eq_10.out.below hb)
      have Ca_11 := Aside0.mk (Kd.C_below Ca_10.out hb)
      have Cb_11 := Aside0.mk (Kd.C_below Cb_10.out hb)
      have B_11 := Aside0.mk (below_all_ B_10.out hb)
      clear hb
      refine ⟨_, rfl, ⟨Ep_11.out, Eq_11.out⟩, ?_⟩
      try simp only [Act.put, List.getElem_toArray, List.getElem_cons_succ, List.getElem_cons_zero, List.setIfInBounds_toArray, List.set_cons_zero, List.set_cons_succ]
      have hHeld : EB wd23 g2 ⟨a.f0, a.f1, a.f2, a.f3, a.f4, a.f5.f0, a.f5.f1, a.f5.f2, A1, a.f6.length, c1⟩ ∧ EB wd23 g3 ⟨b.f0, b.f1, b.f2, b.f3, b.f4, b.f5.f0, b.f5.f1, b.f5.f2, A2, b.f6.length, c2⟩ := ⟨Ep_11.out, Eq_11.out⟩
      refine wpAnyH_take (i := 24) (v := .bool true) rfl (by kernel_rfl) (by kernel_rfl) (by kernel_rfl) (fun _ _ _ h => h) (Or.inl ⟨by kernel_rfl, ?_⟩) (by assumption) ?_
      · intro W_ hSw
        clear hSw
        first | (go_simp; done) | (go_simp; with_reducible rfl) | (go_simp; rfl)
      refine wpAnyH_take (i := 25) (v := .bool true) rfl (by kernel_rfl) (by kernel_rfl) (by kernel_rfl) (fun _ _ _ h => h) (Or.inl ⟨by kernel_rfl, ?_⟩) (by assumption) ?_
      · intro W_ hSw
        clear hSw
        first | (go_simp; done) | (go_simp; with_reducible rfl) | (go_simp; rfl)
      try simp only [Act.put, List.getElem_toArray, List.getElem_cons_succ, List.getElem_cons_zero, List.setIfInBounds_toArray, List.set_cons_zero, List.set_cons_succ]
      clear hHeld
      refine wpAnyH_done (by kernel_rfl) ?_ _
      go_wp2_with fail
      go_ret
      exact ⟨rfl, B_11.out⟩
    · go_wp2_with (first | ((with_reducible refine gate_dst (N := 2) rfl ?_); refine box_event ?hg (N := 2) ?hd (cs := #[.int .i64 a.f0, .int .i64 a.f1, .string a.f2, .int .i64 a.f3, .int .i64 a.f4, .string a.f5.f0, .int .i64 a.f5.f1, .int .i64 a.f5.f2, .slice A1 a.f6.length c1]) (t := 26) ?hr ?_; (case hd => rfl); (case hg => rfl); (case hr => first | (go_simp; done) | (go_simp; rfl)); intro g2 hg_ wv1 hbox hb; have Ca_1 := Aside0.mk (Kd.C_below Ca_0.out hb); have Cb_1 := Aside0.mk (Kd.C_below Cb_0.out hb); have B_1 := Aside0.mk (below_all_ B_0.out hb); have Ep_1 := Aside0.mk (show EB wv1 g2 ⟨a.f0, a.f1, a.f2, a.f3, a.f4, a.f5.f0, a.f5.f1, a.f5.f2, A1, a.f6.length, c1⟩ from hbox); clear hbox hb hg_; obtain ⟨p0, p1, p2, p3, p4, p5, p6, p7, p8⟩ := Ep_1.out.cells; dsimp only at p0 p1 p2 p3 p4 p5 p6 p7 p8) | ((with_reducible refine gate_dst (N := 3) rfl ?_); refine box_event ?hg (N := 3) ?hd (cs := #[.int .i64 b.f0, .int .i64 b.f1, .string b.f2, .int .i64 b.f3, .int .i64 b.f4, .string b.f5.f0, .int .i64 b.f5.f1, .int .i64 b.f5.f2, .slice A2 b.f6.length c2]) (t := 26) ?hr ?_; (case hd => rfl); (case hg => rfl); (case hr => first | (go_simp; done) | (go_simp; rfl)); intro g3 hg_ wv2 hbox hb; clear p0 p1 p2 p3 p4 p5 p6 p7 p8; have Ep_2 := Aside0.mk (show EB _ g2 ⟨a.f0, a.f1, a.f2, a.f3, a.f4, a.f5.f0, a.f5.f1, a.f5.f2, A1, a.f6.length, c1⟩ from Ep_1.out.below hb); have Ca_2 := Aside0.mk (Kd.C_below Ca_1.out hb); have Cb_2 := Aside0.mk (Kd.C_below Cb_1.out hb); have B_2 := Aside0.mk (below_all_ B_1.out hb); have Eq_2 := Aside0.mk (show EB wv2 g3 ⟨b.f0, b.f1, b.f2, b.f3, b.f4, b.f5.f0, b.f5.f1, b.f5.f2, A2, b.f6.length, c2⟩ from hbox); clear hbox hb hg_; obtain ⟨p0, p1, p2, p3, p4, p5, p6, p7, p8⟩ := Ep_2.out.cells; dsimp only at p0 p1 p2 p3 p4 p5 p6 p7 p8; obtain ⟨q0, q1, q2, q3, q4, q5, q6, q7, q8⟩ := Eq_2.out.cells; dsimp only at q0 q1 q2 q3 q4 q5 q6 q7 q8) | (go_at_call 6; have c_ := HFA.out A1 c1 _ HLA.out Ca_2.out; (rw [show ecL (ecOf a A1 c1) = #[.int .i64 a.f0, .int .i64 a.f1, .string a.f2, .int .i64 a.f3, .int .i64 a.f4, .string a.f5.f0, .int .i64 a.f5.f1, .int .i64 a.f5.f2, .slice A1 a.f6.length c1] from rfl] at c_); (with_reducible refine Calls.mono c_ ?_); clear c_; rintro _ wv3 ⟨rfl, hb⟩; clear p0 p1 p2 p3 p4 p5 p6 p7 p8; clear q0 q1 q2 q3 q4 q5 q6 q7 q8; have Ep_3 := Aside0.mk (show EB _ g2 ⟨a.f0, a.f1, a.f2, a.f3, a.f4, a.f5.f0, a.f5.f1, a.f5.f2, A1, a.f6.length, c1⟩ from Ep_2.out.below hb); have Eq_3 := Aside0.mk (show EB _ g3 ⟨b.f0, b.f1, b.f2, b.f3, b.f4, b.f5.f0, b.f5.f1, b.f5.f2, A2, b.f6.length, c2⟩ from Eq_2.out.below hb); have Ca_3 := Aside0.mk (Kd.C_below Ca_2.out hb); have Cb_3 := Aside0.mk (Kd.C_below Cb_2.out hb); have B_3 := Aside0.mk (below_all_ B_2.out hb); clear hb; obtain ⟨p0, p1, p2, p3, p4, p5, p6, p7, p8⟩ := Ep_3.out.cells; dsimp only at p0 p1 p2 p3 p4 p5 p6 p7 p8; obtain ⟨q0, q1, q2, q3, q4, q5, q6, q7, q8⟩ := Eq_3.out.cells; dsimp only at q0 q1 q2 q3 q4 q5 q6 q7 q8) | (go_at_call 6; have c_ := HFB.out A2 c2 _ HLB.out Cb_3.out; (rw [show ecL (ecOf b A2 c2) = #[.int .i64 b.f0, .int .i64 b.f1, .string b.f2, .int .i64 b.f3, .int .i64 b.f4, .string b.f5.f0, .int .i64 b.f5.f1, .int .i64 b.f5.f2, .slice A2 b.f6.length c2] from rfl] at c_); (with_reducible refine Calls.mono c_ ?_); clear c_; rintro _ wv4 ⟨rfl, hb⟩; clear p0 p1 p2 p3 p4 p5 p6 p7 p8; clear q0 q1 q2 q3 q4 q5 q6 q7 q8; have Ep_4 := Aside0.mk (show EB _ g2 ⟨a.f0, a.f1, a.f2, a.f3, a.f4, a.f5.f0, a.f5.f1, a.f5.f2, A1, a.f6.length, c1⟩ from Ep_3.out.below hb); have Eq_4 := Aside0.mk (show EB _ g3 ⟨b.f0, b.f1, b.f2, b.f3, b.f4, b.f5.f0, b.f5.f1, b.f5.f2, A2, b.f6.length, c2⟩ from Eq_3.out.below hb); have Ca_4 := Aside0.mk (Kd.C_below Ca_3.out hb); have Cb_4 := Aside0.mk (Kd.C_below Cb_3.out hb); have B_4 := Aside0.mk (below_all_ B_3.out hb); clear hb; obtain ⟨p0, p1, p2, p3, p4, p5, p6, p7, p8⟩ := Ep_4.out.cells; dsimp only at p0 p1 p2 p3 p4 p5 p6 p7 p8; obtain ⟨q0, q1, q2, q3, q4, q5, q6, q7, q8⟩ := Eq_4.out.cells; dsimp only at q0 q1 q2 q3 q4 q5 q6 q7 q8) | (go_at_call 7; have c_ := alive_c wv4; (with_reducible refine Calls.mono c_ ?_); clear c_; rintro _ wv5 ⟨rfl, hb⟩; clear p0 p1 p2 p3 p4 p5 p6 p7 p8; clear q0 q1 q2 q3 q4 q5 q6 q7 q8; have Ep_5 := Aside0.mk (show EB _ g2 ⟨a.f0, a.f1, a.f2, a.f3, a.f4, a.f5.f0, a.f5.f1, a.f5.f2, A1, a.f6.length, c1⟩ from Ep_4.out.below hb); have Eq_5 := Aside0.mk (show EB _ g3 ⟨b.f0, b.f1, b.f2, b.f3, b.f4, b.f5.f0, b.f5.f1, b.f5.f2, A2, b.f6.length, c2⟩ from Eq_4.out.below hb); have Ca_5 := Aside0.mk (Kd.C_below Ca_4.out hb); have Cb_5 := Aside0.mk (Kd.C_below Cb_4.out hb); have B_5 := Aside0.mk (below_all_ B_4.out hb); clear hb; obtain ⟨p0, p1, p2, p3, p4, p5, p6, p7, p8⟩ := Ep_5.out.cells; dsimp only at p0 p1 p2 p3 p4 p5 p6 p7 p8; obtain ⟨q0, q1, q2, q3, q4, q5, q6, q7, q8⟩ := Eq_5.out.cells; dsimp only at q0 q1 q2 q3 q4 q5 q6 q7 q8))
      go_ret
      exact ⟨rfl, B_5.out⟩
  · go_wp2_with (first | ((with_reducible refine gate_dst (N := 2) rfl ?_); refine box_event ?hg (N := 2) ?hd (cs := #[.int .i64 a.f0, .int .i64 a.f1, .string a.f2, .int .i64 a.f3, .int .i64 a.f4, .string a.f5.f0, .int .i64 a.f5.f1, .int .i64 a.f5.f2, .slice A1 a.f6.length c1]) (t := 26) ?hr ?_; (case hd => rfl); (case hg => rfl); (case hr => first | (go_simp; done) | (go_simp; rfl)); intro g2 hg_ wv1 hbox hb; have Ca_1 := Aside0.mk (Kd.C_below Ca_0.out hb); have Cb_1 := Aside0.mk (Kd.C_below Cb_0.out hb); have B_1 := Aside0.mk (below_all_ B_0.out hb); have Ep_1 := Aside0.mk (show EB wv1 g2 ⟨a.f0, a.f1, a.f2, a.f3, a.f4, a.f5.f0, a.f5.f1, a.f5.f2, A1, a.f6.length, c1⟩ from hbox); clear hbox hb hg_; obtain ⟨p0, p1, p2, p3, p4, p5, p6, p7, p8⟩ := Ep_1.out.cells; dsimp only at p0 p1 p2 p3 p4 p5 p6 p7 p8) | ((with_reducible refine gate_dst (N := 3) rfl ?_); refine box_event ?hg (N := 3) ?hd (cs := #[.int .i64 b.f0, .int .i64 b.f1, .string b.f2, .int .i64 b.f3, .int .i64 b.f4, .string b.f5.f0, .int .i64 b.f5.f1, .int .i64 b.f5.f2, .slice A2 b.f6.length c2]) (t := 26) ?hr ?_; (case hd => rfl); (case hg => rfl); (case hr => first | (go_simp; done) | (go_simp; rfl)); intro g3 hg_ wv2 hbox hb; clear p0 p1 p2 p3 p4 p5 p6 p7 p8; have Ep_2 := Aside0.mk (show EB _ g2 ⟨a.f0, a.f1, a.f2, a.f3, a.f4, a.f5.f0, a.f5.f1, a.f5.f2, A1, a.f6.length, c1⟩ from Ep_1.out.below hb); have Ca_2 := Aside0.mk (Kd.C_below Ca_1.out hb); have Cb_2 := Aside0.mk (Kd.C_below Cb_1.out hb); have B_2 := Aside0.mk (below_all_ B_1.out hb); have Eq_2 := Aside0.mk (show EB wv2 g3 ⟨b.f0, b.f1, b.f2, b.f3, b.f4, b.f5.f0, b.f5.f1, b.f5.f2, A2, b.f6.length, c2⟩ from hbox); clear hbox hb hg_; obtain ⟨p0, p1, p2, p3, p4, p5, p6, p7, p8⟩ := Ep_2.out.cells; dsimp only at p0 p1 p2 p3 p4 p5 p6 p7 p8; obtain ⟨q0, q1, q2, q3, q4, q5, q6, q7, q8⟩ := Eq_2.out.cells; dsimp only at q0 q1 q2 q3 q4 q5 q6 q7 q8) | (go_at_call 6; have c_ := HFA.out A1 c1 _ HLA.out Ca_2.out; (rw [show ecL (ecOf a A1 c1) = #[.int .i64 a.f0, .int .i64 a.f1, .string a.f2, .int .i64 a.f3, .int .i64 a.f4, .string a.f5.f0, .int .i64 a.f5.f1, .int .i64 a.f5.f2, .slice A1 a.f6.length c1] from rfl] at c_); (with_reducible refine Calls.mono c_ ?_); clear c_; rintro _ wv3 ⟨rfl, hb⟩; clear p0 p1 p2 p3 p4 p5 p6 p7 p8; clear q0 q1 q2 q3 q4 q5 q6 q7 q8; have Ep_3 := Aside0.mk (show EB _ g2 ⟨a.f0, a.f1, a.f2, a.f3, a.f4, a.f5.f0, a.f5.f1, a.f5.f2, A1, a.f6.length, c1⟩ from Ep_2.out.below hb); have Eq_3 := Aside0.mk (show EB _ g3 ⟨b.f0, b.f1, b.f2, b.f3, b.f4, b.f5.f0, b.f5.f1, b.f5.f2, A2, b.f6.length, c2⟩ from Eq_2.out.below hb); have Ca_3 := Aside0.mk (Kd.C_below Ca_2.out hb); have Cb_3 := Aside0.mk (Kd.C_below Cb_2.out hb); have B_3 := Aside0.mk (below_all_ B_2.out hb); clear hb; obtain ⟨p0, p1, p2, p3, p4, p5, p6, p7, p8⟩ := Ep_3.out.cells; dsimp only at p0 p1 p2 p3 p4 p5 p6 p7 p8; obtain ⟨q0, q1, q2, q3, q4, q5, q6, q7, q8⟩ := Eq_3.out.cells; dsimp only at q0 q1 q2 q3 q4 q5 q6 q7 q8) | (go_at_call 7; have c_ := alive_c wv3; (with_reducible refine Calls.mono c_ ?_); clear c_; rintro _ wv4 ⟨rfl, hb⟩; clear p0 p1 p2 p3 p4 p5 p6 p7 p8; clear q0 q1 q2 q3 q4 q5 q6 q7 q8; have Ep_4 := Aside0.mk (show EB _ g2 ⟨a.f0, a.f1, a.f2, a.f3, a.f4, a.f5.f0, a.f5.f1, a.f5.f2, A1, a.f6.length, c1⟩ from Ep_3.out.below hb); have Eq_4 := Aside0.mk (show EB _ g3 ⟨b.f0, b.f1, b.f2, b.f3, b.f4, b.f5.f0, b.f5.f1, b.f5.f2, A2, b.f6.length, c2⟩ from Eq_3.out.below hb); have Ca_4 := Aside0.mk (Kd.C_below Ca_3.out hb); have Cb_4 := Aside0.mk (Kd.C_below Cb_3.out hb); have B_4 := Aside0.mk (below_all_ B_3.out hb); clear hb; obtain ⟨p0, p1, p2, p3, p4, p5, p6, p7, p8⟩ := Ep_4.out.cells; dsimp only at p0 p1 p2 p3 p4 p5 p6 p7 p8; obtain ⟨q0, q1, q2, q3, q4, q5, q6, q7, q8⟩ := Eq_4.out.cells; dsimp only at q0 q1 q2 q3 q4 q5 q6 q7 q8))
    go_ret
    exact ⟨rfl, B_4.out⟩
end
end Go.Proofs.Ytehnogggokfcaaa.Ev
namespace Go.Proofs.Ytehnogggokfcaaa.X
open Go.RowKit Go.Proofs.YtehnogggokfcaaaW.PrintWords Go.Proofs.YtehnogggokfcaaaW.PrintLast Go.Proofs.YtehnogggokfcaaaW.PrintMore Go.Proofs.Ytehnogggokfcaaa.Y Go.Proofs.Ytehnogggokfcaaa.Ev
set_option linter.unusedVariables false
open Classical in
noncomputable def mewslaw47_EventPuts.f (k : Nat) (a0_0 : Int) (a0_1 : Int) (a0_2 : ByteArray) (a0_3 : Int) (a0_4 : Int) (a0_5 : ByteArray) (a0_6 : Int) (a0_7 : Int) (l0_8 : List S43) (a1_0 : Int) (a1_1 : Int) (a1_2 : ByteArray) (a1_3 : Int) (a1_4 : Int) (a1_5 : ByteArray) (a1_6 : Int) (a1_7 : Int) (l1_8 : List S43) : Option Bool := if (In (⟨a0_0, a0_1, a0_2, a0_3, a0_4, ⟨a0_5, a0_6, a0_7⟩, l0_8⟩ : S26) ∧ l0_8.length * 32 ≤ 140737488351232) ∧ (In (⟨a1_0, a1_1, a1_2, a1_3, a1_4, ⟨a1_5, a1_6, a1_7⟩, l1_8⟩ : S26) ∧ l1_8.length * 32 ≤ 140737488351232) then some true else none
theorem mewslaw47_EventPuts.calls (k : Nat) (a0_0 : Int) (a0_1 : Int) (a0_2 : ByteArray) (a0_3 : Int) (a0_4 : Int) (a0_5 : ByteArray) (a0_6 : Int) (a0_7 : Int) (A0_8 : Option Addr) (c0_8 : Nat) (l0_8 : List S43) (a1_0 : Int) (a1_1 : Int) (a1_2 : ByteArray) (a1_3 : Int) (a1_4 : Int) (a1_5 : ByteArray) (a1_6 : Int) (a1_7 : Int) (A1_8 : Option Addr) (c1_8 : Nat) (l1_8 : List S43) (r : Bool) (w : World) (hr0_8 : Kd.C k43 w A0_8 l0_8.length l0_8) (hc0_8 : l0_8.length ≤ c0_8) (hr1_8 : Kd.C k43 w A1_8 l1_8.length l1_8) (hc1_8 : l1_8.length ≤ c1_8) (hr_ : Aside0 (r = true)) (h : mewslaw47_EventPuts.f k a0_0 a0_1 a0_2 a0_3 a0_4 a0_5 a0_6 a0_7 l0_8 a1_0 a1_1 a1_2 a1_3 a1_4 a1_5 a1_6 a1_7 l1_8 = some r) :
    Calls Try.prog 3 #[.agg #[.int .i64 a0_0, .int .i64 a0_1, .string a0_2, .int .i64 a0_3, .int .i64 a0_4, .string a0_5, .int .i64 a0_6, .int .i64 a0_7, .slice A0_8 l0_8.length c0_8], .agg #[.int .i64 a1_0, .int .i64 a1_1, .string a1_2, .int .i64 a1_3, .int .i64 a1_4, .string a1_5, .int .i64 a1_6, .int .i64 a1_7, .slice A1_8 l1_8.length c1_8]] w fun e w' => e = .returned (.bool r) ∧ Below w.heap.size w w' := by
  rw [hr_.out]
  unfold mewslaw47_EventPuts.f at h
  split at h
  · rename_i hb
    exact puts_calls (⟨a0_0, a0_1, a0_2, a0_3, a0_4, ⟨a0_5, a0_6, a0_7⟩, l0_8⟩ : S26) (⟨a1_0, a1_1, a1_2, a1_3, a1_4, ⟨a1_5, a1_6, a1_7⟩, l1_8⟩ : S26) A0_8 A1_8 c0_8 c1_8 w hb.1.1 hb.1.2 hc0_8 hr0_8 hb.2.1 hb.2.2 hc1_8 hr1_8
  · cases h
end Go.Proofs.Ytehnogggokfcaaa.X
