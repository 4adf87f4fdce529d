/- The document's line of an event (mewsref47.Put); both answers on any event. -/
import Derived.Test.YtehnogggokfcaaaEvRTake
import Derived.Test.YtehnogggokfcaaaEvTold
namespace Go.Proofs.Ytehnogggokfcaaa.Ev
open Go.RowKit Go.Proofs.YtehnogggokfcaaaW.PrintWords Go.Proofs.YtehnogggokfcaaaW.PrintMore Go.Proofs.YtehnogggokfcaaaW.PrintLast Go.Proofs.Ytehnogggokfcaaa.Y Go.Proofs.Ytehnogggokfcaaa.X Go.Proofs.Ytehnogggokfcaaa.Pure Go.Proofs.Ytehnogggokfcaaa.LM
set_option linter.unusedVariables false
set_option linter.unusedSimpArgs false
attribute [local go_sem ↓] Go.wp_at_zero Go.wp_at_succ
noncomputable section
def RelRP (w : World) (g1 : Nat) (e : Ec) (k : Nat) (x : S26) (v4 v6 : Value) (wr : World) : Prop := ∃ (i m4 c4 : Nat) (A4 : Option Addr), v6 = .int .i64 (i : Int) ∧ i ≤ (argsP k x).length ∧ m4 = (nm k :: (argsP k x).take i).length ∧ v4 = .slice A4 m4 c4 ∧ OwnT wr w.heap.size (.slice A4 m4 c4) (nm k :: (argsP k x).take i) ∧ EB wr g1 e ∧ Below w.heap.size w wr
theorem eqP_comm {α : Type} (a b : α) : eqP a b = eqP b a := by
  by_cases h : a = b
  · rw [eqP_iff.2 h, eqP_iff.2 h.symm]
  · rw [eqP_no h, eqP_no (fun e => h e.symm)]
theorem bare_len (k : Nat) (x : S26) (hs : Sm x) : (bareP k x).f6.length ≤ 5000 := by
  have h := hs.l
  unfold bareP
  split
  · exact Nat.zero_le _
  split
  · exact Nat.zero_le _
  split
  · exact Nat.zero_le _
  split
  · exact Nat.zero_le _
  split
  · exact Nat.zero_le _
  split
  · exact h
  · exact Nat.zero_le _
set_option maxHeartbeats 8000000 in
set_option maxRecDepth 100000 in
theorem rput_bad (x : S26) (k : Int) (hk : x.f0 = k) (hkk : k < 1 ∨ 8 < k) (A : Option Addr) (c : Nat) (w : World) : Calls Try.prog 9 #[.agg (ecL (ecOf x A c))] w fun e w' => e = .returned (.tuple #[.string ⟨#[]⟩, .int .i64 1]) ∧ Below w.heap.size w w' := by
  have hu := Try.underlying26
  have ARG : ecL (ecOf x A c) = #[.int .i64 k, .int .i64 x.f1, .string x.f2, .int .i64 x.f3, .int .i64 x.f4, .string x.f5.f0, .int .i64 x.f5.f1, .int .i64 x.f5.f2, .slice A x.f6.length c] := by rw [show ecL (ecOf x A c) = #[.int .i64 x.f0, .int .i64 x.f1, .string x.f2, .int .i64 x.f3, .int .i64 x.f4, .string x.f5.f0, .int .i64 x.f5.f1, .int .i64 x.f5.f2, .slice A x.f6.length c] from rfl, hk]
  rw [ARG]
  have HARG := Aside0.mk ARG
  clear ARG
  have HK := Aside0.mk hkk
  clear hk hkk
  by_cases h1 : k < 1
  · have d1 : decide (k < 1) = true := decide_eq_true h1
    go_enter Try.func9, Try.ntmps9
    go_wp2_with (first | ((with_reducible refine gate_dst (N := 1) rfl ?_); refine box_event ?hg (N := 1) ?hd (cs := #[.int .i64 k, .int .i64 x.f1, .string x.f2, .int .i64 x.f3, .int .i64 x.f4, .string x.f5.f0, .int .i64 x.f5.f1, .int .i64 x.f5.f2, .slice A x.f6.length c]) (t := 26) ?hr ?_; (case hd => rfl); (case hg => rfl); (case hr => first | (go_simp; done) | (go_simp; rfl)); intro g1 hg_ w1 hbox hb; have Gg1 := Aside0.mk hg_; have E1 := Aside0.mk (show EB w1 g1 ⟨k, x.f1, x.f2, x.f3, x.f4, x.f5.f0, x.f5.f1, x.f5.f2, A, x.f6.length, c⟩ from hbox); have B1 := Aside0.mk hb; obtain ⟨q0, q1, q2, q3, q4, q5, q6, q7, q8⟩ := E1.out.cells; dsimp only at q0 q1 q2 q3 q4 q5 q6 q7 q8; clear hbox hb hg_; ))
    go_ret2
    exact ⟨rfl, B1.out⟩
  · have d1 : decide (k < 1) = false := decide_eq_false h1
    have d2 : decide (8 < k) = true := decide_eq_true (by have := HK.out; omega)
    go_enter Try.func9, Try.ntmps9
    go_wp2_with (first | ((with_reducible refine gate_dst (N := 1) rfl ?_); refine box_event ?hg (N := 1) ?hd (cs := #[.int .i64 k, .int .i64 x.f1, .string x.f2, .int .i64 x.f3, .int .i64 x.f4, .string x.f5.f0, .int .i64 x.f5.f1, .int .i64 x.f5.f2, .slice A x.f6.length c]) (t := 26) ?hr ?_; (case hd => rfl); (case hg => rfl); (case hr => first | (go_simp; done) | (go_simp; rfl)); intro g1 hg_ w1 hbox hb; have Gg1 := Aside0.mk hg_; have E1 := Aside0.mk (show EB w1 g1 ⟨k, x.f1, x.f2, x.f3, x.f4, x.f5.f0, x.f5.f1, x.f5.f2, A, x.f6.length, c⟩ from hbox); have B1 := Aside0.mk hb; obtain ⟨q0, q1, q2, q3, q4, q5, q6, q7, q8⟩ := E1.out.cells; dsimp only at q0 q1 q2 q3 q4 q5 q6 q7 q8; clear hbox hb hg_; ))
    go_ret2
    exact ⟨rfl, B1.out⟩
set_option maxHeartbeats 40000000 in
set_option maxRecDepth 100000 in
theorem rput_kind (x : S26) (k : Nat) (hk : x.f0 = (k : Int)) (h0 : k ≠ 0) (h8 : k ≤ 8) (hi : In x) (hs : Sm x) (A : Option Addr) (c : Nat) (w : World) (hc : x.f6.length ≤ c) (hC : Kd.C k43 w A x.f6.length x.f6) (R : ByteArray × Int) (hR : R = putP k x) : Calls Try.prog 9 #[.agg (ecL (ecOf x A c))] w fun e w' => e = .returned (.tuple #[.string R.1, .int .i64 R.2]) ∧ Below w.heap.size w w' := by
  have HCC := Aside0.mk hc
  have HCR := Aside0.mk hC
  have HI := Aside0.mk hi
  have HS := Aside0.mk hs
  have H0 := Aside0.mk h0
  have H8 := Aside0.mk h8
  have HR := Aside0.mk hR
  clear hc hC hi hs hR
  have hu := Try.underlying26
  have ARG : ecL (ecOf x A c) = #[.int .i64 (k : Int), .int .i64 x.f1, .string x.f2, .int .i64 x.f3, .int .i64 x.f4, .string x.f5.f0, .int .i64 x.f5.f1, .int .i64 x.f5.f2, .slice A x.f6.length c] := by rw [show ecL (ecOf x A c) = #[.int .i64 x.f0, .int .i64 x.f1, .string x.f2, .int .i64 x.f3, .int .i64 x.f4, .string x.f5.f0, .int .i64 x.f5.f1, .int .i64 x.f5.f2, .slice A x.f6.length c] from rfl, hk]
  rw [ARG]
  have HARG := Aside0.mk ARG
  clear ARG
  have d1 : decide ((k : Int) < 1) = false := decide_eq_false (by omega)
  have d2 : decide (8 < (k : Int)) = false := decide_eq_false (by omega)
  clear hk h0 h8
  obtain ⟨nl, hnl⟩ : ∃ nl, nl = x.f6.length := ⟨_, rfl⟩
  have HNL := Aside0.mk hnl
  obtain ⟨fb, hfb⟩ : ∃ fb, fb = ofL (formP k nl) := ⟨_, rfl⟩
  have HFB := Aside0.mk hfb
  have FC : ∀ w0, Calls Try.prog 20 #[.int .i64 (k : Int), .int .i64 (nl : Int)] w0 fun e w' => e = .returned (.string fb) ∧ Below w0.heap.size w0 w' := fun w0 => by rw [hfb]; exact form_c k nl H0.out H8.out (by have := HS.out.l; omega) w0
  have HFC := Aside0.mk FC
  rw [← hnl] at HARG ⊢
  clear FC hnl hfb
  obtain ⟨N, hN⟩ : ∃ N, N = (argsP k x).length := ⟨_, rfl⟩
  have HN := Aside0.mk hN
  have HNF := Aside0.mk (show fb.size = N from by rw [HFB.out, ofL_size, HNL.out, HN.out]; exact form_args k H0.out H8.out x)
  have HN5 := Aside0.mk (show N ≤ 15000 from by rw [HN.out]; exact args_len k x HS.out)
  clear hN
  go_enter Try.func9, Try.ntmps9
  go_wp2_with (first | ((with_reducible refine gate_dst (N := 1) rfl ?_); refine box_event ?hg (N := 1) ?hd (cs := #[.int .i64 (k : Int), .int .i64 x.f1, .string x.f2, .int .i64 x.f3, .int .i64 x.f4, .string x.f5.f0, .int .i64 x.f5.f1, .int .i64 x.f5.f2, .slice A nl c]) (t := 26) ?hr ?_; (case hd => rfl); (case hg => rfl); (case hr => first | (go_simp; done) | (go_simp; rfl)); intro g1 hg_ w1 hbox hb; have Gg1 := Aside0.mk hg_; have E1 := Aside0.mk (show EB w1 g1 ⟨(k : Int), x.f1, x.f2, x.f3, x.f4, x.f5.f0, x.f5.f1, x.f5.f2, A, nl, c⟩ from hbox); have B1 := Aside0.mk hb; have LG1 := Aside0.mk (show w.heap.size ≤ g1 from by have := Gg1.out; omega); obtain ⟨q0, q1, q2, q3, q4, q5, q6, q7, q8⟩ := E1.out.cells; dsimp only at q0 q1 q2 q3 q4 q5 q6 q7 q8; clear hbox hb hg_; ) | (go_at_call 19; (with_reducible refine Calls.mono (name_c k H0.out H8.out _) ?_); rintro _ w2 ⟨rfl, hb⟩; have E2 := Aside0.mk (E1.out.below hb); have B2 := Aside0.mk (below_all_ B1.out hb); clear hb q0 q1 q2 q3 q4 q5 q6 q7 q8; obtain ⟨q0, q1, q2, q3, q4, q5, q6, q7, q8⟩ := E2.out.cells; dsimp only at q0 q1 q2 q3 q4 q5 q6 q7 q8) | ((with_reducible refine gate_dst (N := 21) rfl ?_); refine ev_val rfl (N := 21) rfl (.slice (some ⟨w2.heap.size, 0, none⟩) 1 1) (w2.alloc (.cells #[.string (nm k)] 9 (0, 0))) (run_t1 _ _ 20 (nm k) rfl rfl) ?_; have B3 := Aside0.mk (below_all_ B2.out ((Below.refl w2.heap.size w2).alloc (Nat.le_refl _) (.cells #[.string (nm k)] 9 (0, 0)))); have E3 := Aside0.mk (E2.out.below ((Below.refl w2.heap.size w2).alloc (Nat.le_refl _) (.cells #[.string (nm k)] 9 (0, 0)))); have O3 := Aside0.mk (show OwnT (w2.alloc (.cells #[.string (nm k)] 9 (0, 0))) w.heap.size (.slice (some ⟨w2.heap.size, 0, none⟩) 1 1) [nm k] from own_new [nm k] rfl B2.out.size (by simp)); obtain ⟨w3, hw3⟩ : ∃ w3, w3 = (w2.alloc (.cells #[.string (nm k)] 9 (0, 0))) := ⟨_, rfl⟩; obtain ⟨gv, hgv⟩ : ∃ gv, gv = w2.heap.size := ⟨_, rfl⟩; rw [← hw3, ← hgv] at O3; rw [← hw3] at B3 E3 ⊢; rw [← hgv]; clear hw3 hgv q0 q1 q2 q3 q4 q5 q6 q7 q8; obtain ⟨q0, q1, q2, q3, q4, q5, q6, q7, q8⟩ := E3.out.cells; dsimp only at q0 q1 q2 q3 q4 q5 q6 q7 q8) | (go_at_call 20; (with_reducible refine Calls.mono (HFC.out _) ?_); rintro _ w4 ⟨rfl, hb⟩; have E4 := Aside0.mk (E3.out.below hb); have B4 := Aside0.mk (below_all_ B3.out hb); have O4 := Aside0.mk (O3.out.below hb); clear hb q0 q1 q2 q3 q4 q5 q6 q7 q8))
  try simp only [Act.put, List.getElem_toArray, List.getElem_cons_succ, List.getElem_cons_zero, List.setIfInBounds_toArray, List.set_cons_zero, List.set_cons_succ]
  go_loopw [4, 6] (fun v4 v6 wr => RelRP w g1 ⟨(k : Int), x.f1, x.f2, x.f3, x.f4, x.f5.f0, x.f5.f1, x.f5.f2, A, nl, c⟩ k x v4 v6 wr) (fun _ v6 _ => N - (intOf v6).toNat)
  case atStart => exact ⟨0, 1, 1, some ⟨gv, 0, none⟩, rfl, Nat.zero_le _, rfl, rfl, O4.out, E4.out, B4.out⟩
  case round =>
    clear O4 E4 B4 O3 E3 B3 E2 B2 E1 B1
    obtain ⟨i, m4, c4, A4, rfl, hi, hm4, rfl, ho_, he_, hb_⟩ := hrel
    have HII := Aside0.mk hi
    have HM4 := Aside0.mk hm4
    have O5 := Aside0.mk ho_
    have E5 := Aside0.mk he_
    have B5 := Aside0.mk hb_
    clear hi hm4 ho_ he_ hb_
    by_cases hlt : i < N
    · have HLT := Aside0.mk hlt
      have e1 : ((i : Int) < (fb.size : Int)) := by have := HNF.out; omega
      have e2 : (0 : Int) ≤ (i : Int) := Int.natCast_nonneg _
      have his : i < fb.size := by have := HNF.out; omega
      have hif : i < (formP k x.f6.length).length := by rw [form_args k H0.out H8.out x, ← HN.out]; exact hlt
      obtain ⟨ht1, ht2⟩ := told_at k H0.out H8.out x i hif
      obtain ⟨sg, hsg⟩ : ∃ sg, sg = (formP k x.f6.length)[i] := ⟨_, rfl⟩
      rw [← hsg] at ht1 ht2
      have sgx : (fb[i]'his) = sg := by rw [hsg]; have h9 := HFB.out; rw [HNL.out] at h9; subst h9; rfl
      obtain ⟨y, hy⟩ : ∃ y, y = toldP x ((sg.toNat : Nat) : Int) (i / 3) := ⟨_, rfl⟩
      rw [← hy] at ht1
      have HTK := Aside0.mk (show (argsP k x).take (i + 1) = (argsP k x).take i ++ [y] from by rw [List.take_add_one, ht1]; rfl)
      have HTC := Aside0.mk (fun w0 hC0 => told_c x HI.out ((sg.toNat : Nat) : Int) (i / 3) ht2 A c w0 HCC.out hC0)
      rw [← hy] at HTC
      rw [HARG.out] at HTC
      have e3 := eq_true e1
      have e4 := eq_true e2
      have z3 : Int.tdiv (i : Int) 3 = ((i / 3 : Nat) : Int) := by rw [Int.tdiv_eq_ediv_of_nonneg (by omega)]; omega
      have z4 : IntKind.i64.wrap ((i / 3 : Nat) : Int) = ((i / 3 : Nat) : Int) := by have := HLT.out; have := HN5.out; rw [IntKind.wrap_i64]; omega
      have HEN := Aside0.mk (show IntKind.i64.wrap ((i : Int) + 1) = (i : Int) + 1 from by have := HLT.out; have := HN5.out; rw [IntKind.wrap_i64]; omega)
      obtain ⟨d, hd⟩ : ∃ d, d = i / 3 := ⟨_, rfl⟩
      rw [← hd] at z3 z4 HTC
      clear hd hy hsg ht1 ht2 hif hlt
      go_wp2_with fail
      refine region_drew (fun W_ => EB W_ g1 ⟨(k : Int), x.f1, x.f2, x.f3, x.f4, x.f5.f0, x.f5.f1, x.f5.f2, A, nl, c⟩) (by kernel_rfl) (fun d_ hd_ he_ => ?_)
      have E6 := Aside0.mk (E5.out.below hd_)
      have O6 := Aside0.mk (O5.out.below hd_)
      have B6 := Aside0.mk (below_all_ B5.out hd_)
      clear hd_ he_
      refine ⟨E6.out, fun hHeld => ?_⟩
      refine wpAnyH_take (i := 0) (v := .slice A4 m4 c4) rfl (by kernel_rfl) (by kernel_rfl) (by kernel_rfl) (fun _ _ _ h => h) (Or.inl ⟨by kernel_rfl, ?_⟩) (by assumption) ?_
      · intro W_ hSw
        clear hSw
        first | (go_simp; done) | (go_simp; with_reducible rfl) | (go_simp; rfl)
      refine wpAnyH_take (i := 1) (v := .agg #[.int .i64 (k : Int), .int .i64 x.f1, .string x.f2, .int .i64 x.f3, .int .i64 x.f4, .string x.f5.f0, .int .i64 x.f5.f1, .int .i64 x.f5.f2, .slice A nl c]) rfl (by kernel_rfl) (by kernel_rfl) (by kernel_rfl) (fun _ _ _ h => h) (Or.inl ⟨by kernel_rfl, ?_⟩) (by assumption) ?_
      · intro W_ hSw
        obtain ⟨q0, q1, q2, q3, q4, q5, q6, q7, q8⟩ := EB.cells (e := ⟨(k : Int), x.f1, x.f2, x.f3, x.f4, x.f5.f0, x.f5.f1, x.f5.f2, A, nl, c⟩) hSw
        dsimp only at q0 q1 q2 q3 q4 q5 q6 q7 q8
        clear hSw
        first | (go_simp; done) | (go_simp; with_reducible rfl) | (go_simp; rfl)
      refine wpAnyH_take (i := 2) (v := .string fb) rfl (by kernel_rfl) (by kernel_rfl) (by kernel_rfl) (fun _ _ _ h => h) (Or.inl ⟨by kernel_rfl, ?_⟩) (by assumption) ?_
      · intro W_ hSw
        clear hSw
        first | (go_simp; done) | (go_simp; with_reducible rfl) | (go_simp; rfl)
      refine wpAnyH_take (i := 3) (v := .int .i64 (i : Int)) rfl (by kernel_rfl) (by kernel_rfl) (by kernel_rfl) (fun _ _ _ h => h) (Or.inl ⟨by kernel_rfl, ?_⟩) (by assumption) ?_
      · intro W_ hSw
        clear hSw
        first | (go_simp; done) | (go_simp; with_reducible rfl) | (go_simp; rfl)
      refine wpAnyH_take (i := 4) (v := .int .u8 ((sg.toNat : Nat) : Int)) rfl (by kernel_rfl) (by kernel_rfl) (by kernel_rfl) (fun _ _ _ h => h) (Or.inl ⟨by kernel_rfl, ?_⟩) (by assumption) ?_
      · intro W_ hSw
        clear hSw
        first | (go_simp; done) | (go_simp; with_reducible rfl) | (go_simp; rfl)
      refine wpAnyH_take (i := 5) (v := .int .i64 (i : Int)) rfl (by kernel_rfl) (by kernel_rfl) (by kernel_rfl) (fun _ _ _ h => h) (Or.inl ⟨by kernel_rfl, ?_⟩) (by assumption) ?_
      · intro W_ hSw
        clear hSw
        first | (go_simp; done) | (go_simp; with_reducible rfl) | (go_simp; rfl)
      refine wpAnyH_take (i := 6) (v := .int .i64 (d : Int)) rfl (by kernel_rfl) (by kernel_rfl) (by kernel_rfl) (fun _ _ _ h => h) (Or.inl ⟨by kernel_rfl, ?_⟩) (by assumption) ?_
      · intro W_ hSw
        clear hSw
        first | (go_simp; done) | (go_simp; with_reducible rfl) | (go_simp; rfl)
      try simp only [Act.put, List.getElem_toArray, List.getElem_cons_succ, List.getElem_cons_zero, List.setIfInBounds_toArray, List.set_cons_zero, List.set_cons_succ]
      clear hHeld
      have ct_ := HTC.out d_ (Kd.C_below HCR.out B6.out)
      refine next_le (i := 7) (rs := []) (by kernel_rfl) ?_
      refine cons_callG 7 (N := 41) (xs := #[.tmp 35, .tmp 38, .tmp 40]) (ts := #[26, 5, 3]) (by kernel_rfl) Try.func21 (by kernel_rfl) rfl #[.agg #[.int .i64 (k : Int), .int .i64 x.f1, .string x.f2, .int .i64 x.f3, .int .i64 x.f4, .string x.f5.f0, .int .i64 x.f5.f1, .int .i64 x.f5.f2, .slice A nl c], .int .u8 ((sg.toNat : Nat) : Int), .int .i64 (d : Int)] (by kernel_rfl) ?_ AllReadyH.nil
      with_reducible refine Calls.mono (ct_) ?_
      rintro _ wt ⟨rfl, hb⟩
      have Et := Aside0.mk (E6.out.below hb)
      have Ot := Aside0.mk (O6.out.below hb)
      have Bt := Aside0.mk (below_all_ B6.out hb)
      clear hb ct_
      refine ⟨_, rfl, Et.out, ?_⟩
      try simp only [Act.put, List.getElem_toArray, List.getElem_cons_succ, List.getElem_cons_zero, List.setIfInBounds_toArray, List.set_cons_zero, List.set_cons_succ]
      have EU := Aside0.mk (Et.out.below ((Below.refl wt.heap.size wt).alloc (Nat.le_refl _) (.cells #[.string y] 9 (0, 0))))
      have OU := Aside0.mk (Ot.out.below ((Below.refl wt.heap.size wt).alloc (Nat.le_refl _) (.cells #[.string y] 9 (0, 0))))
      have BU := Aside0.mk (below_all_ Bt.out ((Below.refl wt.heap.size wt).alloc (Nat.le_refl _) (.cells #[.string y] 9 (0, 0))))
      have RU := Aside0.mk (show Kd.C Kd.string (wt.alloc (.cells #[.string y] 9 (0, 0))) (some ⟨wt.heap.size, 0, none⟩) 1 [y] from reads_new [y] (W := wt) rfl (by simp))
      refine next_le (i := 8) (rs := []) (by kernel_rfl) ?_
      refine cons_valG 8 (N := 42) (op := .buildSlice 45 1 #[(0, .tmp 41)]) (.slice (some ⟨wt.heap.size, 0, none⟩) 1 1) (wt.alloc (.cells #[.string y] 9 (0, 0))) (by kernel_rfl) (fun o ho => run_t1 _ o 41 y ho (by kernel_rfl)) ⟨EU.out, ?_⟩ AllReadyH.nil
      try simp only [Act.put, List.getElem_toArray, List.getElem_cons_succ, List.getElem_cons_zero, List.setIfInBounds_toArray, List.set_cons_zero, List.set_cons_succ]
      refine next_le (i := 9) (rs := []) (by kernel_rfl) ?_
      refine cons_appT (W := (wt.alloc (.cells #[.string y] 9 (0, 0)))) (N := 43) (w0 := w) w.heap.size 9 34 42 (by kernel_rfl) (.slice A4 m4 c4) (nm k :: (argsP k x).take i) [y] (some ⟨wt.heap.size, 0, none⟩) 1 1 (by kernel_rfl) (by kernel_rfl) OU.out RU.out BU.out BU.out.size (by rw [List.length_cons, List.length_take, ← HN.out]; have := HN5.out; omega) (fun v9 w9_ hO_ hB_ hG_ => ?_) AllReadyH.nil
      have E9 := Aside0.mk (EU.out.grown OU.out hG_)
      obtain ⟨A9, c9, hv9, hc9, hC9⟩ := hO_.reads
      subst hv9
      obtain ⟨m9, hm9⟩ : ∃ m9, m9 = (nm k :: (argsP k x).take i ++ [y]).length := ⟨_, rfl⟩
      rw [← hm9] at hO_ hc9 hC9 ⊢
      have HM9 := Aside0.mk hm9
      have O9 := Aside0.mk (show OwnT w9_ w.heap.size (.slice A9 m9 c9) (nm k :: (argsP k x).take (i + 1)) from by rw [HTK.out]; exact hO_)
      have B9 := Aside0.mk hB_
      clear hO_ hB_ hG_ hc9 hC9 hm9
      refine ⟨E9.out, ?_⟩
      try simp only [Act.put, List.getElem_toArray, List.getElem_cons_succ, List.getElem_cons_zero, List.setIfInBounds_toArray, List.set_cons_zero, List.set_cons_succ]
      have hHeld := E9.out
      refine wpAnyH_take (i := 10) (v := .slice A9 m9 c9) rfl (by kernel_rfl) (by kernel_rfl) (by kernel_rfl) (fun _ _ _ h => h) (Or.inl ⟨by kernel_rfl, ?_⟩) (by assumption) ?_
      · intro W_ hSw
        skip
        first | (go_simp; done) | (go_simp; with_reducible rfl) | (go_simp; rfl)
      try simp only [Act.put, List.getElem_toArray, List.getElem_cons_succ, List.getElem_cons_zero, List.setIfInBounds_toArray, List.set_cons_zero, List.set_cons_succ]
      clear hHeld
      refine wpAnyH_done (by kernel_rfl) ?_ _
      have hen := HEN.out
      go_wp2_with fail
      go_roundw
      case rel => exact ⟨i + 1, m9, c9, A9, by simp, by rw [← HN.out]; have := HLT.out; omega, by rw [HM9.out, HTK.out]; rfl, rfl, O9.out, E9.out, B9.out⟩
      case measure => have := HLT.out; simp [intOf] <;> omega
    · have e1 : ¬ ((i : Int) < (fb.size : Int)) := by have := HNF.out; omega
      have HT9 := Aside0.mk (show (argsP k x).take i = argsP k x from List.take_of_length_le (by rw [← HN.out]; omega))
      rw [HT9.out] at O5
      have hm9 := HM4.out
      rw [HT9.out] at hm9
      obtain ⟨A9, c9, hv9, hc9, hC9⟩ := O5.out.reads
      injection hv9 with h1_ h2_ h3_
      rw [← h1_, ← hm9] at hC9
      rw [← h3_, ← hm9] at hc9
      have HJC := Aside0.mk (rjoin_c (nm k :: argsP k x) (by have := args_len k x HS.out; rw [List.length_cons]; omega) (all_mem k x H8.out HI.out HS.out) A4 c4 m4 hm9 _ hc9 hC9)
      clear h1_ h2_ h3_ hc9 hC9 hm9
      obtain ⟨B, hB⟩ : ∃ B, B = bareP k x := ⟨_, rfl⟩
      have HTA := Aside0.mk (fun w0 => rtake_words (joinB (nm k :: argsP k x)) (nm k) (argsP k x) (argsP k x).length rfl (by have := args_len k x HS.out; omega) (join_size k H8.out x HI.out HS.out) (by have := nm_size k H8.out; omega) (fun s_ h_ => all_mem k x H8.out HI.out HS.out s_ (List.mem_cons_of_mem _ h_)) (split_join _) (B, 0) (by rw [hB, kind_nm ⟨k, by have := H8.out; omega⟩ H0.out]; exact (kind_args k H0.out H8.out x HI.out).symm) w0)
      have HBB := Aside0.mk hB
      clear hB
      obtain ⟨jb, hjb⟩ : ∃ jb, jb = joinB (nm k :: argsP k x) := ⟨_, rfl⟩
      have HJB := Aside0.mk hjb
      rw [← hjb] at HJC HTA
      clear hjb
      obtain ⟨qb, hqb⟩ : ∃ qb, qb = eqP B x := ⟨_, rfl⟩
      have HQB := Aside0.mk (show eqP x (bareP k x) = qb from by rw [hqb, HBB.out, eqP_comm])
      go_wp2_with (first | (go_at_call 22; (with_reducible refine Calls.mono HJC.out ?_); rintro _ w6 ⟨rfl, hb⟩; have E6 := Aside0.mk (E5.out.below hb); have B6 := Aside0.mk (below_all_ B5.out hb); clear hb) | (go_at_call 13; (with_reducible refine Calls.mono (HTA.out _) ?_); rintro e7 w7 ⟨AT, cT, he_, hcT, hCT, hb⟩; (replace he_ : e7 = .returned (.tuple #[.agg #[.int .i64 B.f0, .int .i64 B.f1, .string B.f2, .int .i64 B.f3, .int .i64 B.f4, .string B.f5.f0, .int .i64 B.f5.f1, .int .i64 B.f5.f2, .slice AT B.f6.length cT], .int .i64 0]) := he_); subst he_; have E7 := Aside0.mk (E6.out.below hb); have B7 := Aside0.mk (below_all_ B6.out hb); have HCT := Aside0.mk hcT; have HRT := Aside0.mk hCT; clear hb hcT hCT) | ((with_reducible refine gate_dst (N := 8) rfl ?_); refine box_event ?hg (N := 8) ?hd (cs := #[.int .i64 0, .int .i64 0, .string (⟨#[]⟩ : ByteArray), .int .i64 0, .int .i64 0, .string (⟨#[]⟩ : ByteArray), .int .i64 0, .int .i64 0, .slice none 0 0]) (t := 26) ?hr ?_; (case hd => rfl); (case hg => rfl); (case hr => first | (go_simp; done) | (go_simp; rfl)); intro g8 hg_ w8 hbox hb; have G8 := Aside0.mk hg_; have E80 := Aside0.mk (show EB w8 g8 ⟨0, 0, ⟨#[]⟩, 0, 0, ⟨#[]⟩, 0, 0, none, 0, 0⟩ from hbox); have B80 := Aside0.mk hb; obtain ⟨u0, u1, u2, u3, u4, u5, u6, u7, u8⟩ := E80.out.cells; dsimp only at u0 u1 u2 u3 u4 u5 u6 u7 u8; obtain ⟨v0, v1, v2, v3, v4, v5, v6, v7, v8⟩ := E80.out.free; clear hbox hb hg_; ) | ((with_reducible refine gate_store (t := 26) (p := 8) rfl ?_); refine ev_store (w1 := (((((((((w8.setCell ⟨g8, 0, none⟩ (.int .i64 B.f0)).setCell ⟨g8, 1, none⟩ (.int .i64 B.f1)).setCell ⟨g8, 2, none⟩ (.string B.f2)).setCell ⟨g8, 3, none⟩ (.int .i64 B.f3)).setCell ⟨g8, 4, none⟩ (.int .i64 B.f4)).setCell ⟨g8, 5, none⟩ (.string B.f5.f0)).setCell ⟨g8, 6, none⟩ (.int .i64 B.f5.f1)).setCell ⟨g8, 7, none⟩ (.int .i64 B.f5.f2)).setCell ⟨g8, 8, none⟩ (.slice AT B.f6.length cT))) ?hg ?hn ?hr ?_; (case hg => rfl); (case hn => rfl); (case hr => first | (go_simp; done) | (go_simp; rfl)); intro w9 hW_; have HW9 := Aside0.mk hW_; clear hW_; clear u0 u1 u2 u3 u4 u5 u6 u7 u8 v0 v1 v2 v3 v4 v5 v6 v7 v8; have N18 := Aside0.mk (show g1 ≠ g8 from by have := E7.out.lt; have := G8.out; omega); have HG8 := Aside0.mk (show w.heap.size ≤ g8 from by have := B7.out.size; have := G8.out; omega); have E9 := Aside0.mk (show EB w9 g1 ⟨(k : Int), x.f1, x.f2, x.f3, x.f4, x.f5.f0, x.f5.f1, x.f5.f2, A, nl, c⟩ from by rw [HW9.out]; exact (w9_other N18.out ⟨B.f0, B.f1, B.f2, B.f3, B.f4, B.f5.f0, B.f5.f1, B.f5.f2, AT, B.f6.length, cT⟩).trans (E7.out.below B80.out)); have E8 := Aside0.mk (show EB w9 g8 ⟨B.f0, B.f1, B.f2, B.f3, B.f4, B.f5.f0, B.f5.f1, B.f5.f2, AT, B.f6.length, cT⟩ from by rw [HW9.out]; exact EB.put E80.out ⟨B.f0, B.f1, B.f2, B.f3, B.f4, B.f5.f0, B.f5.f1, B.f5.f2, AT, B.f6.length, cT⟩); have B9 := Aside0.mk (show Below w.heap.size w w9 from by rw [HW9.out]; exact w9_below (below_all_ B7.out B80.out) HG8.out ⟨B.f0, B.f1, B.f2, B.f3, B.f4, B.f5.f0, B.f5.f1, B.f5.f2, AT, B.f6.length, cT⟩); have BT9 := Aside0.mk (show Below w7.heap.size w7 w9 from by rw [HW9.out]; exact w9_below B80.out (Nat.le_of_eq G8.out.symm) ⟨B.f0, B.f1, B.f2, B.f3, B.f4, B.f5.f0, B.f5.f1, B.f5.f2, AT, B.f6.length, cT⟩); clear HW9; obtain ⟨q0, q1, q2, q3, q4, q5, q6, q7, q8⟩ := E9.out.cells; dsimp only at q0 q1 q2 q3 q4 q5 q6 q7 q8; obtain ⟨u0, u1, u2, u3, u4, u5, u6, u7, u8⟩ := E8.out.cells; dsimp only at u0 u1 u2 u3 u4 u5 u6 u7 u8; have CS_ := rsame_c B x AT A cT c (by rw [HBB.out]; have := bare_len k x HS.out; omega) w9 HCT.out (Kd.C_below HRT.out BT9.out) HCC.out (Kd.C_below HCR.out B9.out); rw [HARG.out] at CS_; have HSM := Aside0.mk CS_; clear CS_))
      go_at_call 11
      have cs_ := HSM.out
      rw [← hqb, show ecL (ecOf B AT cT) = #[.int .i64 B.f0, .int .i64 B.f1, .string B.f2, .int .i64 B.f3, .int .i64 B.f4, .string B.f5.f0, .int .i64 B.f5.f1, .int .i64 B.f5.f2, .slice AT B.f6.length cT] from rfl] at cs_
      with_reducible refine Calls.mono cs_ ?_
      rintro _ wz ⟨rfl, hb⟩
      have BZ := Aside0.mk (below_all_ B9.out hb)
      clear hb cs_ hqb
      cases qb
      · go_wp2_with fail
        go_ret2
        have hR_ : R = (⟨#[]⟩, 1) := by
          rw [HR.out]; unfold putP
          exact if_neg (fun h => absurd h.2 (by rw [HQB.out]; decide))
        rw [hR_]
        exact ⟨rfl, BZ.out⟩
      · go_wp2_with fail
        go_ret2
        have hR_ : R = (jb, 0) := by
          rw [HR.out, HJB.out]; unfold putP
          exact if_pos ⟨⟨H0.out, H8.out⟩, HQB.out⟩
        rw [hR_]
        exact ⟨rfl, BZ.out⟩
def putS (x : S26) : ByteArray × Int := if 1 ≤ x.f0 ∧ x.f0 ≤ 8 then putP x.f0.toNat x else (⟨#[]⟩, 1)
theorem put_calls (x : S26) (hi : In x) (hs : Sm x) (A : Option Addr) (c : Nat) (w : World) (hc : x.f6.length ≤ c) (hC : Kd.C k43 w A x.f6.length x.f6) : Calls Try.prog 8 #[.agg (ecL (ecOf x A c))] w fun e w' => e = .returned (.tuple #[.string (putS x).1, .int .i64 (putS x).2]) ∧ Below w.heap.size w w' := by
  by_cases h : 1 ≤ x.f0 ∧ x.f0 ≤ 8
  · unfold putS; rw [if_pos h]
    exact put_kind x x.f0.toNat (by omega) (by omega) (by omega) hi hs A c w hc hC _ rfl
  · unfold putS; rw [if_neg h]
    exact put_bad x x.f0 rfl (by omega) A c w
theorem rput_calls (x : S26) (hi : In x) (hs : Sm x) (A : Option Addr) (c : Nat) (w : World) (hc : x.f6.length ≤ c) (hC : Kd.C k43 w A x.f6.length x.f6) : Calls Try.prog 9 #[.agg (ecL (ecOf x A c))] w fun e w' => e = .returned (.tuple #[.string (putS x).1, .int .i64 (putS x).2]) ∧ Below w.heap.size w w' := by
  by_cases h : 1 ≤ x.f0 ∧ x.f0 ≤ 8
  · unfold putS; rw [if_pos h]
    exact rput_kind x x.f0.toNat (by omega) (by omega) (by omega) hi hs A c w hc hC _ rfl
  · unfold putS; rw [if_neg h]
    exact rput_bad x x.f0 rfl (by omega) A c w
end
end Go.Proofs.Ytehnogggokfcaaa.Ev
