/- The document's Parts, walked by hand. -/
import Derived.Test.YtncdoanemfnjjaaGlClass
namespace Go.Proofs.Ytncdoanemfnjjaa.Gl
open Go.RowKit Go.Proofs.YtncdoanemfnjjaaW.PrintWords Go.Proofs.YtncdoanemfnjjaaW.PrintMore Go.Proofs.YtncdoanemfnjjaaW.PrintLast Go.Proofs.Ytncdoanemfnjjaa.Y
set_option linter.unusedVariables false
set_option linter.unusedSimpArgs false
def RelPt (w : World) (p : ByteArray) (v3 v4 : Value) (wr : World) : Prop := ∃ (j : Nat) (L : List PV), v4 = .int .i64 j ∧ j ≤ p.size + 1 ∧ L.length ≤ j ∧ OwnP wr w.heap.size v3 L ∧ L ++ partsL (p.data.toList.drop j) = partsL p.data.toList ∧ Below w.heap.size w wr
theorem upd_one (d : Nat) : updH noH d true = fun c => c == d := by
  funext c
  unfold updH noH
  by_cases h : c = d
  · subst h; simp
  · rw [if_neg h, beq_eq_false_iff_ne.2 h]
theorem rest_91 (r : List UInt8) : restOf 91 r = (clsP r 0).2 := rfl
theorem part_dflt (a : UInt8) (r : List UInt8) (h1 : a ≠ 42) (h2 : a ≠ 63) (h3 : a ≠ 91) (h4 : a = 92 → r = []) : partOf a r = (4, fun c => c == a.toNat) ∧ restOf a r = r := by
  constructor
  · unfold partOf
    rw [if_neg h1, if_neg h2, if_neg h3]
    by_cases h : a = 92
    · rw [if_pos h, h4 h]
    · rw [if_neg h]
  · unfold restOf nextR oneP
    rw [if_neg h1, if_neg h2, if_neg h3]
    by_cases h : a = 92
    · rw [if_pos h, h4 h]
    · rw [if_neg h]
set_option maxHeartbeats 4000000 in
set_option maxRecDepth 100000 in
theorem parts_calls (p : ByteArray) (hp : p.size ≤ 1000000) (w : World) :
    Calls Try.prog 19 #[.string p] w fun e w' => ∃ v, e = .returned v ∧ OwnP w' w.heap.size v (partsL p.data.toList) ∧ Below w.heap.size w w' := by
  have hu := Try.underlying42
  have hu40 := Try.underlying40
  go_enter Try.func19, Try.ntmps19
  go_wp2_with fail
  go_loopw [3, 4] (fun v3 v4 wr => RelPt w p v3 v4 wr) (fun _ v4 _ => p.size + 2 - (intOf v4).toNat)
  case atStart => exact ⟨0, [], rfl, Nat.zero_le _, Nat.le_refl _, OwnP.nil _ _, rfl, Below.refl _ _⟩
  case round =>
    obtain ⟨j, L, rfl, hj, hL, hO, hpt, hb⟩ := hrel
    have HO := Aside0.mk hO
    have HPT := Aside0.mk hpt
    have BB := Aside0.mk hb
    have HL := Aside0.mk hL
    clear hO hpt hb hL
    by_cases hlt : j < p.size
    · obtain ⟨a, r, hd⟩ : ∃ a r, p.data.toList.drop j = a :: r := ⟨_, _, drop_at p j hlt⟩
      have hpa : p[j]'hlt = a := by have := (drop_at (s := p) j hlt).symm.trans hd; injection this
      obtain ⟨_, _, hd1, hsz⟩ := at_drop hd
      have HPA := Aside0.mk hpa
      have HJ := Aside0.mk (show j ≤ 1000000 by omega)
      have HJS := Aside0.mk hlt
      have ej : IntKind.i64.wrap ((j : Int) + 1) = ((j + 1 : Nat) : Int) := by rw [IntKind.wrap_i64]; omega
      have ej2 : IntKind.i64.wrap ((j : Int) + 2) = ((j + 2 : Nat) : Int) := by rw [IntKind.wrap_i64]; omega
      rw [hd, partsL_cons] at HPT
      by_cases h42 : a = 42
      · have hq42 : (((p[j]'hlt).toNat : Int) == 42) = true := by rw [hpa]; exact (by rw [h42]; rfl)
        have REST := Aside0.mk (show (L ++ [(1, noH)]) ++ partsL (p.data.toList.drop (j + 1)) = partsL p.data.toList from by rw [hd1, List.append_assoc]; subst h42; exact HPT.out)
        clear hd hd1 hpa HPT HPA h42
        go_wp2_with (first | ((with_reducible refine gate_dst (N := 10) rfl ?_); refine ev_buildP4 rfl rfl ?_) | ((with_reducible refine gate_dst (N := 5) rfl ?_); refine ev_allocP rfl (N := 5) rfl rfl ?_; intro g5 hg w1 hbox hb; have G5 := Aside0.mk (show wr.heap.size ≤ g5 from by rw [hg]; exact Nat.le_refl _); have BW := Aside0.mk hb; have P5 := Aside0.mk hbox; clear hbox hb hg) | ((with_reducible refine gate_store (t := 42) (p := 5) rfl ?_); refine ev_storeP rfl rfl (p := 5) (s := 10) rfl rfl rfl P5.out ?_; intro w2 hw; have T_ := Aside0.mk (show Below wr.heap.size wr w2 from by rw [hw]; exact setCells_below G5.out _ _ _ BW.out); clear BW; have BW := T_; clear T_; have T_ := Aside0.mk (show PB w2 g5 4 noH from by rw [hw]; exact P5.out.over); clear P5; have P5 := T_; clear T_; have q2 := P5.out.kind; have q3 := P5.out.free 0; clear hw) | ((with_reducible refine gate_store (t := 3) (p := 23) rfl ?_); refine store_event2 (w1 := w2.setCell ⟨g5, 0, none⟩ (.int .i64 1)) ?hg ?hn ?hr ?_; (case hg => rfl); (case hn => rfl); (case hr => first | (go_simp; done) | (go_simp; rfl)); intro w3 hW; have T_ := Aside0.mk (show Below wr.heap.size wr w3 from by rw [hW]; exact below_set BW.out G5.out); clear BW; have BW := T_; clear T_; have T_ := Aside0.mk (show PB w3 g5 (1) (noH) from by rw [hW]; exact P5.out.setk 1); clear P5; have P5 := T_; clear T_; clear hW q2 q3) | ((with_reducible refine gate_dst (N := 67) rfl ?_); refine ev_loadP rfl (p := 5) rfl rfl P5.out ?_) | ((with_reducible refine gate_dst (N := 68) rfl ?_); refine ev_litP rfl (s := 67) rfl rfl ?_; intro wl hwl) | (at_builtin; refine ev_appP (w0 := w) (W := w3) w.heap.size rfl 66 68 rfl _ L (1) (noH) rfl rfl hwl (HO.out.below BW.out) (below_tr BB.out BW.out) (Nat.le_trans BB.out.size BW.out.size) (Nat.le_trans HL.out HJ.out) ?_; intro v1 wn ho hbn; have HO2 := Aside0.mk ho; have BN := Aside0.mk hbn; clear ho hbn hwl))
        go_roundw
        case rel => exact ⟨j + 1, L ++ [(1, noH)], by simp, by have := HJ.out; omega, by have := HL.out; simp; omega, HO2.out, REST.out, BN.out⟩
        case measure => have := HJS.out; simp [intOf]; omega
      by_cases h63 : a = 63
      · have hq63 : (((p[j]'hlt).toNat : Int) == 63) = true := by rw [hpa]; exact (by rw [h63]; rfl)
        have hq42 : (((p[j]'hlt).toNat : Int) == 42) = false := by rw [hpa]; exact beq_eq_false_iff_ne.2 (fun e => h42 ((nat_is a 42 (by decide)).1 e))
        have REST := Aside0.mk (show (L ++ [(2, noH)]) ++ partsL (p.data.toList.drop (j + 1)) = partsL p.data.toList from by rw [hd1, List.append_assoc]; subst h63; exact HPT.out)
        clear hd hd1 hpa HPT HPA h63
        go_wp2_with (first | ((with_reducible refine gate_dst (N := 10) rfl ?_); refine ev_buildP4 rfl rfl ?_) | ((with_reducible refine gate_dst (N := 5) rfl ?_); refine ev_allocP rfl (N := 5) rfl rfl ?_; intro g5 hg w1 hbox hb; have G5 := Aside0.mk (show wr.heap.size ≤ g5 from by rw [hg]; exact Nat.le_refl _); have BW := Aside0.mk hb; have P5 := Aside0.mk hbox; clear hbox hb hg) | ((with_reducible refine gate_store (t := 42) (p := 5) rfl ?_); refine ev_storeP rfl rfl (p := 5) (s := 10) rfl rfl rfl P5.out ?_; intro w2 hw; have T_ := Aside0.mk (show Below wr.heap.size wr w2 from by rw [hw]; exact setCells_below G5.out _ _ _ BW.out); clear BW; have BW := T_; clear T_; have T_ := Aside0.mk (show PB w2 g5 4 noH from by rw [hw]; exact P5.out.over); clear P5; have P5 := T_; clear T_; have q2 := P5.out.kind; have q3 := P5.out.free 0; clear hw) | ((with_reducible refine gate_store (t := 3) (p := 31) rfl ?_); refine store_event2 (w1 := w2.setCell ⟨g5, 0, none⟩ (.int .i64 2)) ?hg ?hn ?hr ?_; (case hg => rfl); (case hn => rfl); (case hr => first | (go_simp; done) | (go_simp; rfl)); intro w3 hW; have T_ := Aside0.mk (show Below wr.heap.size wr w3 from by rw [hW]; exact below_set BW.out G5.out); clear BW; have BW := T_; clear T_; have T_ := Aside0.mk (show PB w3 g5 (2) (noH) from by rw [hW]; exact P5.out.setk 2); clear P5; have P5 := T_; clear T_; clear hW q2 q3) | ((with_reducible refine gate_dst (N := 67) rfl ?_); refine ev_loadP rfl (p := 5) rfl rfl P5.out ?_) | ((with_reducible refine gate_dst (N := 68) rfl ?_); refine ev_litP rfl (s := 67) rfl rfl ?_; intro wl hwl) | (at_builtin; refine ev_appP (w0 := w) (W := w3) w.heap.size rfl 66 68 rfl _ L (2) (noH) rfl rfl hwl (HO.out.below BW.out) (below_tr BB.out BW.out) (Nat.le_trans BB.out.size BW.out.size) (Nat.le_trans HL.out HJ.out) ?_; intro v1 wn ho hbn; have HO2 := Aside0.mk ho; have BN := Aside0.mk hbn; clear ho hbn hwl))
        go_roundw
        case rel => exact ⟨j + 1, L ++ [(2, noH)], by simp, by have := HJ.out; omega, by have := HL.out; simp; omega, HO2.out, REST.out, BN.out⟩
        case measure => have := HJS.out; simp [intOf]; omega
      by_cases h91 : a = 91
      · have hq91 : (((p[j]'hlt).toNat : Int) == 91) = true := by rw [hpa]; exact (by rw [h91]; rfl)
        have hq42 : (((p[j]'hlt).toNat : Int) == 42) = false := by rw [hpa]; exact beq_eq_false_iff_ne.2 (fun e => h42 ((nat_is a 42 (by decide)).1 e))
        have hq63 : (((p[j]'hlt).toNat : Int) == 63) = false := by rw [hpa]; exact beq_eq_false_iff_ne.2 (fun e => h63 ((nat_is a 63 (by decide)).1 e))
        have HC := Aside0.mk (fun W => (show Calls Try.prog 22 #[.string p, .int .i64 ((j : Int) + 1)] W _ from class_calls p hp (j + 1) (by omega) W))
        rw [hd1] at HC
        have HD1 := Aside0.mk hd1
        have REST0 := Aside0.mk (show L ++ (((3 : Int), fun c => (clsP r (UInt8.ofNat c)).1) :: partsL (clsP r 0).2) = partsL p.data.toList from by subst h91; exact HPT.out)
        clear hd hd1 hpa HPT HPA h91
        go_wp2_with (first | ((with_reducible refine gate_dst (N := 10) rfl ?_); refine ev_buildP4 rfl rfl ?_) | ((with_reducible refine gate_dst (N := 5) rfl ?_); refine ev_allocP rfl (N := 5) rfl rfl ?_; intro g5 hg w1 hbox hb; have G5 := Aside0.mk (show wr.heap.size ≤ g5 from by rw [hg]; exact Nat.le_refl _); have BW := Aside0.mk hb; have P5 := Aside0.mk hbox; clear hbox hb hg) | ((with_reducible refine gate_store (t := 42) (p := 5) rfl ?_); refine ev_storeP rfl rfl (p := 5) (s := 10) rfl rfl rfl P5.out ?_; intro w2 hw; have T_ := Aside0.mk (show Below wr.heap.size wr w2 from by rw [hw]; exact setCells_below G5.out _ _ _ BW.out); clear BW; have BW := T_; clear T_; have T_ := Aside0.mk (show PB w2 g5 4 noH from by rw [hw]; exact P5.out.over); clear P5; have P5 := T_; clear T_; clear hw))
        go_at_call 22
        with_reducible refine Calls.mono (HC.out _) ?_
        rintro e w3 ⟨j2, rfl, hj2, hdr, hb⟩
        have T_ := Aside0.mk (P5.out.below hb); clear P5; have P5 := T_; clear T_
        have T_ := Aside0.mk (below_tr BW.out hb); clear BW; have BW := T_; clear T_
        clear hb HC
        have HJ2 := Aside0.mk hj2
        have HGT := Aside0.mk (show j + 1 ≤ j2 by
          have h1 := congrArg List.length hdr
          rw [List.length_drop, ← ba_size] at h1
          have h2 := (clsP_rest 0 0 r).2.length_le
          have h3 := congrArg List.length HD1.out
          rw [List.length_drop, ← ba_size] at h3
          omega)
        have REST := Aside0.mk (show (L ++ [((3 : Int), fun c => (clsP r (UInt8.ofNat c)).1)]) ++ partsL (p.data.toList.drop j2) = partsL p.data.toList from by rw [hdr, List.append_assoc]; exact REST0.out)
        clear hdr REST0 hj2
        go_wp2_with (first | ((with_reducible refine gate_store (t := 42) (p := 5) rfl ?_); refine ev_storeP rfl rfl (p := 5) (s := 44) rfl rfl rfl P5.out ?_; intro w4 hw; have T_ := Aside0.mk (show Below wr.heap.size wr w4 from by rw [hw]; exact setCells_below G5.out _ _ _ BW.out); clear BW; have BW := T_; clear T_; have T_ := Aside0.mk (show PB w4 g5 3 (fun c => (clsP r (UInt8.ofNat c)).1) from by rw [hw]; exact P5.out.over); clear P5; have P5 := T_; clear T_; clear hw) | ((with_reducible refine gate_dst (N := 67) rfl ?_); refine ev_loadP rfl (p := 5) rfl rfl P5.out ?_) | ((with_reducible refine gate_dst (N := 68) rfl ?_); refine ev_litP rfl (s := 67) rfl rfl ?_; intro wl hwl) | (at_builtin; refine ev_appP (w0 := w) (W := w4) w.heap.size rfl 66 68 rfl _ L (3) (fun c => (clsP r (UInt8.ofNat c)).1) rfl rfl hwl (HO.out.below BW.out) (below_tr BB.out BW.out) (Nat.le_trans BB.out.size BW.out.size) (Nat.le_trans HL.out HJ.out) ?_; intro v1 wn ho hbn; have HO2 := Aside0.mk ho; have BN := Aside0.mk hbn; clear ho hbn hwl))
        go_roundw
        case rel => exact ⟨j2, L ++ [((3 : Int), fun c => (clsP r (UInt8.ofNat c)).1)], rfl, HJ2.out, by have := HL.out; have := HGT.out; simp; omega, HO2.out, REST.out, BN.out⟩
        case measure => have := HGT.out; have := HJ2.out; simp [intOf]; omega
      by_cases h92 : a = 92
      · by_cases hnil : r = []
        · have hq42 : (((p[j]'hlt).toNat : Int) == 42) = false := by rw [hpa]; exact beq_eq_false_iff_ne.2 (fun e => h42 ((nat_is a 42 (by decide)).1 e))
          have hq63 : (((p[j]'hlt).toNat : Int) == 63) = false := by rw [hpa]; exact beq_eq_false_iff_ne.2 (fun e => h63 ((nat_is a 63 (by decide)).1 e))
          have hq91 : (((p[j]'hlt).toNat : Int) == 91) = false := by rw [hpa]; exact beq_eq_false_iff_ne.2 (fun e => h91 ((nat_is a 91 (by decide)).1 e))
          have hq92 : (((p[j]'hlt).toNat : Int) == 92) = true := by rw [hpa]; exact (by rw [h92]; rfl)
          have x1 : ¬ (((j + 1 : Nat) : Int) < (p.size : Int)) := by rw [hnil] at hsz; simp at hsz; omega
          have x2 : decide (((j + 1 : Nat) : Int) < (p.size : Int)) = false := decide_eq_false x1
          have x6 : ¬ (j + 1 < p.size) := by omega
          have hpd := part_dflt a r h42 h63 h91 (fun _ => hnil)
          have x3 : (((p[j]'hlt).toNat : Nat) : Int) < 256 := by have := UInt8.toNat_lt (p[j]'hlt); omega
          have x4 : (0 : Int) ≤ (((p[j]'hlt).toNat : Nat) : Int) := Int.natCast_nonneg _
          have X5 := Aside0.mk (UInt8.toNat_lt (p[j]'hlt))
          have REST := Aside0.mk (show (L ++ [((4 : Int), updH noH (p[j]'hlt).toNat true)]) ++ partsL (p.data.toList.drop (j + 1)) = partsL p.data.toList from by have h_ := HPT.out; rw [hpd.1, hpd.2] at h_; rw [hd1, List.append_assoc, upd_one, hpa]; exact h_)
          clear hd hd1 hpa HPT HPA hpd hnil
          go_wp2_with (first | ((with_reducible refine gate_dst (N := 10) rfl ?_); refine ev_buildP4 rfl rfl ?_) | ((with_reducible refine gate_dst (N := 5) rfl ?_); refine ev_allocP rfl (N := 5) rfl rfl ?_; intro g5 hg w1 hbox hb; have G5 := Aside0.mk (show wr.heap.size ≤ g5 from by rw [hg]; exact Nat.le_refl _); have BW := Aside0.mk hb; have P5 := Aside0.mk hbox; clear hbox hb hg) | ((with_reducible refine gate_store (t := 42) (p := 5) rfl ?_); refine ev_storeP rfl rfl (p := 5) (s := 10) rfl rfl rfl P5.out ?_; intro w2 hw; have T_ := Aside0.mk (show Below wr.heap.size wr w2 from by rw [hw]; exact setCells_below G5.out _ _ _ BW.out); clear BW; have BW := T_; clear T_; have T_ := Aside0.mk (show PB w2 g5 4 noH from by rw [hw]; exact P5.out.over); clear P5; have P5 := T_; clear T_; have q2 := P5.out.has _ X5.out; have q3 := P5.out.free (1 + (p[j]'hlt).toNat); clear hw) | ((with_reducible refine gate_store (t := 4) (p := 15) rfl ?_); refine store_event2 (w1 := w2.setCell ⟨g5, 1 + (p[j]'hlt).toNat, none⟩ (.bool true)) ?hg ?hn ?hr ?_; (case hg => rfl); (case hn => rfl); (case hr => first | (go_simp; done) | (go_simp; rfl)); intro w3 hW; have T_ := Aside0.mk (show Below wr.heap.size wr w3 from by rw [hW]; exact below_set BW.out G5.out); clear BW; have BW := T_; clear T_; have T_ := Aside0.mk (show PB w3 g5 (4) (updH noH (p[j]'hlt).toNat true) from by rw [hW]; exact P5.out.set _ X5.out true); clear P5; have P5 := T_; clear T_; clear hW q2 q3) | ((with_reducible refine gate_dst (N := 67) rfl ?_); refine ev_loadP rfl (p := 5) rfl rfl P5.out ?_) | ((with_reducible refine gate_dst (N := 68) rfl ?_); refine ev_litP rfl (s := 67) rfl rfl ?_; intro wl hwl) | (at_builtin; refine ev_appP (w0 := w) (W := w3) w.heap.size rfl 66 68 rfl _ L (4) (updH noH (p[j]'hlt).toNat true) rfl rfl hwl (HO.out.below BW.out) (below_tr BB.out BW.out) (Nat.le_trans BB.out.size BW.out.size) (Nat.le_trans HL.out HJ.out) ?_; intro v1 wn ho hbn; have HO2 := Aside0.mk ho; have BN := Aside0.mk hbn; clear ho hbn hwl))
          go_roundw
          case rel => exact ⟨j + 1, L ++ [((4 : Int), updH noH (p[j]'hlt).toNat true)], by simp, by have := HJ.out; omega, by have := HL.out; simp; omega, HO2.out, REST.out, BN.out⟩
          case measure => have := HJS.out; simp [intOf]; omega
        · have hne := hnil
          clear hnil
          have hq92 : (((p[j]'hlt).toNat : Int) == 92) = true := by rw [hpa]; exact (by rw [h92]; rfl)
          have hq42 : (((p[j]'hlt).toNat : Int) == 42) = false := by rw [hpa]; exact beq_eq_false_iff_ne.2 (fun e => h42 ((nat_is a 42 (by decide)).1 e))
          have hq63 : (((p[j]'hlt).toNat : Int) == 63) = false := by rw [hpa]; exact beq_eq_false_iff_ne.2 (fun e => h63 ((nat_is a 63 (by decide)).1 e))
          have hq91 : (((p[j]'hlt).toNat : Int) == 91) = false := by rw [hpa]; exact beq_eq_false_iff_ne.2 (fun e => h91 ((nat_is a 91 (by decide)).1 e))
          obtain ⟨d, r2, hr⟩ : ∃ d r2, r = d :: r2 := by
            match r, hne with
            | d :: r2, _ => exact ⟨d, r2, rfl⟩
          subst hr
          obtain ⟨hlt2, _, hd2, _⟩ := at_drop hd1
          have hpd : p[j + 1]'hlt2 = d := by have := (drop_at (s := p) (j + 1) hlt2).symm.trans hd1; injection this
          have x1 : ((j + 1 : Nat) : Int) < (p.size : Int) := by omega
          have x2 : decide (((j + 1 : Nat) : Int) < (p.size : Int)) = true := decide_eq_true x1
          have x3 : (((p[j + 1]'hlt2).toNat : Nat) : Int) < 256 := by have := UInt8.toNat_lt (p[j + 1]'hlt2); omega
          have x4 : (0 : Int) ≤ (((p[j + 1]'hlt2).toNat : Nat) : Int) := Int.natCast_nonneg _
          have x5 : (p[j + 1]'hlt2).toNat < 256 := UInt8.toNat_lt _
          have REST := Aside0.mk (show (L ++ [((4 : Int), updH noH (p[j + 1]'hlt2).toNat true)]) ++ partsL (p.data.toList.drop (j + 2)) = partsL p.data.toList from by rw [show j + 2 = j + 1 + 1 from rfl, hd2, List.append_assoc, upd_one, hpd]; subst h92; exact HPT.out)
          have HJS2 := Aside0.mk hlt2
          have X5 := Aside0.mk x5
          clear hd hd1 hd2 hpa hpd HPT HPA h92 x5
          go_wp2_with (first | ((with_reducible refine gate_dst (N := 10) rfl ?_); refine ev_buildP4 rfl rfl ?_) | ((with_reducible refine gate_dst (N := 5) rfl ?_); refine ev_allocP rfl (N := 5) rfl rfl ?_; intro g5 hg w1 hbox hb; have G5 := Aside0.mk (show wr.heap.size ≤ g5 from by rw [hg]; exact Nat.le_refl _); have BW := Aside0.mk hb; have P5 := Aside0.mk hbox; clear hbox hb hg) | ((with_reducible refine gate_store (t := 42) (p := 5) rfl ?_); refine ev_storeP rfl rfl (p := 5) (s := 10) rfl rfl rfl P5.out ?_; intro w2 hw; have T_ := Aside0.mk (show Below wr.heap.size wr w2 from by rw [hw]; exact setCells_below G5.out _ _ _ BW.out); clear BW; have BW := T_; clear T_; have T_ := Aside0.mk (show PB w2 g5 4 noH from by rw [hw]; exact P5.out.over); clear P5; have P5 := T_; clear T_; have q2 := P5.out.has _ X5.out; have q3 := P5.out.free (1 + (p[j + 1]'hlt2).toNat); clear hw) | ((with_reducible refine gate_store (t := 4) (p := 63) rfl ?_); refine store_event2 (w1 := w2.setCell ⟨g5, 1 + (p[j + 1]'hlt2).toNat, none⟩ (.bool true)) ?hg ?hn ?hr ?_; (case hg => rfl); (case hn => rfl); (case hr => first | (go_simp; done) | (go_simp; rfl)); intro w3 hW; have T_ := Aside0.mk (show Below wr.heap.size wr w3 from by rw [hW]; exact below_set BW.out G5.out); clear BW; have BW := T_; clear T_; have T_ := Aside0.mk (show PB w3 g5 (4) (updH noH (p[j + 1]'hlt2).toNat true) from by rw [hW]; exact P5.out.set _ X5.out true); clear P5; have P5 := T_; clear T_; clear hW q2 q3) | ((with_reducible refine gate_dst (N := 67) rfl ?_); refine ev_loadP rfl (p := 5) rfl rfl P5.out ?_) | ((with_reducible refine gate_dst (N := 68) rfl ?_); refine ev_litP rfl (s := 67) rfl rfl ?_; intro wl hwl) | (at_builtin; refine ev_appP (w0 := w) (W := w3) w.heap.size rfl 66 68 rfl _ L (4) (updH noH (p[j + 1]'hlt2).toNat true) rfl rfl hwl (HO.out.below BW.out) (below_tr BB.out BW.out) (Nat.le_trans BB.out.size BW.out.size) (Nat.le_trans HL.out HJ.out) ?_; intro v1 wn ho hbn; have HO2 := Aside0.mk ho; have BN := Aside0.mk hbn; clear ho hbn hwl))
          go_roundw
          case rel => exact ⟨j + 2, L ++ [((4 : Int), updH noH (p[j + 1]'hlt2).toNat true)], by simp, by have := HJS2.out; omega, by have := HL.out; simp; omega, HO2.out, REST.out, BN.out⟩
          case measure => have := HJS2.out; simp [intOf]; omega
      · have hq42 : (((p[j]'hlt).toNat : Int) == 42) = false := by rw [hpa]; exact beq_eq_false_iff_ne.2 (fun e => h42 ((nat_is a 42 (by decide)).1 e))
        have hq63 : (((p[j]'hlt).toNat : Int) == 63) = false := by rw [hpa]; exact beq_eq_false_iff_ne.2 (fun e => h63 ((nat_is a 63 (by decide)).1 e))
        have hq91 : (((p[j]'hlt).toNat : Int) == 91) = false := by rw [hpa]; exact beq_eq_false_iff_ne.2 (fun e => h91 ((nat_is a 91 (by decide)).1 e))
        have hq92 : (((p[j]'hlt).toNat : Int) == 92) = false := by rw [hpa]; exact beq_eq_false_iff_ne.2 (fun e => h92 ((nat_is a 92 (by decide)).1 e))
        have hpd := part_dflt a r h42 h63 h91 (fun e => absurd e h92)
        have x3 : (((p[j]'hlt).toNat : Nat) : Int) < 256 := by have := UInt8.toNat_lt (p[j]'hlt); omega
        have x4 : (0 : Int) ≤ (((p[j]'hlt).toNat : Nat) : Int) := Int.natCast_nonneg _
        have X5 := Aside0.mk (UInt8.toNat_lt (p[j]'hlt))
        have REST := Aside0.mk (show (L ++ [((4 : Int), updH noH (p[j]'hlt).toNat true)]) ++ partsL (p.data.toList.drop (j + 1)) = partsL p.data.toList from by have h_ := HPT.out; rw [hpd.1, hpd.2] at h_; rw [hd1, List.append_assoc, upd_one, hpa]; exact h_)
        clear hd hd1 hpa HPT HPA hpd
        go_wp2_with (first | ((with_reducible refine gate_dst (N := 10) rfl ?_); refine ev_buildP4 rfl rfl ?_) | ((with_reducible refine gate_dst (N := 5) rfl ?_); refine ev_allocP rfl (N := 5) rfl rfl ?_; intro g5 hg w1 hbox hb; have G5 := Aside0.mk (show wr.heap.size ≤ g5 from by rw [hg]; exact Nat.le_refl _); have BW := Aside0.mk hb; have P5 := Aside0.mk hbox; clear hbox hb hg) | ((with_reducible refine gate_store (t := 42) (p := 5) rfl ?_); refine ev_storeP rfl rfl (p := 5) (s := 10) rfl rfl rfl P5.out ?_; intro w2 hw; have T_ := Aside0.mk (show Below wr.heap.size wr w2 from by rw [hw]; exact setCells_below G5.out _ _ _ BW.out); clear BW; have BW := T_; clear T_; have T_ := Aside0.mk (show PB w2 g5 4 noH from by rw [hw]; exact P5.out.over); clear P5; have P5 := T_; clear T_; have q2 := P5.out.has _ X5.out; have q3 := P5.out.free (1 + (p[j]'hlt).toNat); clear hw) | ((with_reducible refine gate_store (t := 4) (p := 15) rfl ?_); refine store_event2 (w1 := w2.setCell ⟨g5, 1 + (p[j]'hlt).toNat, none⟩ (.bool true)) ?hg ?hn ?hr ?_; (case hg => rfl); (case hn => rfl); (case hr => first | (go_simp; done) | (go_simp; rfl)); intro w3 hW; have T_ := Aside0.mk (show Below wr.heap.size wr w3 from by rw [hW]; exact below_set BW.out G5.out); clear BW; have BW := T_; clear T_; have T_ := Aside0.mk (show PB w3 g5 (4) (updH noH (p[j]'hlt).toNat true) from by rw [hW]; exact P5.out.set _ X5.out true); clear P5; have P5 := T_; clear T_; clear hW q2 q3) | ((with_reducible refine gate_dst (N := 67) rfl ?_); refine ev_loadP rfl (p := 5) rfl rfl P5.out ?_) | ((with_reducible refine gate_dst (N := 68) rfl ?_); refine ev_litP rfl (s := 67) rfl rfl ?_; intro wl hwl) | (at_builtin; refine ev_appP (w0 := w) (W := w3) w.heap.size rfl 66 68 rfl _ L (4) (updH noH (p[j]'hlt).toNat true) rfl rfl hwl (HO.out.below BW.out) (below_tr BB.out BW.out) (Nat.le_trans BB.out.size BW.out.size) (Nat.le_trans HL.out HJ.out) ?_; intro v1 wn ho hbn; have HO2 := Aside0.mk ho; have BN := Aside0.mk hbn; clear ho hbn hwl))
        go_roundw
        case rel => exact ⟨j + 1, L ++ [((4 : Int), updH noH (p[j]'hlt).toNat true)], by simp, by have := HJ.out; omega, by have := HL.out; simp; omega, HO2.out, REST.out, BN.out⟩
        case measure => have := HJS.out; simp [intOf]; omega
    · have REST := Aside0.mk (show L = partsL p.data.toList from by have h_ := HPT.out; rw [drop_end p j (by omega), partsL_nil, List.append_nil] at h_; exact h_)
      clear HPT
      go_wp2_with fail
      go_ret
      exact ⟨_, rfl, by rw [← REST.out]; exact HO.out, BB.out⟩
end Go.Proofs.Ytncdoanemfnjjaa.Gl
