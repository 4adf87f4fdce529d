/- multi.Mark: as what it does to values. -/
import Derived.Test.YtkamejnccmapkaaMuWatch
namespace Go.Proofs.Ytkamejnccmapkaa.Mu
open Go.RowKit Go.Proofs.YtkamejnccmapkaaW.PrintWords Go.Proofs.YtkamejnccmapkaaW.PrintMore Go.Proofs.YtkamejnccmapkaaW.PrintLast
set_option linter.unusedVariables false
set_option linter.unusedSimpArgs false
attribute [local go_sem ↓] Go.wp_at_zero Go.wp_at_succ
theorem dr_trans {a b c : World} (h : Drawn0 a b) (k : Drawn0 b c) : Drawn0 a c := by
  obtain ⟨n, rfl⟩ := h
  obtain ⟨m, rfl⟩ := k
  exact ⟨⟨n + m, World.drewN_drewN ..⟩⟩
/-- Whether one of them is watched. -/
def meetB (wl ks : List ByteArray) : Bool := ks.any (hasB wl)
theorem meetB_cons (wl : List ByteArray) (x : ByteArray) (ks : List ByteArray) : meetB wl (x :: ks) = (hasB wl x || meetB wl ks) := rfl
set_option maxHeartbeats 1000000 in
set_option maxRecDepth 100000 in
theorem mark_clo (g : Nat) (c0 c1 c2 c3 c4 : Value) (wA : Option Addr) (wc : Nat) (wl : List ByteArray) (s : ByteArray) (w : World) (h : w.heap[g]? = some (.cells #[c0, c1, c2, c3, c4, .slice wA wl.length wc] 27 (0, 0))) (hW : Rd w (.slice wA wl.length wc) wl) (hl : wl.length ≤ 1000000000) :
    Calls Try.prog 33 #[.string s, .pointer (some ⟨g, 0, none⟩)] w fun e w' => e = .returned (.bool (hasB wl s)) ∧ Drawn0 w w' := by
  have hu := Try.underlying27
  have HC := Aside0.mk (contains_calls (.slice wA wl.length wc) wl s w hW hl)
  obtain ⟨p1_0, p1_1, p1_2, p1_3, p1_4, p1_5, f1_0, f1_1, f1_2, f1_3, f1_4, f1_5⟩ := cells6 h
  obtain ⟨n, hn⟩ : ∃ n, n = wl.length := ⟨_, rfl⟩
  rw [← hn] at HC p1_5
  clear h hW hl hn
  go_enter Try.func33, Try.ntmps33
  go_wp2_with (first | (go_at_call 29; (with_reducible refine Calls.mono HC.out ?_); rintro e w1 ⟨rfl, hd⟩; have HD := Aside0.mk hd; clear hd))
  go_ret
  exact ⟨rfl, HD.out⟩
set_option maxHeartbeats 1000000 in
set_option maxRecDepth 100000 in
theorem indexf_calls (p : ByteArray → Bool) (g : Nat) (v : Value) (l : List ByteArray) (w : World) (h : Rd w v l) (hl : l.length ≤ 1000000)
    (hp : ∀ x W, Drawn0 w W → Calls Try.prog 33 #[.string x, .pointer (some ⟨g, 0, none⟩)] W fun e w' => e = .returned (.bool (p x)) ∧ Drawn0 W w') :
    Calls Try.prog 39 #[v, .func (.func 33) #[] #[.pointer (some ⟨g, 0, none⟩)]] w fun e w' => ∃ r : Int, e = .returned (.int .i64 r) ∧ decide (0 ≤ r) = l.any p ∧ Drawn0 w w' := by
  obtain ⟨A, cp, rfl, hcp, hr⟩ := h
  have HR := Aside0.mk hr
  have HP := Aside0.mk hp
  obtain ⟨n, hn⟩ : ∃ n, n = l.length := ⟨_, rfl⟩
  rw [← hn] at HR ⊢
  have Hn := Aside0.mk hn
  have hn9 : (n : Int) ≤ 1000000 := by omega
  clear hn hr hcp hl hp
  go_enter Try.func39, Try.ntmps39
  go_wp2_with fail
  go_loopw [8] (fun v8 wr => ∃ k : Nat, k ≤ n ∧ v8 = .int .i64 k ∧ (l.drop k).any p = l.any p ∧ Drawn0 w wr) (fun v8 _ => n - (intOf v8).toNat)
  case atStart => exact ⟨0, Nat.zero_le _, rfl, rfl, Drawn0.refl _⟩
  case round =>
    obtain ⟨k, hkn, rfl, ha, hbr⟩ := hrel
    by_cases hlt : k < n
    · have e1 : decide ((k : Int) < (n : Int)) = true := decide_eq_true (by omega)
      have e2 : decide (k < n) = true := decide_eq_true hlt
      have hkl : k < l.length := by rw [← Hn.out]; exact hlt
      have hrl := HR.out.below hbr.below
      obtain ⟨adl, rfl, hcl2⟩ := hrl.2.2 (by omega)
      have xl := hcl2 k hlt
      obtain ⟨x, hx⟩ : ∃ x, x = l.getD k ByteArray.empty := ⟨_, rfl⟩
      rw [← hx] at xl
      have hdr : l.drop k = x :: l.drop (k + 1) := by
        rw [List.drop_eq_getElem_cons hkl, hx, List.getD_eq_getElem?_getD, List.getElem?_eq_getElem hkl]
        rfl
      rw [hdr, List.any_cons] at ha
      have hct := HP.out x wr hbr
      obtain ⟨q, hq⟩ : ∃ q, q = p x := ⟨_, rfl⟩
      rw [← hq] at hct ha
      have i0 : (0 : Int) ≤ (k : Int) := Int.natCast_nonneg _
      have i1 : (k : Int) < (n : Int) := by omega
      have i2 := eq_true i1
      have hk9 : (k : Int) ≤ 1000000 := by omega
      have HBR := Aside0.mk hbr
      have Hlt := Aside0.mk hlt
      have HCT := Aside0.mk hct
      cases q with
      | true =>
        have HA := Aside0.mk (show true = l.any p from ha)
        clear hbr hlt hrl hcl2 hkl hx hdr hct hq ha hkn
        go_wp2_with (first | (go_at_call 33; (with_reducible refine Calls.mono HCT.out ?_); rintro e w1 ⟨rfl, hd⟩; have HD := Aside0.mk (dr_trans HBR.out hd); clear hd))
        go_ret
        exact ⟨(k : Int), rfl, by rw [← HA.out]; exact decide_eq_true (Int.natCast_nonneg _), HD.out⟩
      | false =>
        have HA := Aside0.mk (show (l.drop (k + 1)).any p = l.any p from ha)
        clear hbr hlt hrl hcl2 hkl hx hdr hct hq ha hkn
        go_wp2_with (first | (go_at_call 33; (with_reducible refine Calls.mono HCT.out ?_); rintro e w1 ⟨rfl, hd⟩; have HD := Aside0.mk (dr_trans HBR.out hd); clear hd))
        go_roundw
        case rel => exact ⟨k + 1, by have := Hlt.out; omega, by simp, HA.out, HD.out⟩
        case measure => have := Hlt.out; simp [intOf]; omega
    · have e1 : decide ((k : Int) < (n : Int)) = false := decide_eq_false (by omega)
      have e2 : decide (k < n) = false := decide_eq_false hlt
      have HA := Aside0.mk (show false = l.any p by rw [← ha, List.drop_eq_nil_of_le (by have := Hn.out; omega)]; rfl)
      have HBR := Aside0.mk hbr
      clear hlt hbr ha hkn
      go_wp2
      go_ret
      exact ⟨-1, rfl, by rw [← HA.out]; rfl, HBR.out⟩
set_option maxHeartbeats 1000000 in
set_option maxRecDepth 100000 in
theorem containsf_calls (p : ByteArray → Bool) (g : Nat) (v : Value) (l : List ByteArray) (w : World) (h : Rd w v l) (hl : l.length ≤ 1000000)
    (hp : ∀ x W, Drawn0 w W → Calls Try.prog 33 #[.string x, .pointer (some ⟨g, 0, none⟩)] W fun e w' => e = .returned (.bool (p x)) ∧ Drawn0 W w') :
    Calls Try.prog 34 #[v, .func (.func 33) #[] #[.pointer (some ⟨g, 0, none⟩)]] w fun e w' => e = .returned (.bool (l.any p)) ∧ Drawn0 w w' := by
  have HC := Aside0.mk (indexf_calls p g v l w h hl hp)
  obtain ⟨q, hq⟩ : ∃ q, q = l.any p := ⟨_, rfl⟩
  rw [← hq] at HC ⊢
  clear h hl hp hq
  go_enter Try.func34, Try.ntmps34
  go_wp2_with (first | (go_at_call 39; (with_reducible refine Calls.mono HC.out ?_); rintro e w1 ⟨r, rfl, hr, hd⟩; have HD := Aside0.mk hd; have HR := Aside0.mk hr; clear hd hr))
  go_ret
  exact ⟨by rw [← HR.out]; first | rfl | (simp; done), HD.out⟩
set_option maxHeartbeats 2000000 in
set_option maxRecDepth 100000 in
theorem mark_calls (o b d : Bool) (qA : Option Addr) (qn qc : Nat) (sz : Int) (wA : Option Addr) (wc : Nat) (wl : List ByteArray) (v : Value) (ks : List ByteArray) (w : World) (hW : Rd w (.slice wA wl.length wc) wl) (hv : Rd w v ks) (hl : wl.length ≤ 1000000000) (hk : ks.length ≤ 1000000) :
    Calls Try.prog 12 #[.agg #[.bool o, .bool b, .bool d, .slice qA qn qc, .int .i64 sz, .slice wA wl.length wc], v] w fun e w' => e = .returned (.agg #[.bool o, .bool b, .bool (d || meetB wl ks), .slice qA qn qc, .int .i64 sz, .slice wA wl.length wc]) ∧ Below w.heap.size w w' := by
  have hu := Try.underlying27
  have BB := Aside0.mk (Below.refl w.heap.size w)
  have HCL := Aside0.mk (show ∀ (g : Nat) (W : World), Below w.heap.size w W → W.heap[g]? = some (.cells #[.bool o, .bool b, .bool d, .slice qA qn qc, .int .i64 sz, .slice wA wl.length wc] 27 (0, 0)) → Calls Try.prog 34 #[v, .func (.func 33) #[] #[.pointer (some ⟨g, 0, none⟩)]] W (fun e w' => e = .returned (.bool (meetB wl ks)) ∧ Drawn0 W w') from
    fun g W hb hg => containsf_calls (hasB wl) g v ks W (hv.below hb) hk fun x W1 hd => mark_clo g _ _ _ _ _ wA wc wl x W1 (old_blk hg hd.below) (hW.below (hb.trans (hd.below.mono hb.size))) hl)
  obtain ⟨wn, hwn⟩ : ∃ wn, wn = wl.length := ⟨_, rfl⟩
  rw [← hwn] at HCL ⊢
  obtain ⟨q, hq⟩ : ∃ q, q = meetB wl ks := ⟨_, rfl⟩
  rw [← hq] at HCL ⊢
  have hmf : ∀ (fn : Fn) (first cap : Array Value) (w : World), (Instr.makeFunc fn first cap).run Try.prog w = .ok (.func fn first cap) w := fun _ _ _ _ => rfl
  clear hW hv hl hk hwn hq
  cases d with
  | true =>
    go_enter Try.func12, Try.ntmps12
    go_wp2_with (first | ((with_reducible refine gate_dst (N := 2) rfl ?_); refine box_event ?hg (N := 2) ?hd (cs := #[.bool o, .bool b, .bool true, .slice qA qn qc, .int .i64 sz, .slice wA wn wc]) (t := 27) ?hr ?_; (case hd => rfl); (case hg => rfl); (case hr => first | (go_simp; done) | (go_simp; rfl)); intro g1 hg w1 hbox hb; have GE1 := Aside0.mk (show w.heap.size ≤ g1 from by rw [hg]; exact BB.out.size); have T_ := Aside0.mk (BB.out.trans (hb.mono BB.out.size)); clear BB; have BB := T_; clear T_; have BK1 := Aside0.mk hbox; clear hbox hb hg) | ((with_reducible refine gate_dst (N := 4) rfl ?_); refine box_event ?hg (N := 4) ?hd (cs := #[.bool false, .bool false, .bool false, .slice none 0 0, .int .i64 0, .slice none 0 0]) (t := 27) ?hr ?_; (case hd => rfl); (case hg => rfl); (case hr => first | (go_simp; done) | (go_simp; rfl)); intro g2 hg w2 hbox hb; have NE1_2 := Aside0.mk (show g1 ≠ g2 from by rw [hg]; exact Nat.ne_of_lt (blk_lt BK1.out)); have T_ := Aside0.mk (old_blk BK1.out hb); clear BK1; have BK1 := T_; clear T_; have GE2 := Aside0.mk (show w.heap.size ≤ g2 from by rw [hg]; exact BB.out.size); have T_ := Aside0.mk (BB.out.trans (hb.mono BB.out.size)); clear BB; have BB := T_; clear T_; have BK2 := Aside0.mk hbox; clear hbox hb hg; obtain ⟨p1_0, p1_1, p1_2, p1_3, p1_4, p1_5, f1_0, f1_1, f1_2, f1_3, f1_4, f1_5⟩ := cells6 BK1.out; obtain ⟨p2_0, p2_1, p2_2, p2_3, p2_4, p2_5, f2_0, f2_1, f2_2, f2_3, f2_4, f2_5⟩ := cells6 BK2.out; have ne1_2 := NE1_2.out; have ne2_1 := Ne.symm NE1_2.out))
    refine bodyPost_ret (results_cell_row rfl _ _ g2 27 #[.bool o, .bool b, .bool true, .slice qA qn qc, .int .i64 sz, .slice wA wn wc] (0, 0) _ rfl (by refine put6 ?_ _ _ _ _ _ _; (repeat (with_reducible refine blk_far ?_ NE1_2.out.symm _)); exact BK2.out) Try.underlying27 rfl (by kernel_rfl)) rfl ?_
    exact ⟨by first | rfl | (simp; done) | (simp; rfl), by repeat (with_reducible first | exact BB.out | refine below_set ?_ GE1.out | refine below_set ?_ GE2.out)⟩
  | false =>
    go_enter Try.func12, Try.ntmps12
    go_wp2_with (first | ((with_reducible refine gate_dst (N := 2) rfl ?_); refine box_event ?hg (N := 2) ?hd (cs := #[.bool o, .bool b, .bool false, .slice qA qn qc, .int .i64 sz, .slice wA wn wc]) (t := 27) ?hr ?_; (case hd => rfl); (case hg => rfl); (case hr => first | (go_simp; done) | (go_simp; rfl)); intro g1 hg w1 hbox hb; have GE1 := Aside0.mk (show w.heap.size ≤ g1 from by rw [hg]; exact BB.out.size); have T_ := Aside0.mk (BB.out.trans (hb.mono BB.out.size)); clear BB; have BB := T_; clear T_; have BK1 := Aside0.mk hbox; clear hbox hb hg) | ((with_reducible refine gate_dst (N := 4) rfl ?_); refine box_event ?hg (N := 4) ?hd (cs := #[.bool false, .bool false, .bool false, .slice none 0 0, .int .i64 0, .slice none 0 0]) (t := 27) ?hr ?_; (case hd => rfl); (case hg => rfl); (case hr => first | (go_simp; done) | (go_simp; rfl)); intro g2 hg w2 hbox hb; have NE1_2 := Aside0.mk (show g1 ≠ g2 from by rw [hg]; exact Nat.ne_of_lt (blk_lt BK1.out)); have T_ := Aside0.mk (old_blk BK1.out hb); clear BK1; have BK1 := T_; clear T_; have GE2 := Aside0.mk (show w.heap.size ≤ g2 from by rw [hg]; exact BB.out.size); have T_ := Aside0.mk (BB.out.trans (hb.mono BB.out.size)); clear BB; have BB := T_; clear T_; have BK2 := Aside0.mk hbox; clear hbox hb hg; obtain ⟨p1_0, p1_1, p1_2, p1_3, p1_4, p1_5, f1_0, f1_1, f1_2, f1_3, f1_4, f1_5⟩ := cells6 BK1.out; obtain ⟨p2_0, p2_1, p2_2, p2_3, p2_4, p2_5, f2_0, f2_1, f2_2, f2_3, f2_4, f2_5⟩ := cells6 BK2.out; have ne1_2 := NE1_2.out; have ne2_1 := Ne.symm NE1_2.out) | (go_at_call 34; (with_reducible refine Calls.mono (HCL.out _ _ BB.out BK1.out) ?_); rintro e w5 ⟨rfl, hd⟩; have hb := hd.below; have T_ := Aside0.mk (old_blk (BK1.out) hb); clear BK1; have BK1 := T_; clear T_; have T_ := Aside0.mk (old_blk (BK2.out) hb); clear BK2; have BK2 := T_; clear T_; have T_ := Aside0.mk (BB.out.trans ((show Below _ _ _ from hb).mono BB.out.size)); clear BB; have BB := T_; clear T_; clear hb hd; obtain ⟨p1_0, p1_1, p1_2, p1_3, p1_4, p1_5, f1_0, f1_1, f1_2, f1_3, f1_4, f1_5⟩ := cells6 BK1.out; obtain ⟨p2_0, p2_1, p2_2, p2_3, p2_4, p2_5, f2_0, f2_1, f2_2, f2_3, f2_4, f2_5⟩ := cells6 BK2.out))
    refine bodyPost_ret (results_cell_row rfl _ _ g2 27 #[.bool o, .bool b, .bool q, .slice qA qn qc, .int .i64 sz, .slice wA wn wc] (0, 0) _ rfl (by refine put6 ?_ _ _ _ _ _ _; (repeat (with_reducible refine blk_far ?_ NE1_2.out.symm _)); exact BK2.out) Try.underlying27 rfl (by kernel_rfl)) rfl ?_
    exact ⟨by first | rfl | (simp; done) | (simp; rfl), by repeat (with_reducible first | exact BB.out | refine below_set ?_ GE1.out | refine below_set ?_ GE2.out)⟩
end Go.Proofs.Ytkamejnccmapkaa.Mu
